/- What the functions that FnExactAdd reaches compute, one contract each; each with the bounds that it states. -/
import Derived.Test.YtdfcphdolipapaaGreatHearth4
import Derived.Test.YtdfcphdolipapaaGreatProg
import Derived.KernelRfl
set_option maxRecDepth 100000
set_option maxHeartbeats 8000000
set_option linter.unusedVariables false
set_option linter.unusedSimpArgs false
namespace Go.Proofs.YtdfcphdolipapaaGreat.FnExactAddFn
open Go Hearth Go.Proofs

def c_laws_szByteS : C := (.g (.o 0 4 (.mov (.i 0)) .done) (.g (.o 0 5 (.mov (.t 1)) (.o 1 6 (.mov (.t 0)) (.o 2 7 (.len (.t 6)) (.o 3 8 (.bin .sub (.t 5) (.t 7)) (.o 4 1 (.mov (.t 8)) .done))))) (.seq (.g (.o 0 9 (.mov (.t 1)) (.o 1 10 (.bin .lss (.t 9) (.i 0)) .done)) (.cond (.t 10) (.g (.o 0 4 (.mov (.i (-1))) .done) .ret) .skip)) (.g (.o 0 11 (.mov (.t 1)) (.o 1 4 (.mov (.t 11)) .done)) .ret))))
theorem dg_laws_szByteS : Tryz.f53.body.bind (digC Tryz.prog Tryz.f53.ntmps []) = some c_laws_szByteS := by kernel_rfl
theorem rs_laws_szByteS : resSlots Tryz.prog Tryz.f53 = some [.s 4] := by kernel_rfl
theorem ok_laws_szByteS (b : List UInt8) (n : Int) (hb : (b.length : Int) ≤ 9223372036854775807) (h0 : 0 ≤ n) (h1 : n ≤ 4194304) :
    FnOK Tryz.prog 53 [.one (.d (encB b)), .one (.d (.sc (.int .i64 n)))] (fun ra _ => ra = [.one (.d (.sc (.int .i64 (szOut n b.length))))]) := by
  refine FnOK.ofK Tryz.func53 (by kernel_rfl) dg_laws_szByteS rs_laws_szByteS rfl rfl ?_
  delta c_laws_szByteS T.o X.i C.g
  refine Kbc (Ka Y (Kd ?_))
  refine Kbc ?_
  refine Ka Y (Ka Y (kLen Y Y Y ?_))
  refine kDif Y Y ?_ ?_
  · simp [encB, DV.len] at *; omega
  refine Ka Y (Kd ?_)
  refine Kb (Kbc (Ka Y (Kj Y Y Y (Kd ?_))))
  refine kCond Y (fun h => ?_) (fun h => ?_)
  · refine Kbc (Ka Y (Kd (Kr ⟨nofun, ?_⟩)))
    refine ⟨[.one (.d _)], _, ?_, rfl, ⟨⟨⟨rfl, .inl rfl⟩, trivial⟩, .nil, trivial, trivial, trivial⟩⟩
    unfold szOut
    simp [encB, DV.len] at h ⊢
    omega
  · refine Kn (Kbc (Ka Y (Ka Y (Kd (Kr ⟨nofun, ?_⟩)))))
    refine ⟨[.one (.d _)], _, ?_, rfl, ⟨⟨⟨rfl, .inl rfl⟩, trivial⟩, .nil, trivial, trivial, trivial⟩⟩
    unfold szOut
    simp [encB, DV.len] at h ⊢
    omega

def c_laws_szByteSS : C := (.g (.o 0 4 (.mov (.i 0)) .done) (.g (.o 0 6 (.mov (.t 1)) (.o 1 7 (.mov (.t 0)) (.o 2 8 (.len (.t 7)) (.o 3 9 (.bin .sub (.t 6) (.t 8)) (.o 4 1 (.mov (.t 9)) .done))))) (.seq (.g (.o 0 10 (.mov (.t 1)) (.o 1 11 (.bin .lss (.t 10) (.i 0)) .done)) (.cond (.t 11) (.g (.o 0 4 (.mov (.i (-1))) .done) .ret) .skip)) (.seq (.g (.o 0 5 (.mov (.i 0)) .done) (.block 0 (.loop (.seq (.g (.o 0 12 (.mov (.t 5)) (.o 1 13 (.mov (.t 0)) (.o 2 14 (.len (.t 13)) (.o 3 15 (.bin .lss (.t 12) (.t 14)) .done)))) (.cond (.t 15) .skip (.exit 0))) (.seq (.block 1 (.g (.o 0 18 (.mov (.t 0)) (.o 1 19 (.mov (.t 5)) (.o 2 20 (.iad 1 (.t 18) (.t 19)) (.o 3 21 (.load none (.t 20)) (.o 4 22 (.mov (.t 1)) (.o 5 23 (.call 23 53 [(.t 21), (.t 22)]) (.o 6 1 (.mov (.t 23)) .done))))))) (.g (.o 0 24 (.mov (.t 1)) (.o 1 25 (.bin .lss (.t 24) (.i 0)) .done)) (.cond (.t 25) (.g (.o 0 4 (.mov (.i (-1))) .done) .ret) .skip)))) (.reg false (.o 0 16 (.mov (.t 5)) (.o 1 17 (.bin .add (.t 16) (.i 1)) (.o 2 5 (.mov (.t 17)) .done))))))))) (.g (.o 0 26 (.mov (.t 1)) (.o 1 4 (.mov (.t 26)) .done)) .ret)))))
theorem dg_laws_szByteSS : Tryz.f139.body.bind (digC Tryz.prog Tryz.f139.ntmps []) = some c_laws_szByteSS := by kernel_rfl
theorem rs_laws_szByteSS : resSlots Tryz.prog Tryz.f139 = some [.s 4] := by kernel_rfl
theorem ok_laws_szByteSS (a : List (List UInt8)) (n : Int) (ha : (a.length : Int) ≤ 9223372036854775807) (hb : ∀ b ∈ a, (b.length : Int) ≤ 9223372036854775807) (h0 : 0 ≤ n) (h1 : n ≤ 4194304) :
    FnOK Tryz.prog 139 [.one (.d (encBB a)), .one (.d (.sc (.int .i64 n)))] (fun ra _ => ra = [.one (.d (.sc (.int .i64 (szOut n (a.length + a.flatten.length)))))]) := by
  refine FnOK.ofK Tryz.func139 (by kernel_rfl) dg_laws_szByteSS rs_laws_szByteSS rfl rfl ?_
  delta c_laws_szByteSS T.o X.i C.g
  refine Kbc (Ka Y (Kd ?_))
  refine Kbc (Ka Y (Ka Y (kLen Y Y Y ?_)))
  rw [len_encBB]
  refine kDif Y Y om (Ka Y (Kd ?_))
  refine Kb (Kbc (Ka Y (Kj Y Y Y (Kd ?_))))
  refine kCond Y (fun h => ?_) (fun h => ?_)
  · refine Kbc (Ka Y (Kd (Kr ?_)))
    refine endRet (ra := [.one (.d _)]) rfl ⟨⟨⟨rfl, .inl rfl⟩, trivial⟩, .nil, trivial, trivial, trivial⟩ ?_
    simp only [decide_eq_true_eq] at h
    rw [szOut, if_pos (by omega)]
  have hn : 0 ≤ n - a.length := by simp only [decide_eq_false_iff_not] at h; omega
  refine Kn (Kb (Kbc (Ka Y (Kd (Kt ?_)))))
  refine kLoop (α := { i : Nat // i ≤ a.length ∧ 0 ≤ n - a.length - (a.take i).flatten.length })
    (fun y => ⟨tabSl [(0, .dv (encBB a)), (1, .i (n - a.length - (a.take y.1).flatten.length)), (5, .i y.1)], (St.init [.one (.d (encBB a)), .one (.d (.sc (.int .i64 n)))]).ob, []⟩) (fun y => a.length - y.1) ⟨0, by simpa using hn⟩
    (.tab rfl ⟨.refl _, by simpa using .refl _, .refl _, trivial⟩) ?_
  rintro ⟨i, hi, hs⟩
  simp only
  refine Kb (Kbc ?_)
  refine Ka Y (Ka Y (kLen Y Y Y (Kj Y Y Y (Kd ?_))))
  rw [len_encBB]
  refine kCond Y (fun h1 => ?_) (fun h1 => ?_)
  · have hlt : i < a.length := by simp at h1; omega
    have hfl := take_flat a i hlt
    have hle := flat_le a (i + 1)
    have hbi := hb _ (List.getElem_mem hlt)
    refine Kn (Kb (Kt (Kbc (Ka Y (Ka Y (kIadD Y Y Y Y ?_ ?_))))))
    · rw [len_encBB]; omega
    rw [show (encBB a).row (i : Int).toNat = [encB a[i]] from row_encBB a i hlt]
    refine Ky Y Y (Ka Y ?_)
    refine Ku true (ok_laws_szByteS a[i] (n - a.length - (a.take i).flatten.length) hbi hs om) ⟨Y, Y, trivial⟩ rfl rfl rfl fun os => ?_
    refine Ka Y (Kdb (Kc (Ka Y (Kj Y Y Y (Kd ?_)))))
    refine kCond Y (fun h2 => ?_) (fun h2 => ?_)
    · refine Kbc (Ka Y (Kd (Kr ?_)))
      refine endRet (ra := [.one (.d _)]) rfl ⟨⟨⟨rfl, .inl rfl⟩, trivial⟩, .nil, trivial, trivial, trivial⟩ ?_
      replace h2 := of_decide_eq_true h2
      unfold szOut at h2
      rw [szOut, if_pos (by split at h2 <;> omega)]
    · replace h2 := of_decide_eq_false h2
      unfold szOut at h2
      have hs' : 0 ≤ n - a.length - (a.take (i + 1)).flatten.length := by split at h2 <;> omega
      refine Kn (Kv (Kc (Ka Y (kAdd Y Y om (Ka Y (Kd (kInv ?_)))))))
      refine ⟨⟨i + 1, hlt, hs'⟩, by simp only; omega, .tab rfl ⟨.refl _, ?_, .refl _, trivial⟩⟩
      show WkV (.i (szOut _ _)) (.i (n - a.length - ((a.take (i + 1)).flatten.length : Int)))
      rw [szOut, if_neg (by omega), show n - (a.length : Int) - ((a.take (i + 1)).flatten.length : Int) = n - a.length - (a.take i).flatten.length - a[i].length by omega]
      exact .refl _
  · refine kExit (kExC (kExI (kExB ?_)))
    have hge : i = a.length := by simp at h1; omega
    subst hge
    rw [List.take_length] at hs
    refine Kbc (Ka Y (Ka Y (Kd (Kr ?_))))
    refine endRet (ra := [.one (.d _)]) rfl ⟨⟨⟨rfl, .inl rfl⟩, trivial⟩, .nil, trivial, trivial, trivial⟩ ?_
    rw [szOut, if_neg (by omega), List.take_length, show n - (a.length : Int) - (a.flatten.length : Int) = n - ((a.length + a.flatten.length : Nat) : Int) by omega]

def c_laws_szName : C := (.g (.o 0 2 (.box 2 (.t 0)) (.o 1 4 (.mov (.i 0)) .done)) (.g (.o 0 5 (.fad (.t 2) 0) (.o 1 6 (.load none (.t 5)) (.o 2 7 (.mov (.t 1)) (.o 3 8 (.call 8 139 [(.t 6), (.t 7)]) (.o 4 1 (.mov (.t 8)) .done))))) (.seq (.g (.o 0 9 (.mov (.t 1)) (.o 1 10 (.bin .lss (.t 9) (.i 0)) .done)) (.cond (.t 10) (.g (.o 0 4 (.mov (.i (-1))) .done) .ret) .skip)) (.g (.o 0 11 (.mov (.t 1)) (.o 1 4 (.mov (.t 11)) .done)) .ret))))
theorem dg_laws_szName : Tryz.f51.body.bind (digC Tryz.prog Tryz.f51.ntmps []) = some c_laws_szName := by kernel_rfl
theorem rs_laws_szName : resSlots Tryz.prog Tryz.f51 = some [.s 4] := by kernel_rfl
theorem ok_laws_szName (a : List (List UInt8)) (n : Int) (ha : (a.length : Int) ≤ 9223372036854775807) (hb : ∀ b ∈ a, (b.length : Int) ≤ 9223372036854775807) (h0 : 0 ≤ n) (h1 : n ≤ 4194304) :
    FnOK Tryz.prog 51 [.agg [.d (encBB a)], .one (.d (.sc (.int .i64 n)))] (fun ra _ => ra = [.one (.d (.sc (.int .i64 (szOut n (a.length + a.flatten.length)))))]) := by
  refine FnOK.ofK Tryz.func51 (by kernel_rfl) dg_laws_szName rs_laws_szName rfl rfl ?_
  delta c_laws_szName T.o X.i C.g
  refine Kbc (kBox Y Y Y Y Y (Ka Y (Kd ?_)))
  refine Kbc (Kf Y Y (Ke Y Y Y (Ka Y ?_)))
  refine Ku true (ok_laws_szByteSS a n ha hb h0 h1) ⟨Y, Y, trivial⟩ rfl rfl rfl fun os => ?_
  refine Ka Y (Kdb (Kbc (Ka Y (Kj Y Y Y (Kd ?_)))))
  refine kCond Y (fun h => ?_) (fun h => ?_)
  · refine Kbc (Ka Y (Kd (Kr ?_)))
    refine endRet (ra := [.one (.d _)]) rfl ⟨⟨⟨rfl, .inl rfl⟩, trivial⟩, .nil, ⟨trivial, trivial⟩, trivial, trivial⟩ ?_
    replace h := of_decide_eq_true h
    unfold szOut at h
    rw [szOut, if_pos (by split at h <;> omega)]
  · refine Kn (Kbc (Ka Y (Ka Y (Kd (Kr ?_)))))
    exact endRet (ra := [.one (.d _)]) rfl ⟨⟨⟨rfl, .inl rfl⟩, trivial⟩, .nil, ⟨trivial, trivial⟩, trivial, trivial⟩ rfl

def c_laws_szIntS : C := (.g (.o 0 4 (.mov (.i 0)) .done) (.g (.o 0 5 (.mov (.t 1)) (.o 1 6 (.mov (.t 0)) (.o 2 7 (.len (.t 6)) (.o 3 8 (.bin .sub (.t 5) (.t 7)) (.o 4 1 (.mov (.t 8)) .done))))) (.seq (.g (.o 0 9 (.mov (.t 1)) (.o 1 10 (.bin .lss (.t 9) (.i 0)) .done)) (.cond (.t 10) (.g (.o 0 4 (.mov (.i (-1))) .done) .ret) .skip)) (.g (.o 0 11 (.mov (.t 1)) (.o 1 4 (.mov (.t 11)) .done)) .ret))))
theorem dg_laws_szIntS : Tryz.f54.body.bind (digC Tryz.prog Tryz.f54.ntmps []) = some c_laws_szIntS := by kernel_rfl
theorem rs_laws_szIntS : resSlots Tryz.prog Tryz.f54 = some [.s 4] := by kernel_rfl
theorem ok_laws_szIntS (l : List Int) (n : Int) (hb : (l.length : Int) ≤ 9223372036854775807) (h0 : 0 ≤ n) (h1 : n ≤ 4194304) :
    FnOK Tryz.prog 54 [.one (.d (Hearth.encI l)), .one (.d (.sc (.int .i64 n)))] (fun ra _ => ra = [.one (.d (.sc (.int .i64 (szOut n l.length))))]) := by
  refine FnOK.ofK Tryz.func54 (by kernel_rfl) dg_laws_szIntS rs_laws_szIntS rfl rfl ?_
  delta c_laws_szIntS T.o X.i C.g
  refine Kbc (Ka Y (Kdb (Kc (Ka Y (Ka Y (Kq Y Y (kDif Y Y om (Ka Y (Kdb (Kbc (Ka Y (Kj Y Y Y (Kd (Km Y (fun g0 => Kbc (Ka Y (Kd (Kr (Er (ra := [.one (.d _)]) rfl ?_))))) (fun g0 => Kn (Kbc (Ka Y (Ka Y (Kd (Kr (Er (ra := [.one (.d _)]) rfl ?_)))))))))))))))))))))
  · rw [szOut, if_pos (by omega)]
  · rw [szOut, if_neg (by omega)]

def c_laws_szRr : C := (.g (.o 0 2 (.box 2 (.t 0)) (.o 1 4 (.mov (.i 0)) .done)) (.g (.o 0 5 (.fad (.t 2) 0) (.o 1 6 (.load (some 1) (.t 5)) (.o 2 7 (.mov (.t 1)) (.o 3 8 (.call 8 51 [(.t 6), (.t 7)]) (.o 4 1 (.mov (.t 8)) .done))))) (.seq (.g (.o 0 9 (.mov (.t 1)) (.o 1 10 (.bin .lss (.t 9) (.i 0)) .done)) (.cond (.t 10) (.g (.o 0 4 (.mov (.i (-1))) .done) .ret) .skip)) (.g (.o 0 11 (.fad (.t 2) 4) (.o 1 12 (.load (some 1) (.t 11)) (.o 2 13 (.mov (.t 1)) (.o 3 14 (.call 14 51 [(.t 12), (.t 13)]) (.o 4 1 (.mov (.t 14)) .done))))) (.seq (.g (.o 0 15 (.mov (.t 1)) (.o 1 16 (.bin .lss (.t 15) (.i 0)) .done)) (.cond (.t 16) (.g (.o 0 4 (.mov (.i (-1))) .done) .ret) .skip)) (.g (.o 0 17 (.fad (.t 2) 5) (.o 1 18 (.load none (.t 17)) (.o 2 19 (.mov (.t 1)) (.o 3 20 (.call 20 53 [(.t 18), (.t 19)]) (.o 4 1 (.mov (.t 20)) .done))))) (.seq (.g (.o 0 21 (.mov (.t 1)) (.o 1 22 (.bin .lss (.t 21) (.i 0)) .done)) (.cond (.t 22) (.g (.o 0 4 (.mov (.i (-1))) .done) .ret) .skip)) (.g (.o 0 23 (.fad (.t 2) 6) (.o 1 24 (.load none (.t 23)) (.o 2 25 (.mov (.t 1)) (.o 3 26 (.call 26 54 [(.t 24), (.t 25)]) (.o 4 1 (.mov (.t 26)) .done))))) (.seq (.g (.o 0 27 (.mov (.t 1)) (.o 1 28 (.bin .lss (.t 27) (.i 0)) .done)) (.cond (.t 28) (.g (.o 0 4 (.mov (.i (-1))) .done) .ret) .skip)) (.g (.o 0 29 (.mov (.t 1)) (.o 1 4 (.mov (.t 29)) .done)) .ret))))))))))
theorem dg_laws_szRr : Tryz.f10.body.bind (digC Tryz.prog Tryz.f10.ntmps []) = some c_laws_szRr := by kernel_rfl
theorem rs_laws_szRr : resSlots Tryz.prog Tryz.f10 = some [.s 4] := by kernel_rfl
theorem ok_laws_szRr (r : Rr) (n : Int) (hb : BigR r) (h0 : 0 ≤ n) (h1 : n ≤ 4194304) :
    FnOK Tryz.prog 10 [.agg (r.cells.map .d), .one (.d (.sc (.int .i64 n)))] (fun ra _ => ra = [.one (.d (.sc (.int .i64 (szOut n (costR r)))))]) := by
  refine FnOK.ofK Tryz.func10 (by kernel_rfl) dg_laws_szRr rs_laws_szRr rfl rfl ?_
  delta c_laws_szRr T.o X.i C.g
  have b1 := hb.n.len
  have b2 := hb.n.mem
  have b3 := hb.t.len
  have b4 := hb.t.mem
  have b5 := hb.x
  have b6 := hb.m
  refine Kbc (kBox Y Y Y Y Y (Ka Y (Kdb (Kc (Kf Y Y (Ke Y Y Y (Ka Y (Kp (ok_laws_szName _ _ pr pr pr pr) ⟨⟨⟨Y, trivial⟩, leb⟩, rfl, trivial⟩ Y Y Y Y Y (Ka Y (Kdb (Kbc (Ka Y (Kj Y Y Y (Kd (Km Y (fun g0 => Kbc (Ka Y (Kd (Kr (Er (ra := [.one (.d _)]) rfl ?_))))) (fun g0 => Kn (Kbc (Kf Y Y (Ke Y Y Y (Ka Y (Kp (ok_laws_szName _ _ pr pr pr pr) ⟨⟨⟨Y, trivial⟩, leb⟩, rfl, trivial⟩ Y Y Y Y Y (Ka Y (Kdb (Kbc (Ka Y (Kj Y Y Y (Kd (Km Y (fun g1 => Kbc (Ka Y (Kd (Kr (Er (ra := [.one (.d _)]) rfl ?_))))) (fun g1 => Kn (Kbc (Kf Y Y (Ke Y Y Y (Ka Y (Kp (ok_laws_szByteS _ _ pr pr pr) ⟨Y, Y, trivial⟩ Y Y Y Y Y (Ka Y (Kdb (Kbc (Ka Y (Kj Y Y Y (Kd (Km Y (fun g2 => Kbc (Ka Y (Kd (Kr (Er (ra := [.one (.d _)]) rfl ?_))))) (fun g2 => Kn (Kbc (Kf Y Y (Ke Y Y Y (Ka Y (Kp (ok_laws_szIntS _ _ pr pr pr) ⟨Y, Y, trivial⟩ Y Y Y Y Y (Ka Y (Kdb (Kbc (Ka Y (Kj Y Y Y (Kd (Km Y (fun g3 => Kbc (Ka Y (Kd (Kr (Er (ra := [.one (.d _)]) rfl ?_))))) (fun g3 => Kn (Kbc (Ka Y (Ka Y (Kd (Kr (Er (ra := [.one (.d _)]) rfl ?_)))))))))))))))))))))))))))))))))))))))))))))))))))))))))))))
  all_goals (refine congrArg (fun z : Int => [RA.one (RV.d (DV.sc (Value.int IntKind.i64 z)))]) ?_; simp only [costR, costBB, szOut] at *; omega)

def c_laws_szRrS : C := (.g (.o 0 4 (.mov (.i 0)) .done) (.g (.o 0 6 (.mov (.t 1)) (.o 1 7 (.mov (.t 0)) (.o 2 8 (.len (.t 7)) (.o 3 9 (.bin .sub (.t 6) (.t 8)) (.o 4 1 (.mov (.t 9)) .done))))) (.seq (.g (.o 0 10 (.mov (.t 1)) (.o 1 11 (.bin .lss (.t 10) (.i 0)) .done)) (.cond (.t 11) (.g (.o 0 4 (.mov (.i (-1))) .done) .ret) .skip)) (.seq (.g (.o 0 5 (.mov (.i 0)) .done) (.block 0 (.loop (.seq (.g (.o 0 12 (.mov (.t 5)) (.o 1 13 (.mov (.t 0)) (.o 2 14 (.len (.t 13)) (.o 3 15 (.bin .lss (.t 12) (.t 14)) .done)))) (.cond (.t 15) .skip (.exit 0))) (.seq (.block 1 (.g (.o 0 18 (.mov (.t 0)) (.o 1 19 (.mov (.t 5)) (.o 2 20 (.iad 7 (.t 18) (.t 19)) (.o 3 21 (.load (some 7) (.t 20)) (.o 4 22 (.mov (.t 1)) (.o 5 23 (.call 23 10 [(.t 21), (.t 22)]) (.o 6 1 (.mov (.t 23)) .done))))))) (.g (.o 0 24 (.mov (.t 1)) (.o 1 25 (.bin .lss (.t 24) (.i 0)) .done)) (.cond (.t 25) (.g (.o 0 4 (.mov (.i (-1))) .done) .ret) .skip)))) (.reg false (.o 0 16 (.mov (.t 5)) (.o 1 17 (.bin .add (.t 16) (.i 1)) (.o 2 5 (.mov (.t 17)) .done))))))))) (.g (.o 0 26 (.mov (.t 1)) (.o 1 4 (.mov (.t 26)) .done)) .ret)))))
theorem dg_laws_szRrS : Tryz.f52.body.bind (digC Tryz.prog Tryz.f52.ntmps []) = some c_laws_szRrS := by kernel_rfl
theorem rs_laws_szRrS : resSlots Tryz.prog Tryz.f52 = some [.s 4] := by kernel_rfl
theorem ok_laws_szRrS (a : List Rr) (n : Int) (hb : BigRs a) (h0 : 0 ≤ n) (h1 : n ≤ 4194304) :
    FnOK Tryz.prog 52 [.one (.d (encR a)), .one (.d (.sc (.int .i64 n)))] (fun ra _ => ra = [.one (.d (.sc (.int .i64 (szOut n (a.length + costRs a)))))]) := by
  refine FnOK.ofK Tryz.func52 (by kernel_rfl) dg_laws_szRrS rs_laws_szRrS rfl rfl ?_
  delta c_laws_szRrS T.o X.i C.g
  have ha := hb.len
  refine Kbc (Ka Y (Kdb (Kc (Ka Y (Ka Y (Kq Y Y (kDif Y Y om (Ka Y (Kdb (Kbc (Ka Y (Kj Y Y Y (Kd (Km Y (fun g0 => Kbc (Ka Y (Kd (Kr (Er (ra := [.one (.d _)]) rfl ?_))))) (fun g0 => Kn (Kb (Kbc (Ka Y (Kd (Kt ?_))))))))))))))))))))
  · rw [szOut, if_pos (by omega)]
  refine kLoop (α := { i : Nat // i ≤ a.length ∧ 0 ≤ n - a.length - costRs (a.take i) })
    (fun y => ⟨tabSl [(0, .dv (encR a)), (1, .i (n - a.length - costRs (a.take y.1))), (5, .i y.1)], obTab 1 [], []⟩) (fun y => a.length - y.1) ⟨0, by simp [costRs]; omega⟩
    .normA ?_
  rintro ⟨i, hi, hs⟩
  simp only
  rcases Nat.lt_or_ge i a.length with hlt | hge
  · have hbi := hb.mem _ (List.getElem_mem hlt)
    have e1 := costRs_take a i hlt
    have e2 := costRs_le a (i + 1)
    refine Kb (Kbc (Ka Y (Ka Y (Kq Y Y (Kj Y Y Y (Kd (Km Y (fun g0 => Kn (Kb (Kt (Kbc (Ka Y (Ka Y (kIadR Y Y Y om (Ky Y Y (Ka Y (Kp (ok_laws_szRr _ _ pr pr pr) ⟨⟨⟨Y, Y, Y, Y, Y, Y, Y, trivial⟩, leb⟩, rfl, trivial⟩ Y Y Y Y Y (Ka Y (Kdb (Kc (Ka Y (Kj Y Y Y (Kd (Km Y (fun g1 => Kbc (Ka Y (Kd (Kr (Er (ra := [.one (.d _)]) rfl ?_))))) (fun g1 => Kn (Kv (Kc (Ka Y (kAdd Y Y om (Ka Y (Kd ?_)))))))))))))))))))))))) (fun g0 => om))))))))
    · rw [szOut_lt_iff] at g1
      rw [szOut_one (by omega)]
    · rw [szOut_lt_iff] at g1
      refine kInv ⟨⟨i + 1, by omega, by omega⟩, by simp only; omega, .norm ?_ ?_⟩
      · refine ⟨⟨_, rfl, .inl rfl⟩, ⟨_, rfl, .inl (congrArg (fun z : Int => AC.d (.sc (.int .i64 z))) ?_)⟩, ⟨_, rfl, .inl rfl⟩, trivial⟩
        rw [szOut_pos (by omega)]; simp only; omega
      · exact trivial
  · refine Kb (Kbc (Ka Y (Ka Y (Kq Y Y (Kj Y Y Y (Kd (Km Y (fun g0 => om) (fun g0 => kExit (kExC (kExI (kExB (Kbc (Ka Y (Ka Y (Kd (Kr (Er (ra := [.one (.d _)]) rfl ?_)))))))))))))))))
    have e : i = a.length := by omega
    subst e
    rw [List.take_length] at *
    refine congrArg (fun z : Int => [RA.one (RV.d (DV.sc (Value.int IntKind.i64 z)))]) ?_
    rw [szOut_pos (by omega)]; omega

def c_laws_szZone : C := (.g (.o 0 2 (.box 2 (.t 0)) (.o 1 4 (.mov (.i 0)) .done)) (.g (.o 0 5 (.fad (.t 2) 0) (.o 1 6 (.load (some 1) (.t 5)) (.o 2 7 (.mov (.t 1)) (.o 3 8 (.call 8 51 [(.t 6), (.t 7)]) (.o 4 1 (.mov (.t 8)) .done))))) (.seq (.g (.o 0 9 (.mov (.t 1)) (.o 1 10 (.bin .lss (.t 9) (.i 0)) .done)) (.cond (.t 10) (.g (.o 0 4 (.mov (.i (-1))) .done) .ret) .skip)) (.g (.o 0 11 (.fad (.t 2) 1) (.o 1 12 (.load none (.t 11)) (.o 2 13 (.mov (.t 1)) (.o 3 14 (.call 14 52 [(.t 12), (.t 13)]) (.o 4 1 (.mov (.t 14)) .done))))) (.seq (.g (.o 0 15 (.mov (.t 1)) (.o 1 16 (.bin .lss (.t 15) (.i 0)) .done)) (.cond (.t 16) (.g (.o 0 4 (.mov (.i (-1))) .done) .ret) .skip)) (.g (.o 0 17 (.mov (.t 1)) (.o 1 4 (.mov (.t 17)) .done)) .ret))))))
theorem dg_laws_szZone : Tryz.f9.body.bind (digC Tryz.prog Tryz.f9.ntmps []) = some c_laws_szZone := by kernel_rfl
theorem rs_laws_szZone : resSlots Tryz.prog Tryz.f9 = some [.s 4] := by kernel_rfl
theorem ok_laws_szZone (z : Zone) (n : Int) (hb : BigZ z) (h0 : 0 ≤ n) (h1 : n ≤ 4194304) :
    FnOK Tryz.prog 9 [.agg (z.cells.map .d), .one (.d (.sc (.int .i64 n)))] (fun ra _ => ra = [.one (.d (.sc (.int .i64 (szOut n (costZ z)))))]) := by
  refine FnOK.ofK Tryz.func9 (by kernel_rfl) dg_laws_szZone rs_laws_szZone rfl rfl ?_
  delta c_laws_szZone T.o X.i C.g
  have b1 := hb.o.len
  have b2 := hb.o.mem
  have b3 := hb.r
  refine Kbc (kBox Y Y Y Y Y (Ka Y (Kdb (Kc (Kf Y Y (Ke Y Y Y (Ka Y (Kp (ok_laws_szName _ _ pr pr pr pr) ⟨⟨⟨Y, trivial⟩, leb⟩, rfl, trivial⟩ Y Y Y Y Y (Ka Y (Kdb (Kbc (Ka Y (Kj Y Y Y (Kd (Km Y (fun g0 => Kbc (Ka Y (Kd (Kr (Er (ra := [.one (.d _)]) rfl ?_))))) (fun g0 => Kn (Kbc (Kf Y Y (kMem [(12288, ⟨1, 0, .box [.d _, .d _]⟩)] [(11, .c (.ptr 12288 1 1)), (1, .c (.d _)), (12, .c (.un)), (13, .c (.un)), (14, .c (.un))] [] ⟨Y, trivial⟩ ⟨Y, Y, Y, Y, Y, trivial⟩ Y (Ke Y Y Y (Ka Y (Kp (ok_laws_szRrS _ _ pr pr pr) ⟨Y, Y, trivial⟩ Y Y Y Y Y (Ka Y (Kdb (Kbc (Ka Y (Kj Y Y Y (Kd (Km Y (fun g1 => Kbc (Ka Y (Kd (Kr (Er (ra := [.one (.d _)]) rfl ?_))))) (fun g1 => Kn (Kbc (Ka Y (Ka Y (Kd (Kr (Er (ra := [.one (.d _)]) rfl ?_))))))))))))))))))))))))))))))))))))
  all_goals (refine congrArg (fun z : Int => [RA.one (RV.d (DV.sc (Value.int IntKind.i64 z)))]) ?_; clear b1 b2 b3 hb; simp only [costZ, costBB, szOut] at *; omega)

def c_spec_LabelOk : C := (.g (.o 0 2 (.mov (.v (.bool false))) .done) (.seq (.g (.o 0 4 (.mov (.t 0)) (.o 1 5 (.len (.t 4)) (.o 2 6 (.bin .lss (.t 5) (.i 1)) (.o 3 7 (.mov (.t 6)) (.op 4 [] (some 8) (some (7, false)) false (.mov (.t 0)) (.op 5 [] (some 9) (some (7, false)) false (.len (.t 8)) (.op 6 [] (some 10) (some (7, false)) false (.bin .gtr (.t 9) (.i 15)) (.o 7 11 (.pick (.t 7) (.v (.bool true)) (.t 10)) .done)))))))) (.cond (.t 11) (.g (.o 0 2 (.mov (.v (.bool false))) .done) .ret) .skip)) (.seq (.g (.o 0 3 (.mov (.i 0)) .done) (.block 0 (.loop (.seq (.g (.o 0 12 (.mov (.t 3)) (.o 1 13 (.mov (.t 0)) (.o 2 14 (.len (.t 13)) (.o 3 15 (.bin .lss (.t 12) (.t 14)) .done)))) (.cond (.t 15) .skip (.exit 0))) (.seq (.block 1 (.g (.o 0 18 (.mov (.t 0)) (.o 1 19 (.mov (.t 3)) (.o 2 20 (.iad 1 (.t 18) (.t 19)) (.o 3 21 (.load none (.t 20)) (.o 4 22 (.bin .geq (.t 21) (.v (.int .u8 97))) (.o 5 23 (.mov (.t 22)) (.op 6 [] (some 24) (some (23, true)) false (.mov (.t 0)) (.op 7 [] (some 25) (some (23, true)) false (.mov (.t 3)) (.op 8 [] (some 26) (some (23, true)) false (.iad 1 (.t 24) (.t 25)) (.op 9 [] (some 27) (some (23, true)) false (.load none (.t 26)) (.op 10 [] (some 28) (some (23, true)) false (.bin .leq (.t 27) (.v (.int .u8 122))) (.o 11 29 (.pick (.t 23) (.t 28) (.v (.bool false))) (.o 12 30 (.un .not (.t 29)) (.o 13 31 (.mov (.t 30)) (.op 14 [] (some 32) (some (31, true)) false (.mov (.t 0)) (.op 15 [] (some 33) (some (31, true)) false (.mov (.t 3)) (.op 16 [] (some 34) (some (31, true)) false (.iad 1 (.t 32) (.t 33)) (.op 17 [] (some 35) (some (31, true)) false (.load none (.t 34)) (.op 18 [] (some 36) (some (31, true)) false (.bin .geq (.t 35) (.v (.int .u8 48))) (.op 19 [] (some 37) (some (31, true)) false (.mov (.t 36)) (.op 20 [] (some 38) (some (37, true)) false (.mov (.t 0)) (.op 21 [] (some 39) (some (37, true)) false (.mov (.t 3)) (.op 22 [] (some 40) (some (37, true)) false (.iad 1 (.t 38) (.t 39)) (.op 23 [] (some 41) (some (37, true)) false (.load none (.t 40)) (.op 24 [] (some 42) (some (37, true)) false (.bin .leq (.t 41) (.v (.int .u8 57))) (.op 25 [] (some 43) (some (31, true)) false (.pick (.t 37) (.t 42) (.v (.bool false))) (.op 26 [] (some 44) (some (31, true)) false (.un .not (.t 43)) (.o 27 45 (.pick (.t 31) (.t 44) (.v (.bool false))) (.o 28 46 (.mov (.t 45)) (.op 29 [] (some 47) (some (46, true)) false (.mov (.t 0)) (.op 30 [] (some 48) (some (46, true)) false (.mov (.t 3)) (.op 31 [] (some 49) (some (46, true)) false (.iad 1 (.t 47) (.t 48)) (.op 32 [] (some 50) (some (46, true)) false (.load none (.t 49)) (.op 33 [] (some 51) (some (46, true)) false (.bin .neq (.t 50) (.v (.int .u8 45))) (.o 34 52 (.pick (.t 46) (.t 51) (.v (.bool false))) .done))))))))))))))))))))))))))))))))))) (.cond (.t 52) (.g (.o 0 2 (.mov (.v (.bool false))) .done) .ret) .skip))) (.reg false (.o 0 16 (.mov (.t 3)) (.o 1 17 (.bin .add (.t 16) (.i 1)) (.o 2 3 (.mov (.t 17)) .done))))))))) (.g (.o 0 2 (.mov (.v (.bool true))) .done) .ret))))
theorem dg_spec_LabelOk : Tryz.f119.body.bind (digC Tryz.prog Tryz.f119.ntmps []) = some c_spec_LabelOk := by kernel_rfl
theorem rs_spec_LabelOk : resSlots Tryz.prog Tryz.f119 = some [.s 2] := by kernel_rfl
theorem ok_spec_LabelOk (b : List UInt8) (hb : b.length ≤ 4194304) :
    FnOK Tryz.prog 119 [.one (.d (encB b))] (fun ra _ => ra = [.one (.d (.sc (.bool (labelOk b))))]) := by
  refine FnOK.ofK Tryz.func119 (by kernel_rfl) dg_spec_LabelOk rs_spec_LabelOk rfl rfl ?_
  delta c_spec_LabelOk T.o X.i C.g
  refine Kbc (Ka Y (Kdb (Kbc (Ka Y (Kq Y Y (Kj Y Y Y (Ka Y (kGP Y (fun g0 => Kg Y (Kg Y (Kg Y (Kk Y (Ka Y (Kd (kCondT Y (Kbc (Ka Y (Kd (Kr (Er (ra := [.one (.d _)]) rfl ?_)))))))))))) (fun g0 => Ki Y (Ka Y (Ki Y (Kq Y Y (Ki Y (Kj Y Y Y (Kl Y (Ka Y (Kd (Km Y (fun g1 => Kbc (Ka Y (Kd (Kr (Er (ra := [.one (.d _)]) rfl ?_))))) (fun g1 => Kn (Kb (Kbc (Ka Y (Kd (Kt ?_))))))))))))))))))))))))
  · rw [show labelOk b = false by simp only [labelOk]; rw [decide_eq_false (by omega)]; rfl]
  · rw [show labelOk b = false by simp only [labelOk]; rw [decide_eq_false (p := b.length ≤ 15) (by omega)]; simp]
  refine kLoop (α := { i : Nat // i ≤ b.length ∧ (b.take i).all okLetter = true })
    (fun y => ⟨tabSl [(0, .dv (encB b)), (3, .i y.1)], (St.init [.one (.d (encB b))]).ob, []⟩) (fun y => b.length - y.1) ⟨0, by simp⟩
    (.tab rfl ⟨.refl _, .refl _, trivial⟩) ?_
  rintro ⟨i, hi, hl⟩
  simp only
  refine Kb (Kbc (Ka Y (Ka Y (Kq Y Y (Kj Y Y Y (Kd (Km Y (fun g0 => Kn (Kb (Kt (Kbc (Ka Y (Ka Y (kIadR Y Y Y om (Ky Y Y (Kj Y Y Y (Ka Y (kGP Y (fun g1 => Ki Y (Ka Y (Ki Y (Ka Y (Ki Y (kIadR Y Y Y om (Ki Y (Ky Y Y (Ki Y (Kj Y Y Y (Kk Y (Ka Y (Kw Y Y (Ka Y (kGN Y (fun g2 => Ki Y (Ka Y (Ki Y (Ka Y (Ki Y (kIadR Y Y Y om (Ki Y (Ky Y Y (Ki Y (Kj Y Y Y (Ki Y (Ka Y (kGP Y (fun g3 => Ki Y (Ka Y (Ki Y (Ka Y (Ki Y (kIadR Y Y Y om (Ki Y (Ky Y Y (Ki Y (Kj Y Y Y (Ki Y (Kk Y (Ka Y (Ki Y (Kw Y Y (Kk Y (Ka Y (Ka Y (kGN Y (fun g4 => Ki Y (Ka Y (Ki Y (Ka Y (Ki Y (kIadR Y Y Y om (Ki Y (Ky Y Y (Ki Y (Kj Y Y Y (Kk Y (Ka Y (Kd (kCondN Y (fun g5 => Kbc (Ka Y (Kd (Kr (Er (ra := [.one (.d _)]) rfl ?_))))) (fun g5 => Kn (Kv (Kc (Ka Y (kAdd Y Y om (Ka Y (Kd ?_))))))))))))))))))))) (fun g4 => Kg Y (Kg Y (Kg Y (Kg Y (Kg Y (Kl Y (Ka Y (Kd (kCondF Y (Kn (Kv (Kc (Ka Y (kAdd Y Y om (Ka Y (Kd ?_))))))))))))))))))))))))))))))))))) (fun g3 => om)))))))))))))) (fun g2 => Kg Y (Kg Y (Kg Y (Kg Y (Kg Y (Kg Y (kGU Y (kGU Y (kGU Y (kGU Y (kGU Y (Kg Y (Kg Y (Kl Y (Ka Y (Ka Y (Kg Y (Kg Y (Kg Y (Kg Y (Kg Y (Kl Y (Ka Y (Kd (kCondF Y (Kn (Kv (Kc (Ka Y (kAdd Y Y om (Ka Y (Kd ?_))))))))))))))))))))))))))))))))))))))))))))))) (fun g1 => Kg Y (Kg Y (Kg Y (Kg Y (Kg Y (Kl Y (Ka Y (Kw Y Y (Ka Y (Ki Y (Ka Y (Ki Y (Ka Y (Ki Y (kIadR Y Y Y om (Ki Y (Ky Y Y (Ki Y (Kj Y Y Y (Ki Y (Ka Y (kGP Y (fun g6 => Ki Y (Ka Y (Ki Y (Ka Y (Ki Y (kIadR Y Y Y om (Ki Y (Ky Y Y (Ki Y (Kj Y Y Y (Ki Y (Kk Y (Ka Y (Ki Y (Kw Y Y (Kk Y (Ka Y (Ka Y (kGN Y (fun g7 => Ki Y (Ka Y (Ki Y (Ka Y (Ki Y (kIadR Y Y Y om (Ki Y (Ky Y Y (Ki Y (Kj Y Y Y (Kk Y (Ka Y (Kd (kCondN Y (fun g8 => Kbc (Ka Y (Kd (Kr (Er (ra := [.one (.d _)]) rfl ?_))))) (fun g8 => Kn (Kv (Kc (Ka Y (kAdd Y Y om (Ka Y (Kd ?_))))))))))))))))))))) (fun g7 => Kg Y (Kg Y (Kg Y (Kg Y (Kg Y (Kl Y (Ka Y (Kd (kCondF Y (Kn (Kv (Kc (Ka Y (kAdd Y Y om (Ka Y (Kd ?_))))))))))))))))))))))))))))))))))) (fun g6 => Kg Y (Kg Y (Kg Y (Kg Y (Kg Y (Ki Y (Kl Y (Ka Y (Ki Y (Kw Y Y (Kk Y (Ka Y (Ka Y (Ki Y (Ka Y (Ki Y (Ka Y (Ki Y (kIadR Y Y Y om (Ki Y (Ky Y Y (Ki Y (Kj Y Y Y (Kk Y (Ka Y (Kd (kCondN Y (fun g9 => Kbc (Ka Y (Kd (Kr (Er (ra := [.one (.d _)]) rfl ?_))))) (fun g9 => Kn (Kv (Kc (Ka Y (kAdd Y Y om (Ka Y (Kd ?_))))))))))))))))))))))))))))))))))))))))))))))))))))))))))))))))))) (fun g0 => kExit (kExC (kExI (kExB (Kbc (Ka Y (Kd (Kr (Er (ra := [.one (.d _)]) rfl ?_))))))))))))))))
  all_goals try simp only [decide_eq_true_eq, decide_eq_false_iff_not, beq_iff_eq, beq_eq_false_iff_ne] at *
  all_goals first
    | exact kInv ⟨⟨i + 1, by omega, labelOk_step (by omega) hl (by rw [okLetter_iff]; omega)⟩, by simp only; omega, .tab rfl ⟨.refl _, .refl _, trivial⟩⟩
    | rw [labelOk_no (b := b) (i := i) (by omega) (by rw [okLetter_iff]; omega)]
    | skip
  have hge : i = b.length := by omega
  subst hge
  rw [List.take_length] at hl
  rw [show labelOk b = true by simp only [labelOk]; rw [decide_eq_true (by omega), decide_eq_true (by omega), hl]; rfl]

def c_spec_NameOk : C := (.g (.o 0 1 (.box 1 (.t 0)) (.o 1 2 (.mov (.v (.bool false))) .done)) (.seq (.g (.o 0 4 (.fad (.t 1) 0) (.o 1 5 (.load none (.t 4)) (.o 2 6 (.len (.t 5)) (.o 3 7 (.bin .gtr (.t 6) (.i 6)) .done)))) (.cond (.t 7) (.g (.o 0 2 (.mov (.v (.bool false))) .done) .ret) .skip)) (.seq (.g (.o 0 3 (.mov (.i 0)) .done) (.block 0 (.loop (.seq (.g (.o 0 8 (.mov (.t 3)) (.o 1 9 (.fad (.t 1) 0) (.o 2 10 (.load none (.t 9)) (.o 3 11 (.len (.t 10)) (.o 4 12 (.bin .lss (.t 8) (.t 11)) .done))))) (.cond (.t 12) .skip (.exit 0))) (.seq (.block 1 (.g (.o 0 15 (.fad (.t 1) 0) (.o 1 16 (.load none (.t 15)) (.o 2 17 (.mov (.t 3)) (.o 3 18 (.iad 1 (.t 16) (.t 17)) (.o 4 19 (.load none (.t 18)) (.o 5 20 (.call 20 119 [(.t 19)]) (.o 6 21 (.un .not (.t 20)) .done))))))) (.cond (.t 21) (.g (.o 0 2 (.mov (.v (.bool false))) .done) .ret) .skip))) (.reg false (.o 0 13 (.mov (.t 3)) (.o 1 14 (.bin .add (.t 13) (.i 1)) (.o 2 3 (.mov (.t 14)) .done))))))))) (.g (.o 0 2 (.mov (.v (.bool true))) .done) .ret))))
theorem dg_spec_NameOk : Tryz.f78.body.bind (digC Tryz.prog Tryz.f78.ntmps []) = some c_spec_NameOk := by kernel_rfl
theorem rs_spec_NameOk : resSlots Tryz.prog Tryz.f78 = some [.s 2] := by kernel_rfl
theorem ok_spec_NameOk (a : List (List UInt8)) (ha : a.length ≤ 4194304) (hb : ∀ b ∈ a, b.length ≤ 4194304) :
    FnOK Tryz.prog 78 [.agg [.d (encBB a)]] (fun ra _ => ra = [.one (.d (.sc (.bool (nameOk a))))]) := by
  refine FnOK.ofK Tryz.func78 (by kernel_rfl) dg_spec_NameOk rs_spec_NameOk rfl rfl ?_
  delta c_spec_NameOk T.o X.i C.g
  refine Kbc (kBox Y Y Y Y Y (Ka Y (Kdb (Kbc (Kf Y Y (Ke Y Y Y (Kq Y Y (Kj Y Y Y (Kd (Km Y (fun g0 => Kbc (Ka Y (Kd (Kr (Er (ra := [.one (.d _)]) rfl ?_))))) (fun g0 => Kn (Kb (Kbc (Ka Y (Kd (Kt ?_))))))))))))))))
  · rw [show nameOk a = false by simp only [nameOk]; rw [decide_eq_false (by omega)]; rfl]
  refine kLoop (α := { i : Nat // i ≤ a.length ∧ (a.take i).all labelOk = true })
    (fun y => ⟨tabSl [(1, .c (.ptr (rid 1 0) 1 0)), (3, .i y.1)], obTab 1 [(rid 1 0, ⟨1, 0, .box [.d (encBB a)]⟩)], []⟩) (fun y => a.length - y.1) ⟨0, by simp⟩
    .normA ?_
  rintro ⟨i, hi, hl⟩
  simp only
  refine Kb (Kbc (Ka Y (Kf Y Y (Ke Y Y Y (Kq Y Y (Kj Y Y Y (Kd (Km Y (fun g0 => Kn (Kb (Kt (Kbc (Kf Y Y (Ke Y Y Y (Ka Y (kIadR Y Y Y om (Ky Y Y (Kp (ok_spec_LabelOk _ (by first | assumption | omega | solve_by_elim [List.getElem_mem])) ⟨Y, trivial⟩ Y Y Y Y Y (Kw Y Y (Kd (kCondN Y (fun g1 => Kbc (Ka Y (Kd (Kr (Er (ra := [.one (.d _)]) rfl ?_))))) (fun g1 => Kn (Kv (Kc (Ka Y (kAdd Y Y om (Ka Y (Kd ?_)))))))))))))))))))) (fun g0 => kExit (kExC (kExI (kExB (Kbc (Ka Y (Kd (Kr (Er (ra := [.one (.d _)]) rfl ?_)))))))))))))))))
  · rename_i h
    rw [show nameOk a = false by simp only [nameOk]; rw [all_no (i := i) (by omega) (by assumption), Bool.and_false]]
  · exact kInv ⟨⟨i + 1, by omega, all_step om hl (by assumption)⟩, by simp only; omega, .normA⟩
  · have hge : i = a.length := by omega
    subst hge
    rw [List.take_length] at hl
    rw [show nameOk a = true by simp only [nameOk]; rw [decide_eq_true (by omega), hl]; rfl]

def c_spec_TypeOk : C := (.g (.o 0 2 (.mov (.v (.bool false))) .done) (.seq (.g (.o 0 3 (.mov (.t 0)) .done) (.block 0 (.seq (.g (.o 0 5 (.bin .eql (.t 3) (.i 1)) (.o 1 4 (.mov (.t 5)) .done)) (.cond (.t 4) .skip (.g (.o 0 6 (.bin .eql (.t 3) (.i 2)) (.o 1 4 (.mov (.t 6)) .done)) (.cond (.t 4) .skip (.g (.o 0 7 (.bin .eql (.t 3) (.i 5)) (.o 1 4 (.mov (.t 7)) .done)) (.cond (.t 4) .skip (.g (.o 0 8 (.bin .eql (.t 3) (.i 6)) (.o 1 4 (.mov (.t 8)) .done)) (.cond (.t 4) .skip (.g (.o 0 9 (.bin .eql (.t 3) (.i 12)) (.o 1 4 (.mov (.t 9)) .done)) (.cond (.t 4) .skip (.g (.o 0 10 (.bin .eql (.t 3) (.i 16)) (.o 1 4 (.mov (.t 10)) .done)) (.cond (.t 4) .skip (.reg false (.o 0 11 (.bin .eql (.t 3) (.i 49)) (.o 1 4 (.mov (.t 11)) .done))))))))))))))) (.cond (.t 4) (.g (.o 0 2 (.mov (.v (.bool true))) .done) .ret) .skip)))) (.g (.o 0 2 (.mov (.v (.bool false))) .done) .ret)))
theorem dg_spec_TypeOk : Tryz.f83.body.bind (digC Tryz.prog Tryz.f83.ntmps []) = some c_spec_TypeOk := by kernel_rfl
theorem rs_spec_TypeOk : resSlots Tryz.prog Tryz.f83 = some [.s 2] := by kernel_rfl
theorem ok_spec_TypeOk (n : Int) : FnOK Tryz.prog 83 [.one (.d (.sc (.int .i64 n)))] (fun ra _ => ra = [.one (.d (.sc (.bool (tyOk n))))]) := by
  refine FnOK.ofK Tryz.func83 (by kernel_rfl) dg_spec_TypeOk rs_spec_TypeOk rfl rfl ?_
  delta c_spec_TypeOk T.o X.i C.g
  refine Kbc (Ka Y (Kdb (Kbc (Ka Y (Kd (Kt (Kb (Kbc (Kj Y Y Y (Ka Y (Kd (Km Y (fun g0 => Kn (Km Y (fun g1 => Kbc (Ka Y (Kd (Kr (Er (ra := [.one (.d _)]) rfl ?_))))) (fun g1 => om))) (fun g0 => Kbc (Kj Y Y Y (Ka Y (Kd (Km Y (fun g2 => Kn (Km Y (fun g3 => Kbc (Ka Y (Kd (Kr (Er (ra := [.one (.d _)]) rfl ?_))))) (fun g3 => om))) (fun g2 => Kbc (Kj Y Y Y (Ka Y (Kd (Km Y (fun g4 => Kn (Km Y (fun g5 => Kbc (Ka Y (Kd (Kr (Er (ra := [.one (.d _)]) rfl ?_))))) (fun g5 => om))) (fun g4 => Kbc (Kj Y Y Y (Ka Y (Kd (Km Y (fun g6 => Kn (Km Y (fun g7 => Kbc (Ka Y (Kd (Kr (Er (ra := [.one (.d _)]) rfl ?_))))) (fun g7 => om))) (fun g6 => Kbc (Kj Y Y Y (Ka Y (Kd (Km Y (fun g8 => Kn (Km Y (fun g9 => Kbc (Ka Y (Kd (Kr (Er (ra := [.one (.d _)]) rfl ?_))))) (fun g9 => om))) (fun g8 => Kbc (Kj Y Y Y (Ka Y (Kd (Km Y (fun g10 => Kn (Km Y (fun g11 => Kbc (Ka Y (Kd (Kr (Er (ra := [.one (.d _)]) rfl ?_))))) (fun g11 => om))) (fun g10 => Kc (Kj Y Y Y (Ka Y (Kd (Km Y (fun g12 => Kbc (Ka Y (Kd (Kr (Er (ra := [.one (.d _)]) rfl ?_))))) (fun g12 => Kn (Kv (Kbc (Ka Y (Kd (Kr (Er (ra := [.one (.d _)]) rfl ?_)))))))))))))))))))))))))))))))))))))))))))))))))
  all_goals simp_all [tyOk]

def c_spec_l3named : C := (.g (.o 0 2 (.mov (.v (.bool false))) .done) (.g (.o 0 3 (.mov (.t 0)) (.o 1 4 (.bin .eql (.t 3) (.i 2)) (.o 2 5 (.mov (.t 4)) (.op 3 [] (some 6) (some (5, false)) false (.mov (.t 0)) (.op 4 [] (some 7) (some (5, false)) false (.bin .eql (.t 6) (.i 5)) (.o 5 8 (.pick (.t 5) (.v (.bool true)) (.t 7)) (.o 6 9 (.mov (.t 8)) (.op 7 [] (some 10) (some (9, false)) false (.mov (.t 0)) (.op 8 [] (some 11) (some (9, false)) false (.bin .eql (.t 10) (.i 6)) (.o 9 12 (.pick (.t 9) (.v (.bool true)) (.t 11)) (.o 10 13 (.mov (.t 12)) (.op 11 [] (some 14) (some (13, false)) false (.mov (.t 0)) (.op 12 [] (some 15) (some (13, false)) false (.bin .eql (.t 14) (.i 12)) (.o 13 16 (.pick (.t 13) (.v (.bool true)) (.t 15)) (.o 14 2 (.mov (.t 16)) .done))))))))))))))) .ret))
theorem dg_spec_l3named : Tryz.f161.body.bind (digC Tryz.prog Tryz.f161.ntmps []) = some c_spec_l3named := by kernel_rfl
theorem rs_spec_l3named : resSlots Tryz.prog Tryz.f161 = some [.s 2] := by kernel_rfl
theorem ok_spec_l3named (n : Int) : FnOK Tryz.prog 161 [.one (.d (.sc (.int .i64 n)))] (fun ra _ => ra = [.one (.d (.sc (.bool (hasTo n))))]) := by
  refine FnOK.ofK Tryz.func161 (by kernel_rfl) dg_spec_l3named rs_spec_l3named rfl rfl ?_
  delta c_spec_l3named T.o X.i C.g
  refine Kbc (Ka Y (Kdb (Kc (Ka Y (Kj Y Y Y (Ka Y (kGP Y (fun g0 => Kg Y (Kg Y (Kk Y (Ka Y (Ka Y (Kg Y (Kg Y (Kk Y (Ka Y (Ka Y (Kg Y (Kg Y (Kk Y (Ka Y (Ka Y (Kd (Kr (Er (ra := [.one (.d _)]) rfl ?_)))))))))))))))))) (fun g0 => Ki Y (Ka Y (Ki Y (Kj Y Y Y (Kl Y (Ka Y (Ka Y (kGP Y (fun g1 => Kg Y (Kg Y (Kk Y (Ka Y (Ka Y (Kg Y (Kg Y (Kk Y (Ka Y (Ka Y (Kd (Kr (Er (ra := [.one (.d _)]) rfl ?_))))))))))))) (fun g1 => Ki Y (Ka Y (Ki Y (Kj Y Y Y (Kl Y (Ka Y (Ka Y (kGP Y (fun g2 => Kg Y (Kg Y (Kk Y (Ka Y (Ka Y (Kd (Kr (Er (ra := [.one (.d _)]) rfl ?_)))))))) (fun g2 => Ki Y (Ka Y (Ki Y (Kj Y Y Y (Kl Y (Ka Y (Ka Y (Kd (Kr (Er (ra := [.one (.d _)]) rfl ?_)))))))))))))))))))))))))))))))))
  all_goals simp_all [hasTo]

def c_spec_l3texted : C := (.g (.o 0 2 (.mov (.v (.bool false))) .done) (.g (.o 0 3 (.mov (.t 0)) (.o 1 4 (.bin .eql (.t 3) (.i 16)) (.o 2 5 (.mov (.t 4)) (.op 3 [] (some 6) (some (5, false)) false (.mov (.t 0)) (.op 4 [] (some 7) (some (5, false)) false (.bin .eql (.t 6) (.i 49)) (.o 5 8 (.pick (.t 5) (.v (.bool true)) (.t 7)) (.o 6 2 (.mov (.t 8)) .done))))))) .ret))
theorem dg_spec_l3texted : Tryz.f165.body.bind (digC Tryz.prog Tryz.f165.ntmps []) = some c_spec_l3texted := by kernel_rfl
theorem rs_spec_l3texted : resSlots Tryz.prog Tryz.f165 = some [.s 2] := by kernel_rfl
theorem ok_spec_l3texted (n : Int) : FnOK Tryz.prog 165 [.one (.d (.sc (.int .i64 n)))] (fun ra _ => ra = [.one (.d (.sc (.bool (hasText n))))]) := by
  refine FnOK.ofK Tryz.func165 (by kernel_rfl) dg_spec_l3texted rs_spec_l3texted rfl rfl ?_
  delta c_spec_l3texted T.o X.i C.g
  refine Kbc (Ka Y (Kdb (Kc (Ka Y (Kj Y Y Y (Ka Y (kGP Y (fun g0 => Kg Y (Kg Y (Kk Y (Ka Y (Ka Y (Kd (Kr (Er (ra := [.one (.d _)]) rfl ?_)))))))) (fun g0 => Ki Y (Ka Y (Ki Y (Kj Y Y Y (Kl Y (Ka Y (Ka Y (Kd (Kr (Er (ra := [.one (.d _)]) rfl ?_)))))))))))))))))
  all_goals simp_all [hasText]

def c_spec_l3data : C := (.g (.o 0 1 (.box 1 (.t 0)) (.o 1 2 (.mov (.v (.bool false))) .done)) (.seq (.g (.o 0 3 (.fad (.t 1) 1) (.o 1 4 (.load none (.t 3)) (.o 2 5 (.bin .eql (.t 4) (.i 1)) .done))) (.cond (.t 5) (.g (.o 0 6 (.fad (.t 1) 3) (.o 1 7 (.load none (.t 6)) (.o 2 8 (.bin .lss (.t 7) (.i 0)) (.o 3 9 (.mov (.t 8)) (.op 4 [] (some 10) (some (9, false)) false (.fad (.t 1) 3) (.op 5 [] (some 11) (some (9, false)) false (.load none (.t 10)) (.op 6 [] (some 12) (some (9, false)) false (.bin .geq (.t 11) (.i 4294967296)) (.o 7 13 (.pick (.t 9) (.v (.bool true)) (.t 12)) .done)))))))) (.cond (.t 13) (.g (.o 0 2 (.mov (.v (.bool false))) .done) .ret) .skip)) (.g (.o 0 14 (.fad (.t 1) 3) (.o 1 15 (.load none (.t 14)) (.o 2 16 (.bin .neq (.t 15) (.i 0)) .done))) (.cond (.t 16) (.g (.o 0 2 (.mov (.v (.bool false))) .done) .ret) .skip)))) (.seq (.g (.o 0 17 (.fad (.t 1) 1) (.o 1 18 (.load none (.t 17)) (.o 2 19 (.call 19 161 [(.t 18)]) .done))) (.cond (.t 19) (.g (.o 0 20 (.fad (.t 1) 4) (.o 1 21 (.load (some 1) (.t 20)) (.o 2 22 (.call 22 78 [(.t 21)]) (.o 3 23 (.un .not (.t 22)) .done)))) (.cond (.t 23) (.g (.o 0 2 (.mov (.v (.bool false))) .done) .ret) .skip)) (.g (.o 0 24 (.fad (.t 1) 4) (.o 1 25 (.fad (.t 24) 0) (.o 2 26 (.load none (.t 25)) (.o 3 27 (.len (.t 26)) (.o 4 28 (.bin .gtr (.t 27) (.i 0)) .done))))) (.cond (.t 28) (.g (.o 0 2 (.mov (.v (.bool false))) .done) .ret) .skip)))) (.seq (.g (.o 0 29 (.fad (.t 1) 1) (.o 1 30 (.load none (.t 29)) (.o 2 31 (.call 31 165 [(.t 30)]) .done))) (.cond (.t 31) (.g (.o 0 32 (.fad (.t 1) 5) (.o 1 33 (.load none (.t 32)) (.o 2 34 (.len (.t 33)) (.o 3 35 (.bin .gtr (.t 34) (.i 40)) .done)))) (.cond (.t 35) (.g (.o 0 2 (.mov (.v (.bool false))) .done) .ret) .skip)) (.g (.o 0 36 (.fad (.t 1) 5) (.o 1 37 (.load none (.t 36)) (.o 2 38 (.len (.t 37)) (.o 3 39 (.bin .gtr (.t 38) (.i 0)) .done)))) (.cond (.t 39) (.g (.o 0 2 (.mov (.v (.bool false))) .done) .ret) .skip)))) (.seq (.g (.o 0 40 (.fad (.t 1) 1) (.o 1 41 (.load none (.t 40)) (.o 2 42 (.bin .neq (.t 41) (.i 6)) .done))) (.cond (.t 42) (.g (.o 0 43 (.fad (.t 1) 6) (.o 1 44 (.load none (.t 43)) (.o 2 45 (.len (.t 44)) (.o 3 46 (.bin .eql (.t 45) (.i 0)) (.o 4 2 (.mov (.t 46)) .done))))) .ret) .skip)) (.seq (.g (.o 0 47 (.fad (.t 1) 6) (.o 1 48 (.load none (.t 47)) (.o 2 49 (.len (.t 48)) (.o 3 50 (.bin .neq (.t 49) (.i 2)) (.o 4 51 (.mov (.t 50)) (.op 5 [] (some 52) (some (51, false)) false (.fad (.t 1) 6) (.op 6 [] (some 53) (some (51, false)) false (.load none (.t 52)) (.op 7 [] (some 54) (some (51, false)) false (.iad 1 (.t 53) (.i 0)) (.op 8 [] (some 55) (some (51, false)) false (.load none (.t 54)) (.op 9 [] (some 56) (some (51, false)) false (.bin .lss (.t 55) (.i 0)) (.o 10 57 (.pick (.t 51) (.v (.bool true)) (.t 56)) (.o 11 58 (.mov (.t 57)) (.op 12 [] (some 59) (some (58, false)) false (.fad (.t 1) 6) (.op 13 [] (some 60) (some (58, false)) false (.load none (.t 59)) (.op 14 [] (some 61) (some (58, false)) false (.iad 1 (.t 60) (.i 0)) (.op 15 [] (some 62) (some (58, false)) false (.load none (.t 61)) (.op 16 [] (some 63) (some (58, false)) false (.bin .geq (.t 62) (.i 4294967296)) (.o 17 64 (.pick (.t 58) (.v (.bool true)) (.t 63)) .done)))))))))))))))))) (.cond (.t 64) (.g (.o 0 2 (.mov (.v (.bool false))) .done) .ret) .skip)) (.g (.o 0 65 (.fad (.t 1) 6) (.o 1 66 (.load none (.t 65)) (.o 2 67 (.iad 1 (.t 66) (.i 1)) (.o 3 68 (.load none (.t 67)) (.o 4 69 (.bin .geq (.t 68) (.i 0)) (.o 5 70 (.mov (.t 69)) (.op 6 [] (some 71) (some (70, true)) false (.fad (.t 1) 6) (.op 7 [] (some 72) (some (70, true)) false (.load none (.t 71)) (.op 8 [] (some 73) (some (70, true)) false (.iad 1 (.t 72) (.i 1)) (.op 9 [] (some 74) (some (70, true)) false (.load none (.t 73)) (.op 10 [] (some 75) (some (70, true)) false (.bin .leq (.t 74) (.i 100000)) (.o 11 76 (.pick (.t 70) (.t 75) (.v (.bool false))) (.o 12 2 (.mov (.t 76)) .done))))))))))))) .ret)))))))
theorem dg_spec_l3data : Tryz.f84.body.bind (digC Tryz.prog Tryz.f84.ntmps []) = some c_spec_l3data := by kernel_rfl
theorem rs_spec_l3data : resSlots Tryz.prog Tryz.f84 = some [.s 2] := by kernel_rfl
theorem ok_spec_l3data (r : Rr) (hs : SmallR r) :
    FnOK Tryz.prog 84 [.agg (r.cells.map .d)] (fun ra _ => ra = [.one (.d (.sc (.bool (dataOk r))))]) := by
  refine FnOK.ofK Tryz.func84 (by kernel_rfl) dg_spec_l3data rs_spec_l3data rfl rfl ?_
  delta c_spec_l3data T.o X.i C.g
  have t1 := hs.t.len
  have t2 := hs.t.mem
  have x1 := hs.x
  have m1 := hs.m
  refine Kbc (kBox Y Y Y Y Y (Ka Y (Kd ?_)))
  by_cases hA : (r.ty = 1 ∧ 0 ≤ r.addr ∧ r.addr < 4294967296) ∨ (r.ty ≠ 1 ∧ r.addr = 0)
  case neg =>
    have e : (if r.ty == 1 then isW r.addr else r.addr == 0) = false := by
      by_cases h : r.ty = 1
      · simp [h, isW]; omega
      · simp [h]; omega
    rw [show dataOk r = false by simp only [dataOk, e, Bool.and_false, Bool.false_and]]
    refine Kb ?_
    refine Kbc (Kf Y Y (Ke Y Y Y (Kj Y Y Y (Kd (Km Y (fun g0 => Kbc (Kf Y Y (Ke Y Y Y (Kj Y Y Y (Ka Y (kGP Y (fun g1 => Kg Y (Kg Y (Kg Y (Kk Y (Ka Y (Kd (kCondT Y (Kbc (Ka Y (Kd (Kr (Er (ra := [.one (.d _)]) rfl rfl)))))))))))) (fun g1 => Ki Y (Kf Y Y (Ki Y (Ke Y Y Y (Ki Y (Kj Y Y Y (Kl Y (Ka Y (Kd (Km Y (fun g2 => Kbc (Ka Y (Kd (Kr (Er (ra := [.one (.d _)]) rfl rfl))))) (fun g2 => om))))))))))))))))) (fun g0 => Kbc (Kf Y Y (Ke Y Y Y (Kj Y Y Y (Kd (kCondIN Y (fun g3 => Kbc (Ka Y (Kd (Kr (Er (ra := [.one (.d _)]) rfl rfl))))) (fun g3 => om))))))))))))
  have eA : (if r.ty == 1 then isW r.addr else r.addr == 0) = true := by
    rcases hA with ⟨h, _, _⟩ | ⟨h, h'⟩
    · simp [h, isW]; omega
    · simp [h, h']
  refine Kb (kCut ⟨tabSl [(1, .c (.ptr (rid 1 0) 1 0))], obTab 1 [(rid 1 0, ⟨1, 0, .box (r.cells.map .d)⟩)], []⟩ ?_ (fun x hc => ?_))
  case refine_2 =>
    refine Kbc (Kf Y Y (Ke Y Y Y (Kj Y Y Y (Kd (Km Y (fun g0 => Kbc (Kf Y Y (Ke Y Y Y (Kj Y Y Y (Ka Y (kGP Y (fun g1 => om) (fun g1 => Ki Y (Kf Y Y (Ki Y (Ke Y Y Y (Ki Y (Kj Y Y Y (Kl Y (Ka Y (Kd (Km Y (fun g2 => om) (fun g2 => Kn (hc _ .normA)))))))))))))))))) (fun g0 => Kbc (Kf Y Y (Ke Y Y Y (Kj Y Y Y (Kd (kCondIN Y (fun g3 => om) (fun g3 => Kn (hc _ .normA)))))))))))))
  by_cases eB : (if hasTo r.ty then nameOk r.to else ((r.to.length : Int) == 0)) = true
  case neg =>
    rw [show dataOk r = false by simp only [dataOk, Bool.eq_false_iff.2 eB, Bool.and_false, Bool.false_and]]
    refine Kb ?_
    cases hT : hasTo r.ty
    case false =>
      have hN : ¬ (r.to.length : Int) = 0 := by simpa [hT] using eB
      have hN' : ¬ r.to.length = 0 := by omega
      refine Kbc (Kf Y Y (Ke Y Y Y (Kp (ok_spec_l3named _) ⟨Y, trivial⟩ Y Y Y Y Y (Kd (kCond Y (fun g0 => (by (simp [*] at g0))) (fun g0 => Kbc (Kf Y Y (Kf Y Y (Ke Y Y Y (Kq Y Y (Kj Y Y Y (Kd (Km Y (fun g1 => Kbc (Ka Y (Kd (Kr (Er (ra := [.one (.d _)]) rfl rfl))))) (fun g1 => om))))))))))))))
    case true =>
      have hN : nameOk r.to = false := by simpa [hT] using eB
      refine Kbc (Kf Y Y (Ke Y Y Y (Kp (ok_spec_l3named _) ⟨Y, trivial⟩ Y Y Y Y Y (Kd (kCond Y (fun g0 => Kbc (Kf Y Y (Ke Y Y Y (Kp (ok_spec_NameOk _ pr pr) ⟨⟨⟨Y, trivial⟩, leb⟩, trivial⟩ Y Y Y Y Y (Kw Y Y (Kd (kCondN Y (fun g1 => Kbc (Ka Y (Kd (Kr (Er (ra := [.one (.d _)]) rfl rfl))))) (fun g1 => (by (simp [*] at g1)))))))))) (fun g0 => (by (simp [*] at g0))))))))
  refine Kb (kCut ⟨tabSl [(1, .c (.ptr (rid 1 0) 1 0))], obTab 1 [(rid 1 0, ⟨1, 0, .box (r.cells.map .d)⟩)], []⟩ ?_ (fun x hc => ?_))
  case refine_2 =>
    cases hT : hasTo r.ty
    case false =>
      have hN : (r.to.length : Int) = 0 := by rw [hT] at eB; simpa using eB
      have hN' : r.to.length = 0 := by omega
      clear hN
      refine Kbc (Kf Y Y (Ke Y Y Y (Kp (ok_spec_l3named _) ⟨Y, trivial⟩ Y Y Y Y Y (Kd (kCond Y (fun g0 => (by (simp [*] at g0))) (fun g0 => Kbc (Kf Y Y (Kf Y Y (Ke Y Y Y (Kq Y Y (Kj Y Y Y (Kd (Km Y (fun g1 => om) (fun g1 => Kn (hc _ .normA)))))))))))))))
    case true =>
      have hN : nameOk r.to = true := by simpa [hT] using eB
      refine Kbc (Kf Y Y (Ke Y Y Y (Kp (ok_spec_l3named _) ⟨Y, trivial⟩ Y Y Y Y Y (Kd (kCond Y (fun g0 => Kbc (Kf Y Y (Ke Y Y Y (Kp (ok_spec_NameOk _ pr pr) ⟨⟨⟨Y, trivial⟩, leb⟩, trivial⟩ Y Y Y Y Y (Kw Y Y (Kd (kCondN Y (fun g1 => (by (simp [*] at g1))) (fun g1 => Kn (hc _ .normA))))))))) (fun g0 => (by (simp [*] at g0))))))))
  by_cases eC : (if hasText r.ty then decide ((r.text.length : Int) ≤ 40) else ((r.text.length : Int) == 0)) = true
  case neg =>
    rw [show dataOk r = false by simp only [dataOk, Bool.eq_false_iff.2 eC, Bool.and_false]]
    refine Kb ?_
    cases hT : hasText r.ty
    case false =>
      have hN' : ¬ r.text.length = 0 := by rw [hT] at eC; simp at eC; simpa using eC
      refine Kbc (Kf Y Y (Ke Y Y Y (Kp (ok_spec_l3texted _) ⟨Y, trivial⟩ Y Y Y Y Y (Kd (kCond Y (fun g0 => (by (simp [*] at g0))) (fun g0 => Kbc (Kf Y Y (Ke Y Y Y (Kq Y Y (Kj Y Y Y (Kd (Km Y (fun g1 => Kbc (Ka Y (Kd (Kr (Er (ra := [.one (.d _)]) rfl rfl))))) (fun g1 => om)))))))))))))
    case true =>
      have hN' : ¬ r.text.length ≤ 40 := by rw [hT] at eC; simp at eC; omega
      refine Kbc (Kf Y Y (Ke Y Y Y (Kp (ok_spec_l3texted _) ⟨Y, trivial⟩ Y Y Y Y Y (Kd (kCond Y (fun g0 => Kbc (Kf Y Y (Ke Y Y Y (Kq Y Y (Kj Y Y Y (Kd (Km Y (fun g1 => Kbc (Ka Y (Kd (Kr (Er (ra := [.one (.d _)]) rfl rfl))))) (fun g1 => om)))))))) (fun g0 => (by (simp [*] at g0))))))))
  refine Kb (kCut ⟨tabSl [(1, .c (.ptr (rid 1 0) 1 0))], obTab 1 [(rid 1 0, ⟨1, 0, .box (r.cells.map .d)⟩)], []⟩ ?_ (fun x hc => ?_))
  case refine_2 =>
    cases hT : hasText r.ty
    case false =>
      have hN' : r.text.length = 0 := by rw [hT] at eC; simp at eC; rw [eC]; rfl
      refine Kbc (Kf Y Y (Ke Y Y Y (Kp (ok_spec_l3texted _) ⟨Y, trivial⟩ Y Y Y Y Y (Kd (kCond Y (fun g0 => (by (simp [*] at g0))) (fun g0 => Kbc (Kf Y Y (Ke Y Y Y (Kq Y Y (Kj Y Y Y (Kd (Km Y (fun g1 => om) (fun g1 => Kn (hc _ .normA))))))))))))))
    case true =>
      have hN' : r.text.length ≤ 40 := by rw [hT] at eC; simp at eC; omega
      refine Kbc (Kf Y Y (Ke Y Y Y (Kp (ok_spec_l3texted _) ⟨Y, trivial⟩ Y Y Y Y Y (Kd (kCond Y (fun g0 => Kbc (Kf Y Y (Ke Y Y Y (Kq Y Y (Kj Y Y Y (Kd (Km Y (fun g1 => om) (fun g1 => Kn (hc _ .normA))))))))) (fun g0 => (by (simp [*] at g0))))))))
  rw [show dataOk r = (if r.ty == 6 then numsOk r.nums else ((r.nums.length : Int) == 0)) by simp only [dataOk, eA, eB, eC, Bool.and_true]]
  clear eA eB eC hA
  refine Kb (Kbc (Kf Y Y (Ke Y Y Y (Kj Y Y Y (Kd (kCondIN Y (fun g0 => Kbc (Kf Y Y (Ke Y Y Y (Kq Y Y (Kj Y Y Y (Ka Y (Kd (Kr (Er (ra := [.one (.d _)]) rfl ?_))))))))) (fun g0 => Kn (Kb (Kbc (Kf Y Y (Ke Y Y Y (Kq Y Y (Kj Y Y Y (Ka Y (kGIN Y (fun g1 => Kg Y (Kg Y (Kg Y (Kg Y (Kg Y (Kk Y (Ka Y (Ka Y (Kg Y (Kg Y (Kg Y (Kg Y (Kg Y (Kk Y (Ka Y (Kd (kCondT Y (Kbc (Ka Y (Kd (Kr (Er (ra := [.one (.d _)]) rfl ?_)))))))))))))))))))))) (fun g1 => Ki Y (Kf Y Y (Ki Y (Ke Y Y Y (Ki Y (kIadR (m := 0) Y Y Y om (Ki Y (Ky Y Y (Ki Y (Kj Y Y Y (Kl Y (Ka Y (Ka Y (kGP Y (fun g2 => Kg Y (Kg Y (Kg Y (Kg Y (Kg Y (Kk Y (Ka Y (Kd (kCondT Y (Kbc (Ka Y (Kd (Kr (Er (ra := [.one (.d _)]) rfl ?_)))))))))))))) (fun g2 => Ki Y (Kf Y Y (Ki Y (Ke Y Y Y (Ki Y (kIadR (m := 0) Y Y Y om (Ki Y (Ky Y Y (Ki Y (Kj Y Y Y (Kl Y (Ka Y (Kd (Km Y (fun g3 => Kbc (Ka Y (Kd (Kr (Er (ra := [.one (.d _)]) rfl ?_))))) (fun g3 => Kn (Kbc (Kf Y Y (Ke Y Y Y (kIadR (m := 1) Y Y Y om (Ky Y Y (Kj Y Y Y (Ka Y (kGP Y (fun g4 => Ki Y (Kf Y Y (Ki Y (Ke Y Y Y (Ki Y (kIadR (m := 1) Y Y Y om (Ki Y (Ky Y Y (Ki Y (Kj Y Y Y (Kk Y (Ka Y (Ka Y (Kd (Kr (Er (ra := [.one (.d _)]) rfl ?_)))))))))))))))) (fun g4 => Kg Y (Kg Y (Kg Y (Kg Y (Kg Y (Kl Y (Ka Y (Ka Y (Kd (Kr (Er (ra := [.one (.d _)]) rfl ?_)))))))))))))))))))))))))))))))))))))))))))))))))))))))))))))))
  all_goals first
    | (simp [*]; done)
    | (rw [if_pos (by simpa using (by assumption : r.ty = 6)), numsOk, dif_pos (by assumption)]
       simp only [isW]
       refine congrArg (fun b : Bool => [RA.one (RV.d (DV.sc (Value.bool b)))]) ?_
       rw [Bool.eq_iff_iff]
       simp
       omega)

def c_spec_RrOk : C := (.g (.o 0 1 (.box 1 (.t 0)) (.o 1 2 (.mov (.v (.bool false))) .done)) (.g (.o 0 3 (.fad (.t 1) 0) (.o 1 4 (.load (some 1) (.t 3)) (.o 2 5 (.call 5 78 [(.t 4)]) (.o 3 6 (.mov (.t 5)) (.op 4 [] (some 7) (some (6, true)) false (.fad (.t 1) 1) (.op 5 [] (some 8) (some (6, true)) false (.load none (.t 7)) (.op 6 [] (some 9) (some (6, true)) false (.call 9 83 [(.t 8)]) (.o 7 10 (.pick (.t 6) (.t 9) (.v (.bool false))) (.o 8 11 (.mov (.t 10)) (.op 9 [] (some 12) (some (11, true)) false (.fad (.t 1) 2) (.op 10 [] (some 13) (some (11, true)) false (.load none (.t 12)) (.op 11 [] (some 14) (some (11, true)) false (.bin .geq (.t 13) (.i 0)) (.o 12 15 (.pick (.t 11) (.t 14) (.v (.bool false))) (.o 13 16 (.mov (.t 15)) (.op 14 [] (some 17) (some (16, true)) false (.fad (.t 1) 2) (.op 15 [] (some 18) (some (16, true)) false (.load none (.t 17)) (.op 16 [] (some 19) (some (16, true)) false (.bin .leq (.t 18) (.i 100000)) (.o 17 20 (.pick (.t 16) (.t 19) (.v (.bool false))) (.o 18 21 (.mov (.t 20)) (.op 19 [] (some 22) (some (21, true)) false (.load (some 7) (.t 1)) (.op 20 [] (some 23) (some (21, true)) false (.call 23 84 [(.t 22)]) (.o 21 24 (.pick (.t 21) (.t 23) (.v (.bool false))) (.o 22 2 (.mov (.t 24)) .done))))))))))))))))))))))) .ret))
theorem dg_spec_RrOk : Tryz.f22.body.bind (digC Tryz.prog Tryz.f22.ntmps []) = some c_spec_RrOk := by kernel_rfl
theorem rs_spec_RrOk : resSlots Tryz.prog Tryz.f22 = some [.s 2] := by kernel_rfl
theorem ok_spec_RrOk (r : Rr) (hs : SmallR r) :
    FnOK Tryz.prog 22 [.agg (r.cells.map .d)] (fun ra _ => ra = [.one (.d (.sc (.bool (rrOk r))))]) := by
  refine FnOK.ofK Tryz.func22 (by kernel_rfl) dg_spec_RrOk rs_spec_RrOk rfl rfl ?_
  delta c_spec_RrOk T.o X.i C.g
  have n1 := hs.n.len
  have n2 := hs.n.mem
  refine Kbc (kBox Y Y Y Y Y (Ka Y (Kdb (Kc (Kf Y Y (Ke Y Y Y (Kp (ok_spec_NameOk _ pr pr) ⟨⟨⟨Y, trivial⟩, leb⟩, trivial⟩ Y Y Y Y Y (Ka Y (kGS Y (fun g0 => Ki Y (Kf Y Y (Ki Y (Ke Y Y Y (Ki Y (Kp (ok_spec_TypeOk _) ⟨Y, trivial⟩ Y Y Y Y Y (Kk Y (Ka Y (Ka Y (kGS Y (fun g1 => Ki Y (Kf Y Y (Ki Y (Ke Y Y Y (Ki Y (Kj Y Y Y (Kk Y (Ka Y (Ka Y (kGP Y (fun g2 => Ki Y (Kf Y Y (Ki Y (Ke Y Y Y (Ki Y (Kj Y Y Y (Kk Y (Ka Y (Ka Y (kGP Y (fun g3 => Ki Y (Ke Y Y Y (Ki Y (Kp (ok_spec_l3data _ pr) ⟨⟨⟨Y, Y, Y, Y, Y, Y, Y, trivial⟩, leb⟩, trivial⟩ Y Y Y Y Y (Kk Y (Ka Y (Ka Y (Kd (Kr (Er (ra := [.one (.d _)]) rfl ?_)))))))))) (fun g3 => Kg Y (Kg Y (Kl Y (Ka Y (Ka Y (Kd (Kr (Er (ra := [.one (.d _)]) rfl ?_)))))))))))))))))) (fun g2 => Kg Y (Kg Y (Kg Y (Kl Y (Ka Y (Ka Y (Kg Y (Kg Y (Kl Y (Ka Y (Ka Y (Kd (Kr (Er (ra := [.one (.d _)]) rfl ?_)))))))))))))))))))))))) (fun g1 => Kg Y (Kg Y (Kg Y (Kl Y (Ka Y (Ka Y (Kg Y (Kg Y (Kg Y (Kl Y (Ka Y (Ka Y (Kg Y (Kg Y (Kl Y (Ka Y (Ka Y (Kd (Kr (Er (ra := [.one (.d _)]) rfl ?_)))))))))))))))))))))))))))))) (fun g0 => Kg Y (Kg Y (Kg Y (Kl Y (Ka Y (Ka Y (Kg Y (Kg Y (Kg Y (Kl Y (Ka Y (Ka Y (Kg Y (Kg Y (Kg Y (Kl Y (Ka Y (Ka Y (Kg Y (Kg Y (Kl Y (Ka Y (Ka Y (Kd (Kr (Er (ra := [.one (.d _)]) rfl ?_)))))))))))))))))))))))))))))))))))
  all_goals (simp only [rrOk, *]; first | rfl | (simp; done) | (simp; omega))

def c_spec_l2bytes : C := (.g (.o 0 4 (.mov (.i 0)) .done) (.seq (.g (.o 0 5 (.mov (.t 0)) (.o 1 6 (.b2s (.t 5)) (.o 2 7 (.mov (.t 1)) (.o 3 8 (.b2s (.t 7)) (.o 4 9 (.bin .lss (.t 6) (.t 8)) .done))))) (.cond (.t 9) (.g (.o 0 4 (.mov (.i (-1))) .done) .ret) .skip)) (.seq (.g (.o 0 10 (.mov (.t 0)) (.o 1 11 (.b2s (.t 10)) (.o 2 12 (.mov (.t 1)) (.o 3 13 (.b2s (.t 12)) (.o 4 14 (.bin .gtr (.t 11) (.t 13)) .done))))) (.cond (.t 14) (.g (.o 0 4 (.mov (.i 1)) .done) .ret) .skip)) (.g (.o 0 4 (.mov (.i 0)) .done) .ret))))
theorem dg_spec_l2bytes : Tryz.f163.body.bind (digC Tryz.prog Tryz.f163.ntmps []) = some c_spec_l2bytes := by kernel_rfl
theorem rs_spec_l2bytes : resSlots Tryz.prog Tryz.f163 = some [.s 4] := by kernel_rfl
theorem ok_spec_l2bytes (a b : List UInt8) :
    FnOK Tryz.prog 163 [.one (.d (encB a)), .one (.d (encB b))] (fun ra _ => ra = [.one (.d (.sc (.int .i64 (cmpB a b))))]) := by
  refine FnOK.ofK Tryz.func163 (by kernel_rfl) dg_spec_l2bytes rs_spec_l2bytes rfl rfl ?_
  delta c_spec_l2bytes T.o X.i C.g
  refine Kbc (Ka Y (Kdb (Kbc (Ka Y (kB2s Y Y (Ka Y (kB2s Y Y (Kj Y Y Y (Kd (kCond Y (fun g0 => Kbc (Ka Y (Kd (Kr (Er (ra := [.one (.d _)]) rfl ?_))))) (fun g0 => Kn (Kb (Kbc (Ka Y (kB2s Y Y (Ka Y (kB2s Y Y (Kj Y Y Y (Kd (kCondN Y (fun g1 => Kbc (Ka Y (Kd (Kr (Er (ra := [.one (.d _)]) rfl ?_))))) (fun g1 => Kn (Kbc (Ka Y (Kd (Kr (Er (ra := [.one (.d _)]) rfl ?_))))))))))))))))))))))))))
  all_goals simp_all [cmpB]

def c_spec_l2cmp : C := (.g (.o 0 2 (.box 2 (.t 0)) (.o 1 3 (.box 3 (.t 1)) (.o 2 4 (.mov (.i 0)) .done))) (.seq (.g (.o 0 5 (.mov (.i 1)) .done) (.block 0 (.loop (.seq (.g (.o 0 7 (.mov (.t 5)) (.o 1 8 (.fad (.t 2) 0) (.o 2 9 (.load none (.t 8)) (.o 3 10 (.len (.t 9)) (.o 4 11 (.bin .leq (.t 7) (.t 10)) (.o 5 12 (.mov (.t 11)) (.op 6 [] (some 13) (some (12, true)) false (.mov (.t 5)) (.op 7 [] (some 14) (some (12, true)) false (.fad (.t 3) 0) (.op 8 [] (some 15) (some (12, true)) false (.load none (.t 14)) (.op 9 [] (some 16) (some (12, true)) false (.len (.t 15)) (.op 10 [] (some 17) (some (12, true)) false (.bin .leq (.t 13) (.t 16)) (.o 11 18 (.pick (.t 12) (.t 17) (.v (.bool false))) .done)))))))))))) (.cond (.t 18) .skip (.exit 0))) (.seq (.block 1 (.seq (.reg true (.op 0 [] (some 21) none true (.fad (.t 2) 0) (.op 1 [] (some 22) none true (.load none (.t 21)) (.op 2 [] (some 23) none true (.fad (.t 2) 0) (.op 3 [] (some 24) none true (.load none (.t 23)) (.op 4 [] (some 25) none true (.len (.t 24)) (.op 5 [] (some 26) none true (.mov (.t 5)) (.op 6 [] (some 27) none true (.bin .sub (.t 25) (.t 26)) (.op 7 [] (some 28) none true (.iad 1 (.t 22) (.t 27)) (.op 8 [] (some 29) none true (.load none (.t 28)) (.op 9 [] (some 30) none true (.fad (.t 3) 0) (.op 10 [] (some 31) none true (.load none (.t 30)) (.op 11 [] (some 32) none true (.fad (.t 3) 0) (.op 12 [] (some 33) none true (.load none (.t 32)) (.op 13 [] (some 34) none true (.len (.t 33)) (.op 14 [] (some 35) none true (.mov (.t 5)) (.op 15 [] (some 36) none true (.bin .sub (.t 34) (.t 35)) (.op 16 [] (some 37) none true (.iad 1 (.t 31) (.t 36)) (.op 17 [] (some 38) none true (.load none (.t 37)) (.op 18 [8, 1, 3, 17, 10, 12] (some 39) none false (.call 39 163 [(.t 29), (.t 38)]) (.op 19 [] (some 6) none true (.mov (.t 39)) .done))))))))))))))))))))) (.g (.o 0 40 (.mov (.t 6)) (.o 1 41 (.bin .neq (.t 40) (.i 0)) .done)) (.cond (.t 41) (.g (.o 0 42 (.mov (.t 6)) (.o 1 4 (.mov (.t 42)) .done)) .ret) .skip)))) (.reg false (.o 0 19 (.mov (.t 5)) (.o 1 20 (.bin .add (.t 19) (.i 1)) (.o 2 5 (.mov (.t 20)) .done))))))))) (.seq (.g (.o 0 43 (.fad (.t 2) 0) (.o 1 44 (.load none (.t 43)) (.o 2 45 (.len (.t 44)) (.o 3 46 (.fad (.t 3) 0) (.o 4 47 (.load none (.t 46)) (.o 5 48 (.len (.t 47)) (.o 6 49 (.bin .neq (.t 45) (.t 48)) .done))))))) (.cond (.t 49) (.seq (.g (.o 0 50 (.fad (.t 2) 0) (.o 1 51 (.load none (.t 50)) (.o 2 52 (.len (.t 51)) (.o 3 53 (.fad (.t 3) 0) (.o 4 54 (.load none (.t 53)) (.o 5 55 (.len (.t 54)) (.o 6 56 (.bin .lss (.t 52) (.t 55)) .done))))))) (.cond (.t 56) (.g (.o 0 4 (.mov (.i (-1))) .done) .ret) .skip)) (.g (.o 0 4 (.mov (.i 1)) .done) .ret)) .skip)) (.g (.o 0 4 (.mov (.i 0)) .done) .ret))))
theorem dg_spec_l2cmp : Tryz.f82.body.bind (digC Tryz.prog Tryz.f82.ntmps []) = some c_spec_l2cmp := by kernel_rfl
theorem rs_spec_l2cmp : resSlots Tryz.prog Tryz.f82 = some [.s 4] := by kernel_rfl
theorem ok_spec_l2cmp (a b : List (List UInt8)) (ha : a.length ≤ 4194304) (hb : b.length ≤ 4194304) :
    FnOK Tryz.prog 82 [.agg [.d (encBB a)], .agg [.d (encBB b)]] (fun ra _ => ra = [.one (.d (.sc (.int .i64 (cmpN a b))))]) := by
  refine FnOK.ofK Tryz.func82 (by kernel_rfl) dg_spec_l2cmp rs_spec_l2cmp rfl rfl ?_
  delta c_spec_l2cmp T.o X.i C.g
  refine Kbc (kBox Y Y Y Y Y (kBox Y Y Y Y Y (Ka Y (Kdb (Kbc (Ka Y (Kd (Kt ?_))))))))
  refine kLoop (α := { k : Nat // k ≤ a.length ∧ k ≤ b.length ∧ cmpN a b = cmpL (a.reverse.drop k) (b.reverse.drop k) })
    (fun y => ⟨tabSl [(2, .c (.ptr (rid 2 0) 1 0)), (3, .c (.ptr (rid 3 0) 1 0)), (5, .i (y.1 + 1))], obTab 1 [(rid 2 0, ⟨1, 0, .box [.d (encBB a)]⟩), (rid 3 0, ⟨1, 0, .box [.d (encBB b)]⟩)], []⟩) (fun y => a.length - y.1) ⟨0, by simp [cmpN]⟩
    .normA ?_
  rintro ⟨k, h1, h2, h3⟩
  simp only
  rcases Nat.lt_or_ge k a.length with hla | hga
  · rcases Nat.lt_or_ge k b.length with hlb | hgb
    · have hst := cmpL_step a b k hla hlb (a.length - (k + 1) : Int).toNat (b.length - (k + 1) : Int).toNat (by omega) (by omega)
      refine Kb (Kbc (Ka Y (Kf Y Y (Ke Y Y Y (Kq Y Y (Kj Y Y Y (Ka Y (kGP Y (fun g0 => Ki Y (Ka Y (Ki Y (Kf Y Y (Ki Y (Ke Y Y Y (Ki Y (Kq Y Y (Ki Y (Kj Y Y Y (Kk Y (Ka Y (Kd (Km Y (fun g1 => Kn (Kb (Kt (Kb (kRegD (Kf Y Y (Ke Y Y Y (Kf Y Y (Ke Y Y Y (Kq Y Y (Ka Y (kDif Y Y om (kIadT Y Y om (Ky Y Y (Kf Y Y (Ke Y Y Y (Kf Y Y (Ke Y Y Y (Kq Y Y (Ka Y (kDif Y Y om (kIadT Y Y om (Ky Y Y (Ks Y Y (Kp (ok_spec_l2bytes _ _) ⟨Y, Y, trivial⟩ Y Y Y Y Y (Ka Y (Kd (kH (Kbc (Ka Y (Kj Y Y Y (Kd (kCondIN Y (fun g2 => Kbc (Ka Y (Ka Y (Kd (Kr (Er (ra := [.one (.d _)]) rfl ?_)))))) (fun g2 => Kn (Kv (Kc (Ka Y (kAdd Y Y om (Ka Y (Kd ?_)))))))))))))))))))))))))))))))))))))))) (fun g1 => om))))))))))))))) (fun g0 => om)))))))))
      · rw [h3, hst, if_neg (by assumption)]
      · refine kInv ⟨⟨k + 1, hla, hlb, ?_⟩, by simp only; omega, .normA⟩
        rw [h3, hst, if_pos (by assumption)]
    · rw [cmpL_end a b k h1 h2 (by omega)] at h3
      refine Kb (Kbc (Ka Y (Kf Y Y (Ke Y Y Y (Kq Y Y (Kj Y Y Y (Ka Y (kGP Y (fun g0 => Ki Y (Ka Y (Ki Y (Kf Y Y (Ki Y (Ke Y Y Y (Ki Y (Kq Y Y (Ki Y (Kj Y Y Y (Kk Y (Ka Y (Kd (Km Y (fun g1 => om) (fun g1 => kExit (kExC (kExI (kExB (Kb (Kbc (Kf Y Y (Ke Y Y Y (Kq Y Y (Kf Y Y (Ke Y Y Y (Kq Y Y (Kj Y Y Y (Kd (kCondIN Y (fun g2 => Kb (Kbc (Kf Y Y (Ke Y Y Y (Kq Y Y (Kf Y Y (Ke Y Y Y (Kq Y Y (Kj Y Y Y (Kd (Km Y (fun g3 => om) (fun g3 => Kn (Kbc (Ka Y (Kd (Kr (Er (ra := [.one (.d _)]) rfl ?_))))))))))))))))) (fun g2 => om)))))))))))))))))))))))))))))) (fun g0 => om)))))))))
      all_goals (rw [h3]; first | (rw [if_pos (by omega)]; done) | (rw [if_neg (by omega), if_pos (by omega)]; done) | rw [if_neg (by omega), if_neg (by omega)])
  · rw [cmpL_end a b k h1 h2 (by omega)] at h3
    refine Kb (Kbc (Ka Y (Kf Y Y (Ke Y Y Y (Kq Y Y (Kj Y Y Y (Ka Y (kGP Y (fun g0 => om) (fun g0 => Kg Y (Kg Y (Kg Y (Kg Y (Kg Y (Kl Y (Ka Y (Kd (kCondF Y (kExit (kExC (kExI (kExB (Kb (Kbc (Kf Y Y (Ke Y Y Y (Kq Y Y (Kf Y Y (Ke Y Y Y (Kq Y Y (Kj Y Y Y (Kd (kCondIN Y (fun g1 => Kb (Kbc (Kf Y Y (Ke Y Y Y (Kq Y Y (Kf Y Y (Ke Y Y Y (Kq Y Y (Kj Y Y Y (Kd (Km Y (fun g2 => Kbc (Ka Y (Kd (Kr (Er (ra := [.one (.d _)]) rfl ?_))))) (fun g2 => om)))))))))))) (fun g1 => Kn (Kbc (Ka Y (Kd (Kr (Er (ra := [.one (.d _)]) rfl ?_))))))))))))))))))))))))))))))))))))))
    all_goals (rw [h3]; first | (rw [if_pos (by omega)]; done) | (rw [if_neg (by omega), if_pos (by omega)]; done) | rw [if_neg (by omega), if_neg (by omega)])

def c_spec_l2under : C := (.g (.o 0 2 (.box 2 (.t 0)) (.o 1 3 (.box 3 (.t 1)) (.o 2 4 (.mov (.v (.bool false))) .done))) (.g (.o 0 6 (.fad (.t 2) 0) (.o 1 7 (.load none (.t 6)) (.o 2 8 (.len (.t 7)) (.o 3 9 (.fad (.t 3) 0) (.o 4 10 (.load none (.t 9)) (.o 5 11 (.len (.t 10)) (.o 6 12 (.bin .sub (.t 8) (.t 11)) (.o 7 5 (.mov (.t 12)) .done)))))))) (.seq (.reg true (.op 0 [] (some 13) none true (.mov (.t 5)) (.op 1 [] (some 14) none true (.bin .geq (.t 13) (.i 0)) (.op 2 [] (some 15) none true (.mov (.t 14)) (.op 3 [] (some 16) (some (15, true)) true (.fad (.t 2) 0) (.op 4 [] (some 17) (some (15, true)) true (.load none (.t 16)) (.op 5 [] (some 18) (some (15, true)) true (.mov (.t 5)) (.op 6 [] (some 19) (some (15, true)) true (.cut 1 (.t 17) (some (.t 18)) none) (.op 7 [] (some 20) (some (15, true)) true (.build [(.n 1)] [(0, 1, (.t 19))]) (.op 8 [] (some 21) (some (15, true)) true (.load (some 1) (.t 3)) (.op 9 [4, 8] (some 22) (some (15, true)) false (.call 22 82 [(.t 20), (.t 21)]) (.op 10 [] (some 23) (some (15, true)) true (.bin .eql (.t 22) (.i 0)) (.op 11 [] (some 24) none true (.pick (.t 15) (.t 23) (.v (.bool false))) (.op 12 [] (some 4) none true (.mov (.t 24)) .done)))))))))))))) .ret)))
theorem dg_spec_l2under : Tryz.f79.body.bind (digC Tryz.prog Tryz.f79.ntmps []) = some c_spec_l2under := by kernel_rfl
theorem rs_spec_l2under : resSlots Tryz.prog Tryz.f79 = some [.s 4] := by kernel_rfl
theorem ok_spec_l2under (n z : List (List UInt8)) (hn : n.length ≤ 4194304) (hz : z.length ≤ 4194304) :
    FnOK Tryz.prog 79 [.agg [.d (encBB n)], .agg [.d (encBB z)]] (fun ra _ => ra = [.one (.d (.sc (.bool (underN n z))))]) := by
  refine FnOK.ofK Tryz.func79 (by kernel_rfl) dg_spec_l2under rs_spec_l2under rfl rfl ?_
  delta c_spec_l2under T.o X.i C.g
  have hd : (n.drop (n.length - z.length : Int).toNat).length ≤ 4194304 := by simp; omega
  refine Kbc (kBox Y Y Y Y Y (kBox Y Y Y Y Y (Ka Y (Kdb (Kc (Kf Y Y (Ke Y Y Y (Kq Y Y (Kf Y Y (Ke Y Y Y (Kq Y Y (kDif Y Y om (Ka Y (Kdb (kRegD (Ka Y (Kj Y Y Y (Ka Y (kGP Y (fun g0 => Ki Y (Kf Y Y (Ki Y (Ke Y Y Y (Ki Y (Ka Y (Ki Y (kCutLT Y Y om (Ki Y (kBuild Y (Ki Y (Ke Y Y Y (Ks Y Y (Ki Y (Kp (ok_spec_l2cmp _ _ pr pr) ⟨⟨⟨Y, trivial⟩, leb⟩, ⟨⟨Y, trivial⟩, leb⟩, trivial⟩ Y Y Y Y Y (Ki Y (Kj Y Y Y (Kk Y (Ka Y (Ka Y (Kd (kH (Kr (Er (ra := [.one (.d _)]) rfl ?_)))))))))))))))))))))))) (fun g0 => Kg Y (Kg Y (Kg Y (Kg Y (Kg Y (Kg Y (Ks Y Y (Kg Y (Kg Y (Kl Y (Ka Y (Ka Y (Kd (kH (Kr (Er (ra := [.one (.d _)]) rfl ?_)))))))))))))))))))))))))))))))))))
  · rw [cmpN_zero, show (n.length - z.length : Int).toNat = n.length - z.length by omega]
    simp only [underN]
    rw [decide_eq_true (show z.length ≤ n.length by omega), Bool.true_and]
  · rw [show underN n z = false by simp only [underN]; rw [decide_eq_false (by omega)]; rfl]

def c_spec_l3num : C := (.g (.o 0 4 (.mov (.i 0)) .done) (.seq (.g (.o 0 5 (.mov (.t 0)) (.o 1 6 (.mov (.t 1)) (.o 2 7 (.bin .lss (.t 5) (.t 6)) .done))) (.cond (.t 7) (.g (.o 0 4 (.mov (.i (-1))) .done) .ret) .skip)) (.seq (.g (.o 0 8 (.mov (.t 0)) (.o 1 9 (.mov (.t 1)) (.o 2 10 (.bin .gtr (.t 8) (.t 9)) .done))) (.cond (.t 10) (.g (.o 0 4 (.mov (.i 1)) .done) .ret) .skip)) (.g (.o 0 4 (.mov (.i 0)) .done) .ret))))
theorem dg_spec_l3num : Tryz.f162.body.bind (digC Tryz.prog Tryz.f162.ntmps []) = some c_spec_l3num := by kernel_rfl
theorem rs_spec_l3num : resSlots Tryz.prog Tryz.f162 = some [.s 4] := by kernel_rfl
theorem ok_spec_l3num (a b : Int) :
    FnOK Tryz.prog 162 [.one (.d (.sc (.int .i64 a))), .one (.d (.sc (.int .i64 b)))] (fun ra _ => ra = [.one (.d (.sc (.int .i64 (cmpI a b))))]) := by
  refine FnOK.ofK Tryz.func162 (by kernel_rfl) dg_spec_l3num rs_spec_l3num rfl rfl ?_
  delta c_spec_l3num T.o X.i C.g
  refine Kbc (Ka Y (Kdb (Kbc (Ka Y (Ka Y (Kj Y Y Y (Kd (Km Y (fun g0 => Kbc (Ka Y (Kd (Kr (Er (ra := [.one (.d _)]) rfl ?_))))) (fun g0 => Kn (Kb (Kbc (Ka Y (Ka Y (Kj Y Y Y (Kd (Km Y (fun g1 => Kbc (Ka Y (Kd (Kr (Er (ra := [.one (.d _)]) rfl ?_))))) (fun g1 => Kn (Kbc (Ka Y (Kd (Kr (Er (ra := [.one (.d _)]) rfl ?_))))))))))))))))))))))
  all_goals (refine congrArg (fun z : Int => [RA.one (RV.d (DV.sc (Value.int IntKind.i64 z)))]) ?_; unfold cmpI; split <;> first | omega | (split <;> omega))

def c_spec_Put32 : C := (.g (.o 0 4 (.mov (.n 1)) .done) (.g (.o 0 6 (.lit 6 1 [(.v (.int .u8 0))] 0 []) (.o 1 7 (.mov (.t 0)) (.o 2 8 (.app 8 1 1 (.t 6) (.t 7)) (.o 3 5 (.mov (.t 8)) .done)))) (.seq (.g (.o 0 9 (.mov (.t 1)) (.o 1 10 (.bin .lss (.t 9) (.i 0)) (.o 2 11 (.mov (.t 10)) (.op 3 [] (some 12) (some (11, false)) false (.mov (.t 1)) (.op 4 [] (some 13) (some (11, false)) false (.bin .geq (.t 12) (.i 4294967296)) (.o 5 14 (.pick (.t 11) (.v (.bool true)) (.t 13)) .done)))))) (.cond (.t 14) (.g (.o 0 15 (.mov (.t 5)) (.o 1 4 (.mov (.t 15)) .done)) .ret) .skip)) (.g (.o 0 16 (.mov (.t 5)) (.o 1 17 (.mov (.t 1)) (.o 2 18 (.bin .shr (.t 17) (.v (.int .u64 24))) (.o 3 19 (.conv .u8 (.t 18)) (.o 4 20 (.mov (.t 1)) (.o 5 21 (.bin .shr (.t 20) (.v (.int .u64 16))) (.o 6 22 (.conv .u8 (.t 21)) (.o 7 23 (.mov (.t 1)) (.o 8 24 (.bin .shr (.t 23) (.v (.int .u64 8))) (.o 9 25 (.conv .u8 (.t 24)) (.o 10 26 (.mov (.t 1)) (.o 11 27 (.conv .u8 (.t 26)) (.o 12 28 (.lit 28 1 [(.v (.int .u8 0))] 4 [(0, 1, (.t 19)), (1, 1, (.t 22)), (2, 1, (.t 25)), (3, 1, (.t 27))]) (.o 13 29 (.app 29 1 1 (.t 16) (.t 28)) (.o 14 4 (.mov (.t 29)) .done))))))))))))))) .ret))))
theorem dg_spec_Put32 : Tryz.f190.body.bind (digC Tryz.prog Tryz.f190.ntmps []) = some c_spec_Put32 := by kernel_rfl
theorem rs_spec_Put32 : resSlots Tryz.prog Tryz.f190 = some [.s 4] := by kernel_rfl
theorem ok_spec_Put32 (b : List UInt8) (n : Int) (hb : b.length ≤ 16777216) (h0 : 0 ≤ n) (h1 : n < 4294967296) :
    FnOK Tryz.prog 190 [.one (.d (encB b)), .one (.d (.sc (.int .i64 n)))] (fun ra _ => ra = [.one (.own true (encB (b ++ w4 n)))]) := by
  refine FnOK.ofK Tryz.func190 (by kernel_rfl) dg_spec_Put32 rs_spec_Put32 rfl rfl ?_
  delta c_spec_Put32 T.o X.i C.g
  refine Kbc (Ka Y (Kdb (Kc (kLit Y Y Y Y (Ka Y (kAppN Y Y Y (src_encB _ _) rfl rfl rfl rfl om (Ka Y (Kdb (Kbc (Ka Y (Kj Y Y Y (Ka Y (kGP Y (fun g0 => om) (fun g0 => Ki Y (Ka Y (Ki Y (Kj Y Y Y (Kl Y (Ka Y (Kd (Km Y (fun g1 => om) (fun g1 => Kn (Kbc (Ka Y (Ka Y (kShr (m := 24) Y Y Y (kConvU8 Y (Ka Y (kShr (m := 16) Y Y Y (kConvU8 Y (Ka Y (kShr (m := 8) Y Y Y (kConvU8 Y (Ka Y (kConvU8 Y (kLit Y Y Y Y (kAppR4 Y Y Y Y Y Y Y Y om (Ka Y (Kd (Kr (Er (ra := [.one (.own true _)]) rfl rfl)))))))))))))))))))))))))))))))))))))))))
theorem ok_spec_Put32_nil (n : Int) (h0 : 0 ≤ n) (h1 : n < 4294967296) :
    FnOK Tryz.prog 190 [.one (.d (.sl 1 [])), .one (.d (.sc (.int .i64 n)))] (fun ra _ => ra = [.one (.own true (encB (w4 n)))]) := ok_spec_Put32 [] n (Nat.zero_le _) h0 h1

def c_spec_l2put : C := (.g (.o 0 3 (.box 3 (.t 1)) (.o 1 4 (.mov (.n 1)) .done)) (.seq (.g (.o 0 5 (.mov (.i 0)) .done) (.block 0 (.loop (.seq (.g (.o 0 6 (.mov (.t 5)) (.o 1 7 (.fad (.t 3) 0) (.o 2 8 (.load none (.t 7)) (.o 3 9 (.len (.t 8)) (.o 4 10 (.bin .lss (.t 6) (.t 9)) .done))))) (.cond (.t 10) .skip (.exit 0))) (.seq (.block 1 (.reg true (.op 0 [] (some 13) none true (.mov (.t 0)) (.op 1 [] (some 14) none true (.fad (.t 3) 0) (.op 2 [] (some 15) none true (.load none (.t 14)) (.op 3 [] (some 16) none true (.mov (.t 5)) (.op 4 [] (some 17) none true (.iad 1 (.t 15) (.t 16)) (.op 5 [] (some 18) none true (.load none (.t 17)) (.op 6 [] (some 19) none true (.len (.t 18)) (.op 7 [] (some 20) none true (.conv .u8 (.t 19)) (.op 10 [] (some 23) none true (.fad (.t 3) 0) (.op 11 [] (some 24) none true (.load none (.t 23)) (.op 12 [] (some 25) none true (.mov (.t 5)) (.op 13 [] (some 26) none true (.iad 1 (.t 24) (.t 25)) (.op 14 [] (some 27) none true (.load none (.t 26)) (.op 8 [5, 2] (some 21) none false (.lit 21 1 [(.v (.int .u8 0))] 1 [(0, 1, (.t 20))]) (.op 9 [5, 2] (some 22) none false (.app 22 1 1 (.t 13) (.t 21)) (.op 15 [5, 14, 11] (some 28) none false (.app 28 1 1 (.t 22) (.t 27)) (.op 16 [] (some 0) none true (.mov (.t 28)) .done))))))))))))))))))) (.reg false (.o 0 11 (.mov (.t 5)) (.o 1 12 (.bin .add (.t 11) (.i 1)) (.o 2 5 (.mov (.t 12)) .done))))))))) (.g (.o 0 29 (.mov (.t 0)) (.o 1 30 (.lit 30 1 [(.v (.int .u8 0))] 1 [(0, 1, (.v (.int .u8 0)))]) (.o 2 31 (.app 31 1 1 (.t 29) (.t 30)) (.o 3 4 (.mov (.t 31)) .done)))) .ret)))
theorem dg_spec_l2put : Tryz.f236.body.bind (digC Tryz.prog Tryz.f236.ntmps []) = some c_spec_l2put := by kernel_rfl
theorem rs_spec_l2put : resSlots Tryz.prog Tryz.f236 = some [.s 4] := by kernel_rfl
theorem ok_spec_l2put (b : List UInt8) (a : List (List UInt8)) (hs : SmallBB a) (hb : b.length ≤ 16777216) :
    FnOK Tryz.prog 236 [.one (.arr true true (encB b)), .agg [.d (encBB a)]] (fun ra _ => ra = [.one (.own true (encB (b ++ wireN a)))]) := by
  refine FnOK.ofK Tryz.func236 (by kernel_rfl) dg_spec_l2put rs_spec_l2put rfl rfl ?_
  delta c_spec_l2put T.o X.i C.g
  have h1 := hs.len
  have h2 := hs.flat
  refine Kbc (kBox Y Y Y Y Y (Ka Y (Kdb (Kbc (Ka Y (Kd (Kt ?_)))))))
  refine kLoop (α := { i : Nat // i ≤ a.length }) (fun y => ⟨tabSl [(0, .c (.arr 0 1)), (3, .c (.ptr (rid 3 0) 1 0)), (5, .i y.1)], obTab 1 [(0, ⟨1, 0, .arr true (encB (b ++ wireL (a.take y.1)))⟩), (rid 3 0, ⟨1, 0, .box [.d (encBB a)]⟩)], []⟩) (fun y => a.length - y.1) ⟨0, by simp⟩ (by simp only [List.take_zero, wireL, List.flatMap_nil, List.append_nil]; exact .normA) ?_
  rintro ⟨i, hi⟩
  simp only
  have hl := wireL_le a i
  have hl2 : (b ++ wireL (a.take i)).length = b.length + (wireL (a.take i)).length := by simp
  rcases Nat.lt_or_ge i a.length with hlt | hge
  · have hst : b ++ wireL (a.take (i + 1)) = b ++ wireL (a.take i) ++ [u8 a[i].length] ++ a[i] := by rw [wireL_take a i hlt]; simp
    have hm := hs.mem _ (List.getElem_mem hlt)
    have hlen : (b ++ wireL (a.take i) ++ [u8 a[i].length]).length = (b ++ wireL (a.take i)).length + 1 := by simp only [List.length_append, List.length_cons, List.length_nil]
    refine Kb (Kbc (Ka Y (Kf Y Y (Ke Y Y Y (Kq Y Y (Kj Y Y Y (Kd (Km Y (fun g0 => Kn (Kb (Kt (kRegD (Ka Y (Kf Y Y (Ke Y Y Y (Ka Y (kIadR Y Y Y om (Ky Y Y (Kq Y Y (kConvU8 Y (Kf Y Y (Ke Y Y Y (Ka Y (kIadR Y Y Y om (Ky Y Y (Kx Y Y (kLit Y Y Y Y (Kx Y Y (kAppR1 Y Y Y Y Y Y Y Y om (Ks Y Y (kAppR Y Y Y (src_encB _ _) rfl rfl rfl rfl om (Ka Y (Kd (kH (Kv (Kc (Ka Y (kAdd Y Y om (Ka Y (Kd ?_)))))))))))))))))))))))))))))))) (fun g0 => om)))))))))
    refine kInv ⟨⟨i + 1, by omega⟩, by simp only; omega, ?_⟩
    simp only [hst]
    exact .normA
  · have he : b ++ wireN a = b ++ wireL (a.take i) ++ [0] := by rw [show i = a.length by omega, List.take_length]; simp [wireN]
    rw [he]
    refine Kb (Kbc (Ka Y (Kf Y Y (Ke Y Y Y (Kq Y Y (Kj Y Y Y (Kd (Km Y (fun g0 => om) (fun g0 => kExit (kExC (kExI (kExB (Kbc (Ka Y (kLit Y Y Y Y (kAppR1 (z := (0 : UInt8)) rfl rfl rfl rfl rfl rfl rfl rfl om (Ka Y (Kd (Kr (Er (ra := [.one (.own true _)]) rfl rfl))))))))))))))))))))
theorem ok_spec_l2put_nil (a : List (List UInt8)) (hs : SmallBB a) :
    FnOK Tryz.prog 236 [.one (.arr true true (.sl 1 [])), .agg [.d (encBB a)]] (fun ra _ => ra = [.one (.own true (encB (wireN a)))]) := ok_spec_l2put [] a hs (Nat.zero_le _)

def c_spec_l3put : C := (.g (.o 0 1 (.box 1 (.t 0)) (.o 1 2 (.mov (.n 1)) .done)) (.seq (.block 0 (.g (.o 0 4 (.fad (.t 1) 1) (.o 1 5 (.load none (.t 4)) (.o 2 6 (.bin .eql (.t 5) (.i 1)) (.o 3 3 (.mov (.t 6)) .done)))) (.cond (.t 3) (.g (.o 0 7 (.fad (.t 1) 3) (.o 1 8 (.load none (.t 7)) (.o 2 9 (.call 9 190 [(.n 1), (.t 8)]) (.o 3 2 (.mov (.t 9)) .done)))) .ret) (.g (.o 0 11 (.fad (.t 1) 1) (.o 1 12 (.load none (.t 11)) (.o 2 13 (.bin .eql (.t 12) (.i 6)) (.o 3 10 (.mov (.t 13)) .done)))) (.cond (.t 10) (.seq (.reg true (.op 0 [] (some 14) none true (.fad (.t 1) 4) (.op 1 [] (some 15) none true (.load (some 1) (.t 14)) (.op 3 [] (some 17) none true (.fad (.t 1) 6) (.op 4 [] (some 18) none true (.load none (.t 17)) (.op 5 [] (some 19) none true (.iad 1 (.t 18) (.i 0)) (.op 6 [] (some 20) none true (.load none (.t 19)) (.op 8 [] (some 22) none true (.fad (.t 1) 6) (.op 9 [] (some 23) none true (.load none (.t 22)) (.op 10 [] (some 24) none true (.iad 1 (.t 23) (.i 1)) (.op 11 [] (some 25) none true (.load none (.t 24)) (.op 2 [1] (some 16) none false (.call 16 236 [(.n 1), (.t 15)]) (.op 7 [1, 6, 4] (some 21) none false (.call 21 190 [(.t 16), (.t 20)]) (.op 12 [1, 6, 4, 11, 9] (some 26) none false (.call 26 190 [(.t 21), (.t 25)]) (.op 13 [] (some 2) none true (.mov (.t 26)) .done))))))))))))))) .ret) (.g (.o 0 28 (.fad (.t 1) 1) (.o 1 29 (.load none (.t 28)) (.o 2 30 (.call 30 161 [(.t 29)]) (.o 3 27 (.mov (.t 30)) .done)))) (.cond (.t 27) (.g (.o 0 31 (.fad (.t 1) 4) (.o 1 32 (.load (some 1) (.t 31)) (.o 2 33 (.call 33 236 [(.n 1), (.t 32)]) (.o 3 2 (.mov (.t 33)) .done)))) .ret) .skip))))))) (.g (.o 0 34 (.fad (.t 1) 5) (.o 1 35 (.load none (.t 34)) (.o 2 36 (.len (.t 35)) (.o 3 37 (.conv .u8 (.t 36)) (.o 4 38 (.lit 38 1 [(.v (.int .u8 0))] 1 [(0, 1, (.t 37))]) (.o 5 39 (.fad (.t 1) 5) (.o 6 40 (.load none (.t 39)) (.o 7 41 (.app 41 1 1 (.t 38) (.t 40)) (.o 8 2 (.mov (.t 41)) .done))))))))) .ret)))
theorem dg_spec_l3put : Tryz.f164.body.bind (digC Tryz.prog Tryz.f164.ntmps []) = some c_spec_l3put := by kernel_rfl
theorem rs_spec_l3put : resSlots Tryz.prog Tryz.f164 = some [.s 2] := by kernel_rfl
theorem ok_spec_l3put (r : Rr) (hs : SmallR r) (hk : rrOk r = true) :
    FnOK Tryz.prog 164 [.agg (r.cells.map .d)] (fun ra _ => ra = [.one (.own true (encB (rdata r)))]) := by
  refine FnOK.ofK Tryz.func164 (by kernel_rfl) dg_spec_l3put rs_spec_l3put rfl rfl ?_
  delta c_spec_l3put T.o X.i C.g
  have ht := hs.t
  have t1 := hs.t.len
  have t2 := hs.t.flat
  have x1 := hs.x
  have m1 := hs.m
  by_cases h1 : r.ty = 1
  · rw [rdata_A h1]
    have ha := rdata_ad hk h1
    refine Kbc (kBox Y Y Y Y Y (Ka Y (Kdb (Kt (Kbc (Kf Y Y (Ke Y Y Y (Kj Y Y Y (Ka Y (Kd (Km Y (fun g0 => Kbc (Kf Y Y (Ke Y Y Y (Ku true (ok_spec_Put32_nil _ pr pr) ⟨Y, Y, trivial⟩ Y Y Y (fun _ => (Ka Y (Kd (Kr (Er (ra := [.one (.own true _)]) rfl rfl))))))))) (fun g0 => om))))))))))))
  by_cases h6 : r.ty = 6
  · obtain ⟨h2, h3, h4, h5⟩ := rdata_soa hk h6
    rw [h5]
    have w1 := wireN_len r.to
    have w2 : (wireN r.to ++ w4 (r.nums[0]'(by omega))).length = (wireN r.to).length + 4 := by rw [List.length_append, w4_len]
    refine Kbc (kBox Y Y Y Y Y (Ka Y (Kdb (Kt (Kbc (Kf Y Y (Ke Y Y Y (Kj Y Y Y (Ka Y (Kd (Km Y (fun g0 => om) (fun g0 => Kbc (Kf Y Y (Ke Y Y Y (Kj Y Y Y (Ka Y (Kd (Km Y (fun g1 => Kb (kRegD (Kf Y Y (Ke Y Y Y (Kf Y Y (Ke Y Y Y (kIadR (m := 0) Y Y Y om (Ky Y Y (Kf Y Y (Ke Y Y Y (kIadR (m := 1) Y Y Y om (Ky Y Y (Kx Y Y (Ku true (ok_spec_l2put_nil _ pr) ⟨⟨rfl, rfl⟩, ⟨⟨Y, trivial⟩, leb⟩, trivial⟩ Y Y Y (fun _ => (Kx Y Y (Ku true (ok_spec_Put32 _ _ pr pr pr) ⟨Y, Y, trivial⟩ Y Y Y (fun _ => (Ks Y Y (Ku true (ok_spec_Put32 _ _ pr pr pr) ⟨Y, Y, trivial⟩ Y Y Y (fun _ => (Ka Y (Kd (kH (Kr (Er (ra := [.one (.own true _)]) rfl rfl)))))))))))))))))))))))))) (fun g1 => om)))))))))))))))))))
  have hn := rdata_nm hk h6
  cases h2 : hasTo r.ty
  · rw [rdata_text h1 h2]
    refine Kbc (kBox Y Y Y Y Y (Ka Y (Kdb (Kt (Kbc (Kf Y Y (Ke Y Y Y (Kj Y Y Y (Ka Y (Kd (Km Y (fun g0 => om) (fun g0 => Kbc (Kf Y Y (Ke Y Y Y (Kj Y Y Y (Ka Y (Kd (Km Y (fun g1 => om) (fun g1 => Kbc (Kf Y Y (Ke Y Y Y (Kp (ok_spec_l3named _) ⟨Y, trivial⟩ Y Y Y Y Y (Ka Y (Kd (kCond Y (fun g2 => (by (simp [*] at g2))) (fun g2 => Kn (Kv (Kbc (Kf Y Y (Ke Y Y Y (Kq Y Y (kConvU8 Y (kLit Y Y Y Y (Kf Y Y (Ke Y Y Y (kApp1R Y Y (src_encB _ _) rfl rfl rfl rfl rfl om (Ka Y (Kd (Kr (Er (ra := [.one (.own true _)]) rfl rfl))))))))))))))))))))))))))))))))))))))))
  · rw [rdata_to h1 h2, hn, List.flatMap_nil, List.append_nil]
    refine Kbc (kBox Y Y Y Y Y (Ka Y (Kdb (Kt (Kbc (Kf Y Y (Ke Y Y Y (Kj Y Y Y (Ka Y (Kd (Km Y (fun g0 => om) (fun g0 => Kbc (Kf Y Y (Ke Y Y Y (Kj Y Y Y (Ka Y (Kd (Km Y (fun g1 => om) (fun g1 => Kbc (Kf Y Y (Ke Y Y Y (Kp (ok_spec_l3named _) ⟨Y, trivial⟩ Y Y Y Y Y (Ka Y (Kd (kCond Y (fun g2 => Kbc (Kf Y Y (Ke Y Y Y (Ku true (ok_spec_l2put_nil _ pr) ⟨⟨rfl, rfl⟩, ⟨⟨Y, trivial⟩, leb⟩, trivial⟩ Y Y Y (fun _ => (Ka Y (Kd (Kr (Er (ra := [.one (.own true _)]) rfl rfl))))))))) (fun g2 => (by (simp [*] at g2))))))))))))))))))))))))))))

def c_spec_l3cmp : C := (.g (.o 0 2 (.box 2 (.t 0)) (.o 1 3 (.box 3 (.t 1)) (.o 2 4 (.mov (.i 0)) .done))) (.g (.o 0 6 (.fad (.t 2) 0) (.o 1 7 (.load (some 1) (.t 6)) (.o 2 8 (.fad (.t 3) 0) (.o 3 9 (.load (some 1) (.t 8)) (.o 4 10 (.call 10 82 [(.t 7), (.t 9)]) (.o 5 5 (.mov (.t 10)) .done)))))) (.seq (.g (.o 0 11 (.mov (.t 5)) (.o 1 12 (.bin .eql (.t 11) (.i 0)) .done)) (.cond (.t 12) (.reg false (.o 0 13 (.fad (.t 2) 1) (.o 1 14 (.load none (.t 13)) (.o 2 15 (.fad (.t 3) 1) (.o 3 16 (.load none (.t 15)) (.o 4 17 (.call 17 162 [(.t 14), (.t 16)]) (.o 5 5 (.mov (.t 17)) .done))))))) .skip)) (.seq (.g (.o 0 18 (.mov (.t 5)) (.o 1 19 (.bin .eql (.t 18) (.i 0)) .done)) (.cond (.t 19) (.reg true (.op 0 [] (some 20) none true (.load (some 7) (.t 2)) (.op 2 [] (some 22) none true (.load (some 7) (.t 3)) (.op 1 [0] (some 21) none false (.call 21 164 [(.t 20)]) (.op 3 [2, 0] (some 23) none false (.call 23 164 [(.t 22)]) (.op 4 [0, 2] (some 24) none false (.call 24 163 [(.t 21), (.t 23)]) (.op 5 [] (some 5) none true (.mov (.t 24)) .done))))))) .skip)) (.g (.o 0 25 (.mov (.t 5)) (.o 1 4 (.mov (.t 25)) .done)) .ret)))))
theorem dg_spec_l3cmp : Tryz.f80.body.bind (digC Tryz.prog Tryz.f80.ntmps []) = some c_spec_l3cmp := by kernel_rfl
theorem rs_spec_l3cmp : resSlots Tryz.prog Tryz.f80 = some [.s 4] := by kernel_rfl
theorem ok_spec_l3cmp (a b : Rr) (ha : SmallR a) (hb : SmallR b) (ka : rrOk a = true) (kb : rrOk b = true) :
    FnOK Tryz.prog 80 [.agg (a.cells.map .d), .agg (b.cells.map .d)] (fun ra _ => ra = [.one (.d (.sc (.int .i64 (cmpR a b))))]) := by
  refine FnOK.ofK Tryz.func80 (by kernel_rfl) dg_spec_l3cmp rs_spec_l3cmp rfl rfl ?_
  delta c_spec_l3cmp T.o X.i C.g
  have n1 := ha.n.len
  have n2 := hb.n.len
  by_cases h1 : cmpN a.name b.name = 0
  · by_cases h2 : cmpI a.ty b.ty = 0
    · rw [show cmpR a b = cmpB (rdata a) (rdata b) by unfold cmpR; rw [if_pos h1, if_pos h2]]
      refine Kbc (kBox Y Y Y Y Y (kBox Y Y Y Y Y (Ka Y (Kdb (Kc (Kf Y Y (Ke Y Y Y (Kf Y Y (Ke Y Y Y (Kp (ok_spec_l2cmp _ _ pr pr) ⟨⟨⟨Y, trivial⟩, leb⟩, ⟨⟨Y, trivial⟩, leb⟩, trivial⟩ Y Y Y Y Y (Ka Y (Kdb (Kbc (Ka Y (Kj Y Y Y (Kd (Km Y (fun g0 => Kc (Kf Y Y (Ke Y Y Y (Kf Y Y (Ke Y Y Y (Kp (ok_spec_l3num _ _) ⟨Y, Y, trivial⟩ Y Y Y Y Y (Ka Y (Kdb (Kbc (Ka Y (Kj Y Y Y (Kd (Km Y (fun g1 => kRegD (Ke Y Y Y (Ke Y Y Y (Kx Y Y (Ku true (ok_spec_l3put _ pr pr) ⟨⟨⟨Y, Y, Y, Y, Y, Y, Y, trivial⟩, leb⟩, trivial⟩ Y Y Y (fun _ => (Ks Y Y (Ku true (ok_spec_l3put _ pr pr) ⟨⟨⟨Y, Y, Y, Y, Y, Y, Y, trivial⟩, leb⟩, trivial⟩ Y Y Y (fun _ => (Ks Y Y (Kp (ok_spec_l2bytes _ _) ⟨Y, Y, trivial⟩ Y Y Y Y Y (Ka Y (Kd (kH (Kbc (Ka Y (Ka Y (Kd (Kr (Er (ra := [.one (.d _)]) rfl rfl)))))))))))))))))))) (fun g1 => om)))))))))))))) (fun g0 => om))))))))))))))))))
    · rw [show cmpR a b = cmpI a.ty b.ty by unfold cmpR; rw [if_pos h1, if_neg h2]]
      refine Kbc (kBox Y Y Y Y Y (kBox Y Y Y Y Y (Ka Y (Kdb (Kc (Kf Y Y (Ke Y Y Y (Kf Y Y (Ke Y Y Y (Kp (ok_spec_l2cmp _ _ pr pr) ⟨⟨⟨Y, trivial⟩, leb⟩, ⟨⟨Y, trivial⟩, leb⟩, trivial⟩ Y Y Y Y Y (Ka Y (Kdb (Kbc (Ka Y (Kj Y Y Y (Kd (Km Y (fun g0 => Kc (Kf Y Y (Ke Y Y Y (Kf Y Y (Ke Y Y Y (Kp (ok_spec_l3num _ _) ⟨Y, Y, trivial⟩ Y Y Y Y Y (Ka Y (Kdb (Kbc (Ka Y (Kj Y Y Y (Kd (Km Y (fun g1 => om) (fun g1 => Kn (Kbc (Ka Y (Ka Y (Kd (Kr (Er (ra := [.one (.d _)]) rfl rfl)))))))))))))))))))) (fun g0 => om))))))))))))))))))
  · rw [show cmpR a b = cmpN a.name b.name by unfold cmpR; rw [if_neg h1]]
    refine Kbc (kBox Y Y Y Y Y (kBox Y Y Y Y Y (Ka Y (Kdb (Kc (Kf Y Y (Ke Y Y Y (Kf Y Y (Ke Y Y Y (Kp (ok_spec_l2cmp _ _ pr pr) ⟨⟨⟨Y, trivial⟩, leb⟩, ⟨⟨Y, trivial⟩, leb⟩, trivial⟩ Y Y Y Y Y (Ka Y (Kdb (Kbc (Ka Y (Kj Y Y Y (Kd (Km Y (fun g0 => om) (fun g0 => Kn (Kb (Kbc (Ka Y (Kj Y Y Y (Kd (Km Y (fun g1 => om) (fun g1 => Kn (Kbc (Ka Y (Ka Y (Kd (Kr (Er (ra := [.one (.d _)]) rfl rfl)))))))))))))))))))))))))))))))

def c_spec_l5alone : C := (.g (.o 0 4 (.mov (.v (.bool false))) .done) (.seq (.g (.o 0 6 (.mov (.t 0)) (.o 1 7 (.mov (.t 1)) (.o 2 8 (.iad 7 (.t 6) (.t 7)) (.o 3 9 (.fad (.t 8) 1) (.o 4 10 (.load none (.t 9)) (.o 5 11 (.bin .neq (.t 10) (.i 5)) .done)))))) (.cond (.t 11) (.g (.o 0 4 (.mov (.v (.bool true))) .done) .ret) .skip)) (.seq (.g (.o 0 5 (.mov (.i 0)) .done) (.block 0 (.loop (.seq (.g (.o 0 12 (.mov (.t 5)) (.o 1 13 (.mov (.t 0)) (.o 2 14 (.len (.t 13)) (.o 3 15 (.bin .lss (.t 12) (.t 14)) .done)))) (.cond (.t 15) .skip (.exit 0))) (.seq (.block 1 (.seq (.reg true (.op 0 [] (some 18) none true (.mov (.t 5)) (.op 1 [] (some 19) none true (.mov (.t 1)) (.op 2 [] (some 20) none true (.bin .neq (.t 18) (.t 19)) (.op 3 [] (some 21) none true (.mov (.t 20)) (.op 4 [] (some 22) (some (21, true)) true (.mov (.t 0)) (.op 5 [] (some 23) (some (21, true)) true (.mov (.t 5)) (.op 6 [] (some 24) (some (21, true)) true (.iad 7 (.t 22) (.t 23)) (.op 7 [] (some 25) (some (21, true)) true (.fad (.t 24) 0) (.op 8 [] (some 26) (some (21, true)) true (.load (some 1) (.t 25)) (.op 9 [] (some 27) (some (21, true)) true (.mov (.t 0)) (.op 10 [] (some 28) (some (21, true)) true (.mov (.t 1)) (.op 11 [] (some 29) (some (21, true)) true (.iad 7 (.t 27) (.t 28)) (.op 12 [] (some 30) (some (21, true)) true (.fad (.t 29) 0) (.op 13 [] (some 31) (some (21, true)) true (.load (some 1) (.t 30)) (.op 14 [8, 13] (some 32) (some (21, true)) false (.call 32 82 [(.t 26), (.t 31)]) (.op 15 [] (some 33) (some (21, true)) true (.bin .eql (.t 32) (.i 0)) (.op 16 [] (some 34) none true (.pick (.t 21) (.t 33) (.v (.bool false))) .done)))))))))))))))))) (.cond (.t 34) (.g (.o 0 4 (.mov (.v (.bool false))) .done) .ret) .skip))) (.reg false (.o 0 16 (.mov (.t 5)) (.o 1 17 (.bin .add (.t 16) (.i 1)) (.o 2 5 (.mov (.t 17)) .done))))))))) (.g (.o 0 4 (.mov (.v (.bool true))) .done) .ret))))
theorem dg_spec_l5alone : Tryz.f81.body.bind (digC Tryz.prog Tryz.f81.ntmps []) = some c_spec_l5alone := by kernel_rfl
theorem rs_spec_l5alone : resSlots Tryz.prog Tryz.f81 = some [.s 4] := by kernel_rfl
theorem ok_spec_l5alone (l : List Rr) (i : Nat) (hs : SmallRs l) (hi : i < l.length) :
    FnOK Tryz.prog 81 [.one (.d (encR l)), .one (.d (.sc (.int .i64 i)))] (fun ra _ => ra = [.one (.d (.sc (.bool (aloneR l i))))]) := by
  refine FnOK.ofK Tryz.func81 (by kernel_rfl) dg_spec_l5alone rs_spec_l5alone rfl rfl ?_
  delta c_spec_l5alone T.o X.i C.g
  have h1 := hs.len
  have hbi := hs.mem _ (List.getElem_mem hi)
  have n1 := hbi.n.len
  by_cases p : l[i].ty = 5
  · refine Kbc (Ka Y (Kdb (Kbc (Ka Y (Ka Y (kIadR Y Y Y om (kFadD Y (Ky Y Y (Kj Y Y Y (Kd (kCondIN Y (fun g0 => om) (fun g0 => Kn (Kb (Kbc (Ka Y (Kd (Kt ?_)))))))))))))))))
    refine kLoop (α := { k : Nat // k ≤ l.length ∧ ∀ j, (h : j < k) → (h' : j < l.length) → j ≠ i → l[j].name ≠ l[i].name }) (fun y => ⟨tabSl [(0, .dv (encR l)), (1, .i i), (5, .i y.1)], obTab 1 [], []⟩) (fun y => l.length - y.1) ⟨0, by simp, fun _ h => by omega⟩ .normA ?_
    rintro ⟨k, hk, hn⟩
    simp only
    rcases Nat.lt_or_ge k l.length with hlt | hge
    · have hbk := hs.mem _ (List.getElem_mem hlt)
      have n2 := hbk.n.len
      have hz := cmpN_zero l[k].name l[i].name
      by_cases p1 : k = i
      · refine Kb (Kbc (Ka Y (Ka Y (Kq Y Y (Kj Y Y Y (Kd (Km Y (fun g0 => Kn (Kb (Kt (Kb (kRegD (Ka Y (Ka Y (Kj Y Y Y (Ka Y (kGIN Y (fun g1 => om) (fun g1 => Kg Y (Kg Y (Kg Y (Kg Y (Kg Y (Kg Y (Kg Y (Kg Y (Kg Y (Kg Y (Ks Y Y (Kg Y (Kg Y (Kl Y (Ka Y (Kd (kH (kCondF Y (Kn (Kv (Kc (Ka Y (kAdd Y Y om (Ka Y (Kd ?_))))))))))))))))))))))))))))))))))) (fun g0 => om))))))))
        refine kInv ⟨⟨k + 1, by omega, fun j h h' hne => hn j om h' hne⟩, by simp only; omega, .normA⟩
      · by_cases p2 : l[k].name = l[i].name
        · have hc : cmpN l[k].name l[i].name = 0 := by simpa [p2] using hz
          rw [show aloneR l i = false by rw [aloneR_no hi p hlt p1 p2]]
          refine Kb (Kbc (Ka Y (Ka Y (Kq Y Y (Kj Y Y Y (Kd (Km Y (fun g0 => Kn (Kb (Kt (Kb (kRegD (Ka Y (Ka Y (Kj Y Y Y (Ka Y (kGIN Y (fun g1 => Ki Y (Ka Y (Ki Y (Ka Y (Ki Y (kIadR Y Y Y om (Ki Y (kFadD Y (Ki Y (Ky Y Y (Ki Y (Ka Y (Ki Y (Ka Y (Ki Y (kIadR Y Y Y om (Ki Y (kFadD Y (Ki Y (Ky Y Y (Ks Y Y (Ki Y (Kp (ok_spec_l2cmp _ _ pr pr) ⟨⟨⟨Y, trivial⟩, leb⟩, ⟨⟨Y, trivial⟩, leb⟩, trivial⟩ Y Y Y Y Y (Ki Y (Kj Y Y Y (Kk Y (Ka Y (Kd (kH (Km Y (fun g2 => Kbc (Ka Y (Kd (Kr (Er (ra := [.one (.d _)]) rfl rfl))))) (fun g2 => om))))))))))))))))))))))))))))))) (fun g1 => om))))))))))) (fun g0 => om))))))))
        · have hc : cmpN l[k].name l[i].name ≠ 0 := by simpa [p2] using hz
          refine Kb (Kbc (Ka Y (Ka Y (Kq Y Y (Kj Y Y Y (Kd (Km Y (fun g0 => Kn (Kb (Kt (Kb (kRegD (Ka Y (Ka Y (Kj Y Y Y (Ka Y (kGIN Y (fun g1 => Ki Y (Ka Y (Ki Y (Ka Y (Ki Y (kIadR Y Y Y om (Ki Y (kFadD Y (Ki Y (Ky Y Y (Ki Y (Ka Y (Ki Y (Ka Y (Ki Y (kIadR Y Y Y om (Ki Y (kFadD Y (Ki Y (Ky Y Y (Ks Y Y (Ki Y (Kp (ok_spec_l2cmp _ _ pr pr) ⟨⟨⟨Y, trivial⟩, leb⟩, ⟨⟨Y, trivial⟩, leb⟩, trivial⟩ Y Y Y Y Y (Ki Y (Kj Y Y Y (Kk Y (Ka Y (Kd (kH (Km Y (fun g2 => om) (fun g2 => Kn (Kv (Kc (Ka Y (kAdd Y Y om (Ka Y (Kd ?_))))))))))))))))))))))))))))))))))))) (fun g1 => om))))))))))) (fun g0 => om))))))))
          refine kInv ⟨⟨k + 1, by omega, fun j h h' hne => ?_⟩, by simp only; omega, .normA⟩
          by_cases e : j = k
          · subst e; exact p2
          · exact hn j (by omega) h' hne
    · rw [show aloneR l i = true by exact aloneR_yes hi fun j h' hne => hn j (by omega) h' hne]
      refine Kb (Kbc (Ka Y (Ka Y (Kq Y Y (Kj Y Y Y (Kd (Km Y (fun g0 => om) (fun g0 => kExit (kExC (kExI (kExB (Kbc (Ka Y (Kd (Kr (Er (ra := [.one (.d _)]) rfl rfl))))))))))))))))
  · rw [show aloneR l i = true by exact aloneR_ty hi p]
    refine Kbc (Ka Y (Kdb (Kbc (Ka Y (Ka Y (kIadR Y Y Y om (kFadD Y (Ky Y Y (Kj Y Y Y (Kd (kCondIN Y (fun g0 => Kbc (Ka Y (Kd (Kr (Er (ra := [.one (.d _)]) rfl rfl))))) (fun g0 => om))))))))))))

def c_spec_ZoneOk : C := (.g (.o 0 1 (.box 1 (.t 0)) (.o 1 2 (.mov (.v (.bool false))) .done)) (.seq (.g (.o 0 6 (.fad (.t 1) 0) (.o 1 7 (.load (some 1) (.t 6)) (.o 2 8 (.call 8 78 [(.t 7)]) (.o 3 9 (.un .not (.t 8)) (.o 4 10 (.mov (.t 9)) (.op 5 [] (some 11) (some (10, false)) false (.fad (.t 1) 1) (.op 6 [] (some 12) (some (10, false)) false (.load none (.t 11)) (.op 7 [] (some 13) (some (10, false)) false (.len (.t 12)) (.op 8 [] (some 14) (some (10, false)) false (.bin .gtr (.t 13) (.i 60)) (.o 9 15 (.pick (.t 10) (.v (.bool true)) (.t 14)) .done)))))))))) (.cond (.t 15) (.g (.o 0 2 (.mov (.v (.bool false))) .done) .ret) .skip)) (.g (.o 0 3 (.mov (.i 0)) .done) (.seq (.g (.o 0 4 (.mov (.i 0)) .done) (.block 0 (.loop (.seq (.g (.o 0 16 (.mov (.t 4)) (.o 1 17 (.fad (.t 1) 1) (.o 2 18 (.load none (.t 17)) (.o 3 19 (.len (.t 18)) (.o 4 20 (.bin .lss (.t 16) (.t 19)) .done))))) (.cond (.t 20) .skip (.exit 0))) (.seq (.block 1 (.g (.o 0 23 (.fad (.t 1) 1) (.o 1 24 (.load none (.t 23)) (.o 2 25 (.mov (.t 4)) (.o 3 26 (.iad 7 (.t 24) (.t 25)) (.o 4 27 (.load (some 7) (.t 26)) (.o 5 5 (.alloc 5 [(.n 1), (.i 0), (.i 0), (.i 0), (.n 1), (.n 1), (.n 1)]) (.op 6 [] none none false (.store (some 7) (.t 5) (.t 27)) .done))))))) (.seq (.seq (.reg true (.op 0 [] (some 28) none true (.load (some 7) (.t 5)) (.op 1 [0] (some 29) none false (.call 29 22 [(.t 28)]) (.op 2 [] (some 30) none true (.un .not (.t 29)) (.op 3 [] (some 31) none true (.mov (.t 30)) (.op 4 [] (some 32) (some (31, false)) true (.fad (.t 5) 0) (.op 5 [] (some 33) (some (31, false)) true (.load (some 1) (.t 32)) (.op 6 [] (some 34) (some (31, false)) true (.fad (.t 1) 0) (.op 7 [] (some 35) (some (31, false)) true (.load (some 1) (.t 34)) (.op 8 [5, 0, 7] (some 36) (some (31, false)) false (.call 36 79 [(.t 33), (.t 35)]) (.op 9 [] (some 37) (some (31, false)) true (.un .not (.t 36)) (.op 10 [] (some 38) none true (.pick (.t 31) (.v (.bool true)) (.t 37)) (.op 11 [] (some 39) none true (.mov (.t 38)) (.op 12 [] (some 40) (some (39, false)) true (.mov (.t 4)) (.op 13 [] (some 41) (some (39, false)) true (.bin .gtr (.t 40) (.i 0)) (.op 14 [] (some 42) (some (39, false)) true (.mov (.t 41)) (.op 15 [] (some 43) (some (42, true)) true (.fad (.t 1) 1) (.op 16 [] (some 44) (some (42, true)) true (.load none (.t 43)) (.op 17 [] (some 45) (some (42, true)) true (.mov (.t 4)) (.op 18 [] (some 46) (some (42, true)) true (.bin .sub (.t 45) (.i 1)) (.op 19 [] (some 47) (some (42, true)) true (.iad 7 (.t 44) (.t 46)) (.op 20 [] (some 48) (some (42, true)) true (.load (some 7) (.t 47)) (.op 21 [] (some 49) (some (42, true)) true (.load (some 7) (.t 5)) (.op 22 [20, 16, 5, 7, 21, 0] (some 50) (some (42, true)) false (.call 50 80 [(.t 48), (.t 49)]) (.op 23 [] (some 51) (some (42, true)) true (.bin .geq (.t 50) (.i 0)) (.op 24 [] (some 52) (some (39, false)) true (.pick (.t 42) (.t 51) (.v (.bool false))) (.op 25 [] (some 53) none true (.pick (.t 39) (.v (.bool true)) (.t 52)) (.op 26 [] (some 54) none true (.mov (.t 53)) (.op 27 [] (some 55) (some (54, false)) true (.fad (.t 1) 1) (.op 28 [] (some 56) (some (54, false)) true (.load none (.t 55)) (.op 29 [] (some 57) (some (54, false)) true (.mov (.t 4)) (.op 30 [28, 20, 21, 5, 7, 16] (some 58) (some (54, false)) false (.call 58 81 [(.t 56), (.t 57)]) (.op 31 [] (some 59) (some (54, false)) true (.un .not (.t 58)) (.op 32 [] (some 60) none true (.pick (.t 54) (.v (.bool true)) (.t 59)) .done)))))))))))))))))))))))))))))))))) (.cond (.t 60) (.g (.o 0 2 (.mov (.v (.bool false))) .done) .ret) .skip)) (.g (.o 0 61 (.fad (.t 5) 1) (.o 1 62 (.load none (.t 61)) (.o 2 63 (.bin .eql (.t 62) (.i 6)) .done))) (.cond (.t 63) (.g (.o 0 64 (.mov (.t 3)) (.o 1 65 (.bin .add (.t 64) (.i 1)) (.o 2 3 (.mov (.t 65)) .done))) (.g (.o 0 66 (.fad (.t 5) 0) (.o 1 67 (.load (some 1) (.t 66)) (.o 2 68 (.fad (.t 1) 0) (.o 3 69 (.load (some 1) (.t 68)) (.o 4 70 (.call 70 82 [(.t 67), (.t 69)]) (.o 5 71 (.bin .neq (.t 70) (.i 0)) .done)))))) (.cond (.t 71) (.g (.o 0 2 (.mov (.v (.bool false))) .done) .ret) .skip))) .skip))))) (.reg false (.o 0 21 (.mov (.t 4)) (.o 1 22 (.bin .add (.t 21) (.i 1)) (.o 2 4 (.mov (.t 22)) .done))))))))) (.g (.o 0 72 (.mov (.t 3)) (.o 1 73 (.bin .eql (.t 72) (.i 1)) (.o 2 2 (.mov (.t 73)) .done))) .ret)))))
theorem dg_spec_ZoneOk : Tryz.f21.body.bind (digC Tryz.prog Tryz.f21.ntmps []) = some c_spec_ZoneOk := by kernel_rfl
theorem rs_spec_ZoneOk : resSlots Tryz.prog Tryz.f21 = some [.s 2] := by kernel_rfl
theorem ok_spec_ZoneOk (z : Zone) (hs : SmallZ z) :
    FnOK Tryz.prog 21 [.agg (z.cells.map .d)] (fun ra _ => ra = [.one (.d (.sc (.bool (zoneOk z))))]) := by
  refine FnOK.ofK Tryz.func21 (by kernel_rfl) dg_spec_ZoneOk rs_spec_ZoneOk rfl rfl ?_
  delta c_spec_ZoneOk T.o X.i C.g
  have o1 := hs.o.len
  have o2 := hs.o.mem
  have h1 := hs.r.len
  have hm := hs.r.mem
  have hr := hs.r
  cases a1 : nameOk z.origin
  · rw [show zoneOk z = false by unfold zoneOk; rw [a1]; rfl]
    refine Kbc (kBox Y Y Y Y Y (Ka Y (Kdb (Kbc (Kf Y Y (Ke Y Y Y (Kp (ok_spec_NameOk _ pr pr) ⟨⟨⟨Y, trivial⟩, leb⟩, trivial⟩ Y Y Y Y Y (Kw Y Y (Ka Y (kGN Y (fun g0 => Kg Y (Kg Y (Kg Y (Kg Y (Kk Y (Ka Y (Kd (kCondT Y (Kbc (Ka Y (Kd (Kr (Er (ra := [.one (.d _)]) rfl rfl))))))))))))) (fun g0 => (by (simp [*] at g0)))))))))))))
  by_cases a2 : z.rrs.length ≤ 60
  case neg =>
    rw [show zoneOk z = false by unfold zoneOk; rw [decide_eq_false a2]; simp]
    refine Kbc (kBox Y Y Y Y Y (Ka Y (Kdb (Kbc (Kf Y Y (Ke Y Y Y (Kp (ok_spec_NameOk _ pr pr) ⟨⟨⟨Y, trivial⟩, leb⟩, trivial⟩ Y Y Y Y Y (Kw Y Y (Ka Y (kGN Y (fun g0 => (by (simp [*] at g0))) (fun g0 => Ki Y (Kf Y Y (Ki Y (Ke Y Y Y (Ki Y (Kq Y Y (Ki Y (Kj Y Y Y (Kl Y (Ka Y (Kd (Km Y (fun g1 => Kbc (Ka Y (Kd (Kr (Er (ra := [.one (.d _)]) rfl rfl))))) (fun g1 => om)))))))))))))))))))))))
  refine Kbc (kBox Y Y Y Y Y (Ka Y (Kdb (Kbc (Kf Y Y (Ke Y Y Y (Kp (ok_spec_NameOk _ pr pr) ⟨⟨⟨Y, trivial⟩, leb⟩, trivial⟩ Y Y Y Y Y (Kw Y Y (Ka Y (kGN Y (fun g0 => (by (simp [*] at g0))) (fun g0 => Ki Y (Kf Y Y (Ki Y (Ke Y Y Y (Ki Y (Kq Y Y (Ki Y (Kj Y Y Y (Kl Y (Ka Y (Kd (Km Y (fun g1 => om) (fun g1 => Kn (Kbc (Ka Y (Kdb (Kbc (Ka Y (Kd (Kt ?_))))))))))))))))))))))))))))))
  refine kLoop (α := { i : Nat // i ≤ z.rrs.length ∧ (List.range i).all (zAt z) = true ∧ (z.rrs.take i).all rrOk = true }) (fun y => ⟨tabSl [(1, .c (.ptr (rid 1 0) 1 0)), (3, .i (zTops (z.rrs.take y.1))), (4, .i y.1)], obTab 1 [(rid 1 0, ⟨1, 0, .box (z.cells.map .d)⟩)], []⟩) (fun y => z.rrs.length - y.1) ⟨0, by simp⟩ .normA ?_
  rintro ⟨i, hi, hz, hal⟩
  simp only
  have ht := zTops_le z.rrs i
  rcases Nat.lt_or_ge i z.rrs.length with hlt | hge
  · have hbi := hm _ (List.getElem_mem hlt)
    have n1 := hbi.n.len
    have n2 := hbi.n.mem
    have hts := zTops_succ z.rrs i hlt
    have hq := zAt_eq hlt
    have hcz := cmpN_zero z.rrs[i].name z.origin
    cases hk : rrOk z.rrs[i]
    · rw [show zoneOk z = false by unfold zoneOk; rw [all_no hlt hk]; simp]
      refine Kb (Kbc (Ka Y (Kf Y Y (Ke Y Y Y (Kq Y Y (Kj Y Y Y (Kd (Km Y (fun g0 => Kn (Kb (Kt (Kbc (Kf Y Y (Ke Y Y Y (Ka Y (kIadR Y Y Y om (Ky Y Y (kAlloc Y Y (Ko Y Y Y Y (Kdb (Kb (kRegD (Ke Y Y Y (Ks Y Y (Kp (ok_spec_RrOk _ pr) ⟨⟨⟨Y, Y, Y, Y, Y, Y, Y, trivial⟩, leb⟩, trivial⟩ Y Y Y Y Y (Kw Y Y (Ka Y (kGN Y (fun g1 => Kg Y (Kg Y (Kg Y (Kg Y (Ks Y Y (Kg Y (Kg Y (Kk Y (Ka Y (Ka Y (Kg Y (Kg Y (Kg Y (kGU Y (kGU Y (kGU Y (kGU Y (kGU Y (kGU Y (kGU Y (Ks Y Y (kGU Y (kGU Y (Kg Y (Kk Y (Ka Y (Ka Y (Kg Y (Kg Y (Kg Y (Ks Y Y (Kg Y (Kg Y (Kk Y (Ka Y (Kd (kH (kCondT Y (Kbc (Ka Y (Kd (Kr (Er (ra := [.one (.d _)]) rfl rfl))))))))))))))))))))))))))))))))))))))))))) (fun g1 => (by (simp [*] at g1))))))))))))))))))))))) (fun g0 => om)))))))))
    have kp : rrOk (z.rrs[((i : Int) - 1).toNat]'(by omega)) = true := by
      rcases Nat.eq_zero_or_pos i with h0 | h0
      · have e : ((i : Int) - 1).toNat = i := by omega
        simp only [e]; exact hk
      · have e : ((i : Int) - 1).toNat = i - 1 := by omega
        simp only [e]
        exact List.all_eq_true.1 hal _ (by rw [List.mem_take_iff_getElem]; exact ⟨i - 1, by omega, rfl⟩)
    refine Kb ?_
    refine Kbc (Ka Y (Kf Y Y (Ke Y Y Y (Kq Y Y (Kj Y Y Y (Kd (Km Y (fun g0 => Kn (Kb (Kt (Kbc (Kf Y Y (Ke Y Y Y (Ka Y (kIadR Y Y Y om (Ky Y Y (kAlloc Y Y (Ko Y Y Y Y (Kdb (Kb (kRegD (Ke Y Y Y (Ks Y Y (Kp (ok_spec_RrOk _ pr) ⟨⟨⟨Y, Y, Y, Y, Y, Y, Y, trivial⟩, leb⟩, trivial⟩ Y Y Y Y Y (Kw Y Y (Ka Y (kGN Y (fun g1 => (by (simp [*] at g1))) (fun g1 => Ki Y (Kf Y Y (Ki Y (Ke Y Y Y (Ki Y (Kf Y Y (Ki Y (Ke Y Y Y (Ks Y Y (Ki Y (Kp (ok_spec_l2under _ _ pr pr) ⟨⟨⟨Y, trivial⟩, leb⟩, ⟨⟨Y, trivial⟩, leb⟩, trivial⟩ Y Y Y Y Y (Ki Y (Kw Y Y (Kl Y (Ka Y (Ka Y (kGN Y (fun g2 => Kg Y (Kg Y (Kg Y (kGU Y (kGU Y (kGU Y (kGU Y (kGU Y (kGU Y (kGU Y (Ks Y Y (kGU Y (kGU Y (Kg Y (Kk Y (Ka Y (Ka Y (Kg Y (Kg Y (Kg Y (Ks Y Y (Kg Y (Kg Y (Kk Y (Ka Y (Kd (kH (kCondT Y (Kbc (Ka Y (Kd (Kr (Er (ra := [.one (.d _)]) rfl ?_))))))))))))))))))))))))))))))))) (fun g2 => Ki Y (Ka Y (Ki Y (Kj Y Y Y (Ki Y (Ka Y (kGP Y (fun g3 => Ki Y (Kf Y Y (Ki Y (Ke Y Y Y (Ki Y (Ka Y (Ki Y (kDif Y Y om (Ki Y (kIadT Y Y om (Ki Y (Ky Y Y (Ki Y (Ke Y Y Y (Ks Y Y (Ki Y (Kp (ok_spec_l3cmp _ _ pr pr pr pr) ⟨⟨⟨Y, Y, Y, Y, Y, Y, Y, trivial⟩, leb⟩, ⟨⟨Y, Y, Y, Y, Y, Y, Y, trivial⟩, leb⟩, trivial⟩ Y Y Y Y Y (Ki Y (Kj Y Y Y (Ki Y (Kk Y (Ka Y (Kl Y (Ka Y (Ka Y (kGP Y (fun g4 => Kg Y (Kg Y (Kg Y (Ks Y Y (Kg Y (Kg Y (Kk Y (Ka Y (Kd (kH (kCondT Y (Kbc (Ka Y (Kd (Kr (Er (ra := [.one (.d _)]) rfl ?_)))))))))))))))) (fun g4 => Ki Y (Kf Y Y (Ki Y (Ke Y Y Y (Ki Y (Ka Y (Ks Y Y (Ki Y (Kp (ok_spec_l5alone _ _ pr pr) ⟨Y, Y, trivial⟩ Y Y Y Y Y (Ki Y (Kw Y Y (Kl Y (Ka Y (Kd (kH (kCondN Y (fun g5 => Kbc (Ka Y (Kd (Kr (Er (ra := [.one (.d _)]) rfl ?_))))) (fun g5 => Kn (Kbc (Kf Y Y (Ke Y Y Y (Kj Y Y Y (Kd (Km Y (fun g6 => Kbc (Ka Y (kAdd Y Y om (Ka Y (Kdb (Kc (Kf Y Y (Ke Y Y Y (Kf Y Y (Ke Y Y Y (Kp (ok_spec_l2cmp _ _ pr pr) ⟨⟨⟨Y, trivial⟩, leb⟩, ⟨⟨Y, trivial⟩, leb⟩, trivial⟩ Y Y Y Y Y (Kj Y Y Y (Kd (kCondIN Y (fun g7 => Kbc (Ka Y (Kd (Kr (Er (ra := [.one (.d _)]) rfl ?_))))) (fun g7 => Kn (Kv (Kc (Ka Y (kAdd Y Y om (Ka Y (Kd ?_))))))))))))))))))))) (fun g6 => Kn (Kv (Kc (Ka Y (kAdd Y Y om (Ka Y (Kd ?_)))))))))))))))))))))))))))))))))))))))))))))))))))))))) (fun g3 => Kg Y (Kg Y (Kg Y (Kg Y (Kg Y (Kg Y (Kg Y (Ks Y Y (Kg Y (Kg Y (Ki Y (Kl Y (Ka Y (Kl Y (Ka Y (Ka Y (Ki Y (Kf Y Y (Ki Y (Ke Y Y Y (Ki Y (Ka Y (Ks Y Y (Ki Y (Kp (ok_spec_l5alone _ _ pr pr) ⟨Y, Y, trivial⟩ Y Y Y Y Y (Ki Y (Kw Y Y (Kl Y (Ka Y (Kd (kH (kCondN Y (fun g8 => Kbc (Ka Y (Kd (Kr (Er (ra := [.one (.d _)]) rfl ?_))))) (fun g8 => Kn (Kbc (Kf Y Y (Ke Y Y Y (Kj Y Y Y (Kd (Km Y (fun g9 => Kbc (Ka Y (kAdd Y Y om (Ka Y (Kdb (Kc (Kf Y Y (Ke Y Y Y (Kf Y Y (Ke Y Y Y (Kp (ok_spec_l2cmp _ _ pr pr) ⟨⟨⟨Y, trivial⟩, leb⟩, ⟨⟨Y, trivial⟩, leb⟩, trivial⟩ Y Y Y Y Y (Kj Y Y Y (Kd (kCondIN Y (fun g10 => Kbc (Ka Y (Kd (Kr (Er (ra := [.one (.d _)]) rfl ?_))))) (fun g10 => Kn (Kv (Kc (Ka Y (kAdd Y Y om (Ka Y (Kd ?_))))))))))))))))))))) (fun g9 => Kn (Kv (Kc (Ka Y (kAdd Y Y om (Ka Y (Kd ?_)))))))))))))))))))))))))))))))))))))))))))))))))))))))))))))))))))))))))))))))))))))))))) (fun g0 => om))))))))
    all_goals first
      | (refine congrArg (fun z : Bool => [RA.one (RV.d (DV.sc (Value.bool z)))]) (zone_no hlt (Bool.eq_false_iff.2 fun h => ?_)).symm
         rw [hq] at h
         simp only [Bool.and_eq_true, decide_eq_true_eq, Bool.or_eq_true, Bool.not_eq_true', beq_eq_false_iff_ne] at h
         obtain ⟨⟨⟨k1, k2⟩, k3⟩, k4⟩ := h
         first
           | (rw [prevB_pos (by omega) hlt (by omega), decide_eq_true_eq] at k2; omega)
           | (simp_all; done)
           | (simp_all; omega))
      | (have e1 : prevB z.rrs i = true := by
           first
             | (rw [prevB_pos (by omega) hlt (by omega)]; exact decide_eq_true (by omega))
             | (have : i = 0 := by omega
                subst this; exact prevB_zero)
         have e2 : aloneR z.rrs i = true := by
           first
             | assumption
             | (simp [*]; done)
             | (rw [decide_eq_true (by omega)]; simp)
         have e3 : (!(z.rrs[i].ty == 6) || decide (z.rrs[i].name = z.origin)) = true := by
           first
             | (simp [*]; done)
             | (simp_all; done)
         first
           | rw [if_pos (by assumption)] at hts
           | rw [if_neg (by assumption)] at hts
         have hz' : zAt z i = true := by rw [hq, e1, e2, e3]; simp [*]
         exact kInv ⟨⟨i + 1, by omega, range_all hz hz', all_step hlt hal hk⟩, by simp only; omega, .normA⟩)
  · rw [show zoneOk z = decide (zTops z.rrs = 1) by unfold zoneOk; rw [a1, decide_eq_true a2, show (List.range z.rrs.length).all (zAt z) = true by rw [show z.rrs.length = i by omega]; exact hz, show z.rrs.all rrOk = true by rw [show i = z.rrs.length by omega, List.take_length] at hal; exact hal]; rfl]
    refine Kb (Kbc (Ka Y (Kf Y Y (Ke Y Y Y (Kq Y Y (Kj Y Y Y (Kd (Km Y (fun g0 => om) (fun g0 => kExit (kExC (kExI (kExB (Kbc (Ka Y (Kj Y Y Y (Ka Y (Kd (Kr (Er (ra := [.one (.d _)]) rfl ?_)))))))))))))))))))
    rw [show i = z.rrs.length by omega, List.take_length]
    rfl

def c_spec_l5add : C := (.g (.o 0 2 (.box 2 (.t 0)) (.o 1 3 (.box 3 (.t 1)) (.o 2 4 (.alloc 4 [(.n 1), (.n 7)]) .done))) (.g (.o 0 10 (.fad (.t 2) 0) (.o 1 11 (.load (some 1) (.t 10)) (.o 2 12 (.build [(.n 1), (.n 7)] [(0, 1, (.t 11))]) (.o 3 5 (.alloc 5 [(.n 1), (.n 7)]) (.op 4 [] none none false (.store (some 2) (.t 5) (.t 12)) .done))))) (.g (.o 0 6 (.mov (.v (.bool false))) .done) (.seq (.g (.o 0 7 (.mov (.i 0)) .done) (.block 0 (.loop (.seq (.g (.o 0 13 (.mov (.t 7)) (.o 1 14 (.fad (.t 2) 1) (.o 2 15 (.load none (.t 14)) (.o 3 16 (.len (.t 15)) (.o 4 17 (.bin .lss (.t 13) (.t 16)) .done))))) (.cond (.t 17) .skip (.exit 0))) (.seq (.block 1 (.g (.o 0 20 (.fad (.t 2) 1) (.o 1 21 (.load none (.t 20)) (.o 2 22 (.mov (.t 7)) (.o 3 23 (.iad 7 (.t 21) (.t 22)) (.o 4 24 (.load (some 7) (.t 23)) (.o 5 8 (.alloc 8 [(.n 1), (.i 0), (.i 0), (.i 0), (.n 1), (.n 1), (.n 1)]) (.op 6 [] none none false (.store (some 7) (.t 8) (.t 24)) .done))))))) (.seq (.g (.o 0 25 (.fad (.t 8) 0) (.o 1 26 (.load (some 1) (.t 25)) (.o 2 27 (.fad (.t 3) 0) (.o 3 28 (.load (some 1) (.t 27)) (.o 4 29 (.call 29 82 [(.t 26), (.t 28)]) (.o 5 30 (.bin .eql (.t 29) (.i 0)) (.o 6 31 (.mov (.t 30)) (.op 7 [] (some 32) (some (31, true)) false (.fad (.t 8) 1) (.op 8 [] (some 33) (some (31, true)) false (.load none (.t 32)) (.op 9 [] (some 34) (some (31, true)) false (.fad (.t 3) 1) (.op 10 [] (some 35) (some (31, true)) false (.load none (.t 34)) (.op 11 [] (some 36) (some (31, true)) false (.bin .eql (.t 33) (.t 35)) (.o 12 37 (.pick (.t 31) (.t 36) (.v (.bool false))) .done))))))))))))) (.cond (.t 37) (.reg false (.o 0 38 (.fad (.t 3) 2) (.o 1 39 (.load none (.t 38)) (.o 2 40 (.fad (.t 8) 2) (.op 3 [] none none false (.store none (.t 40) (.t 39)) .done))))) .skip)) (.g (.o 0 41 (.load (some 7) (.t 3)) (.o 1 42 (.load (some 7) (.t 8)) (.o 2 43 (.call 43 80 [(.t 41), (.t 42)]) (.o 3 9 (.mov (.t 43)) .done)))) (.seq (.g (.o 0 44 (.mov (.t 6)) (.o 1 45 (.un .not (.t 44)) (.o 2 46 (.mov (.t 45)) (.op 3 [] (some 47) (some (46, true)) false (.mov (.t 9)) (.op 4 [] (some 48) (some (46, true)) false (.bin .leq (.t 47) (.i 0)) (.o 5 49 (.pick (.t 46) (.t 48) (.v (.bool false))) .done)))))) (.cond (.t 49) (.g (.o 0 50 (.fad (.t 5) 1) (.o 1 51 (.load none (.t 50)) (.o 2 52 (.load (some 7) (.t 3)) (.o 3 53 (.lit 53 7 [(.n 1), (.i 0), (.i 0), (.i 0), (.n 1), (.n 1), (.n 1)] 1 [(0, 7, (.t 52))]) (.o 4 54 (.app 54 7 120 (.t 51) (.t 53)) (.o 5 55 (.fad (.t 5) 1) (.op 6 [] none none false (.store none (.t 55) (.t 54)) .done))))))) (.reg false (.o 0 6 (.mov (.v (.bool true))) .done))) .skip)) (.g (.o 0 56 (.mov (.t 9)) (.o 1 57 (.bin .neq (.t 56) (.i 0)) .done)) (.cond (.t 57) (.reg false (.o 0 58 (.fad (.t 5) 1) (.o 1 59 (.load none (.t 58)) (.o 2 60 (.load (some 7) (.t 8)) (.o 3 61 (.lit 61 7 [(.n 1), (.i 0), (.i 0), (.i 0), (.n 1), (.n 1), (.n 1)] 1 [(0, 7, (.t 60))]) (.o 4 62 (.app 62 7 120 (.t 59) (.t 61)) (.o 5 63 (.fad (.t 5) 1) (.op 6 [] none none false (.store none (.t 63) (.t 62)) .done)))))))) .skip))))))) (.reg false (.o 0 18 (.mov (.t 7)) (.o 1 19 (.bin .add (.t 18) (.i 1)) (.o 2 7 (.mov (.t 19)) .done))))))))) (.seq (.g (.o 0 64 (.mov (.t 6)) (.o 1 65 (.un .not (.t 64)) .done)) (.cond (.t 65) (.reg false (.o 0 66 (.fad (.t 5) 1) (.o 1 67 (.load none (.t 66)) (.o 2 68 (.load (some 7) (.t 3)) (.o 3 69 (.lit 69 7 [(.n 1), (.i 0), (.i 0), (.i 0), (.n 1), (.n 1), (.n 1)] 1 [(0, 7, (.t 68))]) (.o 4 70 (.app 70 7 120 (.t 67) (.t 69)) (.o 5 71 (.fad (.t 5) 1) (.op 6 [] none none false (.store none (.t 71) (.t 70)) .done)))))))) .skip)) (.g (.o 0 72 (.load (some 2) (.t 5)) (.op 1 [] none none false (.store (some 2) (.t 4) (.t 72)) .done)) .ret))))))
theorem dg_spec_l5add : Tryz.f55.body.bind (digC Tryz.prog Tryz.f55.ntmps []) = some c_spec_l5add := by kernel_rfl
theorem rs_spec_l5add : resSlots Tryz.prog Tryz.f55 = some [.m 4 (some 2)] := by kernel_rfl
theorem ok_spec_l5add (z : Zone) (r : Rr) (hs : SmallZ z) (hr : SmallR r) (ho : rrOk r = true) (hm : ∀ x ∈ z.rrs, rrOk x = true) (hl : z.rrs.length ≤ 1000000) :
    FnOK Tryz.prog 55 [.agg (z.cells.map .d), .agg (r.cells.map .d)] (fun ra _ => ra = [.agg [.d (encBB z.origin), .d (encR (addL z.rrs r))]]) := by
  refine FnOK.ofK Tryz.func55 (by kernel_rfl) dg_spec_l5add rs_spec_l5add rfl rfl ?_
  delta c_spec_l5add T.o X.i C.g
  have r1 := hr.n.len
  refine Kbc (kBox Y Y Y Y Y (kBox Y Y Y Y Y (kAlloc Y Y (Kdb (Kc (Kf Y Y (Ke Y Y Y (kBuildG Y (kAlloc Y Y (Ko Y Y Y Y (Kdb (Kc (Ka Y (Kdb (Kbc (Ka Y (Kd (Kt ?_))))))))))))))))))
  refine kSub (Sub.nilBox (id := rid 5 0) (id2 := rid 5000 0) (j := 1) rfl rfl rfl (by decide) (by decide)) ?_
  refine kLoop (α := { i : Nat // i ≤ z.rrs.length }) (fun y => ⟨tabSl [(2, .c (.ptr (rid 2 0) 1 0)), (3, .c (.ptr (rid 3 0) 1 0)), (4, .c (.ptr (rid 4 0) 1 0)), (5, .c (.ptr (rid 5 0) 1 0)), (6, .b (addAt (z.rrs.take y.1) r).2), (7, .i y.1)], obTab 1 [(rid 2 0, ⟨1, 0, .box (z.cells.map .d)⟩), (rid 3 0, ⟨1, 0, .box (r.cells.map .d)⟩), (rid 4 0, ⟨1, 0, .box [.nil 1, .nil 7]⟩), (rid 5 0, ⟨1, 0, .box [.d (encBB z.origin), .arr (rid 5000 0) 1]⟩), (rid 5000 0, ⟨1, 0, .arr false (encR (addAt (z.rrs.take y.1) r).1)⟩)], []⟩) (fun y => z.rrs.length - y.1) ⟨0, by simp⟩ .normA ?_
  rintro ⟨i, hi⟩
  simp only
  have hle := addAt_len z.rrs r i
  rcases Nat.lt_or_ge i z.rrs.length with hlt | hge
  · have hbi := hs.r.mem _ (List.getElem_mem hlt)
    have hok := hm _ (List.getElem_mem hlt)
    have n1 := hbi.n.len
    have hst := addAt_succ z.rrs r i hlt
    have hsm := ttlR_small (r := r) hbi
    have hok2 := ttlR_ok ho hok
    have hct := cmpR_ttl r z.rrs[i]
    revert hst hle
    generalize addAt (z.rrs.take i) r = S
    obtain ⟨L, p⟩ := S
    intro hle hst
    simp only at hle hst ⊢
    generalize hrow : z.rrs[i] = x at *
    by_cases e1 : x.name = r.name ∧ x.ty = r.ty
    · have ht : ttlR r x = (⟨x.name, x.ty, r.ttl, x.addr, x.to, x.text, x.nums⟩ : Rr) := by unfold ttlR; rw [if_pos e1]
      obtain ⟨e2, e3⟩ := e1
      have e4 : cmpN x.name r.name = 0 := (cmpN_iff _ _).2 e2
      rw [ht] at hsm hok2 hct
      have ok3 := ok_spec_l3cmp r (⟨x.name, x.ty, r.ttl, x.addr, x.to, x.text, x.nums⟩ : Rr) hr hsm ho hok2
      rw [hct] at ok3
      cases p
      · rcases Int.lt_trichotomy (cmpR r x) 0 with hc | hc | hc
        · have hs2 : addAt (z.rrs.take (i + 1)) r = (L ++ [r] ++ [(⟨x.name, x.ty, r.ttl, x.addr, x.to, x.text, x.nums⟩ : Rr)], true) := by
            rw [hst]
            have c1 : decide (cmpR r x ≤ 0) = true := by exact decide_eq_true (by omega)
            unfold addSt
            simp only [ht, c1]
            rw [if_neg (by omega), if_pos ⟨trivial, by omega⟩]
            rfl
          refine Kb (Kbc (Ka Y (Kf Y Y (Ke Y Y Y (Kq Y Y (Kj Y Y Y (Kd (Km Y (fun g0 => Kn (Kb (Kt (Kbc (Kf Y Y (Ke Y Y Y (Ka Y (kIadRW Y Y Y prl hrow (Ky Y Y (kAlloc Y Y (Ko Y Y Y Y (Kdb (Kbc (Kf Y Y (Ke Y Y Y (Kf Y Y (Ke Y Y Y (Kp (ok_spec_l2cmp _ _ pry pry) ⟨⟨⟨Y, trivial⟩, leb⟩, ⟨⟨Y, trivial⟩, leb⟩, trivial⟩ Y Y Y Y Y (Kj Y Y Y (Ka Y (kGP Y (fun g1 => (Ki Y (Kf Y Y (Ki Y (Ke Y Y Y (Ki Y (Kf Y Y (Ki Y (Ke Y Y Y (Ki Y (Kj Y Y Y (Kk Y (Ka Y (Kd (Km Y (fun g2 => Kc (Kf Y Y (Ke Y Y Y (Kf Y Y (Ko Y Y Y Y (Kdb (Kc (Ke Y Y Y (Ke Y Y Y ?_))))))))) (fun g2 => om)))))))))))))))) (fun g1 => om)))))))))))))))))))))) (fun g0 => om)))))))))
          refine Kp ok3 ⟨⟨⟨Y, Y, Y, Y, Y, Y, Y, trivial⟩, leb⟩, ⟨⟨Y, Y, Y, Y, Y, Y, Y, trivial⟩, leb⟩, trivial⟩ Y Y Y Y Y ?_
          refine Ka Y (Kdb (Kbc (Ka Y (Kw Y Y (Ka Y (Ki Y (Ka Y (Ki Y (Kj Y Y Y (Kk Y (Ka Y (Kd (Km Y (fun g0 => Kbc (Kf Y Y (Ke Y Y Y (Ke Y Y Y (kLitG Y Y Y Y (kAppRec Y Y Y Y Y Y Y prl (Kf Y Y (Ko Y Y Y Y (Kd (Kc (Ka Y (Kdb (Kc (Ka Y (Kj Y Y Y (Kd (kCondIN Y (fun g1 => Kc (Kf Y Y (Ke Y Y Y (Ke Y Y Y (kLitG Y Y Y Y (kAppRec Y Y Y Y Y Y Y prl (Kf Y Y (Ko Y Y Y Y (Kd (Kv (Kc (Ka Y (kAdd Y Y om (Ka Y (Kd ?_))))))))))))))) (fun g1 => om)))))))))))))))))) (fun g0 => om))))))))))))))
          refine kInv ⟨⟨i + 1, by omega⟩, by simp only; omega, ?_⟩
          simp only [hs2]
          exact .normA
        · have hs2 : addAt (z.rrs.take (i + 1)) r = (L ++ [r], true) := by
            rw [hst]
            have c1 : decide (cmpR r x ≤ 0) = true := by exact decide_eq_true (by omega)
            unfold addSt
            simp only [ht, c1]
            rw [if_pos hc, if_pos ⟨trivial, by omega⟩]
            rfl
          refine Kb (Kbc (Ka Y (Kf Y Y (Ke Y Y Y (Kq Y Y (Kj Y Y Y (Kd (Km Y (fun g0 => Kn (Kb (Kt (Kbc (Kf Y Y (Ke Y Y Y (Ka Y (kIadRW Y Y Y prl hrow (Ky Y Y (kAlloc Y Y (Ko Y Y Y Y (Kdb (Kbc (Kf Y Y (Ke Y Y Y (Kf Y Y (Ke Y Y Y (Kp (ok_spec_l2cmp _ _ pry pry) ⟨⟨⟨Y, trivial⟩, leb⟩, ⟨⟨Y, trivial⟩, leb⟩, trivial⟩ Y Y Y Y Y (Kj Y Y Y (Ka Y (kGP Y (fun g1 => (Ki Y (Kf Y Y (Ki Y (Ke Y Y Y (Ki Y (Kf Y Y (Ki Y (Ke Y Y Y (Ki Y (Kj Y Y Y (Kk Y (Ka Y (Kd (Km Y (fun g2 => Kc (Kf Y Y (Ke Y Y Y (Kf Y Y (Ko Y Y Y Y (Kdb (Kc (Ke Y Y Y (Ke Y Y Y ?_))))))))) (fun g2 => om)))))))))))))))) (fun g1 => om)))))))))))))))))))))) (fun g0 => om)))))))))
          refine Kp ok3 ⟨⟨⟨Y, Y, Y, Y, Y, Y, Y, trivial⟩, leb⟩, ⟨⟨Y, Y, Y, Y, Y, Y, Y, trivial⟩, leb⟩, trivial⟩ Y Y Y Y Y ?_
          refine Ka Y (Kdb (Kbc (Ka Y (Kw Y Y (Ka Y (Ki Y (Ka Y (Ki Y (Kj Y Y Y (Kk Y (Ka Y (Kd (Km Y (fun g0 => Kbc (Kf Y Y (Ke Y Y Y (Ke Y Y Y (kLitG Y Y Y Y (kAppRec Y Y Y Y Y Y Y prl (Kf Y Y (Ko Y Y Y Y (Kd (Kc (Ka Y (Kdb (Kc (Ka Y (Kj Y Y Y (Kd (kCondIN Y (fun g1 => om) (fun g1 => Kn (Kv (Kc (Ka Y (kAdd Y Y om (Ka Y (Kd ?_)))))))))))))))))))))))) (fun g0 => om))))))))))))))
          refine kInv ⟨⟨i + 1, by omega⟩, by simp only; omega, ?_⟩
          simp only [hs2]
          exact .normA
        · have hs2 : addAt (z.rrs.take (i + 1)) r = (L ++ [(⟨x.name, x.ty, r.ttl, x.addr, x.to, x.text, x.nums⟩ : Rr)], false) := by
            rw [hst]
            have c1 : decide (cmpR r x ≤ 0) = false := by exact decide_eq_false (by omega)
            unfold addSt
            simp only [ht, c1]
            rw [if_neg (by omega), if_neg (fun h => by omega)]
            rfl
          refine Kb (Kbc (Ka Y (Kf Y Y (Ke Y Y Y (Kq Y Y (Kj Y Y Y (Kd (Km Y (fun g0 => Kn (Kb (Kt (Kbc (Kf Y Y (Ke Y Y Y (Ka Y (kIadRW Y Y Y prl hrow (Ky Y Y (kAlloc Y Y (Ko Y Y Y Y (Kdb (Kbc (Kf Y Y (Ke Y Y Y (Kf Y Y (Ke Y Y Y (Kp (ok_spec_l2cmp _ _ pry pry) ⟨⟨⟨Y, trivial⟩, leb⟩, ⟨⟨Y, trivial⟩, leb⟩, trivial⟩ Y Y Y Y Y (Kj Y Y Y (Ka Y (kGP Y (fun g1 => (Ki Y (Kf Y Y (Ki Y (Ke Y Y Y (Ki Y (Kf Y Y (Ki Y (Ke Y Y Y (Ki Y (Kj Y Y Y (Kk Y (Ka Y (Kd (Km Y (fun g2 => Kc (Kf Y Y (Ke Y Y Y (Kf Y Y (Ko Y Y Y Y (Kdb (Kc (Ke Y Y Y (Ke Y Y Y ?_))))))))) (fun g2 => om)))))))))))))))) (fun g1 => om)))))))))))))))))))))) (fun g0 => om)))))))))
          refine Kp ok3 ⟨⟨⟨Y, Y, Y, Y, Y, Y, Y, trivial⟩, leb⟩, ⟨⟨Y, Y, Y, Y, Y, Y, Y, trivial⟩, leb⟩, trivial⟩ Y Y Y Y Y ?_
          refine Ka Y (Kdb (Kbc (Ka Y (Kw Y Y (Ka Y (Ki Y (Ka Y (Ki Y (Kj Y Y Y (Kk Y (Ka Y (Kd (Km Y (fun g0 => om) (fun g0 => Kn (Kbc (Ka Y (Kj Y Y Y (Kd (kCondIN Y (fun g1 => Kc (Kf Y Y (Ke Y Y Y (Ke Y Y Y (kLitG Y Y Y Y (kAppRec Y Y Y Y Y Y Y prl (Kf Y Y (Ko Y Y Y Y (Kd (Kv (Kc (Ka Y (kAdd Y Y om (Ka Y (Kd ?_))))))))))))))) (fun g1 => om))))))))))))))))))))
          refine kInv ⟨⟨i + 1, by omega⟩, by simp only; omega, ?_⟩
          simp only [hs2]
          exact .normA
      · rcases Int.lt_trichotomy (cmpR r x) 0 with hc | hc | hc
        · have hs2 : addAt (z.rrs.take (i + 1)) r = (L ++ [(⟨x.name, x.ty, r.ttl, x.addr, x.to, x.text, x.nums⟩ : Rr)], true) := by
            rw [hst]
            have c1 : decide (cmpR r x ≤ 0) = true := by exact decide_eq_true (by omega)
            unfold addSt
            simp only [ht, c1]
            rw [if_neg (by omega), if_neg (fun h => by cases h.1)]
            rfl
          refine Kb (Kbc (Ka Y (Kf Y Y (Ke Y Y Y (Kq Y Y (Kj Y Y Y (Kd (Km Y (fun g0 => Kn (Kb (Kt (Kbc (Kf Y Y (Ke Y Y Y (Ka Y (kIadRW Y Y Y prl hrow (Ky Y Y (kAlloc Y Y (Ko Y Y Y Y (Kdb (Kbc (Kf Y Y (Ke Y Y Y (Kf Y Y (Ke Y Y Y (Kp (ok_spec_l2cmp _ _ pry pry) ⟨⟨⟨Y, trivial⟩, leb⟩, ⟨⟨Y, trivial⟩, leb⟩, trivial⟩ Y Y Y Y Y (Kj Y Y Y (Ka Y (kGP Y (fun g1 => (Ki Y (Kf Y Y (Ki Y (Ke Y Y Y (Ki Y (Kf Y Y (Ki Y (Ke Y Y Y (Ki Y (Kj Y Y Y (Kk Y (Ka Y (Kd (Km Y (fun g2 => Kc (Kf Y Y (Ke Y Y Y (Kf Y Y (Ko Y Y Y Y (Kdb (Kc (Ke Y Y Y (Ke Y Y Y ?_))))))))) (fun g2 => om)))))))))))))))) (fun g1 => om)))))))))))))))))))))) (fun g0 => om)))))))))
          refine Kp ok3 ⟨⟨⟨Y, Y, Y, Y, Y, Y, Y, trivial⟩, leb⟩, ⟨⟨Y, Y, Y, Y, Y, Y, Y, trivial⟩, leb⟩, trivial⟩ Y Y Y Y Y ?_
          refine Ka Y (Kdb (Kbc (Ka Y (Kw Y Y (Ka Y (Kg Y (Kg Y (Kl Y (Ka Y (Kd (kCondF Y (Kn (Kbc (Ka Y (Kj Y Y Y (Kd (kCondIN Y (fun g0 => Kc (Kf Y Y (Ke Y Y Y (Ke Y Y Y (kLitG Y Y Y Y (kAppRec Y Y Y Y Y Y Y prl (Kf Y Y (Ko Y Y Y Y (Kd (Kv (Kc (Ka Y (kAdd Y Y om (Ka Y (Kd ?_))))))))))))))) (fun g0 => om))))))))))))))))))
          refine kInv ⟨⟨i + 1, by omega⟩, by simp only; omega, ?_⟩
          simp only [hs2]
          exact .normA
        · have hs2 : addAt (z.rrs.take (i + 1)) r = (L, true) := by
            rw [hst]
            have c1 : decide (cmpR r x ≤ 0) = true := by exact decide_eq_true (by omega)
            unfold addSt
            simp only [ht, c1]
            rw [if_pos hc, if_neg (fun h => by cases h.1)]
            rfl
          refine Kb (Kbc (Ka Y (Kf Y Y (Ke Y Y Y (Kq Y Y (Kj Y Y Y (Kd (Km Y (fun g0 => Kn (Kb (Kt (Kbc (Kf Y Y (Ke Y Y Y (Ka Y (kIadRW Y Y Y prl hrow (Ky Y Y (kAlloc Y Y (Ko Y Y Y Y (Kdb (Kbc (Kf Y Y (Ke Y Y Y (Kf Y Y (Ke Y Y Y (Kp (ok_spec_l2cmp _ _ pry pry) ⟨⟨⟨Y, trivial⟩, leb⟩, ⟨⟨Y, trivial⟩, leb⟩, trivial⟩ Y Y Y Y Y (Kj Y Y Y (Ka Y (kGP Y (fun g1 => (Ki Y (Kf Y Y (Ki Y (Ke Y Y Y (Ki Y (Kf Y Y (Ki Y (Ke Y Y Y (Ki Y (Kj Y Y Y (Kk Y (Ka Y (Kd (Km Y (fun g2 => Kc (Kf Y Y (Ke Y Y Y (Kf Y Y (Ko Y Y Y Y (Kdb (Kc (Ke Y Y Y (Ke Y Y Y ?_))))))))) (fun g2 => om)))))))))))))))) (fun g1 => om)))))))))))))))))))))) (fun g0 => om)))))))))
          refine Kp ok3 ⟨⟨⟨Y, Y, Y, Y, Y, Y, Y, trivial⟩, leb⟩, ⟨⟨Y, Y, Y, Y, Y, Y, Y, trivial⟩, leb⟩, trivial⟩ Y Y Y Y Y ?_
          refine Ka Y (Kdb (Kbc (Ka Y (Kw Y Y (Ka Y (Kg Y (Kg Y (Kl Y (Ka Y (Kd (kCondF Y (Kn (Kbc (Ka Y (Kj Y Y Y (Kd (kCondIN Y (fun g0 => om) (fun g0 => Kn (Kv (Kc (Ka Y (kAdd Y Y om (Ka Y (Kd ?_))))))))))))))))))))))))
          refine kInv ⟨⟨i + 1, by omega⟩, by simp only; omega, ?_⟩
          simp only [hs2]
          exact .normA
        · have hs2 : addAt (z.rrs.take (i + 1)) r = (L ++ [(⟨x.name, x.ty, r.ttl, x.addr, x.to, x.text, x.nums⟩ : Rr)], true) := by
            rw [hst]
            have c1 : decide (cmpR r x ≤ 0) = false := by exact decide_eq_false (by omega)
            unfold addSt
            simp only [ht, c1]
            rw [if_neg (by omega), if_neg (fun h => by omega)]
            rfl
          refine Kb (Kbc (Ka Y (Kf Y Y (Ke Y Y Y (Kq Y Y (Kj Y Y Y (Kd (Km Y (fun g0 => Kn (Kb (Kt (Kbc (Kf Y Y (Ke Y Y Y (Ka Y (kIadRW Y Y Y prl hrow (Ky Y Y (kAlloc Y Y (Ko Y Y Y Y (Kdb (Kbc (Kf Y Y (Ke Y Y Y (Kf Y Y (Ke Y Y Y (Kp (ok_spec_l2cmp _ _ pry pry) ⟨⟨⟨Y, trivial⟩, leb⟩, ⟨⟨Y, trivial⟩, leb⟩, trivial⟩ Y Y Y Y Y (Kj Y Y Y (Ka Y (kGP Y (fun g1 => (Ki Y (Kf Y Y (Ki Y (Ke Y Y Y (Ki Y (Kf Y Y (Ki Y (Ke Y Y Y (Ki Y (Kj Y Y Y (Kk Y (Ka Y (Kd (Km Y (fun g2 => Kc (Kf Y Y (Ke Y Y Y (Kf Y Y (Ko Y Y Y Y (Kdb (Kc (Ke Y Y Y (Ke Y Y Y ?_))))))))) (fun g2 => om)))))))))))))))) (fun g1 => om)))))))))))))))))))))) (fun g0 => om)))))))))
          refine Kp ok3 ⟨⟨⟨Y, Y, Y, Y, Y, Y, Y, trivial⟩, leb⟩, ⟨⟨Y, Y, Y, Y, Y, Y, Y, trivial⟩, leb⟩, trivial⟩ Y Y Y Y Y ?_
          refine Ka Y (Kdb (Kbc (Ka Y (Kw Y Y (Ka Y (Kg Y (Kg Y (Kl Y (Ka Y (Kd (kCondF Y (Kn (Kbc (Ka Y (Kj Y Y Y (Kd (kCondIN Y (fun g0 => Kc (Kf Y Y (Ke Y Y Y (Ke Y Y Y (kLitG Y Y Y Y (kAppRec Y Y Y Y Y Y Y prl (Kf Y Y (Ko Y Y Y Y (Kd (Kv (Kc (Ka Y (kAdd Y Y om (Ka Y (Kd ?_))))))))))))))) (fun g0 => om))))))))))))))))))
          refine kInv ⟨⟨i + 1, by omega⟩, by simp only; omega, ?_⟩
          simp only [hs2]
          exact .normA
    · have ht : ttlR r x = x := by unfold ttlR; rw [if_neg e1]
      have e4 : ¬ (cmpN x.name r.name = 0 ∧ x.ty = r.ty) := fun h => e1 ⟨(cmpN_iff _ _).1 h.1, h.2⟩
      cases p
      · rcases Int.lt_trichotomy (cmpR r x) 0 with hc | hc | hc
        · have hs2 : addAt (z.rrs.take (i + 1)) r = (L ++ [r] ++ [x], true) := by
            rw [hst]
            have c1 : decide (cmpR r x ≤ 0) = true := by exact decide_eq_true (by omega)
            unfold addSt
            simp only [ht, c1]
            rw [if_neg (by omega), if_pos ⟨trivial, by omega⟩]
            rfl
          refine Kb (Kbc (Ka Y (Kf Y Y (Ke Y Y Y (Kq Y Y (Kj Y Y Y (Kd (Km Y (fun g0 => Kn (Kb (Kt (Kbc (Kf Y Y (Ke Y Y Y (Ka Y (kIadRW Y Y Y prl hrow (Ky Y Y (kAlloc Y Y (Ko Y Y Y Y (Kdb (Kbc (Kf Y Y (Ke Y Y Y (Kf Y Y (Ke Y Y Y (Kp (ok_spec_l2cmp _ _ pry pry) ⟨⟨⟨Y, trivial⟩, leb⟩, ⟨⟨Y, trivial⟩, leb⟩, trivial⟩ Y Y Y Y Y (Kj Y Y Y (Ka Y (kGP Y (fun g1 => (Ki Y (Kf Y Y (Ki Y (Ke Y Y Y (Ki Y (Kf Y Y (Ki Y (Ke Y Y Y (Ki Y (Kj Y Y Y (Kk Y (Ka Y (Kd (Km Y (fun g2 => om) (fun g2 => Kn (Kbc (Ke Y Y Y (Ke Y Y Y (Kp (ok_spec_l3cmp _ _ pry pry pry pry) ⟨⟨⟨Y, Y, Y, Y, Y, Y, Y, trivial⟩, leb⟩, ⟨⟨Y, Y, Y, Y, Y, Y, Y, trivial⟩, leb⟩, trivial⟩ Y Y Y Y Y (Ka Y (Kdb (Kbc (Ka Y (Kw Y Y (Ka Y (Ki Y (Ka Y (Ki Y (Kj Y Y Y (Kk Y (Ka Y (Kd (Km Y (fun g3 => Kbc (Kf Y Y (Ke Y Y Y (Ke Y Y Y (kLitG Y Y Y Y (kAppRec Y Y Y Y Y Y Y prl (Kf Y Y (Ko Y Y Y Y (Kd (Kc (Ka Y (Kdb (Kc (Ka Y (Kj Y Y Y (Kd (kCondIN Y (fun g4 => Kc (Kf Y Y (Ke Y Y Y (Ke Y Y Y (kLitG Y Y Y Y (kAppRec Y Y Y Y Y Y Y prl (Kf Y Y (Ko Y Y Y Y (Kd (Kv (Kc (Ka Y (kAdd Y Y om (Ka Y (Kd ?_))))))))))))))) (fun g4 => om)))))))))))))))))) (fun g3 => om))))))))))))))))))))))))))))))))))) (fun g1 => (Kg Y (Kg Y (Kg Y (Kg Y (Kg Y (Kl Y (Ka Y (Kd (kCondF Y (Kn (Kbc (Ke Y Y Y (Ke Y Y Y (Kp (ok_spec_l3cmp _ _ pry pry pry pry) ⟨⟨⟨Y, Y, Y, Y, Y, Y, Y, trivial⟩, leb⟩, ⟨⟨Y, Y, Y, Y, Y, Y, Y, trivial⟩, leb⟩, trivial⟩ Y Y Y Y Y (Ka Y (Kdb (Kbc (Ka Y (Kw Y Y (Ka Y (Ki Y (Ka Y (Ki Y (Kj Y Y Y (Kk Y (Ka Y (Kd (Km Y (fun g5 => Kbc (Kf Y Y (Ke Y Y Y (Ke Y Y Y (kLitG Y Y Y Y (kAppRec Y Y Y Y Y Y Y prl (Kf Y Y (Ko Y Y Y Y (Kd (Kc (Ka Y (Kdb (Kc (Ka Y (Kj Y Y Y (Kd (kCondIN Y (fun g6 => Kc (Kf Y Y (Ke Y Y Y (Ke Y Y Y (kLitG Y Y Y Y (kAppRec Y Y Y Y Y Y Y prl (Kf Y Y (Ko Y Y Y Y (Kd (Kv (Kc (Ka Y (kAdd Y Y om (Ka Y (Kd ?_))))))))))))))) (fun g6 => om)))))))))))))))))) (fun g5 => om))))))))))))))))))))))))))))))))))))))))))))))))))) (fun g0 => om)))))))))
          all_goals
            refine kInv ⟨⟨i + 1, by omega⟩, by simp only; omega, ?_⟩
            simp only [hs2]
            exact .normA
        · have hs2 : addAt (z.rrs.take (i + 1)) r = (L ++ [r], true) := by
            rw [hst]
            have c1 : decide (cmpR r x ≤ 0) = true := by exact decide_eq_true (by omega)
            unfold addSt
            simp only [ht, c1]
            rw [if_pos hc, if_pos ⟨trivial, by omega⟩]
            rfl
          refine Kb (Kbc (Ka Y (Kf Y Y (Ke Y Y Y (Kq Y Y (Kj Y Y Y (Kd (Km Y (fun g0 => Kn (Kb (Kt (Kbc (Kf Y Y (Ke Y Y Y (Ka Y (kIadRW Y Y Y prl hrow (Ky Y Y (kAlloc Y Y (Ko Y Y Y Y (Kdb (Kbc (Kf Y Y (Ke Y Y Y (Kf Y Y (Ke Y Y Y (Kp (ok_spec_l2cmp _ _ pry pry) ⟨⟨⟨Y, trivial⟩, leb⟩, ⟨⟨Y, trivial⟩, leb⟩, trivial⟩ Y Y Y Y Y (Kj Y Y Y (Ka Y (kGP Y (fun g1 => (Ki Y (Kf Y Y (Ki Y (Ke Y Y Y (Ki Y (Kf Y Y (Ki Y (Ke Y Y Y (Ki Y (Kj Y Y Y (Kk Y (Ka Y (Kd (Km Y (fun g2 => om) (fun g2 => Kn (Kbc (Ke Y Y Y (Ke Y Y Y (Kp (ok_spec_l3cmp _ _ pry pry pry pry) ⟨⟨⟨Y, Y, Y, Y, Y, Y, Y, trivial⟩, leb⟩, ⟨⟨Y, Y, Y, Y, Y, Y, Y, trivial⟩, leb⟩, trivial⟩ Y Y Y Y Y (Ka Y (Kdb (Kbc (Ka Y (Kw Y Y (Ka Y (Ki Y (Ka Y (Ki Y (Kj Y Y Y (Kk Y (Ka Y (Kd (Km Y (fun g3 => Kbc (Kf Y Y (Ke Y Y Y (Ke Y Y Y (kLitG Y Y Y Y (kAppRec Y Y Y Y Y Y Y prl (Kf Y Y (Ko Y Y Y Y (Kd (Kc (Ka Y (Kdb (Kc (Ka Y (Kj Y Y Y (Kd (kCondIN Y (fun g4 => om) (fun g4 => Kn (Kv (Kc (Ka Y (kAdd Y Y om (Ka Y (Kd ?_)))))))))))))))))))))))) (fun g3 => om))))))))))))))))))))))))))))))))))) (fun g1 => (Kg Y (Kg Y (Kg Y (Kg Y (Kg Y (Kl Y (Ka Y (Kd (kCondF Y (Kn (Kbc (Ke Y Y Y (Ke Y Y Y (Kp (ok_spec_l3cmp _ _ pry pry pry pry) ⟨⟨⟨Y, Y, Y, Y, Y, Y, Y, trivial⟩, leb⟩, ⟨⟨Y, Y, Y, Y, Y, Y, Y, trivial⟩, leb⟩, trivial⟩ Y Y Y Y Y (Ka Y (Kdb (Kbc (Ka Y (Kw Y Y (Ka Y (Ki Y (Ka Y (Ki Y (Kj Y Y Y (Kk Y (Ka Y (Kd (Km Y (fun g5 => Kbc (Kf Y Y (Ke Y Y Y (Ke Y Y Y (kLitG Y Y Y Y (kAppRec Y Y Y Y Y Y Y prl (Kf Y Y (Ko Y Y Y Y (Kd (Kc (Ka Y (Kdb (Kc (Ka Y (Kj Y Y Y (Kd (kCondIN Y (fun g6 => om) (fun g6 => Kn (Kv (Kc (Ka Y (kAdd Y Y om (Ka Y (Kd ?_)))))))))))))))))))))))) (fun g5 => om))))))))))))))))))))))))))))))))))))))))))))))))))) (fun g0 => om)))))))))
          all_goals
            refine kInv ⟨⟨i + 1, by omega⟩, by simp only; omega, ?_⟩
            simp only [hs2]
            exact .normA
        · have hs2 : addAt (z.rrs.take (i + 1)) r = (L ++ [x], false) := by
            rw [hst]
            have c1 : decide (cmpR r x ≤ 0) = false := by exact decide_eq_false (by omega)
            unfold addSt
            simp only [ht, c1]
            rw [if_neg (by omega), if_neg (fun h => by omega)]
            rfl
          refine Kb (Kbc (Ka Y (Kf Y Y (Ke Y Y Y (Kq Y Y (Kj Y Y Y (Kd (Km Y (fun g0 => Kn (Kb (Kt (Kbc (Kf Y Y (Ke Y Y Y (Ka Y (kIadRW Y Y Y prl hrow (Ky Y Y (kAlloc Y Y (Ko Y Y Y Y (Kdb (Kbc (Kf Y Y (Ke Y Y Y (Kf Y Y (Ke Y Y Y (Kp (ok_spec_l2cmp _ _ pry pry) ⟨⟨⟨Y, trivial⟩, leb⟩, ⟨⟨Y, trivial⟩, leb⟩, trivial⟩ Y Y Y Y Y (Kj Y Y Y (Ka Y (kGP Y (fun g1 => (Ki Y (Kf Y Y (Ki Y (Ke Y Y Y (Ki Y (Kf Y Y (Ki Y (Ke Y Y Y (Ki Y (Kj Y Y Y (Kk Y (Ka Y (Kd (Km Y (fun g2 => om) (fun g2 => Kn (Kbc (Ke Y Y Y (Ke Y Y Y (Kp (ok_spec_l3cmp _ _ pry pry pry pry) ⟨⟨⟨Y, Y, Y, Y, Y, Y, Y, trivial⟩, leb⟩, ⟨⟨Y, Y, Y, Y, Y, Y, Y, trivial⟩, leb⟩, trivial⟩ Y Y Y Y Y (Ka Y (Kdb (Kbc (Ka Y (Kw Y Y (Ka Y (Ki Y (Ka Y (Ki Y (Kj Y Y Y (Kk Y (Ka Y (Kd (Km Y (fun g3 => om) (fun g3 => Kn (Kbc (Ka Y (Kj Y Y Y (Kd (kCondIN Y (fun g4 => Kc (Kf Y Y (Ke Y Y Y (Ke Y Y Y (kLitG Y Y Y Y (kAppRec Y Y Y Y Y Y Y prl (Kf Y Y (Ko Y Y Y Y (Kd (Kv (Kc (Ka Y (kAdd Y Y om (Ka Y (Kd ?_))))))))))))))) (fun g4 => om))))))))))))))))))))))))))))))))))))))))) (fun g1 => (Kg Y (Kg Y (Kg Y (Kg Y (Kg Y (Kl Y (Ka Y (Kd (kCondF Y (Kn (Kbc (Ke Y Y Y (Ke Y Y Y (Kp (ok_spec_l3cmp _ _ pry pry pry pry) ⟨⟨⟨Y, Y, Y, Y, Y, Y, Y, trivial⟩, leb⟩, ⟨⟨Y, Y, Y, Y, Y, Y, Y, trivial⟩, leb⟩, trivial⟩ Y Y Y Y Y (Ka Y (Kdb (Kbc (Ka Y (Kw Y Y (Ka Y (Ki Y (Ka Y (Ki Y (Kj Y Y Y (Kk Y (Ka Y (Kd (Km Y (fun g5 => om) (fun g5 => Kn (Kbc (Ka Y (Kj Y Y Y (Kd (kCondIN Y (fun g6 => Kc (Kf Y Y (Ke Y Y Y (Ke Y Y Y (kLitG Y Y Y Y (kAppRec Y Y Y Y Y Y Y prl (Kf Y Y (Ko Y Y Y Y (Kd (Kv (Kc (Ka Y (kAdd Y Y om (Ka Y (Kd ?_))))))))))))))) (fun g6 => om))))))))))))))))))))))))))))))))))))))))))))))))))))))))) (fun g0 => om)))))))))
          all_goals
            refine kInv ⟨⟨i + 1, by omega⟩, by simp only; omega, ?_⟩
            simp only [hs2]
            exact .normA
      · rcases Int.lt_trichotomy (cmpR r x) 0 with hc | hc | hc
        · have hs2 : addAt (z.rrs.take (i + 1)) r = (L ++ [x], true) := by
            rw [hst]
            have c1 : decide (cmpR r x ≤ 0) = true := by exact decide_eq_true (by omega)
            unfold addSt
            simp only [ht, c1]
            rw [if_neg (by omega), if_neg (fun h => by cases h.1)]
            rfl
          refine Kb (Kbc (Ka Y (Kf Y Y (Ke Y Y Y (Kq Y Y (Kj Y Y Y (Kd (Km Y (fun g0 => Kn (Kb (Kt (Kbc (Kf Y Y (Ke Y Y Y (Ka Y (kIadRW Y Y Y prl hrow (Ky Y Y (kAlloc Y Y (Ko Y Y Y Y (Kdb (Kbc (Kf Y Y (Ke Y Y Y (Kf Y Y (Ke Y Y Y (Kp (ok_spec_l2cmp _ _ pry pry) ⟨⟨⟨Y, trivial⟩, leb⟩, ⟨⟨Y, trivial⟩, leb⟩, trivial⟩ Y Y Y Y Y (Kj Y Y Y (Ka Y (kGP Y (fun g1 => (Ki Y (Kf Y Y (Ki Y (Ke Y Y Y (Ki Y (Kf Y Y (Ki Y (Ke Y Y Y (Ki Y (Kj Y Y Y (Kk Y (Ka Y (Kd (Km Y (fun g2 => om) (fun g2 => Kn (Kbc (Ke Y Y Y (Ke Y Y Y (Kp (ok_spec_l3cmp _ _ pry pry pry pry) ⟨⟨⟨Y, Y, Y, Y, Y, Y, Y, trivial⟩, leb⟩, ⟨⟨Y, Y, Y, Y, Y, Y, Y, trivial⟩, leb⟩, trivial⟩ Y Y Y Y Y (Ka Y (Kdb (Kbc (Ka Y (Kw Y Y (Ka Y (Kg Y (Kg Y (Kl Y (Ka Y (Kd (kCondF Y (Kn (Kbc (Ka Y (Kj Y Y Y (Kd (kCondIN Y (fun g3 => Kc (Kf Y Y (Ke Y Y Y (Ke Y Y Y (kLitG Y Y Y Y (kAppRec Y Y Y Y Y Y Y prl (Kf Y Y (Ko Y Y Y Y (Kd (Kv (Kc (Ka Y (kAdd Y Y om (Ka Y (Kd ?_))))))))))))))) (fun g3 => om))))))))))))))))))))))))))))))))))))))) (fun g1 => (Kg Y (Kg Y (Kg Y (Kg Y (Kg Y (Kl Y (Ka Y (Kd (kCondF Y (Kn (Kbc (Ke Y Y Y (Ke Y Y Y (Kp (ok_spec_l3cmp _ _ pry pry pry pry) ⟨⟨⟨Y, Y, Y, Y, Y, Y, Y, trivial⟩, leb⟩, ⟨⟨Y, Y, Y, Y, Y, Y, Y, trivial⟩, leb⟩, trivial⟩ Y Y Y Y Y (Ka Y (Kdb (Kbc (Ka Y (Kw Y Y (Ka Y (Kg Y (Kg Y (Kl Y (Ka Y (Kd (kCondF Y (Kn (Kbc (Ka Y (Kj Y Y Y (Kd (kCondIN Y (fun g4 => Kc (Kf Y Y (Ke Y Y Y (Ke Y Y Y (kLitG Y Y Y Y (kAppRec Y Y Y Y Y Y Y prl (Kf Y Y (Ko Y Y Y Y (Kd (Kv (Kc (Ka Y (kAdd Y Y om (Ka Y (Kd ?_))))))))))))))) (fun g4 => om))))))))))))))))))))))))))))))))))))))))))))))))))))))) (fun g0 => om)))))))))
          all_goals
            refine kInv ⟨⟨i + 1, by omega⟩, by simp only; omega, ?_⟩
            simp only [hs2]
            exact .normA
        · have hs2 : addAt (z.rrs.take (i + 1)) r = (L, true) := by
            rw [hst]
            have c1 : decide (cmpR r x ≤ 0) = true := by exact decide_eq_true (by omega)
            unfold addSt
            simp only [ht, c1]
            rw [if_pos hc, if_neg (fun h => by cases h.1)]
            rfl
          refine Kb (Kbc (Ka Y (Kf Y Y (Ke Y Y Y (Kq Y Y (Kj Y Y Y (Kd (Km Y (fun g0 => Kn (Kb (Kt (Kbc (Kf Y Y (Ke Y Y Y (Ka Y (kIadRW Y Y Y prl hrow (Ky Y Y (kAlloc Y Y (Ko Y Y Y Y (Kdb (Kbc (Kf Y Y (Ke Y Y Y (Kf Y Y (Ke Y Y Y (Kp (ok_spec_l2cmp _ _ pry pry) ⟨⟨⟨Y, trivial⟩, leb⟩, ⟨⟨Y, trivial⟩, leb⟩, trivial⟩ Y Y Y Y Y (Kj Y Y Y (Ka Y (kGP Y (fun g1 => (Ki Y (Kf Y Y (Ki Y (Ke Y Y Y (Ki Y (Kf Y Y (Ki Y (Ke Y Y Y (Ki Y (Kj Y Y Y (Kk Y (Ka Y (Kd (Km Y (fun g2 => om) (fun g2 => Kn (Kbc (Ke Y Y Y (Ke Y Y Y (Kp (ok_spec_l3cmp _ _ pry pry pry pry) ⟨⟨⟨Y, Y, Y, Y, Y, Y, Y, trivial⟩, leb⟩, ⟨⟨Y, Y, Y, Y, Y, Y, Y, trivial⟩, leb⟩, trivial⟩ Y Y Y Y Y (Ka Y (Kdb (Kbc (Ka Y (Kw Y Y (Ka Y (Kg Y (Kg Y (Kl Y (Ka Y (Kd (kCondF Y (Kn (Kbc (Ka Y (Kj Y Y Y (Kd (kCondIN Y (fun g3 => om) (fun g3 => Kn (Kv (Kc (Ka Y (kAdd Y Y om (Ka Y (Kd ?_))))))))))))))))))))))))))))))))))))))))))))) (fun g1 => (Kg Y (Kg Y (Kg Y (Kg Y (Kg Y (Kl Y (Ka Y (Kd (kCondF Y (Kn (Kbc (Ke Y Y Y (Ke Y Y Y (Kp (ok_spec_l3cmp _ _ pry pry pry pry) ⟨⟨⟨Y, Y, Y, Y, Y, Y, Y, trivial⟩, leb⟩, ⟨⟨Y, Y, Y, Y, Y, Y, Y, trivial⟩, leb⟩, trivial⟩ Y Y Y Y Y (Ka Y (Kdb (Kbc (Ka Y (Kw Y Y (Ka Y (Kg Y (Kg Y (Kl Y (Ka Y (Kd (kCondF Y (Kn (Kbc (Ka Y (Kj Y Y Y (Kd (kCondIN Y (fun g4 => om) (fun g4 => Kn (Kv (Kc (Ka Y (kAdd Y Y om (Ka Y (Kd ?_))))))))))))))))))))))))))))))))))))))))))))))))))))))))))))) (fun g0 => om)))))))))
          all_goals
            refine kInv ⟨⟨i + 1, by omega⟩, by simp only; omega, ?_⟩
            simp only [hs2]
            exact .normA
        · have hs2 : addAt (z.rrs.take (i + 1)) r = (L ++ [x], true) := by
            rw [hst]
            have c1 : decide (cmpR r x ≤ 0) = false := by exact decide_eq_false (by omega)
            unfold addSt
            simp only [ht, c1]
            rw [if_neg (by omega), if_neg (fun h => by omega)]
            rfl
          refine Kb (Kbc (Ka Y (Kf Y Y (Ke Y Y Y (Kq Y Y (Kj Y Y Y (Kd (Km Y (fun g0 => Kn (Kb (Kt (Kbc (Kf Y Y (Ke Y Y Y (Ka Y (kIadRW Y Y Y prl hrow (Ky Y Y (kAlloc Y Y (Ko Y Y Y Y (Kdb (Kbc (Kf Y Y (Ke Y Y Y (Kf Y Y (Ke Y Y Y (Kp (ok_spec_l2cmp _ _ pry pry) ⟨⟨⟨Y, trivial⟩, leb⟩, ⟨⟨Y, trivial⟩, leb⟩, trivial⟩ Y Y Y Y Y (Kj Y Y Y (Ka Y (kGP Y (fun g1 => (Ki Y (Kf Y Y (Ki Y (Ke Y Y Y (Ki Y (Kf Y Y (Ki Y (Ke Y Y Y (Ki Y (Kj Y Y Y (Kk Y (Ka Y (Kd (Km Y (fun g2 => om) (fun g2 => Kn (Kbc (Ke Y Y Y (Ke Y Y Y (Kp (ok_spec_l3cmp _ _ pry pry pry pry) ⟨⟨⟨Y, Y, Y, Y, Y, Y, Y, trivial⟩, leb⟩, ⟨⟨Y, Y, Y, Y, Y, Y, Y, trivial⟩, leb⟩, trivial⟩ Y Y Y Y Y (Ka Y (Kdb (Kbc (Ka Y (Kw Y Y (Ka Y (Kg Y (Kg Y (Kl Y (Ka Y (Kd (kCondF Y (Kn (Kbc (Ka Y (Kj Y Y Y (Kd (kCondIN Y (fun g3 => Kc (Kf Y Y (Ke Y Y Y (Ke Y Y Y (kLitG Y Y Y Y (kAppRec Y Y Y Y Y Y Y prl (Kf Y Y (Ko Y Y Y Y (Kd (Kv (Kc (Ka Y (kAdd Y Y om (Ka Y (Kd ?_))))))))))))))) (fun g3 => om))))))))))))))))))))))))))))))))))))))) (fun g1 => (Kg Y (Kg Y (Kg Y (Kg Y (Kg Y (Kl Y (Ka Y (Kd (kCondF Y (Kn (Kbc (Ke Y Y Y (Ke Y Y Y (Kp (ok_spec_l3cmp _ _ pry pry pry pry) ⟨⟨⟨Y, Y, Y, Y, Y, Y, Y, trivial⟩, leb⟩, ⟨⟨Y, Y, Y, Y, Y, Y, Y, trivial⟩, leb⟩, trivial⟩ Y Y Y Y Y (Ka Y (Kdb (Kbc (Ka Y (Kw Y Y (Ka Y (Kg Y (Kg Y (Kl Y (Ka Y (Kd (kCondF Y (Kn (Kbc (Ka Y (Kj Y Y Y (Kd (kCondIN Y (fun g4 => Kc (Kf Y Y (Ke Y Y Y (Ke Y Y Y (kLitG Y Y Y Y (kAppRec Y Y Y Y Y Y Y prl (Kf Y Y (Ko Y Y Y Y (Kd (Kv (Kc (Ka Y (kAdd Y Y om (Ka Y (Kd ?_))))))))))))))) (fun g4 => om))))))))))))))))))))))))))))))))))))))))))))))))))))))) (fun g0 => om)))))))))
          all_goals
            refine kInv ⟨⟨i + 1, by omega⟩, by simp only; omega, ?_⟩
            simp only [hs2]
            exact .normA
  · rw [show i = z.rrs.length by omega, List.take_length]
    have hle2 := addAt_len z.rrs r z.rrs.length
    rw [List.take_length] at hle2
    cases hp : (addAt z.rrs r).2
    · rw [show addL z.rrs r = (addAt z.rrs r).1 ++ [r] by unfold addL; rw [hp]; rfl]
      refine Kb (Kbc (Ka Y (Kf Y Y (Ke Y Y Y (Kq Y Y (Kj Y Y Y (Kd (Km Y (fun g0 => om) (fun g0 => kExit (kExC (kExI (kExB (Kb (Kbc (Ka Y (Kw Y Y (Kd (kCondT Y (Kc (Kf Y Y (Ke Y Y Y (Ke Y Y Y (kLitG Y Y Y Y (kAppRec Y Y Y Y Y Y Y prl (Kf Y Y (Ko Y Y Y Y (Kdb (Kc (Ke Y Y Y (Ko Y Y Y Y (Kd (Kr (Er (ra := [.agg [(.d _), (.d _)]]) rfl rfl)))))))))))))))))))))))))))))))))
    · rw [show addL z.rrs r = (addAt z.rrs r).1 by unfold addL; rw [hp]; rfl]
      refine Kb (Kbc (Ka Y (Kf Y Y (Ke Y Y Y (Kq Y Y (Kj Y Y Y (Kd (Km Y (fun g0 => om) (fun g0 => kExit (kExC (kExI (kExB (Kb (Kbc (Ka Y (Kw Y Y (Kd (kCondF Y (Kn (Kbc (Ke Y Y Y (Ko Y Y Y Y (Kd (Kr (Er (ra := [.agg [(.d _), (.d _)]]) rfl rfl)))))))))))))))))))))))))

def c_spec_l2own : C := (.g (.o 0 1 (.box 1 (.t 0)) (.o 1 2 (.alloc 2 [(.n 1)]) .done)) (.g (.o 0 3 (.alloc 3 [(.n 1)]) .done) (.seq (.g (.o 0 4 (.mov (.i 0)) .done) (.block 0 (.loop (.seq (.g (.o 0 5 (.mov (.t 4)) (.o 1 6 (.fad (.t 1) 0) (.o 2 7 (.load none (.t 6)) (.o 3 8 (.len (.t 7)) (.o 4 9 (.bin .lss (.t 5) (.t 8)) .done))))) (.cond (.t 9) .skip (.exit 0))) (.seq (.block 1 (.reg true (.op 0 [] (some 12) none true (.fad (.t 3) 0) (.op 1 [] (some 13) none true (.load none (.t 12)) (.op 3 [] (some 15) none true (.fad (.t 1) 0) (.op 4 [] (some 16) none true (.load none (.t 15)) (.op 5 [] (some 17) none true (.mov (.t 4)) (.op 6 [] (some 18) none true (.iad 1 (.t 16) (.t 17)) (.op 7 [] (some 19) none true (.load none (.t 18)) (.o 2 14 (.lit 14 1 [(.v (.int .u8 0))] 0 []) (.op 8 [7, 4] (some 20) none false (.app 20 1 1 (.t 14) (.t 19)) (.op 9 [7, 4] (some 21) none false (.lit 21 1 [(.n 1)] 1 [(0, 1, (.t 20))]) (.op 10 [1, 7, 4] (some 22) none false (.app 22 1 24 (.t 13) (.t 21)) (.op 11 [] (some 23) none true (.fad (.t 3) 0) (.op 12 [1, 4, 7] none none false (.store none (.t 23) (.t 22)) .done))))))))))))))) (.reg false (.o 0 10 (.mov (.t 4)) (.o 1 11 (.bin .add (.t 10) (.i 1)) (.o 2 4 (.mov (.t 11)) .done))))))))) (.g (.o 0 24 (.load (some 1) (.t 3)) (.op 1 [] none none false (.store (some 1) (.t 2) (.t 24)) .done)) .ret))))
theorem dg_spec_l2own : Tryz.f140.body.bind (digC Tryz.prog Tryz.f140.ntmps []) = some c_spec_l2own := by kernel_rfl
theorem rs_spec_l2own : resSlots Tryz.prog Tryz.f140 = some [.m 2 (some 1)] := by kernel_rfl
theorem ok_spec_l2own (a : List (List UInt8)) (ha : a.length ≤ 4194304) (hb : ∀ b ∈ a, b.length ≤ 4194304) :
    FnOK Tryz.prog 140 [.agg [.d (encBB a)]] (fun ra _ => ra = [.agg [.own true (encBB a)]]) := by
  refine FnOK.ofK Tryz.func140 (by kernel_rfl) dg_spec_l2own rs_spec_l2own rfl rfl ?_
  delta c_spec_l2own T.o X.i C.g
  refine Kbc (kBox Y Y Y Y Y (kAlloc Y Y (Kdb (Kc (kAlloc Y Y (Kdb (Kbc (Ka Y (Kd (Kt ?_))))))))))
  refine kSub (Sub.nilBox (id := rid 3 0) (id2 := rid 5000 0) (j := 0) rfl rfl rfl (by decide) (by decide)) ?_
  refine kLoop (α := { i : Nat // i ≤ a.length })
    (fun y => ⟨tabSl [(1, .c (.ptr (rid 1 0) 1 0)), (2, .c (.ptr (rid 2 0) 1 0)), (3, .c (.ptr (rid 3 0) 1 0)), (4, .i y.1)],
      obTab 1 [(rid 1 0, ⟨1, 0, .box [.d (encBB a)]⟩), (rid 2 0, ⟨1, 0, .box [.nil 1]⟩), (rid 3 0, ⟨1, 0, .box [.arr (rid 5000 0) 1]⟩), (rid 5000 0, ⟨1, 0, .arr true (encBB (a.take y.1))⟩)], []⟩) (fun y => a.length - y.1) ⟨0, by simp⟩
    .normA ?_
  rintro ⟨i, hi⟩
  simp only
  have hlen : (a.take i).length = i := by simp; omega
  rcases Nat.lt_or_ge i a.length with hlt | hge
  · have hbi := hb _ (List.getElem_mem hlt)
    refine Kb (Kbc (Ka Y (Kf Y Y (Ke Y Y Y (Kq Y Y (Kj Y Y Y (Kd (Km Y (fun g0 => Kn (Kb (Kt (kRegD (Kf Y Y (Ke Y Y Y (Kf Y Y (Ke Y Y Y (Ka Y (kIadR Y Y Y om (Ky Y Y (kLit Y Y Y Y (Kx Y Y (kAppN Y Y Y (src_encB _ _) rfl rfl rfl rfl om (Kx Y Y (kLit Y Y Y Y (Ks Y Y (kAppR1 Y Y Y Y Y Y Y Y om (Kf Y Y (Ks Y Y (Ko Y Y Y Y (Kd (kH (Kv (Kc (Ka Y (kAdd Y Y om (Ka Y (Kd ?_))))))))))))))))))))))))))))) (fun g0 => om)))))))))
    exact kInv ⟨⟨i + 1, by omega⟩, by simp only; omega, .normA⟩
  · refine Kb (Kbc (Ka Y (Kf Y Y (Ke Y Y Y (Kq Y Y (Kj Y Y Y (Kd (Km Y (fun g0 => om) (fun g0 => kExit (kExC (kExI (kExB (Kbc (Ke Y Y Y (Ko Y Y Y Y (Kd (Kr (Er (ra := [.agg [(.own true _)]]) rfl ?_))))))))))))))))))
    rw [show i = a.length by omega, List.take_length]

def c_spec_l3own : C := (.g (.o 0 1 (.box 1 (.t 0)) (.o 1 2 (.alloc 2 [(.n 1), (.i 0), (.i 0), (.i 0), (.n 1), (.n 1), (.n 1)]) .done)) (.seq (.reg true (.op 0 [] (some 3) none true (.fad (.t 1) 0) (.op 1 [] (some 4) none true (.load (some 1) (.t 3)) (.op 3 [] (some 6) none true (.fad (.t 1) 1) (.op 4 [] (some 7) none true (.load none (.t 6)) (.op 5 [] (some 8) none true (.fad (.t 1) 2) (.op 6 [] (some 9) none true (.load none (.t 8)) (.op 7 [] (some 10) none true (.fad (.t 1) 3) (.op 8 [] (some 11) none true (.load none (.t 10)) (.op 9 [] (some 12) none true (.fad (.t 1) 4) (.op 10 [] (some 13) none true (.load (some 1) (.t 12)) (.op 13 [] (some 16) none true (.fad (.t 1) 5) (.op 14 [] (some 17) none true (.load none (.t 16)) (.op 17 [] (some 20) none true (.fad (.t 1) 6) (.op 18 [] (some 21) none true (.load none (.t 20)) (.alt (.op 2 [1] (some 5) none false (.call 5 140 [(.t 4)]) (.alt (.op 11 [10, 1] (some 14) none false (.call 14 140 [(.t 13)]) (.alt (.o 12 15 (.lit 15 1 [(.v (.int .u8 0))] 0 []) (.alt (.op 15 [14, 10, 1] (some 18) none false (.app 18 1 1 (.t 15) (.t 17)) (.o 16 19 (.lit 19 1 [(.i 0)] 0 []) (.op 19 [18, 14, 10, 1] (some 22) none false (.app 22 1 8 (.t 19) (.t 21)) (.op 20 [] (some 23) none true (.build [(.n 1), (.i 0), (.i 0), (.i 0), (.n 1), (.n 1), (.n 1)] [(0, 1, (.t 5)), (1, 1, (.t 7)), (2, 1, (.t 9)), (3, 1, (.t 11)), (4, 1, (.t 14)), (5, 1, (.t 18)), (6, 1, (.t 22))]) (.op 21 [1, 4, 6, 8, 10, 14, 18] none none false (.store (some 7) (.t 2) (.t 23)) .done))))) (.o 16 19 (.lit 19 1 [(.i 0)] 0 []) (.op 15 [14, 10, 1] (some 18) none false (.app 18 1 1 (.t 15) (.t 17)) (.op 19 [18, 14, 10, 1] (some 22) none false (.app 22 1 8 (.t 19) (.t 21)) (.op 20 [] (some 23) none true (.build [(.n 1), (.i 0), (.i 0), (.i 0), (.n 1), (.n 1), (.n 1)] [(0, 1, (.t 5)), (1, 1, (.t 7)), (2, 1, (.t 9)), (3, 1, (.t 11)), (4, 1, (.t 14)), (5, 1, (.t 18)), (6, 1, (.t 22))]) (.op 21 [1, 4, 6, 8, 10, 14, 18] none none false (.store (some 7) (.t 2) (.t 23)) .done))))))) (.o 16 19 (.lit 19 1 [(.i 0)] 0 []) (.o 12 15 (.lit 15 1 [(.v (.int .u8 0))] 0 []) (.op 15 [14, 10, 1] (some 18) none false (.app 18 1 1 (.t 15) (.t 17)) (.op 19 [18, 14, 10, 1] (some 22) none false (.app 22 1 8 (.t 19) (.t 21)) (.op 20 [] (some 23) none true (.build [(.n 1), (.i 0), (.i 0), (.i 0), (.n 1), (.n 1), (.n 1)] [(0, 1, (.t 5)), (1, 1, (.t 7)), (2, 1, (.t 9)), (3, 1, (.t 11)), (4, 1, (.t 14)), (5, 1, (.t 18)), (6, 1, (.t 22))]) (.op 21 [1, 4, 6, 8, 10, 14, 18] none none false (.store (some 7) (.t 2) (.t 23)) .done)))))))) (.alt (.o 12 15 (.lit 15 1 [(.v (.int .u8 0))] 0 []) (.alt (.op 11 [10, 1] (some 14) none false (.call 14 140 [(.t 13)]) (.alt (.op 15 [14, 10, 1] (some 18) none false (.app 18 1 1 (.t 15) (.t 17)) (.o 16 19 (.lit 19 1 [(.i 0)] 0 []) (.op 19 [18, 14, 10, 1] (some 22) none false (.app 22 1 8 (.t 19) (.t 21)) (.op 20 [] (some 23) none true (.build [(.n 1), (.i 0), (.i 0), (.i 0), (.n 1), (.n 1), (.n 1)] [(0, 1, (.t 5)), (1, 1, (.t 7)), (2, 1, (.t 9)), (3, 1, (.t 11)), (4, 1, (.t 14)), (5, 1, (.t 18)), (6, 1, (.t 22))]) (.op 21 [1, 4, 6, 8, 10, 14, 18] none none false (.store (some 7) (.t 2) (.t 23)) .done))))) (.o 16 19 (.lit 19 1 [(.i 0)] 0 []) (.op 15 [14, 10, 1] (some 18) none false (.app 18 1 1 (.t 15) (.t 17)) (.op 19 [18, 14, 10, 1] (some 22) none false (.app 22 1 8 (.t 19) (.t 21)) (.op 20 [] (some 23) none true (.build [(.n 1), (.i 0), (.i 0), (.i 0), (.n 1), (.n 1), (.n 1)] [(0, 1, (.t 5)), (1, 1, (.t 7)), (2, 1, (.t 9)), (3, 1, (.t 11)), (4, 1, (.t 14)), (5, 1, (.t 18)), (6, 1, (.t 22))]) (.op 21 [1, 4, 6, 8, 10, 14, 18] none none false (.store (some 7) (.t 2) (.t 23)) .done))))))) (.o 16 19 (.lit 19 1 [(.i 0)] 0 []) (.op 11 [10, 1] (some 14) none false (.call 14 140 [(.t 13)]) (.op 15 [14, 10, 1] (some 18) none false (.app 18 1 1 (.t 15) (.t 17)) (.op 19 [18, 14, 10, 1] (some 22) none false (.app 22 1 8 (.t 19) (.t 21)) (.op 20 [] (some 23) none true (.build [(.n 1), (.i 0), (.i 0), (.i 0), (.n 1), (.n 1), (.n 1)] [(0, 1, (.t 5)), (1, 1, (.t 7)), (2, 1, (.t 9)), (3, 1, (.t 11)), (4, 1, (.t 14)), (5, 1, (.t 18)), (6, 1, (.t 22))]) (.op 21 [1, 4, 6, 8, 10, 14, 18] none none false (.store (some 7) (.t 2) (.t 23)) .done)))))))) (.o 16 19 (.lit 19 1 [(.i 0)] 0 []) (.alt (.op 11 [10, 1] (some 14) none false (.call 14 140 [(.t 13)]) (.o 12 15 (.lit 15 1 [(.v (.int .u8 0))] 0 []) (.op 15 [14, 10, 1] (some 18) none false (.app 18 1 1 (.t 15) (.t 17)) (.op 19 [18, 14, 10, 1] (some 22) none false (.app 22 1 8 (.t 19) (.t 21)) (.op 20 [] (some 23) none true (.build [(.n 1), (.i 0), (.i 0), (.i 0), (.n 1), (.n 1), (.n 1)] [(0, 1, (.t 5)), (1, 1, (.t 7)), (2, 1, (.t 9)), (3, 1, (.t 11)), (4, 1, (.t 14)), (5, 1, (.t 18)), (6, 1, (.t 22))]) (.op 21 [1, 4, 6, 8, 10, 14, 18] none none false (.store (some 7) (.t 2) (.t 23)) .done)))))) (.o 12 15 (.lit 15 1 [(.v (.int .u8 0))] 0 []) (.op 11 [10, 1] (some 14) none false (.call 14 140 [(.t 13)]) (.op 15 [14, 10, 1] (some 18) none false (.app 18 1 1 (.t 15) (.t 17)) (.op 19 [18, 14, 10, 1] (some 22) none false (.app 22 1 8 (.t 19) (.t 21)) (.op 20 [] (some 23) none true (.build [(.n 1), (.i 0), (.i 0), (.i 0), (.n 1), (.n 1), (.n 1)] [(0, 1, (.t 5)), (1, 1, (.t 7)), (2, 1, (.t 9)), (3, 1, (.t 11)), (4, 1, (.t 14)), (5, 1, (.t 18)), (6, 1, (.t 22))]) (.op 21 [1, 4, 6, 8, 10, 14, 18] none none false (.store (some 7) (.t 2) (.t 23)) .done))))))))))) (.alt (.o 12 15 (.lit 15 1 [(.v (.int .u8 0))] 0 []) (.alt (.op 2 [1] (some 5) none false (.call 5 140 [(.t 4)]) (.alt (.op 11 [10, 1] (some 14) none false (.call 14 140 [(.t 13)]) (.alt (.op 15 [14, 10, 1] (some 18) none false (.app 18 1 1 (.t 15) (.t 17)) (.o 16 19 (.lit 19 1 [(.i 0)] 0 []) (.op 19 [18, 14, 10, 1] (some 22) none false (.app 22 1 8 (.t 19) (.t 21)) (.op 20 [] (some 23) none true (.build [(.n 1), (.i 0), (.i 0), (.i 0), (.n 1), (.n 1), (.n 1)] [(0, 1, (.t 5)), (1, 1, (.t 7)), (2, 1, (.t 9)), (3, 1, (.t 11)), (4, 1, (.t 14)), (5, 1, (.t 18)), (6, 1, (.t 22))]) (.op 21 [1, 4, 6, 8, 10, 14, 18] none none false (.store (some 7) (.t 2) (.t 23)) .done))))) (.o 16 19 (.lit 19 1 [(.i 0)] 0 []) (.op 15 [14, 10, 1] (some 18) none false (.app 18 1 1 (.t 15) (.t 17)) (.op 19 [18, 14, 10, 1] (some 22) none false (.app 22 1 8 (.t 19) (.t 21)) (.op 20 [] (some 23) none true (.build [(.n 1), (.i 0), (.i 0), (.i 0), (.n 1), (.n 1), (.n 1)] [(0, 1, (.t 5)), (1, 1, (.t 7)), (2, 1, (.t 9)), (3, 1, (.t 11)), (4, 1, (.t 14)), (5, 1, (.t 18)), (6, 1, (.t 22))]) (.op 21 [1, 4, 6, 8, 10, 14, 18] none none false (.store (some 7) (.t 2) (.t 23)) .done))))))) (.o 16 19 (.lit 19 1 [(.i 0)] 0 []) (.op 11 [10, 1] (some 14) none false (.call 14 140 [(.t 13)]) (.op 15 [14, 10, 1] (some 18) none false (.app 18 1 1 (.t 15) (.t 17)) (.op 19 [18, 14, 10, 1] (some 22) none false (.app 22 1 8 (.t 19) (.t 21)) (.op 20 [] (some 23) none true (.build [(.n 1), (.i 0), (.i 0), (.i 0), (.n 1), (.n 1), (.n 1)] [(0, 1, (.t 5)), (1, 1, (.t 7)), (2, 1, (.t 9)), (3, 1, (.t 11)), (4, 1, (.t 14)), (5, 1, (.t 18)), (6, 1, (.t 22))]) (.op 21 [1, 4, 6, 8, 10, 14, 18] none none false (.store (some 7) (.t 2) (.t 23)) .done)))))))) (.o 16 19 (.lit 19 1 [(.i 0)] 0 []) (.op 2 [1] (some 5) none false (.call 5 140 [(.t 4)]) (.op 11 [10, 1] (some 14) none false (.call 14 140 [(.t 13)]) (.op 15 [14, 10, 1] (some 18) none false (.app 18 1 1 (.t 15) (.t 17)) (.op 19 [18, 14, 10, 1] (some 22) none false (.app 22 1 8 (.t 19) (.t 21)) (.op 20 [] (some 23) none true (.build [(.n 1), (.i 0), (.i 0), (.i 0), (.n 1), (.n 1), (.n 1)] [(0, 1, (.t 5)), (1, 1, (.t 7)), (2, 1, (.t 9)), (3, 1, (.t 11)), (4, 1, (.t 14)), (5, 1, (.t 18)), (6, 1, (.t 22))]) (.op 21 [1, 4, 6, 8, 10, 14, 18] none none false (.store (some 7) (.t 2) (.t 23)) .done))))))))) (.o 16 19 (.lit 19 1 [(.i 0)] 0 []) (.alt (.op 2 [1] (some 5) none false (.call 5 140 [(.t 4)]) (.alt (.op 11 [10, 1] (some 14) none false (.call 14 140 [(.t 13)]) (.o 12 15 (.lit 15 1 [(.v (.int .u8 0))] 0 []) (.op 15 [14, 10, 1] (some 18) none false (.app 18 1 1 (.t 15) (.t 17)) (.op 19 [18, 14, 10, 1] (some 22) none false (.app 22 1 8 (.t 19) (.t 21)) (.op 20 [] (some 23) none true (.build [(.n 1), (.i 0), (.i 0), (.i 0), (.n 1), (.n 1), (.n 1)] [(0, 1, (.t 5)), (1, 1, (.t 7)), (2, 1, (.t 9)), (3, 1, (.t 11)), (4, 1, (.t 14)), (5, 1, (.t 18)), (6, 1, (.t 22))]) (.op 21 [1, 4, 6, 8, 10, 14, 18] none none false (.store (some 7) (.t 2) (.t 23)) .done)))))) (.o 12 15 (.lit 15 1 [(.v (.int .u8 0))] 0 []) (.op 11 [10, 1] (some 14) none false (.call 14 140 [(.t 13)]) (.op 15 [14, 10, 1] (some 18) none false (.app 18 1 1 (.t 15) (.t 17)) (.op 19 [18, 14, 10, 1] (some 22) none false (.app 22 1 8 (.t 19) (.t 21)) (.op 20 [] (some 23) none true (.build [(.n 1), (.i 0), (.i 0), (.i 0), (.n 1), (.n 1), (.n 1)] [(0, 1, (.t 5)), (1, 1, (.t 7)), (2, 1, (.t 9)), (3, 1, (.t 11)), (4, 1, (.t 14)), (5, 1, (.t 18)), (6, 1, (.t 22))]) (.op 21 [1, 4, 6, 8, 10, 14, 18] none none false (.store (some 7) (.t 2) (.t 23)) .done)))))))) (.o 12 15 (.lit 15 1 [(.v (.int .u8 0))] 0 []) (.op 2 [1] (some 5) none false (.call 5 140 [(.t 4)]) (.op 11 [10, 1] (some 14) none false (.call 14 140 [(.t 13)]) (.op 15 [14, 10, 1] (some 18) none false (.app 18 1 1 (.t 15) (.t 17)) (.op 19 [18, 14, 10, 1] (some 22) none false (.app 22 1 8 (.t 19) (.t 21)) (.op 20 [] (some 23) none true (.build [(.n 1), (.i 0), (.i 0), (.i 0), (.n 1), (.n 1), (.n 1)] [(0, 1, (.t 5)), (1, 1, (.t 7)), (2, 1, (.t 9)), (3, 1, (.t 11)), (4, 1, (.t 14)), (5, 1, (.t 18)), (6, 1, (.t 22))]) (.op 21 [1, 4, 6, 8, 10, 14, 18] none none false (.store (some 7) (.t 2) (.t 23)) .done)))))))))))))))))))))))))) .ret))
theorem dg_spec_l3own : Tryz.f75.body.bind (digC Tryz.prog Tryz.f75.ntmps []) = some c_spec_l3own := by kernel_rfl
theorem rs_spec_l3own : resSlots Tryz.prog Tryz.f75 = some [.m 2 (some 7)] := by kernel_rfl
theorem ok_spec_l3own (r : Rr) (hs : SmallR r) :
    FnOK Tryz.prog 75 [.agg (r.cells.map .d)] (fun ra _ => ra = [.agg [.own true (encBB r.name), .d (.sc (.int .i64 r.ty)), .d (.sc (.int .i64 r.ttl)), .d (.sc (.int .i64 r.addr)), .own true (encBB r.to), .own true (encB r.text), .own true (Hearth.encI r.nums)]]) := by
  refine FnOK.ofK Tryz.func75 (by kernel_rfl) dg_spec_l3own rs_spec_l3own rfl rfl ?_
  delta c_spec_l3own T.o X.i C.g
  have n1 := hs.n.len
  have n2 := hs.n.mem
  have t1 := hs.t.len
  have t2 := hs.t.mem
  have x1 := hs.x
  have m1 := hs.m
  refine Kb (kCut ⟨tabSl [(1, .c (.ptr (rid 1 0) 1 0)), (2, .c (.ptr (rid 2 0) 1 0))], obTab 1 [(rid 1 0, ⟨1, 0, .box (r.cells.map .d)⟩), (rid 2 0, ⟨1, 0, .box [.nil 1, .d (.sc (.int .i64 0)), .d (.sc (.int .i64 0)), .d (.sc (.int .i64 0)), .nil 1, .nil 1, .nil 1]⟩)], []⟩ ?_ (fun x hc => ?_))
  case refine_2 => refine kReg (kBox rfl rfl rfl rfl rfl (kAlloc rfl rfl (kDone (hc _ .normA))))
  refine Kb (kCut ⟨tabSl [(2, .c (.ptr (rid 2 0) 1 0))], obTab 1 [(rid 2 0, ⟨1, 0, .box [.arr (rid 5 0) 1, .d (.sc (.int .i64 r.ty)), .d (.sc (.int .i64 r.ttl)), .d (.sc (.int .i64 r.addr)), .arr (rid 14 0) 1, .arr (rid 15 0) 1, .arr (rid 19 0) 1]⟩), (rid 5 0, ⟨1, 0, .arr true (encBB r.name)⟩), (rid 14 0, ⟨1, 0, .arr true (encBB r.to)⟩), (rid 15 0, ⟨1, 0, .arr true (encB r.text)⟩), (rid 19 0, ⟨1, 0, .arr true (Hearth.encI r.nums)⟩)], []⟩ ?_ (fun x hc => ?_))
  case refine_2 => refine kRegD (kFadP rfl rfl (kLoadP rfl rfl rfl (kFadP rfl rfl (kLoadP rfl rfl rfl (kFadP rfl rfl (kLoadP rfl rfl rfl (kFadP rfl rfl (kLoadP rfl rfl rfl (kFadP rfl rfl (kLoadP rfl rfl rfl (kFadP rfl rfl (kLoadP rfl rfl rfl (kFadP rfl rfl (kLoadP rfl rfl rfl (kAlt (kRelK rfl rfl (kCall1 true (ok_spec_l2own _ pr pr) ⟨⟨⟨rfl, trivial⟩, leb⟩, trivial⟩ rfl rfl rfl (fun _ => (kAlt (kRelK rfl rfl (kCall1 true (ok_spec_l2own _ pr pr) ⟨⟨⟨rfl, trivial⟩, leb⟩, trivial⟩ rfl rfl rfl (fun _ => (kAlt (kLit rfl rfl rfl rfl (kAlt (kRelK rfl rfl (kAppN rfl rfl rfl (src_encB _ _) rfl rfl rfl rfl (by omega) (kLit rfl rfl rfl rfl (kRelK rfl rfl (kAppN rfl rfl rfl (src_encI _ _) rfl rfl rfl rfl (by omega) (kBuildG rfl (kRelF rfl rfl (kStoreP rfl rfl rfl rfl (kDone (kH (hc _ .normA))))))))))) (kLit rfl rfl rfl rfl (kRelK rfl rfl (kAppN rfl rfl rfl (src_encB _ _) rfl rfl rfl rfl (by omega) (kRelK rfl rfl (kAppN rfl rfl rfl (src_encI _ _) rfl rfl rfl rfl (by omega) (kBuildG rfl (kRelF rfl rfl (kStoreP rfl rfl rfl rfl (kDone (kH (hc _ .normA))))))))))))) (kLit rfl rfl rfl rfl (kLit rfl rfl rfl rfl (kRelK rfl rfl (kAppN rfl rfl rfl (src_encB _ _) rfl rfl rfl rfl (by omega) (kRelK rfl rfl (kAppN rfl rfl rfl (src_encI _ _) rfl rfl rfl rfl (by omega) (kBuildG rfl (kRelF rfl rfl (kStoreP rfl rfl rfl rfl (kDone (kH (hc _ .normA)))))))))))))))) (kAlt (kLit rfl rfl rfl rfl (kAlt (kRelK rfl rfl (kCall1 true (ok_spec_l2own _ pr pr) ⟨⟨⟨rfl, trivial⟩, leb⟩, trivial⟩ rfl rfl rfl (fun _ => (kAlt (kRelK rfl rfl (kAppN rfl rfl rfl (src_encB _ _) rfl rfl rfl rfl (by omega) (kLit rfl rfl rfl rfl (kRelK rfl rfl (kAppN rfl rfl rfl (src_encI _ _) rfl rfl rfl rfl (by omega) (kBuildG rfl (kRelF rfl rfl (kStoreP rfl rfl rfl rfl (kDone (kH (hc _ .normA))))))))))) (kLit rfl rfl rfl rfl (kRelK rfl rfl (kAppN rfl rfl rfl (src_encB _ _) rfl rfl rfl rfl (by omega) (kRelK rfl rfl (kAppN rfl rfl rfl (src_encI _ _) rfl rfl rfl rfl (by omega) (kBuildG rfl (kRelF rfl rfl (kStoreP rfl rfl rfl rfl (kDone (kH (hc _ .normA))))))))))))))) (kLit rfl rfl rfl rfl (kRelK rfl rfl (kCall1 true (ok_spec_l2own _ pr pr) ⟨⟨⟨rfl, trivial⟩, leb⟩, trivial⟩ rfl rfl rfl (fun _ => (kRelK rfl rfl (kAppN rfl rfl rfl (src_encB _ _) rfl rfl rfl rfl (by omega) (kRelK rfl rfl (kAppN rfl rfl rfl (src_encI _ _) rfl rfl rfl rfl (by omega) (kBuildG rfl (kRelF rfl rfl (kStoreP rfl rfl rfl rfl (kDone (kH (hc _ .normA)))))))))))))))) (kLit rfl rfl rfl rfl (kAlt (kRelK rfl rfl (kCall1 true (ok_spec_l2own _ pr pr) ⟨⟨⟨rfl, trivial⟩, leb⟩, trivial⟩ rfl rfl rfl (fun _ => (kLit rfl rfl rfl rfl (kRelK rfl rfl (kAppN rfl rfl rfl (src_encB _ _) rfl rfl rfl rfl (by omega) (kRelK rfl rfl (kAppN rfl rfl rfl (src_encI _ _) rfl rfl rfl rfl (by omega) (kBuildG rfl (kRelF rfl rfl (kStoreP rfl rfl rfl rfl (kDone (kH (hc _ .normA)))))))))))))) (kLit rfl rfl rfl rfl (kRelK rfl rfl (kCall1 true (ok_spec_l2own _ pr pr) ⟨⟨⟨rfl, trivial⟩, leb⟩, trivial⟩ rfl rfl rfl (fun _ => (kRelK rfl rfl (kAppN rfl rfl rfl (src_encB _ _) rfl rfl rfl rfl (by omega) (kRelK rfl rfl (kAppN rfl rfl rfl (src_encI _ _) rfl rfl rfl rfl (by omega) (kMem [(24576, ⟨2, 0, .arr true _⟩), (61440, ⟨2, 0, .arr true _⟩), (65536, ⟨3, 0, .arr true _⟩), (81920, ⟨3, 0, .arr true _⟩), (12288, ⟨1, 0, .box [.nil 1, .d _, .d _, .d _, .nil 1, .nil 1, .nil 1]⟩)] [(5, .g [.arr 24576 2]), (7, .c (.d _)), (9, .c (.d _)), (11, .c (.d _)), (14, .g [.arr 61440 2]), (18, .c (.arr 65536 3)), (22, .c (.arr 81920 3)), (2, .c (.ptr 12288 1 0))] [8192, 8192, 8192, 8192, 8192, 8192, 8192] ⟨rfl, rfl, rfl, rfl, rfl, trivial⟩ ⟨rfl, rfl, rfl, rfl, rfl, rfl, rfl, rfl, trivial⟩ rfl (kBuildG rfl (kMem [(12288, ⟨1, 0, .box [.nil 1, .d _, .d _, .d _, .nil 1, .nil 1, .nil 1]⟩), (24576, ⟨2, 0, .arr true _⟩), (61440, ⟨2, 0, .arr true _⟩), (65536, ⟨3, 0, .arr true _⟩), (81920, ⟨3, 0, .arr true _⟩)] [(2, .c (.ptr 12288 1 0)), (23, .g [.arr 24576 2, .d _, .d _, .d _, .arr 61440 2, .arr 65536 3, .arr 81920 3])] [8192, 8192, 8192, 8192, 8192, 8192, 8192] ⟨rfl, rfl, rfl, rfl, rfl, trivial⟩ ⟨rfl, rfl, trivial⟩ rfl (kRelF rfl rfl (kStoreP rfl rfl rfl rfl (kDone (kH (kMem [(12288, ⟨1, 0, .box [.arr 24576 2, .d _, .d _, .d _, .arr 61440 2, .arr 65536 3, .arr 81920 3]⟩), (24576, ⟨2, 0, .arr true _⟩), (61440, ⟨2, 0, .arr true _⟩), (65536, ⟨3, 0, .arr true _⟩), (81920, ⟨3, 0, .arr true _⟩)] [(2, .c (.ptr 12288 1 0))] [] ⟨rfl, rfl, rfl, rfl, rfl, trivial⟩ ⟨rfl, trivial⟩ rfl (hc _ .normA)))))))))))))))))))))))) (kAlt (kLit rfl rfl rfl rfl (kMem [(65536, ⟨2, 0, .arr true _⟩), (12288, ⟨1, 0, .box [.nil 1, .d _, .d _, .d _, .nil 1, .nil 1, .nil 1]⟩)] [(4, .g [.d _]), (13, .g [.d _]), (15, .c (.arr 65536 2)), (17, .c (.d _)), (21, .c (.d _)), (7, .c (.d _)), (9, .c (.d _)), (11, .c (.d _)), (2, .c (.ptr 12288 1 0))] [8192, 8192, 8192, 8192, 8192, 8192, 8192] ⟨rfl, rfl, trivial⟩ ⟨rfl, rfl, rfl, rfl, rfl, rfl, rfl, rfl, rfl, trivial⟩ rfl (kAlt (kRelK rfl rfl (kCall1 true (ok_spec_l2own _ pr pr) ⟨⟨⟨rfl, trivial⟩, leb⟩, trivial⟩ rfl rfl rfl (fun _ => (kAlt (kRelK rfl rfl (kCall1 true (ok_spec_l2own _ pr pr) ⟨⟨⟨rfl, trivial⟩, leb⟩, trivial⟩ rfl rfl rfl (fun _ => (kAlt (kRelK rfl rfl (kAppN rfl rfl rfl (src_encB _ _) rfl rfl rfl rfl (by omega) (kLit rfl rfl rfl rfl (kRelK rfl rfl (kAppN rfl rfl rfl (src_encI _ _) rfl rfl rfl rfl (by omega) (kBuildG rfl (kRelF rfl rfl (kStoreP rfl rfl rfl rfl (kDone (kH (hc _ .normA))))))))))) (kLit rfl rfl rfl rfl (kRelK rfl rfl (kAppN rfl rfl rfl (src_encB _ _) rfl rfl rfl rfl (by omega) (kRelK rfl rfl (kAppN rfl rfl rfl (src_encI _ _) rfl rfl rfl rfl (by omega) (kBuildG rfl (kRelF rfl rfl (kStoreP rfl rfl rfl rfl (kDone (kH (hc _ .normA))))))))))))))) (kLit rfl rfl rfl rfl (kRelK rfl rfl (kCall1 true (ok_spec_l2own _ pr pr) ⟨⟨⟨rfl, trivial⟩, leb⟩, trivial⟩ rfl rfl rfl (fun _ => (kRelK rfl rfl (kAppN rfl rfl rfl (src_encB _ _) rfl rfl rfl rfl (by omega) (kRelK rfl rfl (kAppN rfl rfl rfl (src_encI _ _) rfl rfl rfl rfl (by omega) (kBuildG rfl (kRelF rfl rfl (kStoreP rfl rfl rfl rfl (kDone (kH (hc _ .normA)))))))))))))))))) (kLit rfl rfl rfl rfl (kRelK rfl rfl (kCall1 true (ok_spec_l2own _ pr pr) ⟨⟨⟨rfl, trivial⟩, leb⟩, trivial⟩ rfl rfl rfl (fun _ => (kRelK rfl rfl (kCall1 true (ok_spec_l2own _ pr pr) ⟨⟨⟨rfl, trivial⟩, leb⟩, trivial⟩ rfl rfl rfl (fun _ => (kRelK rfl rfl (kAppN rfl rfl rfl (src_encB _ _) rfl rfl rfl rfl (by omega) (kRelK rfl rfl (kAppN rfl rfl rfl (src_encI _ _) rfl rfl rfl rfl (by omega) (kBuildG rfl (kRelF rfl rfl (kStoreP rfl rfl rfl rfl (kDone (kH (hc _ .normA)))))))))))))))))))) (kLit rfl rfl rfl rfl (kAlt (kRelK rfl rfl (kCall1 true (ok_spec_l2own _ pr pr) ⟨⟨⟨rfl, trivial⟩, leb⟩, trivial⟩ rfl rfl rfl (fun _ => (kAlt (kRelK rfl rfl (kCall1 true (ok_spec_l2own _ pr pr) ⟨⟨⟨rfl, trivial⟩, leb⟩, trivial⟩ rfl rfl rfl (fun _ => (kLit rfl rfl rfl rfl (kRelK rfl rfl (kAppN rfl rfl rfl (src_encB _ _) rfl rfl rfl rfl (by omega) (kRelK rfl rfl (kAppN rfl rfl rfl (src_encI _ _) rfl rfl rfl rfl (by omega) (kBuildG rfl (kRelF rfl rfl (kStoreP rfl rfl rfl rfl (kDone (kH (hc _ .normA)))))))))))))) (kLit rfl rfl rfl rfl (kRelK rfl rfl (kCall1 true (ok_spec_l2own _ pr pr) ⟨⟨⟨rfl, trivial⟩, leb⟩, trivial⟩ rfl rfl rfl (fun _ => (kRelK rfl rfl (kAppN rfl rfl rfl (src_encB _ _) rfl rfl rfl rfl (by omega) (kRelK rfl rfl (kAppN rfl rfl rfl (src_encI _ _) rfl rfl rfl rfl (by omega) (kBuildG rfl (kRelF rfl rfl (kStoreP rfl rfl rfl rfl (kDone (kH (hc _ .normA)))))))))))))))))) (kLit rfl rfl rfl rfl (kRelK rfl rfl (kCall1 true (ok_spec_l2own _ pr pr) ⟨⟨⟨rfl, trivial⟩, leb⟩, trivial⟩ rfl rfl rfl (fun _ => (kRelK rfl rfl (kCall1 true (ok_spec_l2own _ pr pr) ⟨⟨⟨rfl, trivial⟩, leb⟩, trivial⟩ rfl rfl rfl (fun _ => (kRelK rfl rfl (kAppN rfl rfl rfl (src_encB _ _) rfl rfl rfl rfl (by omega) (kRelK rfl rfl (kAppN rfl rfl rfl (src_encI _ _) rfl rfl rfl rfl (by omega) (kBuildG rfl (kRelF rfl rfl (kStoreP rfl rfl rfl rfl (kDone (kH (hc _ .normA)))))))))))))))))))))))))))))))))))
  refine (Kr (Er (ra := [.agg [(.own true _), (.d _), (.d _), (.d _), (.own true _), (.own true _), (.own true _)]]) rfl rfl))

def c_spec_l3ownAll : C := (.g (.o 0 2 (.mov (.n 7)) .done) (.g (.o 0 3 (.mov (.n 7)) .done) (.seq (.g (.o 0 4 (.mov (.i 0)) .done) (.block 0 (.loop (.seq (.g (.o 0 5 (.mov (.t 4)) (.o 1 6 (.mov (.t 0)) (.o 2 7 (.len (.t 6)) (.o 3 8 (.bin .lss (.t 5) (.t 7)) .done)))) (.cond (.t 8) .skip (.exit 0))) (.seq (.block 1 (.reg false (.o 0 11 (.mov (.t 3)) (.o 1 12 (.mov (.t 0)) (.o 2 13 (.mov (.t 4)) (.o 3 14 (.iad 7 (.t 12) (.t 13)) (.o 4 15 (.load (some 7) (.t 14)) (.o 5 16 (.call 16 75 [(.t 15)]) (.o 6 17 (.lit 17 7 [(.n 1), (.i 0), (.i 0), (.i 0), (.n 1), (.n 1), (.n 1)] 1 [(0, 7, (.t 16))]) (.o 7 18 (.app 18 7 120 (.t 11) (.t 17)) (.o 8 3 (.mov (.t 18)) .done))))))))))) (.reg false (.o 0 9 (.mov (.t 4)) (.o 1 10 (.bin .add (.t 9) (.i 1)) (.o 2 4 (.mov (.t 10)) .done))))))))) (.g (.o 0 19 (.mov (.t 3)) (.o 1 2 (.mov (.t 19)) .done)) .ret))))
theorem dg_spec_l3ownAll : Tryz.f141.body.bind (digC Tryz.prog Tryz.f141.ntmps []) = some c_spec_l3ownAll := by kernel_rfl
theorem rs_spec_l3ownAll : resSlots Tryz.prog Tryz.f141 = some [.s 2] := by kernel_rfl
theorem ok_spec_l3ownAll (l : List Rr) (hs : SmallRs l) :
    FnOK Tryz.prog 141 [.one (.d (encR l))] (fun ra _ => ra = [.one (.own true (encR l))]) := by
  refine FnOK.ofK Tryz.func141 (by kernel_rfl) dg_spec_l3ownAll rs_spec_l3ownAll rfl rfl ?_
  delta c_spec_l3ownAll T.o X.i C.g
  have h1 := hs.len
  refine Kbc (Ka Y (Kdb (Kc (Ka Y (Kdb (Kbc (Ka Y (Kd (Kt ?_)))))))))
  refine kSub (Sub.nilArr (j := 3) (id := rid 5000 0) (sz := 7) rfl (by decide)) ?_
  refine kLoop (α := { i : Nat // i ≤ l.length }) (fun y => ⟨tabSl [(0, .dv (encR l)), (3, .c (.arr (rid 5000 0) 1)), (4, .i y.1)], obTab 1 [(rid 5000 0, ⟨1, 0, .arr true (encR (l.take y.1))⟩)], []⟩) (fun y => l.length - y.1) ⟨0, by simp⟩ .normA ?_
  rintro ⟨i, hi⟩
  simp only
  have hlen : (l.take i).length = i := by simp; omega
  rcases Nat.lt_or_ge i l.length with hlt | hge
  · have hbi := hs.mem _ (List.getElem_mem hlt)
    refine Kb (Kbc (Ka Y (Ka Y (Kq Y Y (Kj Y Y Y (Kd (Km Y (fun g0 => Kn (Kb (Kt (Kc (Ka Y (Ka Y (Ka Y (kIadR Y Y Y om (Ky Y Y (Ku true (ok_spec_l3own _ pr) ⟨⟨⟨Y, Y, Y, Y, Y, Y, Y, trivial⟩, leb⟩, trivial⟩ Y Y Y (fun _ => (kLit Y Y Y Y (kAppRec Y Y Y Y Y Y Y om (Ka Y (Kd (Kv (Kc (Ka Y (kAdd Y Y om (Ka Y (Kd ?_))))))))))))))))))))) (fun g0 => om))))))))
    exact kInv ⟨⟨i + 1, by omega⟩, by simp only; omega, .normA⟩
  · refine Kb (Kbc (Ka Y (Ka Y (Kq Y Y (Kj Y Y Y (Kd (Km Y (fun g0 => om) (fun g0 => kExit (kExC (kExI (kExB (Kbc (Ka Y (Ka Y (Kd (Kr (Er (ra := [.one (.own true _)]) rfl ?_)))))))))))))))))
    rw [show i = l.length by omega, List.take_length]

def c_spec_l5own : C := (.g (.o 0 1 (.box 1 (.t 0)) (.o 1 2 (.alloc 2 [(.n 1), (.n 7)]) .done)) (.seq (.reg true (.op 0 [] (some 3) none true (.fad (.t 1) 0) (.op 1 [] (some 4) none true (.load (some 1) (.t 3)) (.op 3 [] (some 6) none true (.fad (.t 1) 1) (.op 4 [] (some 7) none true (.load none (.t 6)) (.op 2 [1] (some 5) none false (.call 5 140 [(.t 4)]) (.op 5 [4, 1] (some 8) none false (.call 8 141 [(.t 7)]) (.op 6 [] (some 9) none true (.build [(.n 1), (.n 7)] [(0, 1, (.t 5)), (1, 1, (.t 8))]) (.op 7 [1, 4] none none false (.store (some 2) (.t 2) (.t 9)) .done))))))))) .ret))
theorem dg_spec_l5own : Tryz.f56.body.bind (digC Tryz.prog Tryz.f56.ntmps []) = some c_spec_l5own := by kernel_rfl
theorem rs_spec_l5own : resSlots Tryz.prog Tryz.f56 = some [.m 2 (some 2)] := by kernel_rfl
theorem ok_spec_l5own (z : Zone) (hs : SmallZ z) :
    FnOK Tryz.prog 56 [.agg (z.cells.map .d)] (fun ra _ => ra = [.agg [.own true (encBB z.origin), .own true (encR z.rrs)]]) := by
  refine FnOK.ofK Tryz.func56 (by kernel_rfl) dg_spec_l5own rs_spec_l5own rfl rfl ?_
  delta c_spec_l5own T.o X.i C.g
  have o1 := hs.o.len
  have o2 := hs.o.mem
  have h1 := hs.r
  refine Kbc (kBox Y Y Y Y Y (kAlloc Y Y (Kdb (kRegD (Kf Y Y (Ke Y Y Y (Kf Y Y (Ke Y Y Y (Kx Y Y (Ku true (ok_spec_l2own _ pr pr) ⟨⟨⟨Y, trivial⟩, leb⟩, trivial⟩ Y Y Y (fun _ => (Ks Y Y (Ku true (ok_spec_l3ownAll _ pr) ⟨Y, trivial⟩ Y Y Y (fun _ => (kBuildG Y (Ks Y Y (Ko Y Y Y Y (Kd (kH (Kr (Er (ra := [.agg [(.own true _), (.own true _)]]) rfl rfl)))))))))))))))))))))

def c_spec_Add : C := (.g (.o 0 2 (.box 2 (.t 0)) (.o 1 3 (.box 3 (.t 1)) (.o 2 4 (.alloc 4 [(.n 1), (.n 7)]) (.o 3 5 (.mov (.v (.bool false))) .done)))) (.seq (.g (.o 0 7 (.load (some 2) (.t 2)) (.o 1 8 (.call 8 21 [(.t 7)]) (.o 2 9 (.un .not (.t 8)) (.o 3 10 (.mov (.t 9)) (.op 4 [] (some 11) (some (10, false)) false (.load (some 7) (.t 3)) (.op 5 [] (some 12) (some (10, false)) false (.call 12 22 [(.t 11)]) (.op 6 [] (some 13) (some (10, false)) false (.un .not (.t 12)) (.o 7 14 (.pick (.t 10) (.v (.bool true)) (.t 13)) .done)))))))) (.cond (.t 14) (.g (.o 0 15 (.build [(.n 1), (.n 7)] []) (.op 1 [] none none false (.store (some 2) (.t 4) (.t 15)) (.o 2 5 (.mov (.v (.bool false))) .done))) .ret) .skip)) (.g (.o 0 16 (.load (some 2) (.t 2)) (.o 1 17 (.load (some 7) (.t 3)) (.o 2 18 (.call 18 55 [(.t 16), (.t 17)]) (.o 3 6 (.alloc 6 [(.n 1), (.n 7)]) (.op 4 [] none none false (.store (some 2) (.t 6) (.t 18)) .done))))) (.seq (.g (.o 0 19 (.load (some 2) (.t 6)) (.o 1 20 (.call 20 21 [(.t 19)]) (.o 2 21 (.un .not (.t 20)) .done))) (.cond (.t 21) (.g (.o 0 22 (.load (some 2) (.t 2)) (.o 1 23 (.call 23 56 [(.t 22)]) (.op 2 [] none none false (.store (some 2) (.t 4) (.t 23)) (.o 3 5 (.mov (.v (.bool false))) .done)))) .ret) .skip)) (.g (.o 0 24 (.load (some 2) (.t 6)) (.o 1 25 (.call 25 56 [(.t 24)]) (.op 2 [] none none false (.store (some 2) (.t 4) (.t 25)) (.o 3 5 (.mov (.v (.bool true))) .done)))) .ret)))))
theorem dg_spec_Add : Tryz.f11.body.bind (digC Tryz.prog Tryz.f11.ntmps []) = some c_spec_Add := by kernel_rfl
theorem rs_spec_Add : resSlots Tryz.prog Tryz.f11 = some [.m 4 (some 2), .s 5] := by kernel_rfl
theorem ok_spec_Add (z : Zone) (r : Rr) (hs : SmallZ z) (hr : SmallR r) :
    FnOK Tryz.prog 11 [.agg (z.cells.map .d), .agg (r.cells.map .d)] (fun ra _ => ra = [.agg [.own true (encBB (addN z r).origin), .own true (encR (addN z r).rrs)], .one (.d (.sc (.bool (addOk z r))))]) := by
  refine FnOK.ofK Tryz.func11 (by kernel_rfl) dg_spec_Add rs_spec_Add rfl rfl ?_
  delta c_spec_Add T.o X.i C.g
  cases a1 : zoneOk z
  · rw [show addN z r = zeroZ by unfold addN; rw [a1]; rfl, show addOk z r = false by unfold addOk; rw [a1]; rfl]
    refine Kbc (kBox Y Y Y Y Y (kBox Y Y Y Y Y (kAlloc Y Y (Ka Y (Kdb (Kbc (Ke Y Y Y (Kp (ok_spec_ZoneOk _ pry) ⟨⟨⟨Y, Y, trivial⟩, leb⟩, trivial⟩ Y Y Y Y Y (Kw Y Y (Ka Y (kGN Y (fun g0 => Kg Y (Kg Y (Kg Y (Kk Y (Ka Y (Kd (kCondT Y (Kbc (kBuildG Y (Ko Y Y Y Y (Ka Y (Kd (Kr (Er (ra := [.agg [(.own true _), (.own true _)], .one (.d _)]) rfl rfl)))))))))))))) (fun g0 => (by (simp [*] at g0))))))))))))))
  cases a2 : rrOk r
  · rw [show addN z r = zeroZ by unfold addN; rw [a1, a2]; rfl, show addOk z r = false by unfold addOk; rw [a1, a2]; rfl]
    refine Kbc (kBox Y Y Y Y Y (kBox Y Y Y Y Y (kAlloc Y Y (Ka Y (Kdb (Kbc (Ke Y Y Y (Kp (ok_spec_ZoneOk _ pry) ⟨⟨⟨Y, Y, trivial⟩, leb⟩, trivial⟩ Y Y Y Y Y (Kw Y Y (Ka Y (kGN Y (fun g0 => (by (simp [*] at g0))) (fun g0 => Ki Y (Ke Y Y Y (Ki Y (Kp (ok_spec_RrOk _ pry) ⟨⟨⟨Y, Y, Y, Y, Y, Y, Y, trivial⟩, leb⟩, trivial⟩ Y Y Y Y Y (Ki Y (Kw Y Y (Kl Y (Ka Y (Kd (kCondN Y (fun g1 => Kbc (kBuildG Y (Ko Y Y Y Y (Ka Y (Kd (Kr (Er (ra := [.agg [(.own true _), (.own true _)], .one (.d _)]) rfl rfl))))))) (fun g1 => (by (simp [*] at g1))))))))))))))))))))))))
  have hm := zone_rrs a1
  have hp := zoneOk_pos a1
  have hl : z.rrs.length ≤ 1000000 := by omega
  have hz2 := addZ_small a1 a2
  have ok1 := ok_spec_ZoneOk (addZ z r) hz2
  have ok2 := ok_spec_l5own (addZ z r) hz2
  refine Kbc (kBox Y Y Y Y Y (kBox Y Y Y Y Y (kAlloc Y Y (Ka Y (Kdb (Kbc (Ke Y Y Y (Kp (ok_spec_ZoneOk _ pry) ⟨⟨⟨Y, Y, trivial⟩, leb⟩, trivial⟩ Y Y Y Y Y (Kw Y Y (Ka Y (kGN Y (fun g0 => (by (simp [*] at g0))) (fun g0 => Ki Y (Ke Y Y Y (Ki Y (Kp (ok_spec_RrOk _ pry) ⟨⟨⟨Y, Y, Y, Y, Y, Y, Y, trivial⟩, leb⟩, trivial⟩ Y Y Y Y Y (Ki Y (Kw Y Y (Kl Y (Ka Y (Kd (kCondN Y (fun g1 => (by (simp [*] at g1))) (fun g1 => Kn (Kbc (Ke Y Y Y (Ke Y Y Y (kCallD2 (ok_spec_l5add _ _ pry pry pry pry pry) ⟨⟨⟨Y, Y, trivial⟩, leb⟩, ⟨⟨Y, Y, Y, Y, Y, Y, Y, trivial⟩, leb⟩, trivial⟩ Y Y Y Y (kAlloc Y Y (Ko Y Y Y Y (Kdb (Kbc (Ke Y Y Y ?_)))))))))))))))))))))))))))))))
  refine Kp ok1 ⟨⟨⟨Y, Y, trivial⟩, leb⟩, trivial⟩ Y Y Y Y Y ?_
  cases a3 : zoneOk (addZ z r)
  · rw [show addN z r = z by unfold addN; rw [a1, a2, a3]; rfl, show addOk z r = false by unfold addOk; rw [a1, a2, a3]; rfl]
    refine Kw Y Y (Kd (kCondT Y (Kbc (Ke Y Y Y (Ku true (ok_spec_l5own _ pry) ⟨⟨⟨Y, Y, trivial⟩, leb⟩, trivial⟩ Y Y Y (fun _ => (Ko Y Y Y Y (Ka Y (Kd (Kr (Er (ra := [.agg [(.own true _), (.own true _)], .one (.d _)]) rfl rfl)))))))))))
  · rw [show addN z r = addZ z r by unfold addN; rw [a1, a2, a3]; rfl, show addOk z r = true by unfold addOk; rw [a1, a2, a3]; rfl]
    refine Kw Y Y (Kd (kCondF Y (Kn (Kbc (Ke Y Y Y ?_)))))
    refine Ku true ok2 ⟨⟨⟨Y, Y, trivial⟩, leb⟩, trivial⟩ Y Y Y (fun _ => ?_)
    refine (Ko Y Y Y Y (Ka Y (Kd (Kr (Er (ra := [.agg [(.own true _), (.own true _)], .one (.d _)]) rfl rfl)))))

def c_laws_toByteS : C := (.g (.o 0 2 (.mov (.n 1)) .done) (.g (.o 0 5 (.mov (.t 0)) (.o 1 6 (.len (.t 5)) (.o 2 7 (.mk 7 1 [(.v (.int .u8 0))] 1 (.t 6)) (.o 3 3 (.mov (.t 7)) .done)))) (.seq (.g (.o 0 4 (.mov (.i 0)) .done) (.block 0 (.loop (.seq (.g (.o 0 8 (.mov (.t 4)) (.o 1 9 (.mov (.t 0)) (.o 2 10 (.len (.t 9)) (.o 3 11 (.bin .lss (.t 8) (.t 10)) .done)))) (.cond (.t 11) .skip (.exit 0))) (.seq (.block 1 (.reg false (.o 0 14 (.mov (.t 3)) (.o 1 15 (.mov (.t 4)) (.o 2 16 (.mov (.t 0)) (.o 3 17 (.mov (.t 4)) (.o 4 18 (.iad 1 (.t 16) (.t 17)) (.o 5 19 (.load none (.t 18)) (.o 6 20 (.iad 1 (.t 14) (.t 15)) (.op 7 [] none none false (.store none (.t 20) (.t 19)) .done)))))))))) (.reg false (.o 0 12 (.mov (.t 4)) (.o 1 13 (.bin .add (.t 12) (.i 1)) (.o 2 4 (.mov (.t 13)) .done))))))))) (.g (.o 0 21 (.mov (.t 3)) (.o 1 2 (.mov (.t 21)) .done)) .ret))))
theorem dg_laws_toByteS : Tryz.f31.body.bind (digC Tryz.prog Tryz.f31.ntmps []) = some c_laws_toByteS := by kernel_rfl
theorem rs_laws_toByteS : resSlots Tryz.prog Tryz.f31 = some [.s 2] := by kernel_rfl
theorem ok_laws_toByteS (a : List UInt8) (ha : a.length ≤ 4194304) :
    FnOK Tryz.prog 31 [.one (.d (encB a))] (fun ra _ => ra = [.one (.own true (encB a))]) := by
  refine FnOK.ofK Tryz.func31 (by kernel_rfl) dg_laws_toByteS rs_laws_toByteS rfl rfl ?_
  delta c_laws_toByteS T.o X.i C.g
  refine Kbc (Ka Y (Kd ?_))
  refine Kbc (Ka Y (kLen Y Y Y ?_))
  rw [len_encB]
  refine kMk Y om rfl rfl rfl rfl rfl (Ka Y (Kd ?_))
  rw [show (Int.toNat (a.length : Int)) = a.length from rfl, encB_zeros]
  refine Kb (Kbc (Ka Y (Kd (Kt ?_))))
  refine kLoop (α := { i : Nat // i ≤ a.length })
    (fun y => ⟨tabSl [(0, .dv (encB a)), (3, .c (.arr (rid 7 0) 1)), (4, .i y.1)], upd (St.init [.one (.d (encB a))]).ob (rid 7 0) ⟨1, y.1, .arr true (encB (a.take y.1 ++ (List.replicate a.length 0).drop y.1))⟩, []⟩) (fun y => a.length - y.1) ⟨0, by simp⟩
    (.tab rfl ⟨.refl _, .refl _, .refl _, trivial⟩) ?_
  rintro ⟨i, hi⟩
  simp only
  refine Kb (Kbc ?_)
  refine Ka Y (Ka Y (kLen Y Y Y (Kj Y Y Y (Kd ?_))))
  rw [len_encB]
  have hl1 : (a.take i).length = i := by simp; omega
  refine kCond Y (fun h1 => ?_) (fun h1 => ?_)
  · have hlt : i < a.length := by simp at h1; omega
    refine Kn (Kb (Kt (Kc ?_)))
    refine Ka Y (Ka Y (Ka Y (Ka Y (kIadD Y Y Y Y ?_ ?_))))
    · rw [len_encB]; omega
    rw [row_encB' a i hlt]
    refine Ky Y Y (kIadA Y Y Y Y ?_ ?_)
    · rw [len_encB]; simp; omega
    refine kStoreE1 Y Y Y Y (by simp [encB, DV.esz]) (Kd (Kv ?_))
    rw [setRow_encB' _ _ _ (by simp; omega)]
    refine Kc (Ka Y (kAdd Y Y ?_ (Ka Y (Kd (kInv ?_)))))
    · omega
    refine ⟨⟨i + 1, hlt⟩, by simp only; omega, .tab ?_ ⟨.refl _, .refl _, .refl _, trivial⟩⟩
    refine Eq.trans ?_ (upd_upd _ _ _ _).symm
    refine congrArg (upd _ _) ?_
    show _ = Ob.mk _ _ (OK.arr _ (encB ((a.take i ++ (List.replicate a.length 0).drop i).set i a[i])))
    rw [take_set_succ _ _ _ _ (by simpa using hlt) hl1, List.take_append_getElem]
    rfl
  · refine kExit (kExC (kExI (kExB ?_)))
    have hge : i = a.length := by simp at h1; omega
    subst hge
    refine Kbc (Ka Y (Ka Y (Kd (Kr ?_))))
    refine endRet (ra := [.one (.own true _)]) rfl ⟨⟨⟨⟨_, rfl, fun _ => rfl⟩, .inl Nat.zero_lt_one⟩, trivial⟩, nodupB_sound rfl, trivial, trivial⟩ ?_
    simp

def c_laws_toByteSS : C := (.g (.o 0 2 (.mov (.n 1)) .done) (.g (.o 0 5 (.mov (.t 0)) (.o 1 6 (.len (.t 5)) (.o 2 7 (.mk 7 1 [(.n 1)] 24 (.t 6)) (.o 3 3 (.mov (.t 7)) .done)))) (.seq (.g (.o 0 4 (.mov (.i 0)) .done) (.block 0 (.loop (.seq (.g (.o 0 8 (.mov (.t 4)) (.o 1 9 (.mov (.t 0)) (.o 2 10 (.len (.t 9)) (.o 3 11 (.bin .lss (.t 8) (.t 10)) .done)))) (.cond (.t 11) .skip (.exit 0))) (.seq (.block 1 (.reg false (.o 0 14 (.mov (.t 3)) (.o 1 15 (.mov (.t 4)) (.o 2 16 (.mov (.t 0)) (.o 3 17 (.mov (.t 4)) (.o 4 18 (.iad 1 (.t 16) (.t 17)) (.o 5 19 (.load none (.t 18)) (.o 6 20 (.call 20 31 [(.t 19)]) (.o 7 21 (.iad 1 (.t 14) (.t 15)) (.op 8 [] none none false (.store none (.t 21) (.t 20)) .done))))))))))) (.reg false (.o 0 12 (.mov (.t 4)) (.o 1 13 (.bin .add (.t 12) (.i 1)) (.o 2 4 (.mov (.t 13)) .done))))))))) (.g (.o 0 22 (.mov (.t 3)) (.o 1 2 (.mov (.t 22)) .done)) .ret))))
theorem dg_laws_toByteSS : Tryz.f142.body.bind (digC Tryz.prog Tryz.f142.ntmps []) = some c_laws_toByteSS := by kernel_rfl
theorem rs_laws_toByteSS : resSlots Tryz.prog Tryz.f142 = some [.s 2] := by kernel_rfl
theorem ok_laws_toByteSS (a : List (List UInt8)) (ha : a.length ≤ 4194304) (hb : ∀ b ∈ a, b.length ≤ 4194304) :
    FnOK Tryz.prog 142 [.one (.d (encBB a))] (fun ra _ => ra = [.one (.own true (encBB a))]) := by
  refine FnOK.ofK Tryz.func142 (by kernel_rfl) dg_laws_toByteSS rs_laws_toByteSS rfl rfl ?_
  delta c_laws_toByteSS T.o X.i C.g
  refine Kbc (Ka Y (Kd ?_))
  refine Kbc (Ka Y (kLen Y Y Y ?_))
  rw [len_encBB]
  refine kMk Y om rfl rfl rfl rfl rfl (Ka Y (Kd ?_))
  rw [show (Int.toNat (a.length : Int)) = a.length from rfl, encBB_zeros]
  refine Kb (Kbc (Ka Y (Kd (Kt ?_))))
  refine kLoop (α := { p : Nat × Nat // p.1 ≤ a.length ∧ 1 ≤ p.2 })
    (fun y => ⟨tabSl [(0, .dv (encBB a)), (3, .c (.arr (rid 7 0) 1)), (4, .i y.1.1)], obTab y.1.2 [(rid 7 0, ⟨1, y.1.1, .arr true (encBB (a.take y.1.1 ++ (List.replicate a.length []).drop y.1.1))⟩)], []⟩) (fun y => a.length - y.1.1) ⟨(0, 2), by simp⟩
    (.canon (V := 1) (.set (VB.mono (.init _) (by omega)) (by simp)) (by simp) rfl ⟨.refl _, .refl _, .refl _, trivial⟩ ⟨rfl, trivial⟩) ?_
  rintro ⟨⟨i, V⟩, hi, hV⟩
  simp only at hi hV ⊢
  refine Kb (Kbc ?_)
  refine Ka Y (Ka Y (kLen Y Y Y (Kj Y Y Y (Kd ?_))))
  rw [len_encBB]
  have hl1 : (a.take i).length = i := by simp; omega
  refine kCond Y (fun h1 => ?_) (fun h1 => ?_)
  · have hlt : i < a.length := by simp at h1; omega
    refine Kn (Kb (Kt (Kc ?_)))
    refine Ka Y (Ka Y (Ka Y (Ka Y (kIadD Y Y Y Y ?_ ?_))))
    · rw [len_encBB]; omega
    rw [show (encBB a).row (i : Int).toNat = [encB a[i]] from row_encBB a i hlt]
    refine Ky Y Y ?_
    refine Ku false (ok_laws_toByteS a[i] (hb _ (List.getElem_mem hlt))) ⟨Y, trivial⟩ rfl rfl rfl fun os => ?_
    refine kIadA Y Y Y Y ?_ ?_
    · rw [len_encBB]; simp; omega
    refine kStoreEA Y Y Y Y Y Nat.zero_lt_one (by simp [encBB, DV.esz]) (Kd (Kv ?_))
    rw [setRow_encBB _ _ _ (by simp; omega)]
    refine Kc (Ka Y (kAdd Y Y om (Ka Y (Kd (kInv ?_)))))
    refine ⟨⟨(i + 1, V + 3), hlt, by simp only; omega⟩, by simp only; omega, .canon (V := V + 2) (.set (.kill (.after (.tab ?_))) ?_) (by simp) rfl ⟨.refl _, .refl _, .refl _, trivial⟩ ⟨?_, trivial⟩⟩
    · simpa using hV
    · simp only; omega
    · show Ob.mk _ _ (OK.arr _ (encBB ((a.take i ++ (List.replicate a.length []).drop i).set i a[i]))) = _
      rw [take_set_succ _ _ _ _ (by simpa using hlt) hl1, List.take_append_getElem]
      rfl
  · refine kExit (kExC (kExI (kExB ?_)))
    have hge : i = a.length := by simp at h1; omega
    subst hge
    refine Kbc (Ka Y (Ka Y (Kd (Kr ?_))))
    refine endRet (ra := [.one (.own true _)]) rfl ⟨⟨⟨⟨_, rfl, fun _ => rfl⟩, .inl Nat.zero_lt_one⟩, trivial⟩, nodupB_sound rfl, trivial, trivial⟩ ?_
    simp

def c_laws_toName : C := (.g (.o 0 1 (.box 1 (.t 0)) (.o 1 2 (.alloc 2 [(.n 1)]) .done)) (.g (.o 0 3 (.alloc 3 [(.n 1)]) .done) (.g (.o 0 4 (.fad (.t 1) 0) (.o 1 5 (.load none (.t 4)) (.o 2 6 (.call 6 142 [(.t 5)]) (.o 3 7 (.fad (.t 3) 0) (.op 4 [] none none false (.store none (.t 7) (.t 6)) .done))))) (.g (.o 0 8 (.load (some 1) (.t 3)) (.op 1 [] none none false (.store (some 1) (.t 2) (.t 8)) .done)) .ret))))
theorem dg_laws_toName : Tryz.f57.body.bind (digC Tryz.prog Tryz.f57.ntmps []) = some c_laws_toName := by kernel_rfl
theorem rs_laws_toName : resSlots Tryz.prog Tryz.f57 = some [.m 2 (some 1)] := by kernel_rfl
theorem ok_laws_toName (a : List (List UInt8)) (ha : a.length ≤ 4194304) (hb : ∀ b ∈ a, b.length ≤ 4194304) :
    FnOK Tryz.prog 57 [.agg [.d (encBB a)]] (fun ra _ => ra = [.agg [.own true (encBB a)]]) := by
  refine FnOK.ofK Tryz.func57 (by kernel_rfl) dg_laws_toName rs_laws_toName rfl rfl ?_
  delta c_laws_toName T.o X.i C.g
  refine Kbc (kBox Y Y Y Y Y (kAlloc Y Y (Kd ?_)))
  refine Kbc (kAlloc Y Y (Kd ?_))
  refine Kbc (Kf Y Y (Ke Y Y Y ?_))
  refine Ku false (ok_laws_toByteSS a ha hb) ⟨Y, trivial⟩ rfl rfl rfl fun os => ?_
  refine Kf Y Y (Ko Y Y Y Y (Kd ?_))
  refine Kbc (Ke Y Y Y (Ko Y Y Y Y (Kd (Kr ?_))))
  refine endRet (ra := [.agg [.own true _]]) rfl ⟨⟨⟨⟨⟨⟨_, rfl, fun _ => rfl⟩, .inl Nat.zero_lt_one⟩, trivial⟩, leb⟩, trivial⟩, nodupB_sound rfl, ⟨trivial, trivial⟩, trivial⟩ rfl

def c_laws_toIntS : C := (.g (.o 0 2 (.mov (.n 1)) .done) (.g (.o 0 5 (.mov (.t 0)) (.o 1 6 (.len (.t 5)) (.o 2 7 (.mk 7 1 [(.i 0)] 8 (.t 6)) (.o 3 3 (.mov (.t 7)) .done)))) (.seq (.g (.o 0 4 (.mov (.i 0)) .done) (.block 0 (.loop (.seq (.g (.o 0 8 (.mov (.t 4)) (.o 1 9 (.mov (.t 0)) (.o 2 10 (.len (.t 9)) (.o 3 11 (.bin .lss (.t 8) (.t 10)) .done)))) (.cond (.t 11) .skip (.exit 0))) (.seq (.block 1 (.reg false (.o 0 14 (.mov (.t 3)) (.o 1 15 (.mov (.t 4)) (.o 2 16 (.mov (.t 0)) (.o 3 17 (.mov (.t 4)) (.o 4 18 (.iad 1 (.t 16) (.t 17)) (.o 5 19 (.load none (.t 18)) (.o 6 20 (.iad 1 (.t 14) (.t 15)) (.op 7 [] none none false (.store none (.t 20) (.t 19)) .done)))))))))) (.reg false (.o 0 12 (.mov (.t 4)) (.o 1 13 (.bin .add (.t 12) (.i 1)) (.o 2 4 (.mov (.t 13)) .done))))))))) (.g (.o 0 21 (.mov (.t 3)) (.o 1 2 (.mov (.t 21)) .done)) .ret))))
theorem dg_laws_toIntS : Tryz.f59.body.bind (digC Tryz.prog Tryz.f59.ntmps []) = some c_laws_toIntS := by kernel_rfl
theorem rs_laws_toIntS : resSlots Tryz.prog Tryz.f59 = some [.s 2] := by kernel_rfl
theorem ok_laws_toIntS (a : List Int) (ha : a.length ≤ 4194304) :
    FnOK Tryz.prog 59 [.one (.d (Hearth.encI a))] (fun ra _ => ra = [.one (.own true (Hearth.encI a))]) := by
  refine FnOK.ofK Tryz.func59 (by kernel_rfl) dg_laws_toIntS rs_laws_toIntS rfl rfl ?_
  delta c_laws_toIntS T.o X.i C.g
  refine Kbc (Ka Y (Kdb (Kc (Ka Y (Kq Y Y ?_)))))
  refine kMk Y om rfl rfl rfl rfl rfl ?_
  rw [show DV.sl 1 (List.replicate (Int.toNat (a.length : Int)) [.sc (.int .i64 0)]) = Hearth.encI (List.replicate a.length 0) by simp [Hearth.encI]]
  refine Ka Y (Kdb (Kbc (Ka Y (Kd (Kt ?_)))))
  refine kLoop (α := { i : Nat // i ≤ a.length })
    (fun y => ⟨tabSl [(0, .dv (Hearth.encI a)), (3, .c (.arr (rid 7 0) 1)), (4, .i y.1)], obTab 1 [(rid 7 0, ⟨1, 0, .arr true (Hearth.encI (a.take y.1 ++ (List.replicate a.length 0).drop y.1))⟩)], []⟩) (fun y => a.length - y.1) ⟨0, by simp⟩
    .normA ?_
  rintro ⟨i, hi⟩
  simp only
  have hl1 : (a.take i).length = i := by simp; omega
  have hl2 : (a.take i ++ (List.replicate a.length 0).drop i).length = a.length := by simp; omega
  rcases Nat.lt_or_ge i a.length with hlt | hge
  · refine Kb (Kbc (Ka Y (Ka Y (Kq Y Y (Kj Y Y Y (Kd (Km Y (fun g0 => Kn (Kb (Kt (Kc (Ka Y (Ka Y (Ka Y (Ka Y (kIadR Y Y Y om (Ky Y Y (kIadAR Y Y Y Y om (kStoreER Y Y Y Y Y Y Y om rfl (Kd (Kv (Kc (Ka Y (kAdd Y Y om (Ka Y (Kd ?_))))))))))))))))))) (fun g0 => om))))))))
    exact kInv ⟨⟨i + 1, by omega⟩, by simp only; omega, .normA⟩
  · refine Kb (Kbc (Ka Y (Ka Y (Kq Y Y (Kj Y Y Y (Kd (Km Y (fun g0 => om) (fun g0 => kExit (kExC (kExI (kExB (Kbc (Ka Y (Ka Y (Kd (Kr (Er (ra := [.one (.own true _)]) rfl ?_)))))))))))))))))
    rw [show i = a.length by omega]
    simp

def c_laws_toRr : C := (.g (.o 0 1 (.box 1 (.t 0)) (.o 1 2 (.alloc 2 [(.n 1), (.i 0), (.i 0), (.i 0), (.n 1), (.n 1), (.n 1)]) .done)) (.g (.o 0 3 (.alloc 3 [(.n 1), (.i 0), (.i 0), (.i 0), (.n 1), (.n 1), (.n 1)]) .done) (.g (.o 0 4 (.fad (.t 1) 0) (.o 1 5 (.load (some 1) (.t 4)) (.o 2 6 (.call 6 57 [(.t 5)]) (.o 3 7 (.fad (.t 3) 0) (.op 4 [] none none false (.store (some 1) (.t 7) (.t 6)) .done))))) (.g (.o 0 8 (.fad (.t 1) 1) (.o 1 9 (.load none (.t 8)) (.o 2 10 (.fad (.t 3) 1) (.op 3 [] none none false (.store none (.t 10) (.t 9)) .done)))) (.g (.o 0 11 (.fad (.t 1) 2) (.o 1 12 (.load none (.t 11)) (.o 2 13 (.fad (.t 3) 2) (.op 3 [] none none false (.store none (.t 13) (.t 12)) .done)))) (.g (.o 0 14 (.fad (.t 1) 3) (.o 1 15 (.load none (.t 14)) (.o 2 16 (.fad (.t 3) 3) (.op 3 [] none none false (.store none (.t 16) (.t 15)) .done)))) (.g (.o 0 17 (.fad (.t 1) 4) (.o 1 18 (.load (some 1) (.t 17)) (.o 2 19 (.call 19 57 [(.t 18)]) (.o 3 20 (.fad (.t 3) 4) (.op 4 [] none none false (.store (some 1) (.t 20) (.t 19)) .done))))) (.g (.o 0 21 (.fad (.t 1) 5) (.o 1 22 (.load none (.t 21)) (.o 2 23 (.call 23 31 [(.t 22)]) (.o 3 24 (.fad (.t 3) 5) (.op 4 [] none none false (.store none (.t 24) (.t 23)) .done))))) (.g (.o 0 25 (.fad (.t 1) 6) (.o 1 26 (.load none (.t 25)) (.o 2 27 (.call 27 59 [(.t 26)]) (.o 3 28 (.fad (.t 3) 6) (.op 4 [] none none false (.store none (.t 28) (.t 27)) .done))))) (.g (.o 0 29 (.load (some 7) (.t 3)) (.op 1 [] none none false (.store (some 7) (.t 2) (.t 29)) .done)) .ret))))))))))
theorem dg_laws_toRr : Tryz.f13.body.bind (digC Tryz.prog Tryz.f13.ntmps []) = some c_laws_toRr := by kernel_rfl
theorem rs_laws_toRr : resSlots Tryz.prog Tryz.f13 = some [.m 2 (some 7)] := by kernel_rfl
theorem ok_laws_toRr (a : Rr) (hs : SmallR a) :
    FnOK Tryz.prog 13 [.agg (a.cells.map .d)] (fun ra _ => ra = [.agg [.own true (encBB a.name), .d (.sc (.int .i64 a.ty)), .d (.sc (.int .i64 a.ttl)), .d (.sc (.int .i64 a.addr)), .own true (encBB a.to), .own true (encB a.text), .own true (Hearth.encI a.nums)]]) := by
  refine FnOK.ofK Tryz.func13 (by kernel_rfl) dg_laws_toRr rs_laws_toRr rfl rfl ?_
  delta c_laws_toRr T.o X.i C.g
  have n1 := hs.n.len
  have n2 := hs.n.mem
  have t1 := hs.t.len
  have t2 := hs.t.mem
  have x1 := hs.x
  have m1 := hs.m
  refine Kb (kCut ⟨tabSl [(1, .c (.ptr (rid 1 0) 1 0)), (2, .c (.ptr (rid 2 0) 1 0))], obTab 1 [(rid 1 0, ⟨1, 0, .box (a.cells.map .d)⟩), (rid 2 0, ⟨1, 0, .box [.nil 1, .d (.sc (.int .i64 0)), .d (.sc (.int .i64 0)), .d (.sc (.int .i64 0)), .nil 1, .nil 1, .nil 1]⟩)], []⟩ ?_ (fun x hc => ?_))
  case refine_2 => refine kReg (kBox rfl rfl rfl rfl rfl (kAlloc rfl rfl (kDone (hc _ .normA))))
  refine Kb (kCut ⟨tabSl [(1, .c (.ptr (rid 1 0) 1 0)), (2, .c (.ptr (rid 2 0) 1 0)), (3, .c (.ptr (rid 3 0) 1 0))], obTab 1 ([(rid 1 0, ⟨1, 0, .box (a.cells.map .d)⟩), (rid 2 0, ⟨1, 0, .box [.nil 1, .d (.sc (.int .i64 0)), .d (.sc (.int .i64 0)), .d (.sc (.int .i64 0)), .nil 1, .nil 1, .nil 1]⟩), (rid 3 0, ⟨1, 0, .box [.nil 1, .d (.sc (.int .i64 0)), .d (.sc (.int .i64 0)), .d (.sc (.int .i64 0)), .nil 1, .nil 1, .nil 1]⟩)]), []⟩ ?_ (fun x hc => ?_))
  case refine_2 => refine kReg (kAlloc rfl rfl (kDone (hc _ .normA)))
  refine Kb (kCut ⟨tabSl [(1, .c (.ptr (rid 1 0) 1 0)), (2, .c (.ptr (rid 2 0) 1 0)), (3, .c (.ptr (rid 3 0) 1 0))], obTab 1 ([(rid 1 0, ⟨1, 0, .box (a.cells.map .d)⟩), (rid 2 0, ⟨1, 0, .box [.nil 1, .d (.sc (.int .i64 0)), .d (.sc (.int .i64 0)), .d (.sc (.int .i64 0)), .nil 1, .nil 1, .nil 1]⟩), (rid 3 0, ⟨1, 0, .box [.arr (rid 6 0) 1, .d (.sc (.int .i64 0)), .d (.sc (.int .i64 0)), .d (.sc (.int .i64 0)), .nil 1, .nil 1, .nil 1]⟩), (rid 6 0, ⟨1, 0, .arr true (encBB a.name)⟩)]), []⟩ ?_ (fun x hc => ?_))
  case refine_2 => refine kReg (kFadP rfl rfl (kLoadP rfl rfl rfl (kCall1 true (ok_laws_toName _ pr pr) ⟨⟨⟨rfl, trivial⟩, leb⟩, trivial⟩ rfl rfl rfl (fun _ => (kFadP rfl rfl (kStoreP rfl rfl rfl rfl (kDone (hc _ .normA))))))))
  refine Kb (kCut ⟨tabSl [(1, .c (.ptr (rid 1 0) 1 0)), (2, .c (.ptr (rid 2 0) 1 0)), (3, .c (.ptr (rid 3 0) 1 0))], obTab 1 ([(rid 1 0, ⟨1, 0, .box (a.cells.map .d)⟩), (rid 2 0, ⟨1, 0, .box [.nil 1, .d (.sc (.int .i64 0)), .d (.sc (.int .i64 0)), .d (.sc (.int .i64 0)), .nil 1, .nil 1, .nil 1]⟩), (rid 3 0, ⟨1, 0, .box [.arr (rid 6 0) 1, .d (.sc (.int .i64 a.ty)), .d (.sc (.int .i64 0)), .d (.sc (.int .i64 0)), .nil 1, .nil 1, .nil 1]⟩), (rid 6 0, ⟨1, 0, .arr true (encBB a.name)⟩)]), []⟩ ?_ (fun x hc => ?_))
  case refine_2 => refine kReg (kFadP rfl rfl (kLoadP rfl rfl rfl (kFadP rfl rfl (kStoreP rfl rfl rfl rfl (kDone (hc _ .normA))))))
  refine Kb (kCut ⟨tabSl [(1, .c (.ptr (rid 1 0) 1 0)), (2, .c (.ptr (rid 2 0) 1 0)), (3, .c (.ptr (rid 3 0) 1 0))], obTab 1 ([(rid 1 0, ⟨1, 0, .box (a.cells.map .d)⟩), (rid 2 0, ⟨1, 0, .box [.nil 1, .d (.sc (.int .i64 0)), .d (.sc (.int .i64 0)), .d (.sc (.int .i64 0)), .nil 1, .nil 1, .nil 1]⟩), (rid 3 0, ⟨1, 0, .box [.arr (rid 6 0) 1, .d (.sc (.int .i64 a.ty)), .d (.sc (.int .i64 a.ttl)), .d (.sc (.int .i64 0)), .nil 1, .nil 1, .nil 1]⟩), (rid 6 0, ⟨1, 0, .arr true (encBB a.name)⟩)]), []⟩ ?_ (fun x hc => ?_))
  case refine_2 => refine kReg (kFadP rfl rfl (kLoadP rfl rfl rfl (kFadP rfl rfl (kStoreP rfl rfl rfl rfl (kDone (hc _ .normA))))))
  refine Kb (kCut ⟨tabSl [(1, .c (.ptr (rid 1 0) 1 0)), (2, .c (.ptr (rid 2 0) 1 0)), (3, .c (.ptr (rid 3 0) 1 0))], obTab 1 ([(rid 1 0, ⟨1, 0, .box (a.cells.map .d)⟩), (rid 2 0, ⟨1, 0, .box [.nil 1, .d (.sc (.int .i64 0)), .d (.sc (.int .i64 0)), .d (.sc (.int .i64 0)), .nil 1, .nil 1, .nil 1]⟩), (rid 3 0, ⟨1, 0, .box [.arr (rid 6 0) 1, .d (.sc (.int .i64 a.ty)), .d (.sc (.int .i64 a.ttl)), .d (.sc (.int .i64 a.addr)), .nil 1, .nil 1, .nil 1]⟩), (rid 6 0, ⟨1, 0, .arr true (encBB a.name)⟩)]), []⟩ ?_ (fun x hc => ?_))
  case refine_2 => refine kReg (kFadP rfl rfl (kLoadP rfl rfl rfl (kFadP rfl rfl (kStoreP rfl rfl rfl rfl (kDone (hc _ .normA))))))
  refine Kb (kCut ⟨tabSl [(1, .c (.ptr (rid 1 0) 1 0)), (2, .c (.ptr (rid 2 0) 1 0)), (3, .c (.ptr (rid 3 0) 1 0))], obTab 1 ([(rid 1 0, ⟨1, 0, .box (a.cells.map .d)⟩), (rid 2 0, ⟨1, 0, .box [.nil 1, .d (.sc (.int .i64 0)), .d (.sc (.int .i64 0)), .d (.sc (.int .i64 0)), .nil 1, .nil 1, .nil 1]⟩), (rid 3 0, ⟨1, 0, .box [.arr (rid 6 0) 1, .d (.sc (.int .i64 a.ty)), .d (.sc (.int .i64 a.ttl)), .d (.sc (.int .i64 a.addr)), .arr (rid 19 0) 1, .nil 1, .nil 1]⟩), (rid 6 0, ⟨1, 0, .arr true (encBB a.name)⟩), (rid 19 0, ⟨1, 0, .arr true (encBB a.to)⟩)]), []⟩ ?_ (fun x hc => ?_))
  case refine_2 => refine kReg (kFadP rfl rfl (kLoadP rfl rfl rfl (kCall1 true (ok_laws_toName _ pr pr) ⟨⟨⟨rfl, trivial⟩, leb⟩, trivial⟩ rfl rfl rfl (fun _ => (kFadP rfl rfl (kStoreP rfl rfl rfl rfl (kDone (hc _ .normA))))))))
  refine Kb (kCut ⟨tabSl [(1, .c (.ptr (rid 1 0) 1 0)), (2, .c (.ptr (rid 2 0) 1 0)), (3, .c (.ptr (rid 3 0) 1 0))], obTab 1 ([(rid 1 0, ⟨1, 0, .box (a.cells.map .d)⟩), (rid 2 0, ⟨1, 0, .box [.nil 1, .d (.sc (.int .i64 0)), .d (.sc (.int .i64 0)), .d (.sc (.int .i64 0)), .nil 1, .nil 1, .nil 1]⟩), (rid 3 0, ⟨1, 0, .box [.arr (rid 6 0) 1, .d (.sc (.int .i64 a.ty)), .d (.sc (.int .i64 a.ttl)), .d (.sc (.int .i64 a.addr)), .arr (rid 19 0) 1, .arr (rid 23 0) 1, .nil 1]⟩), (rid 6 0, ⟨1, 0, .arr true (encBB a.name)⟩), (rid 19 0, ⟨1, 0, .arr true (encBB a.to)⟩), (rid 23 0, ⟨1, 0, .arr true (encB a.text)⟩)]), []⟩ ?_ (fun x hc => ?_))
  case refine_2 => refine kReg (kFadP rfl rfl (kLoadP rfl rfl rfl (kCall1 true (ok_laws_toByteS _ pr) ⟨rfl, trivial⟩ rfl rfl rfl (fun _ => (kFadP rfl rfl (kStoreP rfl rfl rfl rfl (kDone (hc _ .normA))))))))
  refine Kb (kCut ⟨tabSl [(1, .c (.ptr (rid 1 0) 1 0)), (2, .c (.ptr (rid 2 0) 1 0)), (3, .c (.ptr (rid 3 0) 1 0))], obTab 1 ([(rid 1 0, ⟨1, 0, .box (a.cells.map .d)⟩), (rid 2 0, ⟨1, 0, .box [.nil 1, .d (.sc (.int .i64 0)), .d (.sc (.int .i64 0)), .d (.sc (.int .i64 0)), .nil 1, .nil 1, .nil 1]⟩), (rid 3 0, ⟨1, 0, .box [.arr (rid 6 0) 1, .d (.sc (.int .i64 a.ty)), .d (.sc (.int .i64 a.ttl)), .d (.sc (.int .i64 a.addr)), .arr (rid 19 0) 1, .arr (rid 23 0) 1, .arr (rid 27 0) 1]⟩), (rid 6 0, ⟨1, 0, .arr true (encBB a.name)⟩), (rid 19 0, ⟨1, 0, .arr true (encBB a.to)⟩), (rid 23 0, ⟨1, 0, .arr true (encB a.text)⟩), (rid 27 0, ⟨1, 0, .arr true (Hearth.encI a.nums)⟩)]), []⟩ ?_ (fun x hc => ?_))
  case refine_2 => refine kReg (kFadP rfl rfl (kLoadP rfl rfl rfl (kCall1 true (ok_laws_toIntS _ pr) ⟨rfl, trivial⟩ rfl rfl rfl (fun _ => (kFadP rfl rfl (kStoreP rfl rfl rfl rfl (kDone (hc _ .normA))))))))
  refine Kbc (Ke Y Y Y (Ko Y Y Y Y (Kd (Kr (Er (ra := [.agg [(.own true _), (.d _), (.d _), (.d _), (.own true _), (.own true _), (.own true _)]]) rfl rfl)))))

def c_laws_toRrS : C := (.g (.o 0 2 (.mov (.n 7)) .done) (.g (.o 0 5 (.mov (.t 0)) (.o 1 6 (.len (.t 5)) (.o 2 7 (.mk 7 7 [(.n 1), (.i 0), (.i 0), (.i 0), (.n 1), (.n 1), (.n 1)] 120 (.t 6)) (.o 3 3 (.mov (.t 7)) .done)))) (.seq (.g (.o 0 4 (.mov (.i 0)) .done) (.block 0 (.loop (.seq (.g (.o 0 8 (.mov (.t 4)) (.o 1 9 (.mov (.t 0)) (.o 2 10 (.len (.t 9)) (.o 3 11 (.bin .lss (.t 8) (.t 10)) .done)))) (.cond (.t 11) .skip (.exit 0))) (.seq (.block 1 (.reg false (.o 0 14 (.mov (.t 3)) (.o 1 15 (.mov (.t 4)) (.o 2 16 (.mov (.t 0)) (.o 3 17 (.mov (.t 4)) (.o 4 18 (.iad 7 (.t 16) (.t 17)) (.o 5 19 (.load (some 7) (.t 18)) (.o 6 20 (.call 20 13 [(.t 19)]) (.o 7 21 (.iad 7 (.t 14) (.t 15)) (.op 8 [] none none false (.store (some 7) (.t 21) (.t 20)) .done))))))))))) (.reg false (.o 0 12 (.mov (.t 4)) (.o 1 13 (.bin .add (.t 12) (.i 1)) (.o 2 4 (.mov (.t 13)) .done))))))))) (.g (.o 0 22 (.mov (.t 3)) (.o 1 2 (.mov (.t 22)) .done)) .ret))))
theorem dg_laws_toRrS : Tryz.f58.body.bind (digC Tryz.prog Tryz.f58.ntmps []) = some c_laws_toRrS := by kernel_rfl
theorem rs_laws_toRrS : resSlots Tryz.prog Tryz.f58 = some [.s 2] := by kernel_rfl
theorem ok_laws_toRrS (a : List Rr) (hs : SmallRs a) :
    FnOK Tryz.prog 58 [.one (.d (encR a))] (fun ra _ => ra = [.one (.own true (encR a))]) := by
  refine FnOK.ofK Tryz.func58 (by kernel_rfl) dg_laws_toRrS rs_laws_toRrS rfl rfl ?_
  delta c_laws_toRrS T.o X.i C.g
  have ha := hs.len
  refine Kbc (Ka Y (Kdb (Kc (Ka Y (Kq Y Y ?_)))))
  refine kMk Y om rfl rfl rfl rfl rfl ?_
  rw [show DV.sl 7 (List.replicate (Int.toNat (a.length : Int)) [.sl 1 [], .sc (.int .i64 0), .sc (.int .i64 0), .sc (.int .i64 0), .sl 1 [], .sl 1 [], .sl 1 []]) = encR (List.replicate a.length ⟨[], 0, 0, 0, [], [], []⟩) by simp [encR, Rr.cells, encBB, encB, Hearth.encI]]
  refine Ka Y (Kdb (Kbc (Ka Y (Kd (Kt ?_)))))
  refine kLoop (α := { i : Nat // i ≤ a.length })
    (fun y => ⟨tabSl [(0, .dv (encR a)), (3, .c (.arr (rid 7 0) 1)), (4, .i y.1)], obTab 1 [(rid 7 0, ⟨1, 0, .arr true (encR (a.take y.1 ++ (List.replicate a.length ⟨[], 0, 0, 0, [], [], []⟩).drop y.1))⟩)], []⟩) (fun y => a.length - y.1) ⟨0, by simp⟩
    .normA ?_
  rintro ⟨i, hi⟩
  simp only
  have hl1 : (a.take i).length = i := by simp; omega
  have hl2 : (a.take i ++ (List.replicate a.length (⟨[], 0, 0, 0, [], [], []⟩ : Rr)).drop i).length = a.length := by simp; omega
  rcases Nat.lt_or_ge i a.length with hlt | hge
  · have hbi := hs.mem _ (List.getElem_mem hlt)
    refine Kb (Kbc (Ka Y (Ka Y (Kq Y Y (Kj Y Y Y (Kd (Km Y (fun g0 => Kn (Kb (Kt (Kc (Ka Y (Ka Y (Ka Y (Ka Y (kIadR Y Y Y om (Ky Y Y (Ku true (ok_laws_toRr _ pr) ⟨⟨⟨Y, Y, Y, Y, Y, Y, Y, trivial⟩, leb⟩, trivial⟩ Y Y Y (fun _ => (kIadAR Y Y Y Y om (kStoreER Y Y Y Y Y Y Y om rfl (Kd (Kv (Kc (Ka Y (kAdd Y Y om (Ka Y (Kd ?_))))))))))))))))))))) (fun g0 => om))))))))
    exact kInv ⟨⟨i + 1, by omega⟩, by simp only; omega, .normA⟩
  · refine Kb (Kbc (Ka Y (Ka Y (Kq Y Y (Kj Y Y Y (Kd (Km Y (fun g0 => om) (fun g0 => kExit (kExC (kExI (kExB (Kbc (Ka Y (Ka Y (Kd (Kr (Er (ra := [.one (.own true _)]) rfl ?_)))))))))))))))))
    rw [show i = a.length by omega]
    simp

def c_laws_toZone : C := (.g (.o 0 1 (.box 1 (.t 0)) (.o 1 2 (.alloc 2 [(.n 1), (.n 7)]) .done)) (.g (.o 0 3 (.alloc 3 [(.n 1), (.n 7)]) .done) (.g (.o 0 4 (.fad (.t 1) 0) (.o 1 5 (.load (some 1) (.t 4)) (.o 2 6 (.call 6 57 [(.t 5)]) (.o 3 7 (.fad (.t 3) 0) (.op 4 [] none none false (.store (some 1) (.t 7) (.t 6)) .done))))) (.g (.o 0 8 (.fad (.t 1) 1) (.o 1 9 (.load none (.t 8)) (.o 2 10 (.call 10 58 [(.t 9)]) (.o 3 11 (.fad (.t 3) 1) (.op 4 [] none none false (.store none (.t 11) (.t 10)) .done))))) (.g (.o 0 12 (.load (some 2) (.t 3)) (.op 1 [] none none false (.store (some 2) (.t 2) (.t 12)) .done)) .ret)))))
theorem dg_laws_toZone : Tryz.f12.body.bind (digC Tryz.prog Tryz.f12.ntmps []) = some c_laws_toZone := by kernel_rfl
theorem rs_laws_toZone : resSlots Tryz.prog Tryz.f12 = some [.m 2 (some 2)] := by kernel_rfl
theorem ok_laws_toZone (z : Zone) (hs : SmallZ z) :
    FnOK Tryz.prog 12 [.agg (z.cells.map .d)] (fun ra _ => ra = [.agg [.own true (encBB z.origin), .own true (encR z.rrs)]]) := by
  refine FnOK.ofK Tryz.func12 (by kernel_rfl) dg_laws_toZone rs_laws_toZone rfl rfl ?_
  delta c_laws_toZone T.o X.i C.g
  have o1 := hs.o.len
  have o2 := hs.o.mem
  have h1 := hs.r
  refine Kbc (kBox Y Y Y Y Y (kAlloc Y Y (Kdb (Kc (kAlloc Y Y (Kdb (Kc (Kf Y Y (Ke Y Y Y (Ku true (ok_laws_toName _ pr pr) ⟨⟨⟨Y, trivial⟩, leb⟩, trivial⟩ Y Y Y (fun _ => (Kf Y Y (kMem [(16384, ⟨1, 0, .box [.nil 1, .nil 7]⟩), (28672, ⟨1, 0, .arr true _⟩)] [(7, .c (.ptr 16384 1 0)), (6, .g [.arr 28672 1])] [] ⟨Y, Y, trivial⟩ ⟨Y, Y, trivial⟩ Y (Ko Y Y Y Y (Kdb (Kc (Kf Y Y (Ke Y Y Y (Ku true (ok_laws_toRrS _ pr) ⟨Y, trivial⟩ Y Y Y (fun _ => (Kf Y Y (Ko Y Y Y Y (Kdb (Kc (Ke Y Y Y (kMem [(12288, ⟨1, 0, .box [.nil 1, .nil 7]⟩), (28672, ⟨1, 0, .arr true _⟩), (45056, ⟨1, 0, .arr true _⟩)] [(2, .c (.ptr 12288 1 0)), (12, .g [.arr 28672 1, .arr 45056 1])] [] ⟨Y, Y, Y, trivial⟩ ⟨Y, Y, trivial⟩ Y (Ko Y Y Y Y (Kd (kMem [(12288, ⟨1, 0, .box [.arr 28672 1, .arr 45056 1]⟩), (28672, ⟨1, 0, .arr true _⟩), (45056, ⟨1, 0, .arr true _⟩)] [(2, .c (.ptr 12288 1 0))] [] ⟨Y, Y, Y, trivial⟩ ⟨Y, trivial⟩ Y (Kr (Er (ra := [.agg [(.own true _), (.own true _)]]) rfl rfl)))))))))))))))))))))))))))))))

def c_impl_within : C := (.g (.o 0 6 (.mov (.v (.bool false))) .done) (.g (.o 0 7 (.mov (.t 1)) (.o 1 8 (.mov (.t 0)) (.o 2 9 (.bin .leq (.t 7) (.t 8)) (.o 3 10 (.mov (.t 9)) (.op 4 [] (some 11) (some (10, true)) false (.mov (.t 0)) (.op 5 [] (some 12) (some (10, true)) false (.mov (.t 2)) (.op 6 [] (some 13) (some (10, true)) false (.bin .leq (.t 11) (.t 12)) (.o 7 14 (.pick (.t 10) (.t 13) (.v (.bool false))) (.o 8 6 (.mov (.t 14)) .done))))))))) .ret))
theorem dg_impl_within : Tryz.f121.body.bind (digC Tryz.prog Tryz.f121.ntmps []) = some c_impl_within := by kernel_rfl
theorem rs_impl_within : resSlots Tryz.prog Tryz.f121 = some [.s 6] := by kernel_rfl
theorem ok_impl_within (n lo hi : Int) : FnOK Tryz.prog 121 [.one (.d (.sc (.int .i64 n))), .one (.d (.sc (.int .i64 lo))), .one (.d (.sc (.int .i64 hi)))] (fun ra _ => ra = [.one (.d (.sc (.bool (decide (lo ≤ n ∧ n ≤ hi)))))]) := by
  refine FnOK.ofK Tryz.func121 (by kernel_rfl) dg_impl_within rs_impl_within rfl rfl ?_
  delta c_impl_within T.o X.i C.g
  repeat' first
    | refine kSeq ?_ | refine kReg ?_ | refine kDone ?_ | refine kMovC rfl ?_ | refine kBin rfl rfl rfl ?_
    | refine kGT rfl ?_ | refine kGF rfl ?_ | refine kGU rfl ?_ | refine kG rfl (fun h => ?_) (fun h => ?_)
    | refine kPickT rfl ?_ | refine kPickF rfl ?_ | refine kPick rfl (fun h => ?_) (fun h => ?_) | refine kRet ?_
  all_goals refine endRet (ra := [.one (.d _)]) rfl ⟨⟨⟨rfl, .inl rfl⟩, trivial⟩, .nil, trivial, trivial, trivial, trivial⟩ ?_
  all_goals simp_all
  all_goals omega

def c_impl_all_byte_1 : C := (.g (.o 0 3 (.mov (.v (.bool false))) .done) (.g (.o 0 4 (.load none (.t 1)) (.o 1 5 (.mov (.t 0)) (.o 2 6 (.callv 6 (.t 4) [(.t 5)]) (.o 3 7 (.un .not (.t 6)) (.o 4 3 (.mov (.t 7)) .done))))) .ret))
theorem dg_impl_all_byte_1 : Tryz.f300.body.bind (digC Tryz.prog Tryz.f300.ntmps []) = some c_impl_all_byte_1 := by kernel_rfl
theorem rs_impl_all_byte_1 : resSlots Tryz.prog Tryz.f300 = some [.s 3] := by kernel_rfl
theorem ok_impl_all_byte_1 (x : DV) (D : DV → Prop) (g : DV → Bool) (hx : D x) :
    FnOK Tryz.prog 300 [.one (.d x), .one (.ptr [.fv false (fcPred D g)])] (fun ra _ => ra = [.one (.d (.sc (.bool (!g x))))]) := by
  refine FnOK.ofK Tryz.func300 (by kernel_rfl) dg_impl_all_byte_1 rs_impl_all_byte_1 rfl rfl ?_
  delta c_impl_all_byte_1 T.o X.i C.g
  refine Kbc (Ka Y (Kd ?_))
  refine Kbc (kLoadC Y Y (Ka Y (kCallv Y ⟨x, hx, rfl, rfl⟩ ⟨Y, trivial⟩ (.inr ?_) rfl ?_ rfl ?_)))
  · rintro _ rfl; rfl
  · rintro _ rfl; exact leb
  rintro _ rfl
  refine Kw Y Y (Ka Y (Kd (Kr ?_)))
  exact endRet (ra := [.one (.d _)]) rfl ⟨⟨⟨rfl, .inl rfl⟩, trivial⟩, .nil, trivial, trivial, trivial⟩ rfl

def c_slices_IndexFunc_Lbyte_byte : C := (.g (.o 0 4 (.mov (.i 0)) .done) (.seq (.g (.o 0 6 (.mov (.t 0)) (.o 1 7 (.len (.t 6)) (.o 2 8 (.mov (.i 0)) .done))) (.block 0 (.loop (.g (.o 0 9 (.bin .lss (.t 8) (.t 7)) .done) (.seq (.cond (.t 9) .skip (.exit 0)) (.seq (.block 1 (.g (.o 0 10 (.mov (.t 8)) (.o 1 5 (.mov (.t 10)) .done)) (.g (.o 0 11 (.mov (.t 1)) (.o 1 12 (.mov (.t 0)) (.o 2 13 (.mov (.t 5)) (.o 3 14 (.iad 1 (.t 12) (.t 13)) (.o 4 15 (.load none (.t 14)) (.o 5 16 (.callv 16 (.t 11) [(.t 15)]) .done)))))) (.cond (.t 16) (.g (.o 0 17 (.mov (.t 5)) (.o 1 4 (.mov (.t 17)) .done)) .ret) .skip)))) (.reg false (.o 0 18 (.bin .add (.t 8) (.i 1)) (.o 1 8 (.mov (.t 18)) .done))))))))) (.g (.o 0 4 (.mov (.i (-1))) .done) .ret)))
theorem dg_slices_IndexFunc_Lbyte_byte : Tryz.f330.body.bind (digC Tryz.prog Tryz.f330.ntmps []) = some c_slices_IndexFunc_Lbyte_byte := by kernel_rfl
theorem rs_slices_IndexFunc_Lbyte_byte : resSlots Tryz.prog Tryz.f330 = some [.s 4] := by kernel_rfl
theorem ok_slices_IndexFunc_Lbyte_byte (l : List DV) (D : DV → Prop) (g : DV → Bool) (hl : (l.length : Int) ≤ 9223372036854775807) (hD : ∀ x ∈ l, D x) :
    FnOK Tryz.prog 330 [.one (.d (lst l)), .one (.fv false (fcPred D g))] (fun ra _ => ra = [.one (.d (.sc (.int .i64 (idxF g l))))]) := by
  refine FnOK.ofK Tryz.func330 (by kernel_rfl) dg_slices_IndexFunc_Lbyte_byte rs_slices_IndexFunc_Lbyte_byte rfl rfl ?_
  delta c_slices_IndexFunc_Lbyte_byte T.o X.i C.g
  refine Kbc (Ka Y (Kd ?_))
  refine Kb (Kbc (Ka Y (kLen Y Y Y (Ka Y (Kd (Kt ?_))))))
  rw [len_lst]
  refine kLoop (α := { i : Nat // i ≤ l.length ∧ ∀ x ∈ l.take i, g x = false })
    (fun y => ⟨tabSl [(0, .dv (lst l)), (1, .c (.fv false (fcPred D g))), (7, .i l.length), (8, .i y.1)], (St.init [.one (.d (lst l)), .one (.fv false (fcPred D g))]).ob, []⟩) (fun y => l.length - y.1) ⟨0, by simp⟩
    (.tab rfl ⟨.refl _, .refl _, .refl _, .refl _, trivial⟩) ?_
  rintro ⟨i, hi, hg⟩
  simp only
  refine Kbc (Kj Y Y Y (Kd ?_))
  refine Kb (kCond Y (fun h1 => ?_) (fun h1 => ?_))
  · have hlt : i < l.length := by simp at h1; omega
    refine Kn (Kb (Kt (Kbc (Ka Y (Ka Y (Kd ?_))))))
    refine Kbc (Ka Y (Ka Y (Ka Y (kIadD Y Y Y Y ?_ ?_))))
    · rw [len_lst]; omega
    rw [show (lst l).row (i : Int).toNat = [l[i]] from row_lst l i hlt]
    refine Ky Y Y (kCallv Y ⟨l[i], hD _ (List.getElem_mem hlt), rfl, rfl⟩ ⟨Y, trivial⟩ (.inr ?_) rfl ?_ rfl ?_)
    · rintro _ rfl; rfl
    · rintro _ rfl; exact leb
    rintro _ rfl
    refine Kd (kCond Y (fun h2 => ?_) (fun h2 => ?_))
    · refine Kbc (Ka Y (Ka Y (Kd (Kr ?_))))
      refine endRet (ra := [.one (.d _)]) rfl ⟨⟨⟨rfl, .inl rfl⟩, trivial⟩, .nil, trivial, trivial, trivial⟩ ?_
      have : l.findIdx? g = some i := by
        rw [List.findIdx?_eq_some_iff_getElem]
        refine ⟨hlt, h2, fun j hj => ?_⟩
        simpa using hg _ (by rw [List.mem_take_iff_getElem]; exact ⟨j, by omega, rfl⟩)
      simp [idxF, this]
    · refine Kn (Kv (Kc (kAdd Y Y ?_ (Ka Y (Kd (kInv ?_))))))
      · omega
      refine ⟨⟨i + 1, hlt, ?_⟩, by simp only; omega, .tab rfl ⟨.refl _, .refl _, .refl _, .refl _, trivial⟩⟩
      intro x hx
      rw [← List.take_append_getElem hlt, List.mem_append] at hx
      rcases hx with hx | hx
      · exact hg x hx
      · simp at hx; rw [hx]; exact h2
  · refine kExit (kExC (kExI (kExB ?_)))
    have hge : i = l.length := by simp at h1; omega
    refine Kbc (Ka Y (Kd (Kr ?_)))
    refine endRet (ra := [.one (.d _)]) rfl ⟨⟨⟨rfl, .inl rfl⟩, trivial⟩, .nil, trivial, trivial, trivial⟩ ?_
    have : l.findIdx? g = none := by
      rw [List.findIdx?_eq_none_iff]
      intro x hx
      rw [hge, List.take_length] at hg
      exact hg x hx
    simp [idxF, this]

def c_slices_ContainsFunc_Lbyte_byte : C := (.g (.o 0 4 (.mov (.v (.bool false))) .done) (.g (.o 0 5 (.mov (.t 0)) (.o 1 6 (.mov (.t 1)) (.o 2 7 (.call 7 330 [(.t 5), (.t 6)]) (.o 3 8 (.bin .geq (.t 7) (.i 0)) (.o 4 4 (.mov (.t 8)) .done))))) .ret))
theorem dg_slices_ContainsFunc_Lbyte_byte : Tryz.f299.body.bind (digC Tryz.prog Tryz.f299.ntmps []) = some c_slices_ContainsFunc_Lbyte_byte := by kernel_rfl
theorem rs_slices_ContainsFunc_Lbyte_byte : resSlots Tryz.prog Tryz.f299 = some [.s 4] := by kernel_rfl
theorem ok_slices_ContainsFunc_Lbyte_byte (l : List DV) (D : DV → Prop) (g : DV → Bool) (hl : (l.length : Int) ≤ 9223372036854775807) (hD : ∀ x ∈ l, D x) :
    FnOK Tryz.prog 299 [.one (.d (lst l)), .one (.fv false (fcPred D g))] (fun ra _ => ra = [.one (.d (.sc (.bool (l.any g))))]) := by
  refine FnOK.ofK Tryz.func299 (by kernel_rfl) dg_slices_ContainsFunc_Lbyte_byte rs_slices_ContainsFunc_Lbyte_byte rfl rfl ?_
  delta c_slices_ContainsFunc_Lbyte_byte T.o X.i C.g
  refine Kbc (Ka Y (Kd ?_))
  refine Kbc (Ka Y (Ka Y ?_))
  refine Ku true (ok_slices_IndexFunc_Lbyte_byte l D g hl hD) ⟨rfl, ⟨fun h => h, fun _ _ h => h⟩, trivial⟩ rfl rfl rfl fun os => ?_
  refine Kj Y Y Y (Ka Y (Kd (Kr ?_)))
  refine endRet (ra := [.one (.d _)]) rfl ⟨⟨⟨rfl, .inl rfl⟩, trivial⟩, .nil, trivial, trivial, trivial⟩ ?_
  have : decide (idxF g l ≥ 0) = l.any g := by
    unfold idxF
    cases h : l.findIdx? g with
    | none =>
      rw [List.findIdx?_eq_none_iff] at h
      have : l.any g = false := by rw [List.any_eq_false]; intro x hx; simp [h x hx]
      rw [this]; rfl
    | some i =>
      rw [List.findIdx?_eq_some_iff_getElem] at h
      obtain ⟨h1, h2, _⟩ := h
      have : l.any g = true := by rw [List.any_eq_true]; exact ⟨_, List.getElem_mem h1, h2⟩
      rw [this]; simp
  rw [this]

def c_impl_all_byte : C := (.g (.o 0 3 (.box 3 (.t 1)) (.o 1 4 (.mov (.v (.bool false))) .done)) (.g (.o 0 5 (.mov (.t 0)) (.o 1 6 (.clo 300 [] [(.t 3)]) (.o 2 7 (.call 7 299 [(.t 5), (.t 6)]) (.o 3 8 (.un .not (.t 7)) (.o 4 4 (.mov (.t 8)) .done))))) .ret))
theorem dg_impl_all_byte : Tryz.f242.body.bind (digC Tryz.prog Tryz.f242.ntmps []) = some c_impl_all_byte := by kernel_rfl
theorem rs_impl_all_byte : resSlots Tryz.prog Tryz.f242 = some [.s 4] := by kernel_rfl
theorem ok_impl_all_byte (l : List DV) (D : DV → Prop) (g : DV → Bool) (hl : (l.length : Int) ≤ 9223372036854775807) (hD : ∀ x ∈ l, D x) :
    FnOK Tryz.prog 242 [.one (.d (lst l)), .one (.fv false (fcPred D g))] (fun ra _ => ra = [.one (.d (.sc (.bool (l.all g))))]) := by
  refine FnOK.ofK Tryz.func242 (by kernel_rfl) dg_impl_all_byte rs_impl_all_byte rfl rfl ?_
  delta c_impl_all_byte T.o X.i C.g
  refine Kbc (kBox Y Y Y Y Y (Ka Y (Kd ?_)))
  refine Kbc (Ka Y (kClo Y Y ?_))
  refine Ku true (ok_slices_ContainsFunc_Lbyte_byte l D (fun x => !g x) hl hD) ⟨rfl, ⟨rfl, ⟨_, Tryz.func300, rfl, by kernel_rfl⟩, _, rfl, ?_⟩, trivial⟩ rfl rfl rfl fun os => ?_
  · rintro l R ⟨x, hx, rfl, rfl⟩
    exact ⟨by rintro _ rfl; rfl, ok_impl_all_byte_1 x D g hx⟩
  refine Kw Y Y (Ka Y (Kd (Kr ?_)))
  refine endRet (ra := [.one (.d _)]) rfl ⟨⟨⟨rfl, .inl rfl⟩, trivial⟩, .nil, trivial, trivial, trivial⟩ ?_
  simp [List.all_eq_not_any_not]

def c_impl_LabelOk_1 : C := (.g (.o 0 2 (.mov (.v (.bool false))) .done) (.g (.o 0 3 (.mov (.t 0)) (.o 1 4 (.bin .geq (.t 3) (.v (.int .u8 97))) (.o 2 5 (.mov (.t 4)) (.op 3 [] (some 6) (some (5, true)) false (.mov (.t 0)) (.op 4 [] (some 7) (some (5, true)) false (.bin .leq (.t 6) (.v (.int .u8 122))) (.o 5 8 (.pick (.t 5) (.t 7) (.v (.bool false))) (.o 6 9 (.mov (.t 8)) (.op 7 [] (some 10) (some (9, false)) false (.mov (.t 0)) (.op 8 [] (some 11) (some (9, false)) false (.bin .geq (.t 10) (.v (.int .u8 48))) (.op 9 [] (some 12) (some (9, false)) false (.mov (.t 11)) (.op 10 [] (some 13) (some (12, true)) false (.mov (.t 0)) (.op 11 [] (some 14) (some (12, true)) false (.bin .leq (.t 13) (.v (.int .u8 57))) (.op 12 [] (some 15) (some (9, false)) false (.pick (.t 12) (.t 14) (.v (.bool false))) (.o 13 16 (.pick (.t 9) (.v (.bool true)) (.t 15)) (.o 14 17 (.mov (.t 16)) (.op 15 [] (some 18) (some (17, false)) false (.mov (.t 0)) (.op 16 [] (some 19) (some (17, false)) false (.bin .eql (.t 18) (.v (.int .u8 45))) (.o 17 20 (.pick (.t 17) (.v (.bool true)) (.t 19)) (.o 18 2 (.mov (.t 20)) .done))))))))))))))))))) .ret))
theorem dg_impl_LabelOk_1 : Tryz.f243.body.bind (digC Tryz.prog Tryz.f243.ntmps []) = some c_impl_LabelOk_1 := by kernel_rfl
theorem rs_impl_LabelOk_1 : resSlots Tryz.prog Tryz.f243 = some [.s 2] := by kernel_rfl
theorem ok_impl_LabelOk_1 (b : UInt8) : FnOK Tryz.prog 243 [.one (.d (.sc (.int .u8 b.toNat)))] (fun ra _ => ra = [.one (.d (.sc (.bool (okLetter b))))]) := by
  refine FnOK.ofK Tryz.func243 (by kernel_rfl) dg_impl_LabelOk_1 rs_impl_LabelOk_1 rfl rfl ?_
  delta c_impl_LabelOk_1 T.o X.i C.g
  repeat' first
    | refine kSeq ?_ | refine kReg ?_ | refine kDone ?_ | refine kMovC rfl ?_ | refine kBin rfl rfl rfl ?_
    | refine kGT rfl ?_ | refine kGF rfl ?_ | refine kGU rfl ?_ | refine kG rfl (fun h => ?_) (fun h => ?_)
    | refine kPickT rfl ?_ | refine kPickF rfl ?_ | refine kPick rfl (fun h => ?_) (fun h => ?_) | refine kRet ?_
  all_goals refine endRet (ra := [.one (.d _)]) rfl ⟨⟨⟨rfl, .inl rfl⟩, trivial⟩, .nil, trivial, trivial⟩ ?_
  all_goals simp_all [okLetter]
  all_goals first | omega | (rw [Bool.eq_iff_iff]; simp; omega)

def c_impl_LabelOk : C := (.g (.o 0 2 (.mov (.v (.bool false))) .done) (.g (.o 0 3 (.mov (.t 0)) (.o 1 4 (.len (.t 3)) (.o 2 5 (.call 5 121 [(.t 4), (.i 1), (.i 15)]) (.o 3 6 (.mov (.t 5)) (.op 4 [] (some 7) (some (6, true)) false (.mov (.t 0)) (.op 5 [] (some 8) (some (6, true)) false (.call 8 242 [(.t 7), (.fn 243)]) (.o 6 9 (.pick (.t 6) (.t 8) (.v (.bool false))) (.o 7 2 (.mov (.t 9)) .done)))))))) .ret))
theorem dg_impl_LabelOk : Tryz.f171.body.bind (digC Tryz.prog Tryz.f171.ntmps []) = some c_impl_LabelOk := by kernel_rfl
theorem rs_impl_LabelOk : resSlots Tryz.prog Tryz.f171 = some [.s 2] := by kernel_rfl
theorem ok_impl_LabelOk (b : List UInt8) (hb : b.length ≤ 4194304) :
    FnOK Tryz.prog 171 [.one (.d (encB b))] (fun ra _ => ra = [.one (.d (.sc (.bool (labelOk b))))]) := by
  refine FnOK.ofK Tryz.func171 (by kernel_rfl) dg_impl_LabelOk rs_impl_LabelOk rfl rfl ?_
  delta c_impl_LabelOk T.o X.i C.g
  refine Kbc (Ka Y (Kdb (Kc (Ka Y (Kq Y Y (Kp (ok_impl_within _ _ _) ⟨Y, Y, Y, trivial⟩ Y Y Y Y Y (Ka Y (kGP Y (fun g0 => Ki Y (Ka Y (Ki Y ?_))) (fun g0 => Kg Y (Kg Y (Kl Y (Ka Y (Ka Y (Kd (Kr (Er (ra := [.one (.d _)]) rfl ?_))))))))))))))))
  · refine Ku true (ok_impl_all_byte (b.map fun b : UInt8 => .sc (.int .u8 b.toNat)) is8 (fun x => okLetter (dec8 x)) (by simp; omega) (fun x hx => by obtain ⟨c, _, rfl⟩ := List.mem_map.1 hx; exact ⟨c, rfl⟩)) ⟨congrArg some (encB_lst b), ⟨rfl, rfl, ⟨_, Tryz.func243, rfl, by kernel_rfl⟩, ?_⟩, trivial⟩ Y Y Y (fun _ => ?_)
    · rintro _ R ⟨x, ⟨c, rfl⟩, rfl, rfl⟩
      have := ok_impl_LabelOk_1 c
      simp only [dec8_enc]
      exact this
    refine Kk Y (Ka Y (Ka Y (Kd (Kr (Er (ra := [.one (.d _)]) rfl ?_)))))
    rw [all_dec8, show labelOk b = b.all okLetter by simp only [labelOk]; rw [decide_eq_true (by omega), decide_eq_true (by omega)]; rfl]
  · rw [show labelOk b = false by simp only [labelOk]; rw [show (decide (1 ≤ b.length) && decide (b.length ≤ 15)) = false by simp; omega]; rfl]

def c_impl_all_Lbyte_1 : C := (.g (.o 0 3 (.mov (.v (.bool false))) .done) (.g (.o 0 4 (.load none (.t 1)) (.o 1 5 (.mov (.t 0)) (.o 2 6 (.callv 6 (.t 4) [(.t 5)]) (.o 3 7 (.un .not (.t 6)) (.o 4 3 (.mov (.t 7)) .done))))) .ret))
theorem dg_impl_all_Lbyte_1 : Tryz.f241.body.bind (digC Tryz.prog Tryz.f241.ntmps []) = some c_impl_all_Lbyte_1 := by kernel_rfl
theorem rs_impl_all_Lbyte_1 : resSlots Tryz.prog Tryz.f241 = some [.s 3] := by kernel_rfl
theorem ok_impl_all_Lbyte_1 (x : DV) (D : DV → Prop) (g : DV → Bool) (hx : D x) :
    FnOK Tryz.prog 241 [.one (.d x), .one (.ptr [.fv false (fcPred D g)])] (fun ra _ => ra = [.one (.d (.sc (.bool (!g x))))]) := by
  refine FnOK.ofK Tryz.func241 (by kernel_rfl) dg_impl_all_Lbyte_1 rs_impl_all_Lbyte_1 rfl rfl ?_
  delta c_impl_all_Lbyte_1 T.o X.i C.g
  refine Kbc (Ka Y (Kd ?_))
  refine Kbc (kLoadC Y Y (Ka Y (kCallv Y ⟨x, hx, rfl, rfl⟩ ⟨Y, trivial⟩ (.inr ?_) rfl ?_ rfl ?_)))
  · rintro _ rfl; rfl
  · rintro _ rfl; exact leb
  rintro _ rfl
  refine Kw Y Y (Ka Y (Kd (Kr ?_)))
  exact endRet (ra := [.one (.d _)]) rfl ⟨⟨⟨rfl, .inl rfl⟩, trivial⟩, .nil, trivial, trivial, trivial⟩ rfl

def c_slices_IndexFunc_LLbyte_Lbyte : C := (.g (.o 0 4 (.mov (.i 0)) .done) (.seq (.g (.o 0 6 (.mov (.t 0)) (.o 1 7 (.len (.t 6)) (.o 2 8 (.mov (.i 0)) .done))) (.block 0 (.loop (.g (.o 0 9 (.bin .lss (.t 8) (.t 7)) .done) (.seq (.cond (.t 9) .skip (.exit 0)) (.seq (.block 1 (.g (.o 0 10 (.mov (.t 8)) (.o 1 5 (.mov (.t 10)) .done)) (.g (.o 0 11 (.mov (.t 1)) (.o 1 12 (.mov (.t 0)) (.o 2 13 (.mov (.t 5)) (.o 3 14 (.iad 1 (.t 12) (.t 13)) (.o 4 15 (.load none (.t 14)) (.o 5 16 (.callv 16 (.t 11) [(.t 15)]) .done)))))) (.cond (.t 16) (.g (.o 0 17 (.mov (.t 5)) (.o 1 4 (.mov (.t 17)) .done)) .ret) .skip)))) (.reg false (.o 0 18 (.bin .add (.t 8) (.i 1)) (.o 1 8 (.mov (.t 18)) .done))))))))) (.g (.o 0 4 (.mov (.i (-1))) .done) .ret)))
theorem dg_slices_IndexFunc_LLbyte_Lbyte : Tryz.f298.body.bind (digC Tryz.prog Tryz.f298.ntmps []) = some c_slices_IndexFunc_LLbyte_Lbyte := by kernel_rfl
theorem rs_slices_IndexFunc_LLbyte_Lbyte : resSlots Tryz.prog Tryz.f298 = some [.s 4] := by kernel_rfl
theorem ok_slices_IndexFunc_LLbyte_Lbyte (l : List DV) (D : DV → Prop) (g : DV → Bool) (hl : (l.length : Int) ≤ 9223372036854775807) (hD : ∀ x ∈ l, D x) :
    FnOK Tryz.prog 298 [.one (.d (lst l)), .one (.fv false (fcPred D g))] (fun ra _ => ra = [.one (.d (.sc (.int .i64 (idxF g l))))]) := by
  refine FnOK.ofK Tryz.func298 (by kernel_rfl) dg_slices_IndexFunc_LLbyte_Lbyte rs_slices_IndexFunc_LLbyte_Lbyte rfl rfl ?_
  delta c_slices_IndexFunc_LLbyte_Lbyte T.o X.i C.g
  refine Kbc (Ka Y (Kd ?_))
  refine Kb (Kbc (Ka Y (kLen Y Y Y (Ka Y (Kd (Kt ?_))))))
  rw [len_lst]
  refine kLoop (α := { i : Nat // i ≤ l.length ∧ ∀ x ∈ l.take i, g x = false })
    (fun y => ⟨tabSl [(0, .dv (lst l)), (1, .c (.fv false (fcPred D g))), (7, .i l.length), (8, .i y.1)], (St.init [.one (.d (lst l)), .one (.fv false (fcPred D g))]).ob, []⟩) (fun y => l.length - y.1) ⟨0, by simp⟩
    (.tab rfl ⟨.refl _, .refl _, .refl _, .refl _, trivial⟩) ?_
  rintro ⟨i, hi, hg⟩
  simp only
  refine Kbc (Kj Y Y Y (Kd ?_))
  refine Kb (kCond Y (fun h1 => ?_) (fun h1 => ?_))
  · have hlt : i < l.length := by simp at h1; omega
    refine Kn (Kb (Kt (Kbc (Ka Y (Ka Y (Kd ?_))))))
    refine Kbc (Ka Y (Ka Y (Ka Y (kIadD Y Y Y Y ?_ ?_))))
    · rw [len_lst]; omega
    rw [show (lst l).row (i : Int).toNat = [l[i]] from row_lst l i hlt]
    refine Ky Y Y (kCallv Y ⟨l[i], hD _ (List.getElem_mem hlt), rfl, rfl⟩ ⟨Y, trivial⟩ (.inr ?_) rfl ?_ rfl ?_)
    · rintro _ rfl; rfl
    · rintro _ rfl; exact leb
    rintro _ rfl
    refine Kd (kCond Y (fun h2 => ?_) (fun h2 => ?_))
    · refine Kbc (Ka Y (Ka Y (Kd (Kr ?_))))
      refine endRet (ra := [.one (.d _)]) rfl ⟨⟨⟨rfl, .inl rfl⟩, trivial⟩, .nil, trivial, trivial, trivial⟩ ?_
      have : l.findIdx? g = some i := by
        rw [List.findIdx?_eq_some_iff_getElem]
        refine ⟨hlt, h2, fun j hj => ?_⟩
        simpa using hg _ (by rw [List.mem_take_iff_getElem]; exact ⟨j, by omega, rfl⟩)
      simp [idxF, this]
    · refine Kn (Kv (Kc (kAdd Y Y ?_ (Ka Y (Kd (kInv ?_))))))
      · omega
      refine ⟨⟨i + 1, hlt, ?_⟩, by simp only; omega, .tab rfl ⟨.refl _, .refl _, .refl _, .refl _, trivial⟩⟩
      intro x hx
      rw [← List.take_append_getElem hlt, List.mem_append] at hx
      rcases hx with hx | hx
      · exact hg x hx
      · simp at hx; rw [hx]; exact h2
  · refine kExit (kExC (kExI (kExB ?_)))
    have hge : i = l.length := by simp at h1; omega
    refine Kbc (Ka Y (Kd (Kr ?_)))
    refine endRet (ra := [.one (.d _)]) rfl ⟨⟨⟨rfl, .inl rfl⟩, trivial⟩, .nil, trivial, trivial, trivial⟩ ?_
    have : l.findIdx? g = none := by
      rw [List.findIdx?_eq_none_iff]
      intro x hx
      rw [hge, List.take_length] at hg
      exact hg x hx
    simp [idxF, this]

def c_slices_ContainsFunc_LLbyte_Lbyte : C := (.g (.o 0 4 (.mov (.v (.bool false))) .done) (.g (.o 0 5 (.mov (.t 0)) (.o 1 6 (.mov (.t 1)) (.o 2 7 (.call 7 298 [(.t 5), (.t 6)]) (.o 3 8 (.bin .geq (.t 7) (.i 0)) (.o 4 4 (.mov (.t 8)) .done))))) .ret))
theorem dg_slices_ContainsFunc_LLbyte_Lbyte : Tryz.f240.body.bind (digC Tryz.prog Tryz.f240.ntmps []) = some c_slices_ContainsFunc_LLbyte_Lbyte := by kernel_rfl
theorem rs_slices_ContainsFunc_LLbyte_Lbyte : resSlots Tryz.prog Tryz.f240 = some [.s 4] := by kernel_rfl
theorem ok_slices_ContainsFunc_LLbyte_Lbyte (l : List DV) (D : DV → Prop) (g : DV → Bool) (hl : (l.length : Int) ≤ 9223372036854775807) (hD : ∀ x ∈ l, D x) :
    FnOK Tryz.prog 240 [.one (.d (lst l)), .one (.fv false (fcPred D g))] (fun ra _ => ra = [.one (.d (.sc (.bool (l.any g))))]) := by
  refine FnOK.ofK Tryz.func240 (by kernel_rfl) dg_slices_ContainsFunc_LLbyte_Lbyte rs_slices_ContainsFunc_LLbyte_Lbyte rfl rfl ?_
  delta c_slices_ContainsFunc_LLbyte_Lbyte T.o X.i C.g
  refine Kbc (Ka Y (Kd ?_))
  refine Kbc (Ka Y (Ka Y ?_))
  refine Ku true (ok_slices_IndexFunc_LLbyte_Lbyte l D g hl hD) ⟨rfl, ⟨fun h => h, fun _ _ h => h⟩, trivial⟩ rfl rfl rfl fun os => ?_
  refine Kj Y Y Y (Ka Y (Kd (Kr ?_)))
  refine endRet (ra := [.one (.d _)]) rfl ⟨⟨⟨rfl, .inl rfl⟩, trivial⟩, .nil, trivial, trivial, trivial⟩ ?_
  have : decide (idxF g l ≥ 0) = l.any g := by
    unfold idxF
    cases h : l.findIdx? g with
    | none =>
      rw [List.findIdx?_eq_none_iff] at h
      have : l.any g = false := by rw [List.any_eq_false]; intro x hx; simp [h x hx]
      rw [this]; rfl
    | some i =>
      rw [List.findIdx?_eq_some_iff_getElem] at h
      obtain ⟨h1, h2, _⟩ := h
      have : l.any g = true := by rw [List.any_eq_true]; exact ⟨_, List.getElem_mem h1, h2⟩
      rw [this]; simp
  rw [this]

def c_impl_all_Lbyte : C := (.g (.o 0 3 (.box 3 (.t 1)) (.o 1 4 (.mov (.v (.bool false))) .done)) (.g (.o 0 5 (.mov (.t 0)) (.o 1 6 (.clo 241 [] [(.t 3)]) (.o 2 7 (.call 7 240 [(.t 5), (.t 6)]) (.o 3 8 (.un .not (.t 7)) (.o 4 4 (.mov (.t 8)) .done))))) .ret))
theorem dg_impl_all_Lbyte : Tryz.f170.body.bind (digC Tryz.prog Tryz.f170.ntmps []) = some c_impl_all_Lbyte := by kernel_rfl
theorem rs_impl_all_Lbyte : resSlots Tryz.prog Tryz.f170 = some [.s 4] := by kernel_rfl
theorem ok_impl_all_Lbyte (l : List DV) (D : DV → Prop) (g : DV → Bool) (hl : (l.length : Int) ≤ 9223372036854775807) (hD : ∀ x ∈ l, D x) :
    FnOK Tryz.prog 170 [.one (.d (lst l)), .one (.fv false (fcPred D g))] (fun ra _ => ra = [.one (.d (.sc (.bool (l.all g))))]) := by
  refine FnOK.ofK Tryz.func170 (by kernel_rfl) dg_impl_all_Lbyte rs_impl_all_Lbyte rfl rfl ?_
  delta c_impl_all_Lbyte T.o X.i C.g
  refine Kbc (kBox Y Y Y Y Y (Ka Y (Kd ?_)))
  refine Kbc (Ka Y (kClo Y Y ?_))
  refine Ku true (ok_slices_ContainsFunc_LLbyte_Lbyte l D (fun x => !g x) hl hD) ⟨rfl, ⟨rfl, ⟨_, Tryz.func241, rfl, by kernel_rfl⟩, _, rfl, ?_⟩, trivial⟩ rfl rfl rfl fun os => ?_
  · rintro l R ⟨x, hx, rfl, rfl⟩
    exact ⟨by rintro _ rfl; rfl, ok_impl_all_Lbyte_1 x D g hx⟩
  refine Kw Y Y (Ka Y (Kd (Kr ?_)))
  refine endRet (ra := [.one (.d _)]) rfl ⟨⟨⟨rfl, .inl rfl⟩, trivial⟩, .nil, trivial, trivial, trivial⟩ ?_
  simp [List.all_eq_not_any_not]

def c_impl_NameOk : C := (.g (.o 0 1 (.box 1 (.t 0)) (.o 1 2 (.mov (.v (.bool false))) .done)) (.g (.o 0 3 (.fad (.t 1) 0) (.o 1 4 (.load none (.t 3)) (.o 2 5 (.len (.t 4)) (.o 3 6 (.bin .leq (.t 5) (.i 6)) (.o 4 7 (.mov (.t 6)) (.op 5 [] (some 8) (some (7, true)) false (.fad (.t 1) 0) (.op 6 [] (some 9) (some (7, true)) false (.load none (.t 8)) (.op 7 [] (some 10) (some (7, true)) false (.call 10 170 [(.t 9), (.fn 171)]) (.o 8 11 (.pick (.t 7) (.t 10) (.v (.bool false))) (.o 9 2 (.mov (.t 11)) .done)))))))))) .ret))
theorem dg_impl_NameOk : Tryz.f90.body.bind (digC Tryz.prog Tryz.f90.ntmps []) = some c_impl_NameOk := by kernel_rfl
theorem rs_impl_NameOk : resSlots Tryz.prog Tryz.f90 = some [.s 2] := by kernel_rfl
theorem ok_impl_NameOk (a : List (List UInt8)) (ha : a.length ≤ 4194304) (hb : ∀ b ∈ a, b.length ≤ 4194304) :
    FnOK Tryz.prog 90 [.agg [.d (encBB a)]] (fun ra _ => ra = [.one (.d (.sc (.bool (nameOk a))))]) := by
  refine FnOK.ofK Tryz.func90 (by kernel_rfl) dg_impl_NameOk rs_impl_NameOk rfl rfl ?_
  delta c_impl_NameOk T.o X.i C.g
  refine Kbc (kBox Y Y Y Y Y (Ka Y (Kdb (Kc (Kf Y Y (Ke Y Y Y (Kq Y Y (Kj Y Y Y (Ka Y (kGP Y (fun g0 => Ki Y (Kf Y Y (Ki Y (Ke Y Y Y (Ki Y ?_))))) (fun g0 => Kg Y (Kg Y (Kg Y (Kl Y (Ka Y (Ka Y (Kd (Kr (Er (ra := [.one (.d _)]) rfl ?_)))))))))))))))))))
  · refine Ku true (ok_impl_all_Lbyte (a.map encB) (fun x => ∃ b : List UInt8, x = encB b ∧ b.length ≤ 4194304) (fun x => labelOk (decB x)) (by simp; omega) (fun x hx => by obtain ⟨c, h, rfl⟩ := List.mem_map.1 hx; exact ⟨c, rfl, hb c h⟩)) ⟨congrArg some (encBB_lst a), ⟨rfl, rfl, ⟨_, Tryz.func171, rfl, by kernel_rfl⟩, ?_⟩, trivial⟩ Y Y Y (fun _ => ?_)
    · rintro _ R ⟨x, ⟨c, rfl, h⟩, rfl, rfl⟩
      have := ok_impl_LabelOk c h
      simp only [decB_enc]
      exact this
    refine Kk Y (Ka Y (Ka Y (Kd (Kr (Er (ra := [.one (.d _)]) rfl ?_)))))
    rw [all_decB, show nameOk a = a.all labelOk by simp only [nameOk]; rw [decide_eq_true (by omega)]; rfl]
  · rw [show nameOk a = false by simp only [nameOk]; rw [decide_eq_false (by omega)]; rfl]

def typeTab : List (Int × ByteArray) := [(1, ⟨#[65]⟩), (2, ⟨#[78, 83]⟩), (5, ⟨#[67, 78, 65, 77, 69]⟩), (6, ⟨#[83, 79, 65]⟩), (12, ⟨#[80, 84, 82]⟩), (16, ⟨#[84, 88, 84]⟩), (49, ⟨#[68, 72, 67, 73, 68]⟩)]
def typeNm (n : Int) : ByteArray := ((typeTab.find? fun e => n == e.1).map (·.2)).getD ByteArray.empty
theorem ok_impl_typeName (n : Int) : FnOK Tryz.prog 230 [.one (.d (.sc (.int .i64 n)))] (fun ra _ => ra = [.one (.d (.sc (.string (typeNm n))))]) := by
  refine FnOK.ofWalk Tryz.func230 rfl (by kernel_rfl) fun w => ?_
  have kk : Tryz.prog.underlying 3 = some (.int .i64) := by kernel_rfl
  have hmm := @Go.RowKit.run_makeMap Tryz.prog
  go_enter Tryz.func230, Tryz.ntmps230
  go_wp2
  have t0 : Tab (w.alloc (.map #[] 0)) w.heap.size [] := ⟨_, _, (MapKept.heap_alloc w _).1, rfl⟩
  have b0 : BelowD w.heap.size w (w.alloc (.map #[] 0)) := ⟨(Go.RowKit.Below.refl _ _).alloc (Nat.le_refl _) _, Nat.le_refl _⟩
  have st : ∀ {w1 w2 : World}, BelowD w.heap.size w w1 → Ext w1 w2 (fun b => b = w.heap.size) → BelowD w.heap.size w w2 := fun h e => ⟨⟨e.os.trans h.1.os, e.tape.trans h.1.tape, e.output.trans h.1.output, Nat.le_trans h.1.size e.size, fun k hk => (e.same k (Nat.lt_of_lt_of_le hk h.1.size) (by omega)).trans (h.1.block k hk)⟩, Nat.le_trans h.2 e.drawn⟩
  refine upon_insert (kt := 3) (et := 9) ?_ kk t0 ?_ (fun w1 t1 e1 => ?_)
  · kernel_rfl
  · rfl
  have b1 := st b0 e1
  go_wp2
  refine upon_insert (kt := 3) (et := 9) ?_ kk t1 ?_ (fun w2 t2 e2 => ?_)
  · kernel_rfl
  · rfl
  have b2 := st b1 e2
  go_wp2
  refine upon_insert (kt := 3) (et := 9) ?_ kk t2 ?_ (fun w3 t3 e3 => ?_)
  · kernel_rfl
  · rfl
  have b3 := st b2 e3
  go_wp2
  refine upon_insert (kt := 3) (et := 9) ?_ kk t3 ?_ (fun w4 t4 e4 => ?_)
  · kernel_rfl
  · rfl
  have b4 := st b3 e4
  go_wp2
  refine upon_insert (kt := 3) (et := 9) ?_ kk t4 ?_ (fun w5 t5 e5 => ?_)
  · kernel_rfl
  · rfl
  have b5 := st b4 e5
  go_wp2
  refine upon_insert (kt := 3) (et := 9) ?_ kk t5 ?_ (fun w6 t6 e6 => ?_)
  · kernel_rfl
  · rfl
  have b6 := st b5 e6
  go_wp2
  refine upon_insert (kt := 3) (et := 9) ?_ kk t6 ?_ (fun w7 t7 e7 => ?_)
  · kernel_rfl
  · rfl
  have b7 := st b6 e7
  go_wp2
  refine upon_find (kt := 3) (et := 9) ?_ kk ?_ t7 ?_
  · kernel_rfl
  · rfl
  go_wp2
  all_goals go_ret
  exact ⟨rfl, b7⟩
theorem typeNm_ok (n : Int) : (!((typeNm n).toList == (⟨#[]⟩ : ByteArray).toList)) = tyOk n := by
  by_cases h1 : n = 1
  · subst h1; rw [ByteArray.toList_eq, ByteArray.toList_eq]; rfl
  by_cases h2 : n = 2
  · subst h2; rw [ByteArray.toList_eq, ByteArray.toList_eq]; rfl
  by_cases h3 : n = 5
  · subst h3; rw [ByteArray.toList_eq, ByteArray.toList_eq]; rfl
  by_cases h4 : n = 6
  · subst h4; rw [ByteArray.toList_eq, ByteArray.toList_eq]; rfl
  by_cases h5 : n = 12
  · subst h5; rw [ByteArray.toList_eq, ByteArray.toList_eq]; rfl
  by_cases h6 : n = 16
  · subst h6; rw [ByteArray.toList_eq, ByteArray.toList_eq]; rfl
  by_cases h7 : n = 49
  · subst h7; rw [ByteArray.toList_eq, ByteArray.toList_eq]; rfl
  have e : ∀ m : Int, n ≠ m → (n == m) = false := fun m h => by simpa using h
  have : typeNm n = ByteArray.empty := by
    unfold typeNm typeTab
    simp only [List.find?_cons, e 1 h1, e 2 h2, e 5 h3, e 6 h4, e 12 h5, e 16 h6, e 49 h7, List.find?_nil]
    rfl
  rw [this]
  simp only [tyOk, e 1 h1, e 2 h2, e 5 h3, e 6 h4, e 12 h5, e 16 h6, e 49 h7]
  rw [ByteArray.toList_eq, ByteArray.toList_eq]; rfl

def c_impl_TypeOk : C := (.g (.o 0 2 (.mov (.v (.bool false))) .done) (.g (.o 0 3 (.mov (.t 0)) (.o 1 4 (.call 4 230 [(.t 3)]) (.o 2 5 (.bin .neq (.t 4) (.v (.string ⟨#[]⟩))) (.o 3 2 (.mov (.t 5)) .done)))) .ret))
theorem dg_impl_TypeOk : Tryz.f133.body.bind (digC Tryz.prog Tryz.f133.ntmps []) = some c_impl_TypeOk := by kernel_rfl
theorem rs_impl_TypeOk : resSlots Tryz.prog Tryz.f133 = some [.s 2] := by kernel_rfl
theorem ok_impl_TypeOk (n : Int) : FnOK Tryz.prog 133 [.one (.d (.sc (.int .i64 n)))] (fun ra _ => ra = [.one (.d (.sc (.bool (tyOk n))))]) := by
  rw [← typeNm_ok]
  refine FnOK.ofK Tryz.func133 (by kernel_rfl) dg_impl_TypeOk rs_impl_TypeOk rfl rfl ?_
  delta c_impl_TypeOk T.o X.i C.g
  refine Kbc (Ka Y (Kdb (Kc (Ka Y (Kp (ok_impl_typeName _) ⟨Y, trivial⟩ Y Y Y Y Y (Kj Y Y Y (Ka Y (Kd (Kr (Er (ra := [.one (.d _)]) rfl rfl))))))))))

def c_impl_isWord : C := (.g (.o 0 2 (.mov (.v (.bool false))) .done) (.g (.o 0 3 (.mov (.t 0)) (.o 1 4 (.call 4 121 [(.t 3), (.i 0), (.i 4294967295)]) (.o 2 2 (.mov (.t 4)) .done))) .ret))
theorem dg_impl_isWord : Tryz.f143.body.bind (digC Tryz.prog Tryz.f143.ntmps []) = some c_impl_isWord := by kernel_rfl
theorem rs_impl_isWord : resSlots Tryz.prog Tryz.f143 = some [.s 2] := by kernel_rfl
theorem ok_impl_isWord (n : Int) : FnOK Tryz.prog 143 [.one (.d (.sc (.int .i64 n)))] (fun ra _ => ra = [.one (.d (.sc (.bool (isW n))))]) := by
  refine FnOK.ofK Tryz.func143 (by kernel_rfl) dg_impl_isWord rs_impl_isWord rfl rfl ?_
  delta c_impl_isWord T.o X.i C.g
  refine Kbc (Ka Y (Kdb (Kc (Ka Y (Kp (ok_impl_within _ _ _) ⟨Y, Y, Y, trivial⟩ Y Y Y Y Y (Ka Y (Kd (Kr (Er (ra := [.one (.d _)]) rfl ?_)))))))))
  rw [show isW n = decide (0 ≤ n ∧ n ≤ 4294967295) by unfold isW; rw [Bool.eq_iff_iff]; simp; omega]

def c_impl_hasTo : C := (.g (.o 0 2 (.mov (.v (.bool false))) .done) (.g (.o 0 3 (.mov (.t 0)) (.o 1 4 (.bin .eql (.t 3) (.i 2)) (.o 2 5 (.mov (.t 4)) (.op 3 [] (some 6) (some (5, false)) false (.mov (.t 0)) (.op 4 [] (some 7) (some (5, false)) false (.bin .eql (.t 6) (.i 5)) (.o 5 8 (.pick (.t 5) (.v (.bool true)) (.t 7)) (.o 6 9 (.mov (.t 8)) (.op 7 [] (some 10) (some (9, false)) false (.mov (.t 0)) (.op 8 [] (some 11) (some (9, false)) false (.bin .eql (.t 10) (.i 6)) (.o 9 12 (.pick (.t 9) (.v (.bool true)) (.t 11)) (.o 10 13 (.mov (.t 12)) (.op 11 [] (some 14) (some (13, false)) false (.mov (.t 0)) (.op 12 [] (some 15) (some (13, false)) false (.bin .eql (.t 14) (.i 12)) (.o 13 16 (.pick (.t 13) (.v (.bool true)) (.t 15)) (.o 14 2 (.mov (.t 16)) .done))))))))))))))) .ret))
theorem dg_impl_hasTo : Tryz.f144.body.bind (digC Tryz.prog Tryz.f144.ntmps []) = some c_impl_hasTo := by kernel_rfl
theorem rs_impl_hasTo : resSlots Tryz.prog Tryz.f144 = some [.s 2] := by kernel_rfl
theorem ok_impl_hasTo (n : Int) : FnOK Tryz.prog 144 [.one (.d (.sc (.int .i64 n)))] (fun ra _ => ra = [.one (.d (.sc (.bool (hasTo n))))]) := by
  refine FnOK.ofK Tryz.func144 (by kernel_rfl) dg_impl_hasTo rs_impl_hasTo rfl rfl ?_
  delta c_impl_hasTo T.o X.i C.g
  refine Kbc (Ka Y (Kdb (Kc (Ka Y (Kj Y Y Y (Ka Y (kGP Y (fun g0 => Kg Y (Kg Y (Kk Y (Ka Y (Ka Y (Kg Y (Kg Y (Kk Y (Ka Y (Ka Y (Kg Y (Kg Y (Kk Y (Ka Y (Ka Y (Kd (Kr (Er (ra := [.one (.d _)]) rfl ?_)))))))))))))))))) (fun g0 => Ki Y (Ka Y (Ki Y (Kj Y Y Y (Kl Y (Ka Y (Ka Y (kGP Y (fun g1 => Kg Y (Kg Y (Kk Y (Ka Y (Ka Y (Kg Y (Kg Y (Kk Y (Ka Y (Ka Y (Kd (Kr (Er (ra := [.one (.d _)]) rfl ?_))))))))))))) (fun g1 => Ki Y (Ka Y (Ki Y (Kj Y Y Y (Kl Y (Ka Y (Ka Y (kGP Y (fun g2 => Kg Y (Kg Y (Kk Y (Ka Y (Ka Y (Kd (Kr (Er (ra := [.one (.d _)]) rfl ?_)))))))) (fun g2 => Ki Y (Ka Y (Ki Y (Kj Y Y Y (Kl Y (Ka Y (Ka Y (Kd (Kr (Er (ra := [.one (.d _)]) rfl ?_)))))))))))))))))))))))))))))))))
  all_goals simp_all [hasTo]

def c_impl_hasText : C := (.g (.o 0 2 (.mov (.v (.bool false))) .done) (.g (.o 0 3 (.mov (.t 0)) (.o 1 4 (.bin .eql (.t 3) (.i 16)) (.o 2 5 (.mov (.t 4)) (.op 3 [] (some 6) (some (5, false)) false (.mov (.t 0)) (.op 4 [] (some 7) (some (5, false)) false (.bin .eql (.t 6) (.i 49)) (.o 5 8 (.pick (.t 5) (.v (.bool true)) (.t 7)) (.o 6 2 (.mov (.t 8)) .done))))))) .ret))
theorem dg_impl_hasText : Tryz.f145.body.bind (digC Tryz.prog Tryz.f145.ntmps []) = some c_impl_hasText := by kernel_rfl
theorem rs_impl_hasText : resSlots Tryz.prog Tryz.f145 = some [.s 2] := by kernel_rfl
theorem ok_impl_hasText (n : Int) : FnOK Tryz.prog 145 [.one (.d (.sc (.int .i64 n)))] (fun ra _ => ra = [.one (.d (.sc (.bool (hasText n))))]) := by
  refine FnOK.ofK Tryz.func145 (by kernel_rfl) dg_impl_hasText rs_impl_hasText rfl rfl ?_
  delta c_impl_hasText T.o X.i C.g
  refine Kbc (Ka Y (Kdb (Kc (Ka Y (Kj Y Y Y (Ka Y (kGP Y (fun g0 => Kg Y (Kg Y (Kk Y (Ka Y (Ka Y (Kd (Kr (Er (ra := [.one (.d _)]) rfl ?_)))))))) (fun g0 => Ki Y (Ka Y (Ki Y (Kj Y Y Y (Kl Y (Ka Y (Ka Y (Kd (Kr (Er (ra := [.one (.d _)]) rfl ?_)))))))))))))))))
  all_goals simp_all [hasText]

end Go.Proofs.YtdfcphdolipapaaGreat.FnExactAddFn
