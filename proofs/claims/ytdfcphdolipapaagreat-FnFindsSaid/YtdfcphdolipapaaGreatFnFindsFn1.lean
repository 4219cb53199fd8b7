/- What the functions that FnFinds reaches compute, one contract each; each with the bounds that it states. -/
import Derived.Test.YtdfcphdolipapaaGreatHearth4
import Derived.Test.YtdfcphdolipapaaGreatProg
import Derived.KernelRfl
set_option maxRecDepth 100000
set_option maxHeartbeats 8000000
set_option linter.unusedVariables false
set_option linter.unusedSimpArgs false
namespace Go.Proofs.YtdfcphdolipapaaGreat.FnFindsFn
open Go Hearth Go.Proofs

def c_spec_Lower : C := (.g (.o 0 2 (.mov (.n 1)) .done) (.g (.o 0 5 (.lit 5 1 [(.v (.int .u8 0))] 0 []) (.o 1 6 (.mov (.t 0)) (.o 2 7 (.app 7 1 1 (.t 5) (.t 6)) (.o 3 3 (.mov (.t 7)) .done)))) (.seq (.g (.o 0 4 (.mov (.i 0)) .done) (.block 0 (.loop (.seq (.g (.o 0 8 (.mov (.t 4)) (.o 1 9 (.mov (.t 3)) (.o 2 10 (.len (.t 9)) (.o 3 11 (.bin .lss (.t 8) (.t 10)) .done)))) (.cond (.t 11) .skip (.exit 0))) (.seq (.block 1 (.g (.o 0 14 (.mov (.t 3)) (.o 1 15 (.mov (.t 4)) (.o 2 16 (.iad 1 (.t 14) (.t 15)) (.o 3 17 (.load none (.t 16)) (.o 4 18 (.bin .geq (.t 17) (.v (.int .u8 65))) (.o 5 19 (.mov (.t 18)) (.op 6 [] (some 20) (some (19, true)) false (.mov (.t 3)) (.op 7 [] (some 21) (some (19, true)) false (.mov (.t 4)) (.op 8 [] (some 22) (some (19, true)) false (.iad 1 (.t 20) (.t 21)) (.op 9 [] (some 23) (some (19, true)) false (.load none (.t 22)) (.op 10 [] (some 24) (some (19, true)) false (.bin .leq (.t 23) (.v (.int .u8 90))) (.o 11 25 (.pick (.t 19) (.t 24) (.v (.bool false))) .done)))))))))))) (.cond (.t 25) (.reg false (.o 0 26 (.mov (.t 3)) (.o 1 27 (.mov (.t 4)) (.o 2 28 (.mov (.t 3)) (.o 3 29 (.mov (.t 4)) (.o 4 30 (.iad 1 (.t 28) (.t 29)) (.o 5 31 (.load none (.t 30)) (.o 6 32 (.bin .add (.t 31) (.v (.int .u8 32))) (.o 7 33 (.iad 1 (.t 26) (.t 27)) (.op 8 [] none none false (.store none (.t 33) (.t 32)) .done)))))))))) .skip))) (.reg false (.o 0 12 (.mov (.t 4)) (.o 1 13 (.bin .add (.t 12) (.i 1)) (.o 2 4 (.mov (.t 13)) .done))))))))) (.g (.o 0 34 (.mov (.t 3)) (.o 1 2 (.mov (.t 34)) .done)) .ret))))
theorem dg_spec_Lower : Tryz.f237.body.bind (digC Tryz.prog Tryz.f237.ntmps []) = some c_spec_Lower := by kernel_rfl
theorem rs_spec_Lower : resSlots Tryz.prog Tryz.f237 = some [.s 2] := by kernel_rfl
theorem ok_spec_Lower (b : List UInt8) (hb : b.length ≤ 4194304) :
  FnOK Tryz.prog 237 [.one (.d (encB b))] (fun ra _ => ra = [.one (.own true (encB (lowerB b)))]) := by
 refine FnOK.ofK Tryz.func237 (by kernel_rfl) dg_spec_Lower rs_spec_Lower rfl rfl ?_
 delta c_spec_Lower T.o X.i C.g
 refine Kbc (Ka Y (Kdb (Kc (kLit Y Y Y Y (Ka Y (kAppN Y Y Y (src_encB _ _) rfl rfl rfl rfl om (Ka Y (Kdb (Kbc (Ka Y (Kd (Kt ?_))))))))))))
 refine kLoop (α := { i : Nat // i ≤ b.length }) (fun y => ⟨tabSl [(3, .c (.arr (rid 5 0) 1)), (4, .i y.1)], obTab 1 [(rid 5 0, ⟨1, 0, .arr true (encB (lowerB (b.take y.1) ++ b.drop y.1))⟩)], []⟩) (fun y => b.length - y.1) ⟨0, by simp⟩ .normA ?_
 rintro ⟨i, hi⟩
 simp only
 have hlen : (lowerB (b.take i) ++ b.drop i).length = b.length := by simp [lowerB]; omega
 rcases Nat.lt_or_ge i b.length with hlt | hge
 ·have hget : (lowerB (b.take i) ++ b.drop i)[i]? = some b[i] := by
   rw [List.getElem?_append_right (by simp [lowerB]; omega)]; simp [lowerB, Nat.min_eq_left hi]
  have hst : ∀ c, c = lowC b[i] → (lowerB (b.take i) ++ b.drop i).set i c = lowerB (b.take (i + 1)) ++ b.drop (i + 1) := by
   rintro c rfl
   rw [take_set_succ _ _ _ _ hlt (by simp [lowerB]; omega)]
   unfold lowerB
   rw [← List.take_append_getElem hlt, List.map_append]
   rfl
  revert hget hst hlen
  generalize lowerB (b.take i) ++ b.drop i = L
  intro hlen hget hst
  have hiL : i < L.length := by omega
  have hg : L[i] = b[i] := by rw [List.getElem?_eq_getElem hiL] at hget; simpa using hget
  have hw : IntKind.u8.wrap (((L[i]).toNat : Int) + 32) = ((L[i] + 32 : UInt8).toNat : Int) := by
   have := (L[i]).toNat_lt
   simp [IntKind.wrap, IntKind.bits, IntKind.signed, UInt8.toNat_add]
  have hno : (¬ ((L[i]).toNat : Int) ≥ 65 ∨ ¬ ((L[i]).toNat : Int) ≤ 90) → L = lowerB (b.take (i + 1)) ++ b.drop (i + 1) := by
   intro h
   rw [← hst L[i] (by
    rw [hg] at h ⊢
    unfold lowC
    rw [if_neg]
    rintro ⟨h1, h2⟩
    have h1 := UInt8.le_iff_toNat_le.1 h1
    have h2 := UInt8.le_iff_toNat_le.1 h2
    simp at h1 h2
    omega)]
   simp
  refine Kb (Kbc (Ka Y (Ka Y (Kq Y Y (Kj Y Y Y (Kd (Km Y (fun g0 => Kn (Kb (Kt (Kbc (Ka Y (Ka Y (kIadAR Y Y Y Y om (kLoadER Y Y om rfl (Kj Y Y Y (Ka Y (kGP Y (fun g1 => (Ki Y (Ka Y (Ki Y (Ka Y (Ki Y (kIadAR Y Y Y Y om (Ki Y (kLoadER Y Y om rfl (Ki Y (Kj Y Y Y (Kk Y (Ka Y (Kd (Km Y (fun g2 => Kc (Ka Y (Ka Y (Ka Y (Ka Y (kIadAR Y Y Y Y om (kLoadER Y Y om rfl (Kj Y Y Y (kIadAR Y Y Y Y om ?_))))))))) (fun g2 => Kn (Kv (Kc (Ka Y (kAdd Y Y om (Ka Y (Kd ?_)))))))))))))))))))))) (fun g1 => (Kg Y (Kg Y (Kg Y (Kg Y (Kg Y (Kl Y (Ka Y (Kd (kCondF Y (Kn (Kv (Kc (Ka Y (kAdd Y Y om (Ka Y (Kd ?_)))))))))))))))))))))))))))) (fun g0 => om))))))))
  ·refine kStoreER (z := L[i] + 32) Y Y Y Y Y Y Y hiL (by rw [← hw]; rfl) ?_
   refine Kd (Kv (Kc (Ka Y (kAdd Y Y om (Ka Y (Kd ?_))))))
   refine kInv ⟨⟨i + 1, by omega⟩, by simp only; omega, ?_⟩
   simp only
   rw [← hst (L[i] + 32) (by
    rw [hg] at *
    unfold lowC
    rw [if_pos]
    simp only [UInt8.le_iff_toNat_le]
    exact ⟨by simp; omega, by simp; omega⟩)]
   exact .normA
  all_goals
   refine kInv ⟨⟨i + 1, by omega⟩, by simp only; omega, ?_⟩
   simp only
   rw [← hno (by omega)]
   exact .normA
 ·refine Kb (Kbc (Ka Y (Ka Y (Kq Y Y (Kj Y Y Y (Kd (Km Y (fun g0 => om) (fun g0 => kExit (kExC (kExI (kExB (Kbc (Ka Y (Ka Y (Kd (Kr (Er (ra := [.one (.own true _)]) rfl ?_)))))))))))))))))
  rw [show i = b.length by omega]
  simp

def c_spec_LabelOk : C := (.g (.o 0 2 (.mov (.v (.bool false))) .done) (.seq (.g (.o 0 4 (.mov (.t 0)) (.o 1 5 (.len (.t 4)) (.o 2 6 (.bin .lss (.t 5) (.i 1)) (.o 3 7 (.mov (.t 6)) (.op 4 [] (some 8) (some (7, false)) false (.mov (.t 0)) (.op 5 [] (some 9) (some (7, false)) false (.len (.t 8)) (.op 6 [] (some 10) (some (7, false)) false (.bin .gtr (.t 9) (.i 15)) (.o 7 11 (.pick (.t 7) (.v (.bool true)) (.t 10)) .done)))))))) (.cond (.t 11) (.g (.o 0 2 (.mov (.v (.bool false))) .done) .ret) .skip)) (.seq (.g (.o 0 3 (.mov (.i 0)) .done) (.block 0 (.loop (.seq (.g (.o 0 12 (.mov (.t 3)) (.o 1 13 (.mov (.t 0)) (.o 2 14 (.len (.t 13)) (.o 3 15 (.bin .lss (.t 12) (.t 14)) .done)))) (.cond (.t 15) .skip (.exit 0))) (.seq (.block 1 (.g (.o 0 18 (.mov (.t 0)) (.o 1 19 (.mov (.t 3)) (.o 2 20 (.iad 1 (.t 18) (.t 19)) (.o 3 21 (.load none (.t 20)) (.o 4 22 (.bin .geq (.t 21) (.v (.int .u8 97))) (.o 5 23 (.mov (.t 22)) (.op 6 [] (some 24) (some (23, true)) false (.mov (.t 0)) (.op 7 [] (some 25) (some (23, true)) false (.mov (.t 3)) (.op 8 [] (some 26) (some (23, true)) false (.iad 1 (.t 24) (.t 25)) (.op 9 [] (some 27) (some (23, true)) false (.load none (.t 26)) (.op 10 [] (some 28) (some (23, true)) false (.bin .leq (.t 27) (.v (.int .u8 122))) (.o 11 29 (.pick (.t 23) (.t 28) (.v (.bool false))) (.o 12 30 (.un .not (.t 29)) (.o 13 31 (.mov (.t 30)) (.op 14 [] (some 32) (some (31, true)) false (.mov (.t 0)) (.op 15 [] (some 33) (some (31, true)) false (.mov (.t 3)) (.op 16 [] (some 34) (some (31, true)) false (.iad 1 (.t 32) (.t 33)) (.op 17 [] (some 35) (some (31, true)) false (.load none (.t 34)) (.op 18 [] (some 36) (some (31, true)) false (.bin .geq (.t 35) (.v (.int .u8 48))) (.op 19 [] (some 37) (some (31, true)) false (.mov (.t 36)) (.op 20 [] (some 38) (some (37, true)) false (.mov (.t 0)) (.op 21 [] (some 39) (some (37, true)) false (.mov (.t 3)) (.op 22 [] (some 40) (some (37, true)) false (.iad 1 (.t 38) (.t 39)) (.op 23 [] (some 41) (some (37, true)) false (.load none (.t 40)) (.op 24 [] (some 42) (some (37, true)) false (.bin .leq (.t 41) (.v (.int .u8 57))) (.op 25 [] (some 43) (some (31, true)) false (.pick (.t 37) (.t 42) (.v (.bool false))) (.op 26 [] (some 44) (some (31, true)) false (.un .not (.t 43)) (.o 27 45 (.pick (.t 31) (.t 44) (.v (.bool false))) (.o 28 46 (.mov (.t 45)) (.op 29 [] (some 47) (some (46, true)) false (.mov (.t 0)) (.op 30 [] (some 48) (some (46, true)) false (.mov (.t 3)) (.op 31 [] (some 49) (some (46, true)) false (.iad 1 (.t 47) (.t 48)) (.op 32 [] (some 50) (some (46, true)) false (.load none (.t 49)) (.op 33 [] (some 51) (some (46, true)) false (.bin .neq (.t 50) (.v (.int .u8 45))) (.o 34 52 (.pick (.t 46) (.t 51) (.v (.bool false))) .done))))))))))))))))))))))))))))))))))) (.cond (.t 52) (.g (.o 0 2 (.mov (.v (.bool false))) .done) .ret) .skip))) (.reg false (.o 0 16 (.mov (.t 3)) (.o 1 17 (.bin .add (.t 16) (.i 1)) (.o 2 3 (.mov (.t 17)) .done))))))))) (.g (.o 0 2 (.mov (.v (.bool true))) .done) .ret))))
theorem dg_spec_LabelOk : Tryz.f119.body.bind (digC Tryz.prog Tryz.f119.ntmps []) = some c_spec_LabelOk := by kernel_rfl
theorem rs_spec_LabelOk : resSlots Tryz.prog Tryz.f119 = some [.s 2] := by kernel_rfl
theorem ok_spec_LabelOk (b : List UInt8) (hb : b.length ≤ 4194304) :
  FnOK Tryz.prog 119 [.one (.d (encB b))] (fun ra _ => ra = [.one (.d (.sc (.bool (labelOk b))))]) := by
 refine FnOK.ofK Tryz.func119 (by kernel_rfl) dg_spec_LabelOk rs_spec_LabelOk rfl rfl ?_
 delta c_spec_LabelOk T.o X.i C.g
 refine Kbc (Ka Y (Kdb (Kbc (Ka Y (Kq Y Y (Kj Y Y Y (Ka Y (kGP Y (fun g0 => Kg Y (Kg Y (Kg Y (Kk Y (Ka Y (Kd (kCondT Y (Kbc (Ka Y (Kd (Kr (Er (ra := [.one (.d _)]) rfl ?_)))))))))))) (fun g0 => Ki Y (Ka Y (Ki Y (Kq Y Y (Ki Y (Kj Y Y Y (Kl Y (Ka Y (Kd (Km Y (fun g1 => Kbc (Ka Y (Kd (Kr (Er (ra := [.one (.d _)]) rfl ?_))))) (fun g1 => Kn (Kb (Kbc (Ka Y (Kd (Kt ?_))))))))))))))))))))))))
 ·rw [show labelOk b = false by simp only [labelOk]; rw [decide_eq_false (by omega)]; rfl]
 ·rw [show labelOk b = false by simp only [labelOk]; rw [decide_eq_false (p := b.length ≤ 15) (by omega)]; simp]
 refine kLoop (α := { i : Nat // i ≤ b.length ∧ (b.take i).all okLetter = true })
  (fun y => ⟨tabSl [(0, .dv (encB b)), (3, .i y.1)], (St.init [.one (.d (encB b))]).ob, []⟩) (fun y => b.length - y.1) ⟨0, by simp⟩
  (.tab rfl ⟨.refl _, .refl _, trivial⟩) ?_
 rintro ⟨i, hi, hl⟩
 simp only
 refine Kb (Kbc (Ka Y (Ka Y (Kq Y Y (Kj Y Y Y (Kd (Km Y (fun g0 => Kn (Kb (Kt (Kbc (Ka Y (Ka Y (kIadR Y Y Y om (Ky Y Y (Kj Y Y Y (Ka Y (kGP Y (fun g1 => Ki Y (Ka Y (Ki Y (Ka Y (Ki Y (kIadR Y Y Y om (Ki Y (Ky Y Y (Ki Y (Kj Y Y Y (Kk Y (Ka Y (Kw Y Y (Ka Y (kGN Y (fun g2 => Ki Y (Ka Y (Ki Y (Ka Y (Ki Y (kIadR Y Y Y om (Ki Y (Ky Y Y (Ki Y (Kj Y Y Y (Ki Y (Ka Y (kGP Y (fun g3 => Ki Y (Ka Y (Ki Y (Ka Y (Ki Y (kIadR Y Y Y om (Ki Y (Ky Y Y (Ki Y (Kj Y Y Y (Ki Y (Kk Y (Ka Y (Ki Y (Kw Y Y (Kk Y (Ka Y (Ka Y (kGN Y (fun g4 => Ki Y (Ka Y (Ki Y (Ka Y (Ki Y (kIadR Y Y Y om (Ki Y (Ky Y Y (Ki Y (Kj Y Y Y (Kk Y (Ka Y (Kd (kCondN Y (fun g5 => Kbc (Ka Y (Kd (Kr (Er (ra := [.one (.d _)]) rfl ?_))))) (fun g5 => Kn (Kv (Kc (Ka Y (kAdd Y Y om (Ka Y (Kd ?_))))))))))))))))))))) (fun g4 => Kg Y (Kg Y (Kg Y (Kg Y (Kg Y (Kl Y (Ka Y (Kd (kCondF Y (Kn (Kv (Kc (Ka Y (kAdd Y Y om (Ka Y (Kd ?_))))))))))))))))))))))))))))))))))) (fun g3 => om)))))))))))))) (fun g2 => Kg Y (Kg Y (Kg Y (Kg Y (Kg Y (Kg Y (kGU Y (kGU Y (kGU Y (kGU Y (kGU Y (Kg Y (Kg Y (Kl Y (Ka Y (Ka Y (Kg Y (Kg Y (Kg Y (Kg Y (Kg Y (Kl Y (Ka Y (Kd (kCondF Y (Kn (Kv (Kc (Ka Y (kAdd Y Y om (Ka Y (Kd ?_))))))))))))))))))))))))))))))))))))))))))))))) (fun g1 => Kg Y (Kg Y (Kg Y (Kg Y (Kg Y (Kl Y (Ka Y (Kw Y Y (Ka Y (Ki Y (Ka Y (Ki Y (Ka Y (Ki Y (kIadR Y Y Y om (Ki Y (Ky Y Y (Ki Y (Kj Y Y Y (Ki Y (Ka Y (kGP Y (fun g6 => Ki Y (Ka Y (Ki Y (Ka Y (Ki Y (kIadR Y Y Y om (Ki Y (Ky Y Y (Ki Y (Kj Y Y Y (Ki Y (Kk Y (Ka Y (Ki Y (Kw Y Y (Kk Y (Ka Y (Ka Y (kGN Y (fun g7 => Ki Y (Ka Y (Ki Y (Ka Y (Ki Y (kIadR Y Y Y om (Ki Y (Ky Y Y (Ki Y (Kj Y Y Y (Kk Y (Ka Y (Kd (kCondN Y (fun g8 => Kbc (Ka Y (Kd (Kr (Er (ra := [.one (.d _)]) rfl ?_))))) (fun g8 => Kn (Kv (Kc (Ka Y (kAdd Y Y om (Ka Y (Kd ?_))))))))))))))))))))) (fun g7 => Kg Y (Kg Y (Kg Y (Kg Y (Kg Y (Kl Y (Ka Y (Kd (kCondF Y (Kn (Kv (Kc (Ka Y (kAdd Y Y om (Ka Y (Kd ?_))))))))))))))))))))))))))))))))))) (fun g6 => Kg Y (Kg Y (Kg Y (Kg Y (Kg Y (Ki Y (Kl Y (Ka Y (Ki Y (Kw Y Y (Kk Y (Ka Y (Ka Y (Ki Y (Ka Y (Ki Y (Ka Y (Ki Y (kIadR Y Y Y om (Ki Y (Ky Y Y (Ki Y (Kj Y Y Y (Kk Y (Ka Y (Kd (kCondN Y (fun g9 => Kbc (Ka Y (Kd (Kr (Er (ra := [.one (.d _)]) rfl ?_))))) (fun g9 => Kn (Kv (Kc (Ka Y (kAdd Y Y om (Ka Y (Kd ?_))))))))))))))))))))))))))))))))))))))))))))))))))))))))))))))))))) (fun g0 => kExit (kExC (kExI (kExB (Kbc (Ka Y (Kd (Kr (Er (ra := [.one (.d _)]) rfl ?_))))))))))))))))
 all_goals try simp only [decide_eq_true_eq, decide_eq_false_iff_not, beq_iff_eq, beq_eq_false_iff_ne] at *
 all_goals first
  | exact kInv ⟨⟨i + 1, by omega, labelOk_step (by omega) hl (by rw [okLetter_iff]; omega)⟩, by simp only; omega, .tab rfl ⟨.refl _, .refl _, trivial⟩⟩
  | rw [labelOk_no (b := b) (i := i) (by omega) (by rw [okLetter_iff]; omega)]
  | skip
 have hge : i = b.length := by omega
 subst hge
 rw [List.take_length] at hl
 rw [show labelOk b = true by simp only [labelOk]; rw [decide_eq_true (by omega), decide_eq_true (by omega), hl]; rfl]

def c_spec_NameOk : C := (.g (.o 0 1 (.box 1 (.t 0)) (.o 1 2 (.mov (.v (.bool false))) .done)) (.seq (.g (.o 0 4 (.fad (.t 1) 0) (.o 1 5 (.load none (.t 4)) (.o 2 6 (.len (.t 5)) (.o 3 7 (.bin .gtr (.t 6) (.i 6)) .done)))) (.cond (.t 7) (.g (.o 0 2 (.mov (.v (.bool false))) .done) .ret) .skip)) (.seq (.g (.o 0 3 (.mov (.i 0)) .done) (.block 0 (.loop (.seq (.g (.o 0 8 (.mov (.t 3)) (.o 1 9 (.fad (.t 1) 0) (.o 2 10 (.load none (.t 9)) (.o 3 11 (.len (.t 10)) (.o 4 12 (.bin .lss (.t 8) (.t 11)) .done))))) (.cond (.t 12) .skip (.exit 0))) (.seq (.block 1 (.g (.o 0 15 (.fad (.t 1) 0) (.o 1 16 (.load none (.t 15)) (.o 2 17 (.mov (.t 3)) (.o 3 18 (.iad 1 (.t 16) (.t 17)) (.o 4 19 (.load none (.t 18)) (.o 5 20 (.call 20 119 [(.t 19)]) (.o 6 21 (.un .not (.t 20)) .done))))))) (.cond (.t 21) (.g (.o 0 2 (.mov (.v (.bool false))) .done) .ret) .skip))) (.reg false (.o 0 13 (.mov (.t 3)) (.o 1 14 (.bin .add (.t 13) (.i 1)) (.o 2 3 (.mov (.t 14)) .done))))))))) (.g (.o 0 2 (.mov (.v (.bool true))) .done) .ret))))
theorem dg_spec_NameOk : Tryz.f78.body.bind (digC Tryz.prog Tryz.f78.ntmps []) = some c_spec_NameOk := by kernel_rfl
theorem rs_spec_NameOk : resSlots Tryz.prog Tryz.f78 = some [.s 2] := by kernel_rfl
theorem ok_spec_NameOk (a : List (List UInt8)) (ha : a.length ≤ 4194304) (hb : ∀ b ∈ a, b.length ≤ 4194304) :
  FnOK Tryz.prog 78 [.agg [.d (encBB a)]] (fun ra _ => ra = [.one (.d (.sc (.bool (nameOk a))))]) := by
 refine FnOK.ofK Tryz.func78 (by kernel_rfl) dg_spec_NameOk rs_spec_NameOk rfl rfl ?_
 delta c_spec_NameOk T.o X.i C.g
 refine Kbc (kBox Y Y Y Y Y (Ka Y (Kdb (Kbc (Kf Y Y (Ke Y Y Y (Kq Y Y (Kj Y Y Y (Kd (Km Y (fun g0 => Kbc (Ka Y (Kd (Kr (Er (ra := [.one (.d _)]) rfl ?_))))) (fun g0 => Kn (Kb (Kbc (Ka Y (Kd (Kt ?_))))))))))))))))
 ·rw [show nameOk a = false by simp only [nameOk]; rw [decide_eq_false (by omega)]; rfl]
 refine kLoop (α := { i : Nat // i ≤ a.length ∧ (a.take i).all labelOk = true })
  (fun y => ⟨tabSl [(1, .c (.ptr (rid 1 0) 1 0)), (3, .i y.1)], obTab 1 [(rid 1 0, ⟨1, 0, .box [.d (encBB a)]⟩)], []⟩) (fun y => a.length - y.1) ⟨0, by simp⟩
  .normA ?_
 rintro ⟨i, hi, hl⟩
 simp only
 refine Kb (Kbc (Ka Y (Kf Y Y (Ke Y Y Y (Kq Y Y (Kj Y Y Y (Kd (Km Y (fun g0 => Kn (Kb (Kt (Kbc (Kf Y Y (Ke Y Y Y (Ka Y (kIadR Y Y Y om (Ky Y Y (Kp (ok_spec_LabelOk _ (by first | assumption | omega | solve_by_elim [List.getElem_mem])) ⟨Y, trivial⟩ Y Y Y Y Y (Kw Y Y (Kd (kCondN Y (fun g1 => Kbc (Ka Y (Kd (Kr (Er (ra := [.one (.d _)]) rfl ?_))))) (fun g1 => Kn (Kv (Kc (Ka Y (kAdd Y Y om (Ka Y (Kd ?_)))))))))))))))))))) (fun g0 => kExit (kExC (kExI (kExB (Kbc (Ka Y (Kd (Kr (Er (ra := [.one (.d _)]) rfl ?_)))))))))))))))))
 ·rename_i h
  rw [show nameOk a = false by simp only [nameOk]; rw [all_no (i := i) (by omega) (by assumption), Bool.and_false]]
 ·exact kInv ⟨⟨i + 1, by omega, all_step om hl (by assumption)⟩, by simp only; omega, .normA⟩
 ·have hge : i = a.length := by omega
  subst hge
  rw [List.take_length] at hl
  rw [show nameOk a = true by simp only [nameOk]; rw [decide_eq_true (by omega), hl]; rfl]

def c_spec_NameRead : C := (.g (.o 0 2 (.alloc 2 [(.n 1)]) (.o 1 3 (.mov (.v (.bool false))) .done)) (.seq (.g (.o 0 7 (.mov (.t 0)) (.o 1 8 (.b2s (.t 7)) (.o 2 9 (.bin .eql (.t 8) (.v (.string ⟨#[46]⟩))) .done))) (.cond (.t 9) (.g (.o 0 10 (.build [(.n 1)] []) (.op 1 [] none none false (.store (some 1) (.t 2) (.t 10)) (.o 2 3 (.mov (.v (.bool true))) .done))) .ret) .skip)) (.g (.o 0 4 (.alloc 4 [(.n 1)]) .done) (.g (.o 0 5 (.mov (.n 1)) .done) (.seq (.g (.o 0 6 (.mov (.i 0)) .done) (.block 0 (.loop (.seq (.g (.o 0 11 (.mov (.t 6)) (.o 1 12 (.mov (.t 0)) (.o 2 13 (.len (.t 12)) (.o 3 14 (.bin .leq (.t 11) (.t 13)) .done)))) (.cond (.t 14) .skip (.exit 0))) (.seq (.block 1 (.seq (.g (.o 0 17 (.mov (.t 6)) (.o 1 18 (.mov (.t 0)) (.o 2 19 (.len (.t 18)) (.o 3 20 (.bin .lss (.t 17) (.t 19)) (.o 4 21 (.mov (.t 20)) (.op 5 [] (some 22) (some (21, true)) false (.mov (.t 0)) (.op 6 [] (some 23) (some (21, true)) false (.mov (.t 6)) (.op 7 [] (some 24) (some (21, true)) false (.iad 1 (.t 22) (.t 23)) (.op 8 [] (some 25) (some (21, true)) false (.load none (.t 24)) (.op 9 [] (some 26) (some (21, true)) false (.bin .neq (.t 25) (.v (.int .u8 46))) (.o 10 27 (.pick (.t 21) (.t 26) (.v (.bool false))) .done))))))))))) (.cond (.t 27) (.g (.o 0 28 (.mov (.t 5)) (.o 1 29 (.mov (.t 0)) (.o 2 30 (.mov (.t 6)) (.o 3 31 (.iad 1 (.t 29) (.t 30)) (.o 4 32 (.load none (.t 31)) (.o 5 33 (.lit 33 1 [(.v (.int .u8 0))] 1 [(0, 1, (.t 32))]) (.o 6 34 (.app 34 1 1 (.t 28) (.t 33)) (.o 7 5 (.mov (.t 34)) .done)))))))) (.exit 1)) .skip)) (.seq (.g (.o 0 35 (.mov (.t 6)) (.o 1 36 (.mov (.t 0)) (.o 2 37 (.len (.t 36)) (.o 3 38 (.bin .eql (.t 35) (.t 37)) (.o 4 39 (.mov (.t 38)) (.op 5 [] (some 40) (some (39, true)) false (.mov (.t 5)) (.op 6 [] (some 41) (some (39, true)) false (.len (.t 40)) (.op 7 [] (some 42) (some (39, true)) false (.bin .eql (.t 41) (.i 0)) (.o 8 43 (.pick (.t 39) (.t 42) (.v (.bool false))) (.o 9 44 (.mov (.t 43)) (.op 10 [] (some 45) (some (44, true)) false (.mov (.t 6)) (.op 11 [] (some 46) (some (44, true)) false (.bin .gtr (.t 45) (.i 0)) (.o 12 47 (.pick (.t 44) (.t 46) (.v (.bool false))) .done))))))))))))) (.cond (.t 47) (.exit 0) .skip)) (.seq (.reg true (.op 0 [] (some 48) none true (.fad (.t 4) 0) (.op 1 [] (some 49) none true (.load none (.t 48)) (.op 2 [] (some 50) none true (.mov (.t 5)) (.o 3 51 (.call 51 237 [(.t 50)]) (.o 4 52 (.lit 52 1 [(.n 1)] 1 [(0, 1, (.t 51))]) (.op 5 [1] (some 53) none false (.app 53 1 24 (.t 49) (.t 52)) (.op 6 [] (some 54) none true (.fad (.t 4) 0) (.op 7 [1] none none false (.store none (.t 54) (.t 53)) .done))))))))) (.reg false (.o 0 5 (.mov (.n 1)) .done)))))) (.reg false (.o 0 15 (.mov (.t 6)) (.o 1 16 (.bin .add (.t 15) (.i 1)) (.o 2 6 (.mov (.t 16)) .done))))))))) (.seq (.g (.o 0 55 (.load (some 1) (.t 4)) (.o 1 56 (.call 56 78 [(.t 55)]) (.o 2 57 (.un .not (.t 56)) .done))) (.cond (.t 57) (.g (.o 0 58 (.build [(.n 1)] []) (.op 1 [] none none false (.store (some 1) (.t 2) (.t 58)) (.o 2 3 (.mov (.v (.bool false))) .done))) .ret) .skip)) (.g (.o 0 59 (.load (some 1) (.t 4)) (.op 1 [] none none false (.store (some 1) (.t 2) (.t 59)) (.o 2 3 (.mov (.v (.bool true))) .done))) .ret)))))))
theorem dg_spec_NameRead : Tryz.f167.body.bind (digC Tryz.prog Tryz.f167.ntmps []) = some c_spec_NameRead := by kernel_rfl
theorem rs_spec_NameRead : resSlots Tryz.prog Tryz.f167 = some [.m 2 (some 1), .s 3] := by kernel_rfl
theorem ok_spec_NameRead (b : List UInt8) (hb : b.length ≤ 4194303) :
    FnOK Tryz.prog 167 [.one (.d (encB b))] (fun ra _ => ra = [.agg [.own true (encBB (readN b))], .one (.d (.sc (.bool (readOk b))))]) := by
  refine FnOK.ofK Tryz.func167 (by kernel_rfl) dg_spec_NameRead rs_spec_NameRead rfl rfl ?_
  delta c_spec_NameRead T.o X.i C.g
  obtain ⟨rl1, rl2⟩ := readL_small hb
  refine Kbc (kAlloc Y Y (Ka Y (Kdb (Kbc (Ka Y (kB2s Y Y (Kj Y Y Y (Kd (kCond Y (fun g0 => Kbc (kBuildG Y (Ko Y Y Y Y (Ka Y (Kd (Kr (Er (ra := [.agg [(.own true _)], .one (.d _)]) rfl ?_))))))) (fun g0 => Kn (Kbc (kAlloc Y Y (Kdb (Kc (Ka Y (Kdb (Kbc (Ka Y (Kd (Kt ?_))))))))))))))))))))
  · rw [eq46] at g0
    have e : b = [46] := of_decide_eq_true g0
    subst e
    rfl
  rw [eq46] at g0
  have hne : b ≠ [46] := of_decide_eq_false g0
  have hrn : readN b = if nameOk (readL b) then readL b else [] := by unfold readN; rw [if_neg hne]
  have hro : readOk b = nameOk (readL b) := by unfold readOk; rw [decide_eq_false hne]; rfl
  rw [hrn, hro]
  refine kSub (Sub.nilBox (id := rid 4 0) (id2 := rid 5001 0) (j := 0) rfl rfl rfl (by decide) (by decide)) ?_
  refine kSub (Sub.nilArr (j := 5) (id := rid 5000 0) (sz := 1) rfl (by decide)) ?_
  refine kLoop (α := { i : Nat // i ≤ b.length + 1 }) (fun y => ⟨tabSl [(0, .dv (encB b)), (2, .c (.ptr (rid 2 0) 1 0)), (4, .c (.ptr (rid 4 0) 1 0)), (5, .c (.arr (rid 5000 0) 1)), (6, .i y.1)], obTab 1 [(rid 2 0, ⟨1, 0, .box [.nil 1]⟩), (rid 4 0, ⟨1, 0, .box [.arr (rid 5001 0) 1]⟩), (rid 5000 0, ⟨1, 0, .arr true (encB (rdW b y.1))⟩), (rid 5001 0, ⟨1, 0, .arr true (encBB (rdL b y.1))⟩)], []⟩) (fun y => b.length + 1 - y.1) ⟨0, by simp⟩ .normA ?_
  rintro ⟨i, hi⟩
  simp only
  have hmem := rdW_mem b i
  rcases Nat.lt_or_ge i b.length with hlt | hge
  · have hlens := rd_lens b i (by omega)
    by_cases hc : b[i] = 46
    · obtain ⟨s1, s2⟩ := rd_dot hlt hc
      have hcn : ((b[i]).toNat : Int) = 46 := by rw [hc]; rfl
      revert s1 s2
      generalize rdL b i = L at *
      generalize rdW b i = W at *
      intro s1 s2
      refine Kb (Kbc (Ka Y (Ka Y (Kq Y Y (Kj Y Y Y (Kd (Km Y (fun g0 => Kn (Kb (Kt (Kb (Kbc (Ka Y (Ka Y (Kq Y Y (Kj Y Y Y (Ka Y (kGP Y (fun g1 => Ki Y (Ka Y (Ki Y (Ka Y (Ki Y (kIadR Y Y Y om (Ki Y (Ky Y Y (Ki Y (Kj Y Y Y (Kk Y (Ka Y (Kd (kCondIN Y (fun g2 => om) (fun g2 => Kn (Kb (Kbc (Ka Y (Ka Y (Kq Y Y (Kj Y Y Y (Ka Y (kGP Y (fun g3 => om) (fun g3 => Kg Y (Kg Y (Kg Y (Kl Y (Ka Y (Ka Y (Kg Y (Kg Y (Kl Y (Ka Y (Kd (kCondF Y (Kn (Kb (kRegD (Kf Y Y (Ke Y Y Y (Ka Y (Ku true (ok_spec_Lower _ pry) ⟨Y, trivial⟩ Y Y Y (fun _ => (kLit Y Y Y Y (Ks Y Y (kAppR1 Y Y Y Y Y Y Y Y om (Kf Y Y (Ks Y Y (Ko Y Y Y Y (Kd (kH (Kc (Ka Y (Kd (Kv (Kc (Ka Y (kAdd Y Y om (Ka Y (Kd ?_)))))))))))))))))))))))))))))))))))))))))))))))))))))))))))) (fun g1 => om)))))))))))) (fun g0 => om))))))))
      refine kInv ⟨⟨i + 1, by omega⟩, by simp only; omega, ?_⟩
      simp only [s1, s2]
      exact (Sub.nilArr (j := 5) (id := rid 5000 0) (sz := 1) rfl (by decide)).trans .normA
    · obtain ⟨s1, s2⟩ := rd_char hlt hc
      have hcn : ((b[i]).toNat : Int) ≠ 46 := fun h => hc (UInt8.toNat_inj.1 (by have : b[i].toNat = 46 := by omega
                                                                                 rw [this]; rfl))
      revert s1 s2
      generalize rdL b i = L at *
      generalize rdW b i = W at *
      intro s1 s2
      refine Kb (Kbc (Ka Y (Ka Y (Kq Y Y (Kj Y Y Y (Kd (Km Y (fun g0 => Kn (Kb (Kt (Kb (Kbc (Ka Y (Ka Y (Kq Y Y (Kj Y Y Y (Ka Y (kGP Y (fun g1 => Ki Y (Ka Y (Ki Y (Ka Y (Ki Y (kIadR Y Y Y om (Ki Y (Ky Y Y (Ki Y (Kj Y Y Y (Kk Y (Ka Y (Kd (kCondIN Y (fun g2 => Kbc (Ka Y (Ka Y (Ka Y (kIadR Y Y Y om (Ky Y Y (kLit Y Y Y Y (kAppR1 Y Y Y Y Y Y Y Y om (Ka Y (Kd (kExit (kExC (kExB (Kc (Ka Y (kAdd Y Y om (Ka Y (Kd ?_)))))))))))))))))) (fun g2 => om))))))))))))))) (fun g1 => om)))))))))))) (fun g0 => om))))))))
      refine kInv ⟨⟨i + 1, by omega⟩, by simp only; omega, ?_⟩
      simp only [s1, s2]
      exact .normA
  · rcases Nat.lt_or_ge b.length i with hgt | hle
    · have e : i = b.length + 1 := by omega
      subst e
      rw [rd_last.1, rd_last.2]
      cases hno : nameOk (readL b)
      · refine Kb (Kbc (Ka Y (Ka Y (Kq Y Y (Kj Y Y Y (Kd (Km Y (fun g0 => om) (fun g0 => kExit (kExC (kExI (kExB (Kb (Kbc (Ke Y Y Y (Kp (ok_spec_NameOk _ pry pry) ⟨⟨⟨Y, trivial⟩, leb⟩, trivial⟩ Y Y Y Y Y (Kw Y Y (Kd (kCondN Y (fun g1 => Kbc (kBuildG Y (Ko Y Y Y Y (Ka Y (Kd (Kr (Er (ra := [.agg [(.own true _)], .one (.d _)]) rfl rfl))))))) (fun g1 => (by (simp [*] at g1)))))))))))))))))))))
      · refine Kb (Kbc (Ka Y (Ka Y (Kq Y Y (Kj Y Y Y (Kd (Km Y (fun g0 => om) (fun g0 => kExit (kExC (kExI (kExB (Kb (Kbc (Ke Y Y Y (Kp (ok_spec_NameOk _ pry pry) ⟨⟨⟨Y, trivial⟩, leb⟩, trivial⟩ Y Y Y Y Y (Kw Y Y (Kd (kCondN Y (fun g1 => (by (simp [*] at g1))) (fun g1 => Kn (Kbc (Ke Y Y Y (Ko Y Y Y Y (Ka Y (Kd (Kr (Er (ra := [.agg [(.own true _)], .one (.d _)]) rfl rfl))))))))))))))))))))))))))
    · have e : i = b.length := by omega
      subst e
      have hlens := rd_lens b b.length (Nat.le_refl _)
      have s1 := (rd_last (b := b)).1
      have s2 := (rd_last (b := b)).2
      by_cases hw : rdW b b.length = [] ∧ 0 < b.length
      · rw [rd_end, if_pos hw] at *
        rw [hw.1]
        obtain ⟨hw1, hw2⟩ := hw
        cases hno : nameOk (rdL b b.length)
        · refine Kb (Kbc (Ka Y (Ka Y (Kq Y Y (Kj Y Y Y (Kd (Km Y (fun g0 => Kn (Kb (Kt (Kb (Kbc (Ka Y (Ka Y (Kq Y Y (Kj Y Y Y (Ka Y (kGP Y (fun g1 => om) (fun g1 => Kg Y (Kg Y (Kg Y (Kg Y (Kg Y (Kl Y (Ka Y (Kd (kCondF Y (Kn (Kb (Kbc (Ka Y (Ka Y (Kq Y Y (Kj Y Y Y (Ka Y (kGP Y (fun g2 => Ki Y (Ka Y (Ki Y (Kq Y Y (Ki Y (Kj Y Y Y (Kk Y (Ka Y (Ka Y (Ki Y (Ka Y (Ki Y (Kj Y Y Y (Kk Y (Ka Y (Kd (Km Y (fun g3 => kExit (kExC (kExB' rfl (kExC (kExI (kExB (Kb (Kbc (Ke Y Y Y (Kp (ok_spec_NameOk _ pry pry) ⟨⟨⟨Y, trivial⟩, leb⟩, trivial⟩ Y Y Y Y Y (Kw Y Y (Kd (kCondN Y (fun g4 => Kbc (kBuildG Y (Ko Y Y Y Y (Ka Y (Kd (Kr (Er (ra := [.agg [(.own true _)], .one (.d _)]) rfl rfl))))))) (fun g4 => (by (simp [*] at g4)))))))))))))))) (fun g3 => om)))))))))))))))))) (fun g2 => om)))))))))))))))))))))))))))))) (fun g0 => om))))))))
        · refine Kb (Kbc (Ka Y (Ka Y (Kq Y Y (Kj Y Y Y (Kd (Km Y (fun g0 => Kn (Kb (Kt (Kb (Kbc (Ka Y (Ka Y (Kq Y Y (Kj Y Y Y (Ka Y (kGP Y (fun g1 => om) (fun g1 => Kg Y (Kg Y (Kg Y (Kg Y (Kg Y (Kl Y (Ka Y (Kd (kCondF Y (Kn (Kb (Kbc (Ka Y (Ka Y (Kq Y Y (Kj Y Y Y (Ka Y (kGP Y (fun g2 => Ki Y (Ka Y (Ki Y (Kq Y Y (Ki Y (Kj Y Y Y (Kk Y (Ka Y (Ka Y (Ki Y (Ka Y (Ki Y (Kj Y Y Y (Kk Y (Ka Y (Kd (Km Y (fun g3 => kExit (kExC (kExB' rfl (kExC (kExI (kExB (Kb (Kbc (Ke Y Y Y (Kp (ok_spec_NameOk _ pry pry) ⟨⟨⟨Y, trivial⟩, leb⟩, trivial⟩ Y Y Y Y Y (Kw Y Y (Kd (kCondN Y (fun g4 => (by (simp [*] at g4))) (fun g4 => Kn (Kbc (Ke Y Y Y (Ko Y Y Y Y (Ka Y (Kd (Kr (Er (ra := [.agg [(.own true _)], .one (.d _)]) rfl rfl))))))))))))))))))))) (fun g3 => om)))))))))))))))))) (fun g2 => om)))))))))))))))))))))))))))))) (fun g0 => om))))))))
      · rw [rd_end, if_neg hw] at *
        have hw' : (rdW b b.length).length ≠ 0 ∨ b.length = 0 := by
          rcases Nat.eq_zero_or_pos b.length with h | h
          · exact .inr h
          · exact .inl fun h0 => hw ⟨List.eq_nil_of_length_eq_zero h0, h⟩
        revert s1 s2
        generalize rdL b b.length = L at *
        generalize rdW b b.length = W at *
        intro s1 s2
        refine Kb (Kbc (Ka Y (Ka Y (Kq Y Y (Kj Y Y Y (Kd (Km Y (fun g0 => Kn (Kb (Kt (Kb (Kbc (Ka Y (Ka Y (Kq Y Y (Kj Y Y Y (Ka Y (kGP Y (fun g1 => om) (fun g1 => Kg Y (Kg Y (Kg Y (Kg Y (Kg Y (Kl Y (Ka Y (Kd (kCondF Y (Kn (Kb (Kbc (Ka Y (Ka Y (Kq Y Y (Kj Y Y Y (Ka Y (kGP Y (fun g2 => Ki Y (Ka Y (Ki Y (Kq Y Y (Ki Y (Kj Y Y Y (Kk Y (Ka Y (Ka Y (kGP Y (fun g3 => Ki Y (Ka Y (Ki Y (Kj Y Y Y (Kk Y (Ka Y (Kd (Km Y (fun g4 => om) (fun g4 => Kn (Kb (kRegD (Kf Y Y (Ke Y Y Y (Ka Y (Ku true (ok_spec_Lower _ pry) ⟨Y, trivial⟩ Y Y Y (fun _ => (kLit Y Y Y Y (Ks Y Y (kAppR1 Y Y Y Y Y Y Y Y om (Kf Y Y (Ks Y Y (Ko Y Y Y Y (Kd (kH (Kc (Ka Y (Kd (Kv (Kc (Ka Y (kAdd Y Y om (Ka Y (Kd ?_))))))))))))))))))))))))))))))))) (fun g3 => Kg Y (Kg Y (Kl Y (Ka Y (Kd (kCondF Y (Kn (Kb (kRegD (Kf Y Y (Ke Y Y Y (Ka Y (Ku true (ok_spec_Lower _ pry) ⟨Y, trivial⟩ Y Y Y (fun _ => (kLit Y Y Y Y (Ks Y Y (kAppR1 Y Y Y Y Y Y Y Y om (Kf Y Y (Ks Y Y (Ko Y Y Y Y (Kd (kH (Kc (Ka Y (Kd (Kv (Kc (Ka Y (kAdd Y Y om (Ka Y (Kd ?_))))))))))))))))))))))))))))))))))))))))) (fun g2 => om)))))))))))))))))))))))))))))) (fun g0 => om))))))))
        all_goals
          refine kInv ⟨⟨b.length + 1, by omega⟩, by simp only; omega, ?_⟩
          simp only [s1, s2]
          exact (Sub.nilArr (j := 5) (id := rid 5000 0) (sz := 1) rfl (by decide)).trans .normA

def c_spec_l2of : C := (.g (.o 0 2 (.alloc 2 [(.n 1)]) .done) (.g (.o 0 6 (.mov (.t 0)) (.o 1 7 (.s2b (.t 6)) (.o 2 8 (.call 8 167 [(.t 7)]) (.o 3 5 (.mov (.t 8)) (.o 4 9 (.ext (.t 5) 0) (.o 5 10 (.ext (.t 5) 1) (.o 6 3 (.alloc 3 [(.n 1)]) (.op 7 [] none none false (.store (some 1) (.t 3) (.t 9)) (.o 8 4 (.mov (.t 10)) .done))))))))) (.g (.o 0 11 (.load (some 1) (.t 3)) (.op 1 [] none none false (.store (some 1) (.t 2) (.t 11)) .done)) .ret)))
theorem dg_spec_l2of : Tryz.f222.body.bind (digC Tryz.prog Tryz.f222.ntmps []) = some c_spec_l2of := by kernel_rfl
theorem rs_spec_l2of : resSlots Tryz.prog Tryz.f222 = some [.m 2 (some 1)] := by kernel_rfl
theorem ok_spec_l2of (b : ByteArray) (hb : b.size ≤ 4194303) :
  FnOK Tryz.prog 222 [.one (.d (.sc (.string b)))] (fun ra _ => ra = [.agg [.own true (encBB (readN b.toList))]]) := by
 refine FnOK.ofK Tryz.func222 (by kernel_rfl) dg_spec_l2of rs_spec_l2of rfl rfl ?_
 delta c_spec_l2of T.o X.i C.g
 have h : b.toList.length ≤ 4194303 := by rw [bt_len]; exact hb
 refine Kbc (kAlloc Y Y (Kdb (Kc (Ka Y (kS2b Y om (Ku true (ok_spec_NameRead _ pry) ⟨Y, trivial⟩ Y Y Y (fun _ => (kMovT Y (kExtC Y Y (kExtC Y Y (kAlloc Y Y (Ko Y Y Y Y (Ka Y (Kdb (Kc (Ke Y Y Y (Ko Y Y Y Y (Kd (Kr (Er (ra := [.agg [(.own true _)]]) rfl rfl))))))))))))))))))))

def c_spec_l11ns : C := (.g (.o 0 4 (.alloc 4 [(.n 1), (.i 0), (.i 0), (.i 0), (.n 1), (.n 1), (.n 1)]) .done) (.g (.o 0 5 (.mov (.t 0)) (.o 1 6 (.call 6 222 [(.t 5)]) (.o 2 7 (.mov (.t 1)) (.o 3 8 (.call 8 222 [(.t 7)]) (.o 4 9 (.build [(.n 1), (.i 0), (.i 0), (.i 0), (.n 1), (.n 1), (.n 1)] [(0, 1, (.t 6)), (1, 1, (.i 2)), (2, 1, (.i 60)), (4, 1, (.t 8))]) (.op 5 [] none none false (.store (some 7) (.t 4) (.t 9)) .done)))))) .ret))
theorem dg_spec_l11ns : Tryz.f220.body.bind (digC Tryz.prog Tryz.f220.ntmps []) = some c_spec_l11ns := by kernel_rfl
theorem rs_spec_l11ns : resSlots Tryz.prog Tryz.f220 = some [.m 4 (some 7)] := by kernel_rfl
theorem ok_spec_l11ns (b c : ByteArray) (hb : b.size ≤ 4194303) (hc : c.size ≤ 4194303) :
  FnOK Tryz.prog 220 [.one (.d (.sc (.string b))), .one (.d (.sc (.string c)))] (fun ra _ => ra = [.agg [.own true (encBB (readN b.toList)), .d (.sc (.int .i64 2)), .d (.sc (.int .i64 60)), .d (.sc (.int .i64 0)), .own true (encBB (readN c.toList)), .d (encB []), .d (encI [])]]) := by
 refine FnOK.ofK Tryz.func220 (by kernel_rfl) dg_spec_l11ns rs_spec_l11ns rfl rfl ?_
 delta c_spec_l11ns T.o X.i C.g
 refine Kbc (kAlloc Y Y (Kdb (Kc (Ka Y (Ku true (ok_spec_l2of _ prx) ⟨Y, trivial⟩ Y Y Y (fun _ => (Ka Y (Ku true (ok_spec_l2of _ prx) ⟨Y, trivial⟩ Y Y Y (fun _ => (kBuildG Y (Ko Y Y Y Y (Kd (Kr (Er (ra := [.agg [(.own true _), (.d _), (.d _), (.d _), (.own true _), (.d _), (.d _)]]) rfl rfl))))))))))))))

def c_spec_l11a : C := (.g (.o 0 4 (.alloc 4 [(.n 1), (.i 0), (.i 0), (.i 0), (.n 1), (.n 1), (.n 1)]) .done) (.g (.o 0 5 (.mov (.t 0)) (.o 1 6 (.call 6 222 [(.t 5)]) (.o 2 7 (.mov (.t 1)) (.o 3 8 (.build [(.n 1), (.i 0), (.i 0), (.i 0), (.n 1), (.n 1), (.n 1)] [(0, 1, (.t 6)), (1, 1, (.i 1)), (2, 1, (.i 60)), (3, 1, (.t 7))]) (.op 4 [] none none false (.store (some 7) (.t 4) (.t 8)) .done))))) .ret))
theorem dg_spec_l11a : Tryz.f221.body.bind (digC Tryz.prog Tryz.f221.ntmps []) = some c_spec_l11a := by kernel_rfl
theorem rs_spec_l11a : resSlots Tryz.prog Tryz.f221 = some [.m 4 (some 7)] := by kernel_rfl
theorem ok_spec_l11a (b : ByteArray) (ip : Int) (hb : b.size ≤ 4194303) :
  FnOK Tryz.prog 221 [.one (.d (.sc (.string b))), .one (.d (.sc (.int .i64 ip)))] (fun ra _ => ra = [.agg [.own true (encBB (readN b.toList)), .d (.sc (.int .i64 1)), .d (.sc (.int .i64 60)), .d (.sc (.int .i64 ip)), .d (encBB []), .d (encB []), .d (encI [])]]) := by
 refine FnOK.ofK Tryz.func221 (by kernel_rfl) dg_spec_l11a rs_spec_l11a rfl rfl ?_
 delta c_spec_l11a T.o X.i C.g
 refine Kbc (kAlloc Y Y (Kdb (Kc (Ka Y (Ku true (ok_spec_l2of _ prx) ⟨Y, trivial⟩ Y Y Y (fun _ => (Ka Y (kBuildG Y (Ko Y Y Y Y (Kd (Kr (Er (ra := [.agg [(.own true _), (.d _), (.d _), (.d _), (.d _), (.d _), (.d _)]]) rfl rfl))))))))))))

def c_spec_TypeOk : C := (.g (.o 0 2 (.mov (.v (.bool false))) .done) (.seq (.g (.o 0 3 (.mov (.t 0)) .done) (.block 0 (.seq (.g (.o 0 5 (.bin .eql (.t 3) (.i 1)) (.o 1 4 (.mov (.t 5)) .done)) (.cond (.t 4) .skip (.g (.o 0 6 (.bin .eql (.t 3) (.i 2)) (.o 1 4 (.mov (.t 6)) .done)) (.cond (.t 4) .skip (.g (.o 0 7 (.bin .eql (.t 3) (.i 5)) (.o 1 4 (.mov (.t 7)) .done)) (.cond (.t 4) .skip (.g (.o 0 8 (.bin .eql (.t 3) (.i 6)) (.o 1 4 (.mov (.t 8)) .done)) (.cond (.t 4) .skip (.g (.o 0 9 (.bin .eql (.t 3) (.i 12)) (.o 1 4 (.mov (.t 9)) .done)) (.cond (.t 4) .skip (.g (.o 0 10 (.bin .eql (.t 3) (.i 16)) (.o 1 4 (.mov (.t 10)) .done)) (.cond (.t 4) .skip (.reg false (.o 0 11 (.bin .eql (.t 3) (.i 49)) (.o 1 4 (.mov (.t 11)) .done))))))))))))))) (.cond (.t 4) (.g (.o 0 2 (.mov (.v (.bool true))) .done) .ret) .skip)))) (.g (.o 0 2 (.mov (.v (.bool false))) .done) .ret)))
theorem dg_spec_TypeOk : Tryz.f83.body.bind (digC Tryz.prog Tryz.f83.ntmps []) = some c_spec_TypeOk := by kernel_rfl
theorem rs_spec_TypeOk : resSlots Tryz.prog Tryz.f83 = some [.s 2] := by kernel_rfl
theorem ok_spec_TypeOk (n : Int) : FnOK Tryz.prog 83 [.one (.d (.sc (.int .i64 n)))] (fun ra _ => ra = [.one (.d (.sc (.bool (tyOk n))))]) := by
 refine FnOK.ofK Tryz.func83 (by kernel_rfl) dg_spec_TypeOk rs_spec_TypeOk rfl rfl ?_
 delta c_spec_TypeOk T.o X.i C.g
 refine Kbc (Ka Y (Kdb (Kbc (Ka Y (Kd (Kt (Kb (Kbc (Kj Y Y Y (Ka Y (Kd (Km Y (fun g0 => Kn (Km Y (fun g1 => Kbc (Ka Y (Kd (Kr (Er (ra := [.one (.d _)]) rfl ?_))))) (fun g1 => om))) (fun g0 => Kbc (Kj Y Y Y (Ka Y (Kd (Km Y (fun g2 => Kn (Km Y (fun g3 => Kbc (Ka Y (Kd (Kr (Er (ra := [.one (.d _)]) rfl ?_))))) (fun g3 => om))) (fun g2 => Kbc (Kj Y Y Y (Ka Y (Kd (Km Y (fun g4 => Kn (Km Y (fun g5 => Kbc (Ka Y (Kd (Kr (Er (ra := [.one (.d _)]) rfl ?_))))) (fun g5 => om))) (fun g4 => Kbc (Kj Y Y Y (Ka Y (Kd (Km Y (fun g6 => Kn (Km Y (fun g7 => Kbc (Ka Y (Kd (Kr (Er (ra := [.one (.d _)]) rfl ?_))))) (fun g7 => om))) (fun g6 => Kbc (Kj Y Y Y (Ka Y (Kd (Km Y (fun g8 => Kn (Km Y (fun g9 => Kbc (Ka Y (Kd (Kr (Er (ra := [.one (.d _)]) rfl ?_))))) (fun g9 => om))) (fun g8 => Kbc (Kj Y Y Y (Ka Y (Kd (Km Y (fun g10 => Kn (Km Y (fun g11 => Kbc (Ka Y (Kd (Kr (Er (ra := [.one (.d _)]) rfl ?_))))) (fun g11 => om))) (fun g10 => Kc (Kj Y Y Y (Ka Y (Kd (Km Y (fun g12 => Kbc (Ka Y (Kd (Kr (Er (ra := [.one (.d _)]) rfl ?_))))) (fun g12 => Kn (Kv (Kbc (Ka Y (Kd (Kr (Er (ra := [.one (.d _)]) rfl ?_)))))))))))))))))))))))))))))))))))))))))))))))))
 all_goals simp_all [tyOk]

def c_spec_l3named : C := (.g (.o 0 2 (.mov (.v (.bool false))) .done) (.g (.o 0 3 (.mov (.t 0)) (.o 1 4 (.bin .eql (.t 3) (.i 2)) (.o 2 5 (.mov (.t 4)) (.op 3 [] (some 6) (some (5, false)) false (.mov (.t 0)) (.op 4 [] (some 7) (some (5, false)) false (.bin .eql (.t 6) (.i 5)) (.o 5 8 (.pick (.t 5) (.v (.bool true)) (.t 7)) (.o 6 9 (.mov (.t 8)) (.op 7 [] (some 10) (some (9, false)) false (.mov (.t 0)) (.op 8 [] (some 11) (some (9, false)) false (.bin .eql (.t 10) (.i 6)) (.o 9 12 (.pick (.t 9) (.v (.bool true)) (.t 11)) (.o 10 13 (.mov (.t 12)) (.op 11 [] (some 14) (some (13, false)) false (.mov (.t 0)) (.op 12 [] (some 15) (some (13, false)) false (.bin .eql (.t 14) (.i 12)) (.o 13 16 (.pick (.t 13) (.v (.bool true)) (.t 15)) (.o 14 2 (.mov (.t 16)) .done))))))))))))))) .ret))
theorem dg_spec_l3named : Tryz.f161.body.bind (digC Tryz.prog Tryz.f161.ntmps []) = some c_spec_l3named := by kernel_rfl
theorem rs_spec_l3named : resSlots Tryz.prog Tryz.f161 = some [.s 2] := by kernel_rfl
theorem ok_spec_l3named (n : Int) : FnOK Tryz.prog 161 [.one (.d (.sc (.int .i64 n)))] (fun ra _ => ra = [.one (.d (.sc (.bool (hasTo n))))]) := by
 refine FnOK.ofK Tryz.func161 (by kernel_rfl) dg_spec_l3named rs_spec_l3named rfl rfl ?_
 delta c_spec_l3named T.o X.i C.g
 refine Kbc (Ka Y (Kdb (Kc (Ka Y (Kj Y Y Y (Ka Y (kGP Y (fun g0 => Kg Y (Kg Y (Kk Y (Ka Y (Ka Y (Kg Y (Kg Y (Kk Y (Ka Y (Ka Y (Kg Y (Kg Y (Kk Y (Ka Y (Ka Y (Kd (Kr (Er (ra := [.one (.d _)]) rfl ?_)))))))))))))))))) (fun g0 => Ki Y (Ka Y (Ki Y (Kj Y Y Y (Kl Y (Ka Y (Ka Y (kGP Y (fun g1 => Kg Y (Kg Y (Kk Y (Ka Y (Ka Y (Kg Y (Kg Y (Kk Y (Ka Y (Ka Y (Kd (Kr (Er (ra := [.one (.d _)]) rfl ?_))))))))))))) (fun g1 => Ki Y (Ka Y (Ki Y (Kj Y Y Y (Kl Y (Ka Y (Ka Y (kGP Y (fun g2 => Kg Y (Kg Y (Kk Y (Ka Y (Ka Y (Kd (Kr (Er (ra := [.one (.d _)]) rfl ?_)))))))) (fun g2 => Ki Y (Ka Y (Ki Y (Kj Y Y Y (Kl Y (Ka Y (Ka Y (Kd (Kr (Er (ra := [.one (.d _)]) rfl ?_)))))))))))))))))))))))))))))))))
 all_goals simp_all [hasTo]

def c_spec_l3texted : C := (.g (.o 0 2 (.mov (.v (.bool false))) .done) (.g (.o 0 3 (.mov (.t 0)) (.o 1 4 (.bin .eql (.t 3) (.i 16)) (.o 2 5 (.mov (.t 4)) (.op 3 [] (some 6) (some (5, false)) false (.mov (.t 0)) (.op 4 [] (some 7) (some (5, false)) false (.bin .eql (.t 6) (.i 49)) (.o 5 8 (.pick (.t 5) (.v (.bool true)) (.t 7)) (.o 6 2 (.mov (.t 8)) .done))))))) .ret))
theorem dg_spec_l3texted : Tryz.f165.body.bind (digC Tryz.prog Tryz.f165.ntmps []) = some c_spec_l3texted := by kernel_rfl
theorem rs_spec_l3texted : resSlots Tryz.prog Tryz.f165 = some [.s 2] := by kernel_rfl
theorem ok_spec_l3texted (n : Int) : FnOK Tryz.prog 165 [.one (.d (.sc (.int .i64 n)))] (fun ra _ => ra = [.one (.d (.sc (.bool (hasText n))))]) := by
 refine FnOK.ofK Tryz.func165 (by kernel_rfl) dg_spec_l3texted rs_spec_l3texted rfl rfl ?_
 delta c_spec_l3texted T.o X.i C.g
 refine Kbc (Ka Y (Kdb (Kc (Ka Y (Kj Y Y Y (Ka Y (kGP Y (fun g0 => Kg Y (Kg Y (Kk Y (Ka Y (Ka Y (Kd (Kr (Er (ra := [.one (.d _)]) rfl ?_)))))))) (fun g0 => Ki Y (Ka Y (Ki Y (Kj Y Y Y (Kl Y (Ka Y (Ka Y (Kd (Kr (Er (ra := [.one (.d _)]) rfl ?_)))))))))))))))))
 all_goals simp_all [hasText]

def c_spec_l3data : C := (.g (.o 0 1 (.box 1 (.t 0)) (.o 1 2 (.mov (.v (.bool false))) .done)) (.seq (.g (.o 0 3 (.fad (.t 1) 1) (.o 1 4 (.load none (.t 3)) (.o 2 5 (.bin .eql (.t 4) (.i 1)) .done))) (.cond (.t 5) (.g (.o 0 6 (.fad (.t 1) 3) (.o 1 7 (.load none (.t 6)) (.o 2 8 (.bin .lss (.t 7) (.i 0)) (.o 3 9 (.mov (.t 8)) (.op 4 [] (some 10) (some (9, false)) false (.fad (.t 1) 3) (.op 5 [] (some 11) (some (9, false)) false (.load none (.t 10)) (.op 6 [] (some 12) (some (9, false)) false (.bin .geq (.t 11) (.i 4294967296)) (.o 7 13 (.pick (.t 9) (.v (.bool true)) (.t 12)) .done)))))))) (.cond (.t 13) (.g (.o 0 2 (.mov (.v (.bool false))) .done) .ret) .skip)) (.g (.o 0 14 (.fad (.t 1) 3) (.o 1 15 (.load none (.t 14)) (.o 2 16 (.bin .neq (.t 15) (.i 0)) .done))) (.cond (.t 16) (.g (.o 0 2 (.mov (.v (.bool false))) .done) .ret) .skip)))) (.seq (.g (.o 0 17 (.fad (.t 1) 1) (.o 1 18 (.load none (.t 17)) (.o 2 19 (.call 19 161 [(.t 18)]) .done))) (.cond (.t 19) (.g (.o 0 20 (.fad (.t 1) 4) (.o 1 21 (.load (some 1) (.t 20)) (.o 2 22 (.call 22 78 [(.t 21)]) (.o 3 23 (.un .not (.t 22)) .done)))) (.cond (.t 23) (.g (.o 0 2 (.mov (.v (.bool false))) .done) .ret) .skip)) (.g (.o 0 24 (.fad (.t 1) 4) (.o 1 25 (.fad (.t 24) 0) (.o 2 26 (.load none (.t 25)) (.o 3 27 (.len (.t 26)) (.o 4 28 (.bin .gtr (.t 27) (.i 0)) .done))))) (.cond (.t 28) (.g (.o 0 2 (.mov (.v (.bool false))) .done) .ret) .skip)))) (.seq (.g (.o 0 29 (.fad (.t 1) 1) (.o 1 30 (.load none (.t 29)) (.o 2 31 (.call 31 165 [(.t 30)]) .done))) (.cond (.t 31) (.g (.o 0 32 (.fad (.t 1) 5) (.o 1 33 (.load none (.t 32)) (.o 2 34 (.len (.t 33)) (.o 3 35 (.bin .gtr (.t 34) (.i 40)) .done)))) (.cond (.t 35) (.g (.o 0 2 (.mov (.v (.bool false))) .done) .ret) .skip)) (.g (.o 0 36 (.fad (.t 1) 5) (.o 1 37 (.load none (.t 36)) (.o 2 38 (.len (.t 37)) (.o 3 39 (.bin .gtr (.t 38) (.i 0)) .done)))) (.cond (.t 39) (.g (.o 0 2 (.mov (.v (.bool false))) .done) .ret) .skip)))) (.seq (.g (.o 0 40 (.fad (.t 1) 1) (.o 1 41 (.load none (.t 40)) (.o 2 42 (.bin .neq (.t 41) (.i 6)) .done))) (.cond (.t 42) (.g (.o 0 43 (.fad (.t 1) 6) (.o 1 44 (.load none (.t 43)) (.o 2 45 (.len (.t 44)) (.o 3 46 (.bin .eql (.t 45) (.i 0)) (.o 4 2 (.mov (.t 46)) .done))))) .ret) .skip)) (.seq (.g (.o 0 47 (.fad (.t 1) 6) (.o 1 48 (.load none (.t 47)) (.o 2 49 (.len (.t 48)) (.o 3 50 (.bin .neq (.t 49) (.i 2)) (.o 4 51 (.mov (.t 50)) (.op 5 [] (some 52) (some (51, false)) false (.fad (.t 1) 6) (.op 6 [] (some 53) (some (51, false)) false (.load none (.t 52)) (.op 7 [] (some 54) (some (51, false)) false (.iad 1 (.t 53) (.i 0)) (.op 8 [] (some 55) (some (51, false)) false (.load none (.t 54)) (.op 9 [] (some 56) (some (51, false)) false (.bin .lss (.t 55) (.i 0)) (.o 10 57 (.pick (.t 51) (.v (.bool true)) (.t 56)) (.o 11 58 (.mov (.t 57)) (.op 12 [] (some 59) (some (58, false)) false (.fad (.t 1) 6) (.op 13 [] (some 60) (some (58, false)) false (.load none (.t 59)) (.op 14 [] (some 61) (some (58, false)) false (.iad 1 (.t 60) (.i 0)) (.op 15 [] (some 62) (some (58, false)) false (.load none (.t 61)) (.op 16 [] (some 63) (some (58, false)) false (.bin .geq (.t 62) (.i 4294967296)) (.o 17 64 (.pick (.t 58) (.v (.bool true)) (.t 63)) .done)))))))))))))))))) (.cond (.t 64) (.g (.o 0 2 (.mov (.v (.bool false))) .done) .ret) .skip)) (.g (.o 0 65 (.fad (.t 1) 6) (.o 1 66 (.load none (.t 65)) (.o 2 67 (.iad 1 (.t 66) (.i 1)) (.o 3 68 (.load none (.t 67)) (.o 4 69 (.bin .geq (.t 68) (.i 0)) (.o 5 70 (.mov (.t 69)) (.op 6 [] (some 71) (some (70, true)) false (.fad (.t 1) 6) (.op 7 [] (some 72) (some (70, true)) false (.load none (.t 71)) (.op 8 [] (some 73) (some (70, true)) false (.iad 1 (.t 72) (.i 1)) (.op 9 [] (some 74) (some (70, true)) false (.load none (.t 73)) (.op 10 [] (some 75) (some (70, true)) false (.bin .leq (.t 74) (.i 100000)) (.o 11 76 (.pick (.t 70) (.t 75) (.v (.bool false))) (.o 12 2 (.mov (.t 76)) .done))))))))))))) .ret)))))))
theorem dg_spec_l3data : Tryz.f84.body.bind (digC Tryz.prog Tryz.f84.ntmps []) = some c_spec_l3data := by kernel_rfl
theorem rs_spec_l3data : resSlots Tryz.prog Tryz.f84 = some [.s 2] := by kernel_rfl
theorem ok_spec_l3data (r : Rr) (hs : SmallR r) :
    FnOK Tryz.prog 84 [.agg (r.cells.map .d)] (fun ra _ => ra = [.one (.d (.sc (.bool (dataOk r))))]) := by
  refine FnOK.ofK Tryz.func84 (by kernel_rfl) dg_spec_l3data rs_spec_l3data rfl rfl ?_
  delta c_spec_l3data T.o X.i C.g
  have t1 := hs.t.len
  have t2 := hs.t.mem
  have x1 := hs.x
  have m1 := hs.m
  refine Kbc (kBox Y Y Y Y Y (Ka Y (Kd ?_)))
  by_cases hA : (r.ty = 1 ∧ 0 ≤ r.addr ∧ r.addr < 4294967296) ∨ (r.ty ≠ 1 ∧ r.addr = 0)
  case neg =>
    have e : (if r.ty == 1 then isW r.addr else r.addr == 0) = false := by
      by_cases h : r.ty = 1
      · simp [h, isW]; omega
      · simp [h]; omega
    rw [show dataOk r = false by simp only [dataOk, e, Bool.and_false, Bool.false_and]]
    refine Kb ?_
    refine Kbc (Kf Y Y (Ke Y Y Y (Kj Y Y Y (Kd (Km Y (fun g0 => Kbc (Kf Y Y (Ke Y Y Y (Kj Y Y Y (Ka Y (kGP Y (fun g1 => Kg Y (Kg Y (Kg Y (Kk Y (Ka Y (Kd (kCondT Y (Kbc (Ka Y (Kd (Kr (Er (ra := [.one (.d _)]) rfl rfl)))))))))))) (fun g1 => Ki Y (Kf Y Y (Ki Y (Ke Y Y Y (Ki Y (Kj Y Y Y (Kl Y (Ka Y (Kd (Km Y (fun g2 => Kbc (Ka Y (Kd (Kr (Er (ra := [.one (.d _)]) rfl rfl))))) (fun g2 => om))))))))))))))))) (fun g0 => Kbc (Kf Y Y (Ke Y Y Y (Kj Y Y Y (Kd (kCondIN Y (fun g3 => Kbc (Ka Y (Kd (Kr (Er (ra := [.one (.d _)]) rfl rfl))))) (fun g3 => om))))))))))))
  have eA : (if r.ty == 1 then isW r.addr else r.addr == 0) = true := by
    rcases hA with ⟨h, _, _⟩ | ⟨h, h'⟩
    · simp [h, isW]; omega
    · simp [h, h']
  refine Kb (kCut ⟨tabSl [(1, .c (.ptr (rid 1 0) 1 0))], obTab 1 [(rid 1 0, ⟨1, 0, .box (r.cells.map .d)⟩)], []⟩ ?_ (fun x hc => ?_))
  case refine_2 =>
    refine Kbc (Kf Y Y (Ke Y Y Y (Kj Y Y Y (Kd (Km Y (fun g0 => Kbc (Kf Y Y (Ke Y Y Y (Kj Y Y Y (Ka Y (kGP Y (fun g1 => om) (fun g1 => Ki Y (Kf Y Y (Ki Y (Ke Y Y Y (Ki Y (Kj Y Y Y (Kl Y (Ka Y (Kd (Km Y (fun g2 => om) (fun g2 => Kn (hc _ .normA)))))))))))))))))) (fun g0 => Kbc (Kf Y Y (Ke Y Y Y (Kj Y Y Y (Kd (kCondIN Y (fun g3 => om) (fun g3 => Kn (hc _ .normA)))))))))))))
  by_cases eB : (if hasTo r.ty then nameOk r.to else ((r.to.length : Int) == 0)) = true
  case neg =>
    rw [show dataOk r = false by simp only [dataOk, Bool.eq_false_iff.2 eB, Bool.and_false, Bool.false_and]]
    refine Kb ?_
    cases hT : hasTo r.ty
    case false =>
      have hN : ¬ (r.to.length : Int) = 0 := by simpa [hT] using eB
      have hN' : ¬ r.to.length = 0 := by omega
      refine Kbc (Kf Y Y (Ke Y Y Y (Kp (ok_spec_l3named _) ⟨Y, trivial⟩ Y Y Y Y Y (Kd (kCond Y (fun g0 => (by (simp [*] at g0))) (fun g0 => Kbc (Kf Y Y (Kf Y Y (Ke Y Y Y (Kq Y Y (Kj Y Y Y (Kd (Km Y (fun g1 => Kbc (Ka Y (Kd (Kr (Er (ra := [.one (.d _)]) rfl rfl))))) (fun g1 => om))))))))))))))
    case true =>
      have hN : nameOk r.to = false := by simpa [hT] using eB
      refine Kbc (Kf Y Y (Ke Y Y Y (Kp (ok_spec_l3named _) ⟨Y, trivial⟩ Y Y Y Y Y (Kd (kCond Y (fun g0 => Kbc (Kf Y Y (Ke Y Y Y (Kp (ok_spec_NameOk _ pr pr) ⟨⟨⟨Y, trivial⟩, leb⟩, trivial⟩ Y Y Y Y Y (Kw Y Y (Kd (kCondN Y (fun g1 => Kbc (Ka Y (Kd (Kr (Er (ra := [.one (.d _)]) rfl rfl))))) (fun g1 => (by (simp [*] at g1)))))))))) (fun g0 => (by (simp [*] at g0))))))))
  refine Kb (kCut ⟨tabSl [(1, .c (.ptr (rid 1 0) 1 0))], obTab 1 [(rid 1 0, ⟨1, 0, .box (r.cells.map .d)⟩)], []⟩ ?_ (fun x hc => ?_))
  case refine_2 =>
    cases hT : hasTo r.ty
    case false =>
      have hN : (r.to.length : Int) = 0 := by rw [hT] at eB; simpa using eB
      have hN' : r.to.length = 0 := by omega
      clear hN
      refine Kbc (Kf Y Y (Ke Y Y Y (Kp (ok_spec_l3named _) ⟨Y, trivial⟩ Y Y Y Y Y (Kd (kCond Y (fun g0 => (by (simp [*] at g0))) (fun g0 => Kbc (Kf Y Y (Kf Y Y (Ke Y Y Y (Kq Y Y (Kj Y Y Y (Kd (Km Y (fun g1 => om) (fun g1 => Kn (hc _ .normA)))))))))))))))
    case true =>
      have hN : nameOk r.to = true := by simpa [hT] using eB
      refine Kbc (Kf Y Y (Ke Y Y Y (Kp (ok_spec_l3named _) ⟨Y, trivial⟩ Y Y Y Y Y (Kd (kCond Y (fun g0 => Kbc (Kf Y Y (Ke Y Y Y (Kp (ok_spec_NameOk _ pr pr) ⟨⟨⟨Y, trivial⟩, leb⟩, trivial⟩ Y Y Y Y Y (Kw Y Y (Kd (kCondN Y (fun g1 => (by (simp [*] at g1))) (fun g1 => Kn (hc _ .normA))))))))) (fun g0 => (by (simp [*] at g0))))))))
  by_cases eC : (if hasText r.ty then decide ((r.text.length : Int) ≤ 40) else ((r.text.length : Int) == 0)) = true
  case neg =>
    rw [show dataOk r = false by simp only [dataOk, Bool.eq_false_iff.2 eC, Bool.and_false]]
    refine Kb ?_
    cases hT : hasText r.ty
    case false =>
      have hN' : ¬ r.text.length = 0 := by rw [hT] at eC; simp at eC; simpa using eC
      refine Kbc (Kf Y Y (Ke Y Y Y (Kp (ok_spec_l3texted _) ⟨Y, trivial⟩ Y Y Y Y Y (Kd (kCond Y (fun g0 => (by (simp [*] at g0))) (fun g0 => Kbc (Kf Y Y (Ke Y Y Y (Kq Y Y (Kj Y Y Y (Kd (Km Y (fun g1 => Kbc (Ka Y (Kd (Kr (Er (ra := [.one (.d _)]) rfl rfl))))) (fun g1 => om)))))))))))))
    case true =>
      have hN' : ¬ r.text.length ≤ 40 := by rw [hT] at eC; simp at eC; omega
      refine Kbc (Kf Y Y (Ke Y Y Y (Kp (ok_spec_l3texted _) ⟨Y, trivial⟩ Y Y Y Y Y (Kd (kCond Y (fun g0 => Kbc (Kf Y Y (Ke Y Y Y (Kq Y Y (Kj Y Y Y (Kd (Km Y (fun g1 => Kbc (Ka Y (Kd (Kr (Er (ra := [.one (.d _)]) rfl rfl))))) (fun g1 => om)))))))) (fun g0 => (by (simp [*] at g0))))))))
  refine Kb (kCut ⟨tabSl [(1, .c (.ptr (rid 1 0) 1 0))], obTab 1 [(rid 1 0, ⟨1, 0, .box (r.cells.map .d)⟩)], []⟩ ?_ (fun x hc => ?_))
  case refine_2 =>
    cases hT : hasText r.ty
    case false =>
      have hN' : r.text.length = 0 := by rw [hT] at eC; simp at eC; rw [eC]; rfl
      refine Kbc (Kf Y Y (Ke Y Y Y (Kp (ok_spec_l3texted _) ⟨Y, trivial⟩ Y Y Y Y Y (Kd (kCond Y (fun g0 => (by (simp [*] at g0))) (fun g0 => Kbc (Kf Y Y (Ke Y Y Y (Kq Y Y (Kj Y Y Y (Kd (Km Y (fun g1 => om) (fun g1 => Kn (hc _ .normA))))))))))))))
    case true =>
      have hN' : r.text.length ≤ 40 := by rw [hT] at eC; simp at eC; omega
      refine Kbc (Kf Y Y (Ke Y Y Y (Kp (ok_spec_l3texted _) ⟨Y, trivial⟩ Y Y Y Y Y (Kd (kCond Y (fun g0 => Kbc (Kf Y Y (Ke Y Y Y (Kq Y Y (Kj Y Y Y (Kd (Km Y (fun g1 => om) (fun g1 => Kn (hc _ .normA))))))))) (fun g0 => (by (simp [*] at g0))))))))
  rw [show dataOk r = (if r.ty == 6 then numsOk r.nums else ((r.nums.length : Int) == 0)) by simp only [dataOk, eA, eB, eC, Bool.and_true]]
  clear eA eB eC hA
  refine Kb (Kbc (Kf Y Y (Ke Y Y Y (Kj Y Y Y (Kd (kCondIN Y (fun g0 => Kbc (Kf Y Y (Ke Y Y Y (Kq Y Y (Kj Y Y Y (Ka Y (Kd (Kr (Er (ra := [.one (.d _)]) rfl ?_))))))))) (fun g0 => Kn (Kb (Kbc (Kf Y Y (Ke Y Y Y (Kq Y Y (Kj Y Y Y (Ka Y (kGIN Y (fun g1 => Kg Y (Kg Y (Kg Y (Kg Y (Kg Y (Kk Y (Ka Y (Ka Y (Kg Y (Kg Y (Kg Y (Kg Y (Kg Y (Kk Y (Ka Y (Kd (kCondT Y (Kbc (Ka Y (Kd (Kr (Er (ra := [.one (.d _)]) rfl ?_)))))))))))))))))))))) (fun g1 => Ki Y (Kf Y Y (Ki Y (Ke Y Y Y (Ki Y (kIadR (m := 0) Y Y Y om (Ki Y (Ky Y Y (Ki Y (Kj Y Y Y (Kl Y (Ka Y (Ka Y (kGP Y (fun g2 => Kg Y (Kg Y (Kg Y (Kg Y (Kg Y (Kk Y (Ka Y (Kd (kCondT Y (Kbc (Ka Y (Kd (Kr (Er (ra := [.one (.d _)]) rfl ?_)))))))))))))) (fun g2 => Ki Y (Kf Y Y (Ki Y (Ke Y Y Y (Ki Y (kIadR (m := 0) Y Y Y om (Ki Y (Ky Y Y (Ki Y (Kj Y Y Y (Kl Y (Ka Y (Kd (Km Y (fun g3 => Kbc (Ka Y (Kd (Kr (Er (ra := [.one (.d _)]) rfl ?_))))) (fun g3 => Kn (Kbc (Kf Y Y (Ke Y Y Y (kIadR (m := 1) Y Y Y om (Ky Y Y (Kj Y Y Y (Ka Y (kGP Y (fun g4 => Ki Y (Kf Y Y (Ki Y (Ke Y Y Y (Ki Y (kIadR (m := 1) Y Y Y om (Ki Y (Ky Y Y (Ki Y (Kj Y Y Y (Kk Y (Ka Y (Ka Y (Kd (Kr (Er (ra := [.one (.d _)]) rfl ?_)))))))))))))))) (fun g4 => Kg Y (Kg Y (Kg Y (Kg Y (Kg Y (Kl Y (Ka Y (Ka Y (Kd (Kr (Er (ra := [.one (.d _)]) rfl ?_)))))))))))))))))))))))))))))))))))))))))))))))))))))))))))))))
  all_goals first
    | (simp [*]; done)
    | (rw [if_pos (by simpa using (by assumption : r.ty = 6)), numsOk, dif_pos (by assumption)]
       simp only [isW]
       refine congrArg (fun b : Bool => [RA.one (RV.d (DV.sc (Value.bool b)))]) ?_
       rw [Bool.eq_iff_iff]
       simp
       omega)

def c_spec_RrOk : C := (.g (.o 0 1 (.box 1 (.t 0)) (.o 1 2 (.mov (.v (.bool false))) .done)) (.g (.o 0 3 (.fad (.t 1) 0) (.o 1 4 (.load (some 1) (.t 3)) (.o 2 5 (.call 5 78 [(.t 4)]) (.o 3 6 (.mov (.t 5)) (.op 4 [] (some 7) (some (6, true)) false (.fad (.t 1) 1) (.op 5 [] (some 8) (some (6, true)) false (.load none (.t 7)) (.op 6 [] (some 9) (some (6, true)) false (.call 9 83 [(.t 8)]) (.o 7 10 (.pick (.t 6) (.t 9) (.v (.bool false))) (.o 8 11 (.mov (.t 10)) (.op 9 [] (some 12) (some (11, true)) false (.fad (.t 1) 2) (.op 10 [] (some 13) (some (11, true)) false (.load none (.t 12)) (.op 11 [] (some 14) (some (11, true)) false (.bin .geq (.t 13) (.i 0)) (.o 12 15 (.pick (.t 11) (.t 14) (.v (.bool false))) (.o 13 16 (.mov (.t 15)) (.op 14 [] (some 17) (some (16, true)) false (.fad (.t 1) 2) (.op 15 [] (some 18) (some (16, true)) false (.load none (.t 17)) (.op 16 [] (some 19) (some (16, true)) false (.bin .leq (.t 18) (.i 100000)) (.o 17 20 (.pick (.t 16) (.t 19) (.v (.bool false))) (.o 18 21 (.mov (.t 20)) (.op 19 [] (some 22) (some (21, true)) false (.load (some 7) (.t 1)) (.op 20 [] (some 23) (some (21, true)) false (.call 23 84 [(.t 22)]) (.o 21 24 (.pick (.t 21) (.t 23) (.v (.bool false))) (.o 22 2 (.mov (.t 24)) .done))))))))))))))))))))))) .ret))
theorem dg_spec_RrOk : Tryz.f22.body.bind (digC Tryz.prog Tryz.f22.ntmps []) = some c_spec_RrOk := by kernel_rfl
theorem rs_spec_RrOk : resSlots Tryz.prog Tryz.f22 = some [.s 2] := by kernel_rfl
theorem ok_spec_RrOk (r : Rr) (hs : SmallR r) :
  FnOK Tryz.prog 22 [.agg (r.cells.map .d)] (fun ra _ => ra = [.one (.d (.sc (.bool (rrOk r))))]) := by
 refine FnOK.ofK Tryz.func22 (by kernel_rfl) dg_spec_RrOk rs_spec_RrOk rfl rfl ?_
 delta c_spec_RrOk T.o X.i C.g
 have n1 := hs.n.len
 have n2 := hs.n.mem
 refine Kbc (kBox Y Y Y Y Y (Ka Y (Kdb (Kc (Kf Y Y (Ke Y Y Y (Kp (ok_spec_NameOk _ pr pr) ⟨⟨⟨Y, trivial⟩, leb⟩, trivial⟩ Y Y Y Y Y (Ka Y (kGS Y (fun g0 => Ki Y (Kf Y Y (Ki Y (Ke Y Y Y (Ki Y (Kp (ok_spec_TypeOk _) ⟨Y, trivial⟩ Y Y Y Y Y (Kk Y (Ka Y (Ka Y (kGS Y (fun g1 => Ki Y (Kf Y Y (Ki Y (Ke Y Y Y (Ki Y (Kj Y Y Y (Kk Y (Ka Y (Ka Y (kGP Y (fun g2 => Ki Y (Kf Y Y (Ki Y (Ke Y Y Y (Ki Y (Kj Y Y Y (Kk Y (Ka Y (Ka Y (kGP Y (fun g3 => Ki Y (Ke Y Y Y (Ki Y (Kp (ok_spec_l3data _ pr) ⟨⟨⟨Y, Y, Y, Y, Y, Y, Y, trivial⟩, leb⟩, trivial⟩ Y Y Y Y Y (Kk Y (Ka Y (Ka Y (Kd (Kr (Er (ra := [.one (.d _)]) rfl ?_)))))))))) (fun g3 => Kg Y (Kg Y (Kl Y (Ka Y (Ka Y (Kd (Kr (Er (ra := [.one (.d _)]) rfl ?_)))))))))))))))))) (fun g2 => Kg Y (Kg Y (Kg Y (Kl Y (Ka Y (Ka Y (Kg Y (Kg Y (Kl Y (Ka Y (Ka Y (Kd (Kr (Er (ra := [.one (.d _)]) rfl ?_)))))))))))))))))))))))) (fun g1 => Kg Y (Kg Y (Kg Y (Kl Y (Ka Y (Ka Y (Kg Y (Kg Y (Kg Y (Kl Y (Ka Y (Ka Y (Kg Y (Kg Y (Kl Y (Ka Y (Ka Y (Kd (Kr (Er (ra := [.one (.d _)]) rfl ?_)))))))))))))))))))))))))))))) (fun g0 => Kg Y (Kg Y (Kg Y (Kl Y (Ka Y (Ka Y (Kg Y (Kg Y (Kg Y (Kl Y (Ka Y (Ka Y (Kg Y (Kg Y (Kg Y (Kl Y (Ka Y (Ka Y (Kg Y (Kg Y (Kl Y (Ka Y (Ka Y (Kd (Kr (Er (ra := [.one (.d _)]) rfl ?_)))))))))))))))))))))))))))))))))))
 all_goals (simp only [rrOk, *]; first | rfl | (simp; done) | (simp; omega))

def c_spec_l2bytes : C := (.g (.o 0 4 (.mov (.i 0)) .done) (.seq (.g (.o 0 5 (.mov (.t 0)) (.o 1 6 (.b2s (.t 5)) (.o 2 7 (.mov (.t 1)) (.o 3 8 (.b2s (.t 7)) (.o 4 9 (.bin .lss (.t 6) (.t 8)) .done))))) (.cond (.t 9) (.g (.o 0 4 (.mov (.i (-1))) .done) .ret) .skip)) (.seq (.g (.o 0 10 (.mov (.t 0)) (.o 1 11 (.b2s (.t 10)) (.o 2 12 (.mov (.t 1)) (.o 3 13 (.b2s (.t 12)) (.o 4 14 (.bin .gtr (.t 11) (.t 13)) .done))))) (.cond (.t 14) (.g (.o 0 4 (.mov (.i 1)) .done) .ret) .skip)) (.g (.o 0 4 (.mov (.i 0)) .done) .ret))))
theorem dg_spec_l2bytes : Tryz.f163.body.bind (digC Tryz.prog Tryz.f163.ntmps []) = some c_spec_l2bytes := by kernel_rfl
theorem rs_spec_l2bytes : resSlots Tryz.prog Tryz.f163 = some [.s 4] := by kernel_rfl
theorem ok_spec_l2bytes (a b : List UInt8) :
  FnOK Tryz.prog 163 [.one (.d (encB a)), .one (.d (encB b))] (fun ra _ => ra = [.one (.d (.sc (.int .i64 (cmpB a b))))]) := by
 refine FnOK.ofK Tryz.func163 (by kernel_rfl) dg_spec_l2bytes rs_spec_l2bytes rfl rfl ?_
 delta c_spec_l2bytes T.o X.i C.g
 refine Kbc (Ka Y (Kdb (Kbc (Ka Y (kB2s Y Y (Ka Y (kB2s Y Y (Kj Y Y Y (Kd (kCond Y (fun g0 => Kbc (Ka Y (Kd (Kr (Er (ra := [.one (.d _)]) rfl ?_))))) (fun g0 => Kn (Kb (Kbc (Ka Y (kB2s Y Y (Ka Y (kB2s Y Y (Kj Y Y Y (Kd (kCondN Y (fun g1 => Kbc (Ka Y (Kd (Kr (Er (ra := [.one (.d _)]) rfl ?_))))) (fun g1 => Kn (Kbc (Ka Y (Kd (Kr (Er (ra := [.one (.d _)]) rfl ?_))))))))))))))))))))))))))
 all_goals simp_all [cmpB]

def c_spec_l2cmp : C := (.g (.o 0 2 (.box 2 (.t 0)) (.o 1 3 (.box 3 (.t 1)) (.o 2 4 (.mov (.i 0)) .done))) (.seq (.g (.o 0 5 (.mov (.i 1)) .done) (.block 0 (.loop (.seq (.g (.o 0 7 (.mov (.t 5)) (.o 1 8 (.fad (.t 2) 0) (.o 2 9 (.load none (.t 8)) (.o 3 10 (.len (.t 9)) (.o 4 11 (.bin .leq (.t 7) (.t 10)) (.o 5 12 (.mov (.t 11)) (.op 6 [] (some 13) (some (12, true)) false (.mov (.t 5)) (.op 7 [] (some 14) (some (12, true)) false (.fad (.t 3) 0) (.op 8 [] (some 15) (some (12, true)) false (.load none (.t 14)) (.op 9 [] (some 16) (some (12, true)) false (.len (.t 15)) (.op 10 [] (some 17) (some (12, true)) false (.bin .leq (.t 13) (.t 16)) (.o 11 18 (.pick (.t 12) (.t 17) (.v (.bool false))) .done)))))))))))) (.cond (.t 18) .skip (.exit 0))) (.seq (.block 1 (.seq (.reg true (.op 0 [] (some 21) none true (.fad (.t 2) 0) (.op 1 [] (some 22) none true (.load none (.t 21)) (.op 2 [] (some 23) none true (.fad (.t 2) 0) (.op 3 [] (some 24) none true (.load none (.t 23)) (.op 4 [] (some 25) none true (.len (.t 24)) (.op 5 [] (some 26) none true (.mov (.t 5)) (.op 6 [] (some 27) none true (.bin .sub (.t 25) (.t 26)) (.op 7 [] (some 28) none true (.iad 1 (.t 22) (.t 27)) (.op 8 [] (some 29) none true (.load none (.t 28)) (.op 9 [] (some 30) none true (.fad (.t 3) 0) (.op 10 [] (some 31) none true (.load none (.t 30)) (.op 11 [] (some 32) none true (.fad (.t 3) 0) (.op 12 [] (some 33) none true (.load none (.t 32)) (.op 13 [] (some 34) none true (.len (.t 33)) (.op 14 [] (some 35) none true (.mov (.t 5)) (.op 15 [] (some 36) none true (.bin .sub (.t 34) (.t 35)) (.op 16 [] (some 37) none true (.iad 1 (.t 31) (.t 36)) (.op 17 [] (some 38) none true (.load none (.t 37)) (.op 18 [8, 1, 3, 17, 10, 12] (some 39) none false (.call 39 163 [(.t 29), (.t 38)]) (.op 19 [] (some 6) none true (.mov (.t 39)) .done))))))))))))))))))))) (.g (.o 0 40 (.mov (.t 6)) (.o 1 41 (.bin .neq (.t 40) (.i 0)) .done)) (.cond (.t 41) (.g (.o 0 42 (.mov (.t 6)) (.o 1 4 (.mov (.t 42)) .done)) .ret) .skip)))) (.reg false (.o 0 19 (.mov (.t 5)) (.o 1 20 (.bin .add (.t 19) (.i 1)) (.o 2 5 (.mov (.t 20)) .done))))))))) (.seq (.g (.o 0 43 (.fad (.t 2) 0) (.o 1 44 (.load none (.t 43)) (.o 2 45 (.len (.t 44)) (.o 3 46 (.fad (.t 3) 0) (.o 4 47 (.load none (.t 46)) (.o 5 48 (.len (.t 47)) (.o 6 49 (.bin .neq (.t 45) (.t 48)) .done))))))) (.cond (.t 49) (.seq (.g (.o 0 50 (.fad (.t 2) 0) (.o 1 51 (.load none (.t 50)) (.o 2 52 (.len (.t 51)) (.o 3 53 (.fad (.t 3) 0) (.o 4 54 (.load none (.t 53)) (.o 5 55 (.len (.t 54)) (.o 6 56 (.bin .lss (.t 52) (.t 55)) .done))))))) (.cond (.t 56) (.g (.o 0 4 (.mov (.i (-1))) .done) .ret) .skip)) (.g (.o 0 4 (.mov (.i 1)) .done) .ret)) .skip)) (.g (.o 0 4 (.mov (.i 0)) .done) .ret))))
theorem dg_spec_l2cmp : Tryz.f82.body.bind (digC Tryz.prog Tryz.f82.ntmps []) = some c_spec_l2cmp := by kernel_rfl
theorem rs_spec_l2cmp : resSlots Tryz.prog Tryz.f82 = some [.s 4] := by kernel_rfl
theorem ok_spec_l2cmp (a b : List (List UInt8)) (ha : a.length ≤ 4194304) (hb : b.length ≤ 4194304) :
  FnOK Tryz.prog 82 [.agg [.d (encBB a)], .agg [.d (encBB b)]] (fun ra _ => ra = [.one (.d (.sc (.int .i64 (cmpN a b))))]) := by
 refine FnOK.ofK Tryz.func82 (by kernel_rfl) dg_spec_l2cmp rs_spec_l2cmp rfl rfl ?_
 delta c_spec_l2cmp T.o X.i C.g
 refine Kbc (kBox Y Y Y Y Y (kBox Y Y Y Y Y (Ka Y (Kdb (Kbc (Ka Y (Kd (Kt ?_))))))))
 refine kLoop (α := { k : Nat // k ≤ a.length ∧ k ≤ b.length ∧ cmpN a b = cmpL (a.reverse.drop k) (b.reverse.drop k) })
  (fun y => ⟨tabSl [(2, .c (.ptr (rid 2 0) 1 0)), (3, .c (.ptr (rid 3 0) 1 0)), (5, .i (y.1 + 1))], obTab 1 [(rid 2 0, ⟨1, 0, .box [.d (encBB a)]⟩), (rid 3 0, ⟨1, 0, .box [.d (encBB b)]⟩)], []⟩) (fun y => a.length - y.1) ⟨0, by simp [cmpN]⟩
  .normA ?_
 rintro ⟨k, h1, h2, h3⟩
 simp only
 rcases Nat.lt_or_ge k a.length with hla | hga
 ·rcases Nat.lt_or_ge k b.length with hlb | hgb
  ·have hst := cmpL_step a b k hla hlb (a.length - (k + 1) : Int).toNat (b.length - (k + 1) : Int).toNat (by omega) (by omega)
   refine Kb (Kbc (Ka Y (Kf Y Y (Ke Y Y Y (Kq Y Y (Kj Y Y Y (Ka Y (kGP Y (fun g0 => Ki Y (Ka Y (Ki Y (Kf Y Y (Ki Y (Ke Y Y Y (Ki Y (Kq Y Y (Ki Y (Kj Y Y Y (Kk Y (Ka Y (Kd (Km Y (fun g1 => Kn (Kb (Kt (Kb (kRegD (Kf Y Y (Ke Y Y Y (Kf Y Y (Ke Y Y Y (Kq Y Y (Ka Y (kDif Y Y om (kIadT Y Y om (Ky Y Y (Kf Y Y (Ke Y Y Y (Kf Y Y (Ke Y Y Y (Kq Y Y (Ka Y (kDif Y Y om (kIadT Y Y om (Ky Y Y (Ks Y Y (Kp (ok_spec_l2bytes _ _) ⟨Y, Y, trivial⟩ Y Y Y Y Y (Ka Y (Kd (kH (Kbc (Ka Y (Kj Y Y Y (Kd (kCondIN Y (fun g2 => Kbc (Ka Y (Ka Y (Kd (Kr (Er (ra := [.one (.d _)]) rfl ?_)))))) (fun g2 => Kn (Kv (Kc (Ka Y (kAdd Y Y om (Ka Y (Kd ?_)))))))))))))))))))))))))))))))))))))))) (fun g1 => om))))))))))))))) (fun g0 => om)))))))))
   ·rw [h3, hst, if_neg (by assumption)]
   ·refine kInv ⟨⟨k + 1, hla, hlb, ?_⟩, by simp only; omega, .normA⟩
    rw [h3, hst, if_pos (by assumption)]
  ·rw [cmpL_end a b k h1 h2 (by omega)] at h3
   refine Kb (Kbc (Ka Y (Kf Y Y (Ke Y Y Y (Kq Y Y (Kj Y Y Y (Ka Y (kGP Y (fun g0 => Ki Y (Ka Y (Ki Y (Kf Y Y (Ki Y (Ke Y Y Y (Ki Y (Kq Y Y (Ki Y (Kj Y Y Y (Kk Y (Ka Y (Kd (Km Y (fun g1 => om) (fun g1 => kExit (kExC (kExI (kExB (Kb (Kbc (Kf Y Y (Ke Y Y Y (Kq Y Y (Kf Y Y (Ke Y Y Y (Kq Y Y (Kj Y Y Y (Kd (kCondIN Y (fun g2 => Kb (Kbc (Kf Y Y (Ke Y Y Y (Kq Y Y (Kf Y Y (Ke Y Y Y (Kq Y Y (Kj Y Y Y (Kd (Km Y (fun g3 => om) (fun g3 => Kn (Kbc (Ka Y (Kd (Kr (Er (ra := [.one (.d _)]) rfl ?_))))))))))))))))) (fun g2 => om)))))))))))))))))))))))))))))) (fun g0 => om)))))))))
   all_goals (rw [h3]; first | (rw [if_pos (by omega)]; done) | (rw [if_neg (by omega), if_pos (by omega)]; done) | rw [if_neg (by omega), if_neg (by omega)])
 ·rw [cmpL_end a b k h1 h2 (by omega)] at h3
  refine Kb (Kbc (Ka Y (Kf Y Y (Ke Y Y Y (Kq Y Y (Kj Y Y Y (Ka Y (kGP Y (fun g0 => om) (fun g0 => Kg Y (Kg Y (Kg Y (Kg Y (Kg Y (Kl Y (Ka Y (Kd (kCondF Y (kExit (kExC (kExI (kExB (Kb (Kbc (Kf Y Y (Ke Y Y Y (Kq Y Y (Kf Y Y (Ke Y Y Y (Kq Y Y (Kj Y Y Y (Kd (kCondIN Y (fun g1 => Kb (Kbc (Kf Y Y (Ke Y Y Y (Kq Y Y (Kf Y Y (Ke Y Y Y (Kq Y Y (Kj Y Y Y (Kd (Km Y (fun g2 => Kbc (Ka Y (Kd (Kr (Er (ra := [.one (.d _)]) rfl ?_))))) (fun g2 => om)))))))))))) (fun g1 => Kn (Kbc (Ka Y (Kd (Kr (Er (ra := [.one (.d _)]) rfl ?_))))))))))))))))))))))))))))))))))))))
  all_goals (rw [h3]; first | (rw [if_pos (by omega)]; done) | (rw [if_neg (by omega), if_pos (by omega)]; done) | rw [if_neg (by omega), if_neg (by omega)])

def c_spec_l2under : C := (.g (.o 0 2 (.box 2 (.t 0)) (.o 1 3 (.box 3 (.t 1)) (.o 2 4 (.mov (.v (.bool false))) .done))) (.g (.o 0 6 (.fad (.t 2) 0) (.o 1 7 (.load none (.t 6)) (.o 2 8 (.len (.t 7)) (.o 3 9 (.fad (.t 3) 0) (.o 4 10 (.load none (.t 9)) (.o 5 11 (.len (.t 10)) (.o 6 12 (.bin .sub (.t 8) (.t 11)) (.o 7 5 (.mov (.t 12)) .done)))))))) (.seq (.reg true (.op 0 [] (some 13) none true (.mov (.t 5)) (.op 1 [] (some 14) none true (.bin .geq (.t 13) (.i 0)) (.op 2 [] (some 15) none true (.mov (.t 14)) (.op 3 [] (some 16) (some (15, true)) true (.fad (.t 2) 0) (.op 4 [] (some 17) (some (15, true)) true (.load none (.t 16)) (.op 5 [] (some 18) (some (15, true)) true (.mov (.t 5)) (.op 6 [] (some 19) (some (15, true)) true (.cut 1 (.t 17) (some (.t 18)) none) (.op 7 [] (some 20) (some (15, true)) true (.build [(.n 1)] [(0, 1, (.t 19))]) (.op 8 [] (some 21) (some (15, true)) true (.load (some 1) (.t 3)) (.op 9 [4, 8] (some 22) (some (15, true)) false (.call 22 82 [(.t 20), (.t 21)]) (.op 10 [] (some 23) (some (15, true)) true (.bin .eql (.t 22) (.i 0)) (.op 11 [] (some 24) none true (.pick (.t 15) (.t 23) (.v (.bool false))) (.op 12 [] (some 4) none true (.mov (.t 24)) .done)))))))))))))) .ret)))
theorem dg_spec_l2under : Tryz.f79.body.bind (digC Tryz.prog Tryz.f79.ntmps []) = some c_spec_l2under := by kernel_rfl
theorem rs_spec_l2under : resSlots Tryz.prog Tryz.f79 = some [.s 4] := by kernel_rfl
theorem ok_spec_l2under (n z : List (List UInt8)) (hn : n.length ≤ 4194304) (hz : z.length ≤ 4194304) :
  FnOK Tryz.prog 79 [.agg [.d (encBB n)], .agg [.d (encBB z)]] (fun ra _ => ra = [.one (.d (.sc (.bool (underN n z))))]) := by
 refine FnOK.ofK Tryz.func79 (by kernel_rfl) dg_spec_l2under rs_spec_l2under rfl rfl ?_
 delta c_spec_l2under T.o X.i C.g
 have hd : (n.drop (n.length - z.length : Int).toNat).length ≤ 4194304 := by simp; omega
 refine Kbc (kBox Y Y Y Y Y (kBox Y Y Y Y Y (Ka Y (Kdb (Kc (Kf Y Y (Ke Y Y Y (Kq Y Y (Kf Y Y (Ke Y Y Y (Kq Y Y (kDif Y Y om (Ka Y (Kdb (kRegD (Ka Y (Kj Y Y Y (Ka Y (kGP Y (fun g0 => Ki Y (Kf Y Y (Ki Y (Ke Y Y Y (Ki Y (Ka Y (Ki Y (kCutLT Y Y om (Ki Y (kBuild Y (Ki Y (Ke Y Y Y (Ks Y Y (Ki Y (Kp (ok_spec_l2cmp _ _ pr pr) ⟨⟨⟨Y, trivial⟩, leb⟩, ⟨⟨Y, trivial⟩, leb⟩, trivial⟩ Y Y Y Y Y (Ki Y (Kj Y Y Y (Kk Y (Ka Y (Ka Y (Kd (kH (Kr (Er (ra := [.one (.d _)]) rfl ?_)))))))))))))))))))))))) (fun g0 => Kg Y (Kg Y (Kg Y (Kg Y (Kg Y (Kg Y (Ks Y Y (Kg Y (Kg Y (Kl Y (Ka Y (Ka Y (Kd (kH (Kr (Er (ra := [.one (.d _)]) rfl ?_)))))))))))))))))))))))))))))))))))
 ·rw [cmpN_zero, show (n.length - z.length : Int).toNat = n.length - z.length by omega]
  simp only [underN]
  rw [decide_eq_true (show z.length ≤ n.length by omega), Bool.true_and]
 ·rw [show underN n z = false by simp only [underN]; rw [decide_eq_false (by omega)]; rfl]

def c_spec_l3num : C := (.g (.o 0 4 (.mov (.i 0)) .done) (.seq (.g (.o 0 5 (.mov (.t 0)) (.o 1 6 (.mov (.t 1)) (.o 2 7 (.bin .lss (.t 5) (.t 6)) .done))) (.cond (.t 7) (.g (.o 0 4 (.mov (.i (-1))) .done) .ret) .skip)) (.seq (.g (.o 0 8 (.mov (.t 0)) (.o 1 9 (.mov (.t 1)) (.o 2 10 (.bin .gtr (.t 8) (.t 9)) .done))) (.cond (.t 10) (.g (.o 0 4 (.mov (.i 1)) .done) .ret) .skip)) (.g (.o 0 4 (.mov (.i 0)) .done) .ret))))
theorem dg_spec_l3num : Tryz.f162.body.bind (digC Tryz.prog Tryz.f162.ntmps []) = some c_spec_l3num := by kernel_rfl
theorem rs_spec_l3num : resSlots Tryz.prog Tryz.f162 = some [.s 4] := by kernel_rfl
theorem ok_spec_l3num (a b : Int) :
  FnOK Tryz.prog 162 [.one (.d (.sc (.int .i64 a))), .one (.d (.sc (.int .i64 b)))] (fun ra _ => ra = [.one (.d (.sc (.int .i64 (cmpI a b))))]) := by
 refine FnOK.ofK Tryz.func162 (by kernel_rfl) dg_spec_l3num rs_spec_l3num rfl rfl ?_
 delta c_spec_l3num T.o X.i C.g
 refine Kbc (Ka Y (Kdb (Kbc (Ka Y (Ka Y (Kj Y Y Y (Kd (Km Y (fun g0 => Kbc (Ka Y (Kd (Kr (Er (ra := [.one (.d _)]) rfl ?_))))) (fun g0 => Kn (Kb (Kbc (Ka Y (Ka Y (Kj Y Y Y (Kd (Km Y (fun g1 => Kbc (Ka Y (Kd (Kr (Er (ra := [.one (.d _)]) rfl ?_))))) (fun g1 => Kn (Kbc (Ka Y (Kd (Kr (Er (ra := [.one (.d _)]) rfl ?_))))))))))))))))))))))
 all_goals (refine congrArg (fun z : Int => [RA.one (RV.d (DV.sc (Value.int IntKind.i64 z)))]) ?_; unfold cmpI; split <;> first | omega | (split <;> omega))

def c_spec_Put32 : C := (.g (.o 0 4 (.mov (.n 1)) .done) (.g (.o 0 6 (.lit 6 1 [(.v (.int .u8 0))] 0 []) (.o 1 7 (.mov (.t 0)) (.o 2 8 (.app 8 1 1 (.t 6) (.t 7)) (.o 3 5 (.mov (.t 8)) .done)))) (.seq (.g (.o 0 9 (.mov (.t 1)) (.o 1 10 (.bin .lss (.t 9) (.i 0)) (.o 2 11 (.mov (.t 10)) (.op 3 [] (some 12) (some (11, false)) false (.mov (.t 1)) (.op 4 [] (some 13) (some (11, false)) false (.bin .geq (.t 12) (.i 4294967296)) (.o 5 14 (.pick (.t 11) (.v (.bool true)) (.t 13)) .done)))))) (.cond (.t 14) (.g (.o 0 15 (.mov (.t 5)) (.o 1 4 (.mov (.t 15)) .done)) .ret) .skip)) (.g (.o 0 16 (.mov (.t 5)) (.o 1 17 (.mov (.t 1)) (.o 2 18 (.bin .shr (.t 17) (.v (.int .u64 24))) (.o 3 19 (.conv .u8 (.t 18)) (.o 4 20 (.mov (.t 1)) (.o 5 21 (.bin .shr (.t 20) (.v (.int .u64 16))) (.o 6 22 (.conv .u8 (.t 21)) (.o 7 23 (.mov (.t 1)) (.o 8 24 (.bin .shr (.t 23) (.v (.int .u64 8))) (.o 9 25 (.conv .u8 (.t 24)) (.o 10 26 (.mov (.t 1)) (.o 11 27 (.conv .u8 (.t 26)) (.o 12 28 (.lit 28 1 [(.v (.int .u8 0))] 4 [(0, 1, (.t 19)), (1, 1, (.t 22)), (2, 1, (.t 25)), (3, 1, (.t 27))]) (.o 13 29 (.app 29 1 1 (.t 16) (.t 28)) (.o 14 4 (.mov (.t 29)) .done))))))))))))))) .ret))))
theorem dg_spec_Put32 : Tryz.f190.body.bind (digC Tryz.prog Tryz.f190.ntmps []) = some c_spec_Put32 := by kernel_rfl
theorem rs_spec_Put32 : resSlots Tryz.prog Tryz.f190 = some [.s 4] := by kernel_rfl
theorem ok_spec_Put32 (b : List UInt8) (n : Int) (hb : b.length ≤ 16777216) (h0 : 0 ≤ n) (h1 : n < 4294967296) :
  FnOK Tryz.prog 190 [.one (.d (encB b)), .one (.d (.sc (.int .i64 n)))] (fun ra _ => ra = [.one (.own true (encB (b ++ w4 n)))]) := by
 refine FnOK.ofK Tryz.func190 (by kernel_rfl) dg_spec_Put32 rs_spec_Put32 rfl rfl ?_
 delta c_spec_Put32 T.o X.i C.g
 refine Kbc (Ka Y (Kdb (Kc (kLit Y Y Y Y (Ka Y (kAppN Y Y Y (src_encB _ _) rfl rfl rfl rfl om (Ka Y (Kdb (Kbc (Ka Y (Kj Y Y Y (Ka Y (kGP Y (fun g0 => om) (fun g0 => Ki Y (Ka Y (Ki Y (Kj Y Y Y (Kl Y (Ka Y (Kd (Km Y (fun g1 => om) (fun g1 => Kn (Kbc (Ka Y (Ka Y (kShr (m := 24) Y Y Y (kConvU8 Y (Ka Y (kShr (m := 16) Y Y Y (kConvU8 Y (Ka Y (kShr (m := 8) Y Y Y (kConvU8 Y (Ka Y (kConvU8 Y (kLit Y Y Y Y (kAppR4 Y Y Y Y Y Y Y Y om (Ka Y (Kd (Kr (Er (ra := [.one (.own true _)]) rfl rfl)))))))))))))))))))))))))))))))))))))))))
theorem ok_spec_Put32_nil (n : Int) (h0 : 0 ≤ n) (h1 : n < 4294967296) :
  FnOK Tryz.prog 190 [.one (.d (.sl 1 [])), .one (.d (.sc (.int .i64 n)))] (fun ra _ => ra = [.one (.own true (encB (w4 n)))]) := ok_spec_Put32 [] n (Nat.zero_le _) h0 h1

def c_spec_l2put : C := (.g (.o 0 3 (.box 3 (.t 1)) (.o 1 4 (.mov (.n 1)) .done)) (.seq (.g (.o 0 5 (.mov (.i 0)) .done) (.block 0 (.loop (.seq (.g (.o 0 6 (.mov (.t 5)) (.o 1 7 (.fad (.t 3) 0) (.o 2 8 (.load none (.t 7)) (.o 3 9 (.len (.t 8)) (.o 4 10 (.bin .lss (.t 6) (.t 9)) .done))))) (.cond (.t 10) .skip (.exit 0))) (.seq (.block 1 (.reg true (.op 0 [] (some 13) none true (.mov (.t 0)) (.op 1 [] (some 14) none true (.fad (.t 3) 0) (.op 2 [] (some 15) none true (.load none (.t 14)) (.op 3 [] (some 16) none true (.mov (.t 5)) (.op 4 [] (some 17) none true (.iad 1 (.t 15) (.t 16)) (.op 5 [] (some 18) none true (.load none (.t 17)) (.op 6 [] (some 19) none true (.len (.t 18)) (.op 7 [] (some 20) none true (.conv .u8 (.t 19)) (.op 10 [] (some 23) none true (.fad (.t 3) 0) (.op 11 [] (some 24) none true (.load none (.t 23)) (.op 12 [] (some 25) none true (.mov (.t 5)) (.op 13 [] (some 26) none true (.iad 1 (.t 24) (.t 25)) (.op 14 [] (some 27) none true (.load none (.t 26)) (.op 8 [5, 2] (some 21) none false (.lit 21 1 [(.v (.int .u8 0))] 1 [(0, 1, (.t 20))]) (.op 9 [5, 2] (some 22) none false (.app 22 1 1 (.t 13) (.t 21)) (.op 15 [5, 14, 11] (some 28) none false (.app 28 1 1 (.t 22) (.t 27)) (.op 16 [] (some 0) none true (.mov (.t 28)) .done))))))))))))))))))) (.reg false (.o 0 11 (.mov (.t 5)) (.o 1 12 (.bin .add (.t 11) (.i 1)) (.o 2 5 (.mov (.t 12)) .done))))))))) (.g (.o 0 29 (.mov (.t 0)) (.o 1 30 (.lit 30 1 [(.v (.int .u8 0))] 1 [(0, 1, (.v (.int .u8 0)))]) (.o 2 31 (.app 31 1 1 (.t 29) (.t 30)) (.o 3 4 (.mov (.t 31)) .done)))) .ret)))
theorem dg_spec_l2put : Tryz.f236.body.bind (digC Tryz.prog Tryz.f236.ntmps []) = some c_spec_l2put := by kernel_rfl
theorem rs_spec_l2put : resSlots Tryz.prog Tryz.f236 = some [.s 4] := by kernel_rfl
theorem ok_spec_l2put (b : List UInt8) (a : List (List UInt8)) (hs : SmallBB a) (hb : b.length ≤ 16777216) :
  FnOK Tryz.prog 236 [.one (.arr true true (encB b)), .agg [.d (encBB a)]] (fun ra _ => ra = [.one (.own true (encB (b ++ wireN a)))]) := by
 refine FnOK.ofK Tryz.func236 (by kernel_rfl) dg_spec_l2put rs_spec_l2put rfl rfl ?_
 delta c_spec_l2put T.o X.i C.g
 have h1 := hs.len
 have h2 := hs.flat
 refine Kbc (kBox Y Y Y Y Y (Ka Y (Kdb (Kbc (Ka Y (Kd (Kt ?_)))))))
 refine kLoop (α := { i : Nat // i ≤ a.length }) (fun y => ⟨tabSl [(0, .c (.arr 0 1)), (3, .c (.ptr (rid 3 0) 1 0)), (5, .i y.1)], obTab 1 [(0, ⟨1, 0, .arr true (encB (b ++ wireL (a.take y.1)))⟩), (rid 3 0, ⟨1, 0, .box [.d (encBB a)]⟩)], []⟩) (fun y => a.length - y.1) ⟨0, by simp⟩ (by simp only [List.take_zero, wireL, List.flatMap_nil, List.append_nil]; exact .normA) ?_
 rintro ⟨i, hi⟩
 simp only
 have hl := wireL_le a i
 have hl2 : (b ++ wireL (a.take i)).length = b.length + (wireL (a.take i)).length := by simp
 rcases Nat.lt_or_ge i a.length with hlt | hge
 ·have hst : b ++ wireL (a.take (i + 1)) = b ++ wireL (a.take i) ++ [u8 a[i].length] ++ a[i] := by rw [wireL_take a i hlt]; simp
  have hm := hs.mem _ (List.getElem_mem hlt)
  have hlen : (b ++ wireL (a.take i) ++ [u8 a[i].length]).length = (b ++ wireL (a.take i)).length + 1 := by simp only [List.length_append, List.length_cons, List.length_nil]
  refine Kb (Kbc (Ka Y (Kf Y Y (Ke Y Y Y (Kq Y Y (Kj Y Y Y (Kd (Km Y (fun g0 => Kn (Kb (Kt (kRegD (Ka Y (Kf Y Y (Ke Y Y Y (Ka Y (kIadR Y Y Y om (Ky Y Y (Kq Y Y (kConvU8 Y (Kf Y Y (Ke Y Y Y (Ka Y (kIadR Y Y Y om (Ky Y Y (Kx Y Y (kLit Y Y Y Y (Kx Y Y (kAppR1 Y Y Y Y Y Y Y Y om (Ks Y Y (kAppR Y Y Y (src_encB _ _) rfl rfl rfl rfl om (Ka Y (Kd (kH (Kv (Kc (Ka Y (kAdd Y Y om (Ka Y (Kd ?_)))))))))))))))))))))))))))))))) (fun g0 => om)))))))))
  refine kInv ⟨⟨i + 1, by omega⟩, by simp only; omega, ?_⟩
  simp only [hst]
  exact .normA
 ·have he : b ++ wireN a = b ++ wireL (a.take i) ++ [0] := by rw [show i = a.length by omega, List.take_length]; simp [wireN]
  rw [he]
  refine Kb (Kbc (Ka Y (Kf Y Y (Ke Y Y Y (Kq Y Y (Kj Y Y Y (Kd (Km Y (fun g0 => om) (fun g0 => kExit (kExC (kExI (kExB (Kbc (Ka Y (kLit Y Y Y Y (kAppR1 (z := (0 : UInt8)) rfl rfl rfl rfl rfl rfl rfl rfl om (Ka Y (Kd (Kr (Er (ra := [.one (.own true _)]) rfl rfl))))))))))))))))))))
theorem ok_spec_l2put_nil (a : List (List UInt8)) (hs : SmallBB a) :
  FnOK Tryz.prog 236 [.one (.arr true true (.sl 1 [])), .agg [.d (encBB a)]] (fun ra _ => ra = [.one (.own true (encB (wireN a)))]) := ok_spec_l2put [] a hs (Nat.zero_le _)

def c_spec_l3put : C := (.g (.o 0 1 (.box 1 (.t 0)) (.o 1 2 (.mov (.n 1)) .done)) (.seq (.block 0 (.g (.o 0 4 (.fad (.t 1) 1) (.o 1 5 (.load none (.t 4)) (.o 2 6 (.bin .eql (.t 5) (.i 1)) (.o 3 3 (.mov (.t 6)) .done)))) (.cond (.t 3) (.g (.o 0 7 (.fad (.t 1) 3) (.o 1 8 (.load none (.t 7)) (.o 2 9 (.call 9 190 [(.n 1), (.t 8)]) (.o 3 2 (.mov (.t 9)) .done)))) .ret) (.g (.o 0 11 (.fad (.t 1) 1) (.o 1 12 (.load none (.t 11)) (.o 2 13 (.bin .eql (.t 12) (.i 6)) (.o 3 10 (.mov (.t 13)) .done)))) (.cond (.t 10) (.seq (.reg true (.op 0 [] (some 14) none true (.fad (.t 1) 4) (.op 1 [] (some 15) none true (.load (some 1) (.t 14)) (.op 3 [] (some 17) none true (.fad (.t 1) 6) (.op 4 [] (some 18) none true (.load none (.t 17)) (.op 5 [] (some 19) none true (.iad 1 (.t 18) (.i 0)) (.op 6 [] (some 20) none true (.load none (.t 19)) (.op 8 [] (some 22) none true (.fad (.t 1) 6) (.op 9 [] (some 23) none true (.load none (.t 22)) (.op 10 [] (some 24) none true (.iad 1 (.t 23) (.i 1)) (.op 11 [] (some 25) none true (.load none (.t 24)) (.op 2 [1] (some 16) none false (.call 16 236 [(.n 1), (.t 15)]) (.op 7 [1, 6, 4] (some 21) none false (.call 21 190 [(.t 16), (.t 20)]) (.op 12 [1, 6, 4, 11, 9] (some 26) none false (.call 26 190 [(.t 21), (.t 25)]) (.op 13 [] (some 2) none true (.mov (.t 26)) .done))))))))))))))) .ret) (.g (.o 0 28 (.fad (.t 1) 1) (.o 1 29 (.load none (.t 28)) (.o 2 30 (.call 30 161 [(.t 29)]) (.o 3 27 (.mov (.t 30)) .done)))) (.cond (.t 27) (.g (.o 0 31 (.fad (.t 1) 4) (.o 1 32 (.load (some 1) (.t 31)) (.o 2 33 (.call 33 236 [(.n 1), (.t 32)]) (.o 3 2 (.mov (.t 33)) .done)))) .ret) .skip))))))) (.g (.o 0 34 (.fad (.t 1) 5) (.o 1 35 (.load none (.t 34)) (.o 2 36 (.len (.t 35)) (.o 3 37 (.conv .u8 (.t 36)) (.o 4 38 (.lit 38 1 [(.v (.int .u8 0))] 1 [(0, 1, (.t 37))]) (.o 5 39 (.fad (.t 1) 5) (.o 6 40 (.load none (.t 39)) (.o 7 41 (.app 41 1 1 (.t 38) (.t 40)) (.o 8 2 (.mov (.t 41)) .done))))))))) .ret)))
theorem dg_spec_l3put : Tryz.f164.body.bind (digC Tryz.prog Tryz.f164.ntmps []) = some c_spec_l3put := by kernel_rfl
theorem rs_spec_l3put : resSlots Tryz.prog Tryz.f164 = some [.s 2] := by kernel_rfl
theorem ok_spec_l3put (r : Rr) (hs : SmallR r) (hk : rrOk r = true) :
  FnOK Tryz.prog 164 [.agg (r.cells.map .d)] (fun ra _ => ra = [.one (.own true (encB (rdata r)))]) := by
 refine FnOK.ofK Tryz.func164 (by kernel_rfl) dg_spec_l3put rs_spec_l3put rfl rfl ?_
 delta c_spec_l3put T.o X.i C.g
 have ht := hs.t
 have t1 := hs.t.len
 have t2 := hs.t.flat
 have x1 := hs.x
 have m1 := hs.m
 by_cases h1 : r.ty = 1
 ·rw [rdata_A h1]
  have ha := rdata_ad hk h1
  refine Kbc (kBox Y Y Y Y Y (Ka Y (Kdb (Kt (Kbc (Kf Y Y (Ke Y Y Y (Kj Y Y Y (Ka Y (Kd (Km Y (fun g0 => Kbc (Kf Y Y (Ke Y Y Y (Ku true (ok_spec_Put32_nil _ pr pr) ⟨Y, Y, trivial⟩ Y Y Y (fun _ => (Ka Y (Kd (Kr (Er (ra := [.one (.own true _)]) rfl rfl))))))))) (fun g0 => om))))))))))))
 by_cases h6 : r.ty = 6
 ·obtain ⟨h2, h3, h4, h5⟩ := rdata_soa hk h6
  rw [h5]
  have w1 := wireN_len r.to
  have w2 : (wireN r.to ++ w4 (r.nums[0]'(by omega))).length = (wireN r.to).length + 4 := by rw [List.length_append, w4_len]
  refine Kbc (kBox Y Y Y Y Y (Ka Y (Kdb (Kt (Kbc (Kf Y Y (Ke Y Y Y (Kj Y Y Y (Ka Y (Kd (Km Y (fun g0 => om) (fun g0 => Kbc (Kf Y Y (Ke Y Y Y (Kj Y Y Y (Ka Y (Kd (Km Y (fun g1 => Kb (kRegD (Kf Y Y (Ke Y Y Y (Kf Y Y (Ke Y Y Y (kIadR (m := 0) Y Y Y om (Ky Y Y (Kf Y Y (Ke Y Y Y (kIadR (m := 1) Y Y Y om (Ky Y Y (Kx Y Y (Ku true (ok_spec_l2put_nil _ pr) ⟨⟨rfl, rfl⟩, ⟨⟨Y, trivial⟩, leb⟩, trivial⟩ Y Y Y (fun _ => (Kx Y Y (Ku true (ok_spec_Put32 _ _ pr pr pr) ⟨Y, Y, trivial⟩ Y Y Y (fun _ => (Ks Y Y (Ku true (ok_spec_Put32 _ _ pr pr pr) ⟨Y, Y, trivial⟩ Y Y Y (fun _ => (Ka Y (Kd (kH (Kr (Er (ra := [.one (.own true _)]) rfl rfl)))))))))))))))))))))))))) (fun g1 => om)))))))))))))))))))
 have hn := rdata_nm hk h6
 cases h2 : hasTo r.ty
 ·rw [rdata_text h1 h2]
  refine Kbc (kBox Y Y Y Y Y (Ka Y (Kdb (Kt (Kbc (Kf Y Y (Ke Y Y Y (Kj Y Y Y (Ka Y (Kd (Km Y (fun g0 => om) (fun g0 => Kbc (Kf Y Y (Ke Y Y Y (Kj Y Y Y (Ka Y (Kd (Km Y (fun g1 => om) (fun g1 => Kbc (Kf Y Y (Ke Y Y Y (Kp (ok_spec_l3named _) ⟨Y, trivial⟩ Y Y Y Y Y (Ka Y (Kd (kCond Y (fun g2 => (by (simp [*] at g2))) (fun g2 => Kn (Kv (Kbc (Kf Y Y (Ke Y Y Y (Kq Y Y (kConvU8 Y (kLit Y Y Y Y (Kf Y Y (Ke Y Y Y (kApp1R Y Y (src_encB _ _) rfl rfl rfl rfl rfl om (Ka Y (Kd (Kr (Er (ra := [.one (.own true _)]) rfl rfl))))))))))))))))))))))))))))))))))))))))
 ·rw [rdata_to h1 h2, hn, List.flatMap_nil, List.append_nil]
  refine Kbc (kBox Y Y Y Y Y (Ka Y (Kdb (Kt (Kbc (Kf Y Y (Ke Y Y Y (Kj Y Y Y (Ka Y (Kd (Km Y (fun g0 => om) (fun g0 => Kbc (Kf Y Y (Ke Y Y Y (Kj Y Y Y (Ka Y (Kd (Km Y (fun g1 => om) (fun g1 => Kbc (Kf Y Y (Ke Y Y Y (Kp (ok_spec_l3named _) ⟨Y, trivial⟩ Y Y Y Y Y (Ka Y (Kd (kCond Y (fun g2 => Kbc (Kf Y Y (Ke Y Y Y (Ku true (ok_spec_l2put_nil _ pr) ⟨⟨rfl, rfl⟩, ⟨⟨Y, trivial⟩, leb⟩, trivial⟩ Y Y Y (fun _ => (Ka Y (Kd (Kr (Er (ra := [.one (.own true _)]) rfl rfl))))))))) (fun g2 => (by (simp [*] at g2))))))))))))))))))))))))))))

def c_spec_l3cmp : C := (.g (.o 0 2 (.box 2 (.t 0)) (.o 1 3 (.box 3 (.t 1)) (.o 2 4 (.mov (.i 0)) .done))) (.g (.o 0 6 (.fad (.t 2) 0) (.o 1 7 (.load (some 1) (.t 6)) (.o 2 8 (.fad (.t 3) 0) (.o 3 9 (.load (some 1) (.t 8)) (.o 4 10 (.call 10 82 [(.t 7), (.t 9)]) (.o 5 5 (.mov (.t 10)) .done)))))) (.seq (.g (.o 0 11 (.mov (.t 5)) (.o 1 12 (.bin .eql (.t 11) (.i 0)) .done)) (.cond (.t 12) (.reg false (.o 0 13 (.fad (.t 2) 1) (.o 1 14 (.load none (.t 13)) (.o 2 15 (.fad (.t 3) 1) (.o 3 16 (.load none (.t 15)) (.o 4 17 (.call 17 162 [(.t 14), (.t 16)]) (.o 5 5 (.mov (.t 17)) .done))))))) .skip)) (.seq (.g (.o 0 18 (.mov (.t 5)) (.o 1 19 (.bin .eql (.t 18) (.i 0)) .done)) (.cond (.t 19) (.reg true (.op 0 [] (some 20) none true (.load (some 7) (.t 2)) (.op 2 [] (some 22) none true (.load (some 7) (.t 3)) (.op 1 [0] (some 21) none false (.call 21 164 [(.t 20)]) (.op 3 [2, 0] (some 23) none false (.call 23 164 [(.t 22)]) (.op 4 [0, 2] (some 24) none false (.call 24 163 [(.t 21), (.t 23)]) (.op 5 [] (some 5) none true (.mov (.t 24)) .done))))))) .skip)) (.g (.o 0 25 (.mov (.t 5)) (.o 1 4 (.mov (.t 25)) .done)) .ret)))))
theorem dg_spec_l3cmp : Tryz.f80.body.bind (digC Tryz.prog Tryz.f80.ntmps []) = some c_spec_l3cmp := by kernel_rfl
theorem rs_spec_l3cmp : resSlots Tryz.prog Tryz.f80 = some [.s 4] := by kernel_rfl
theorem ok_spec_l3cmp (a b : Rr) (ha : SmallR a) (hb : SmallR b) (ka : rrOk a = true) (kb : rrOk b = true) :
  FnOK Tryz.prog 80 [.agg (a.cells.map .d), .agg (b.cells.map .d)] (fun ra _ => ra = [.one (.d (.sc (.int .i64 (cmpR a b))))]) := by
 refine FnOK.ofK Tryz.func80 (by kernel_rfl) dg_spec_l3cmp rs_spec_l3cmp rfl rfl ?_
 delta c_spec_l3cmp T.o X.i C.g
 have n1 := ha.n.len
 have n2 := hb.n.len
 by_cases h1 : cmpN a.name b.name = 0
 ·by_cases h2 : cmpI a.ty b.ty = 0
  ·rw [show cmpR a b = cmpB (rdata a) (rdata b) by unfold cmpR; rw [if_pos h1, if_pos h2]]
   refine Kbc (kBox Y Y Y Y Y (kBox Y Y Y Y Y (Ka Y (Kdb (Kc (Kf Y Y (Ke Y Y Y (Kf Y Y (Ke Y Y Y (Kp (ok_spec_l2cmp _ _ pr pr) ⟨⟨⟨Y, trivial⟩, leb⟩, ⟨⟨Y, trivial⟩, leb⟩, trivial⟩ Y Y Y Y Y (Ka Y (Kdb (Kbc (Ka Y (Kj Y Y Y (Kd (Km Y (fun g0 => Kc (Kf Y Y (Ke Y Y Y (Kf Y Y (Ke Y Y Y (Kp (ok_spec_l3num _ _) ⟨Y, Y, trivial⟩ Y Y Y Y Y (Ka Y (Kdb (Kbc (Ka Y (Kj Y Y Y (Kd (Km Y (fun g1 => kRegD (Ke Y Y Y (Ke Y Y Y (Kx Y Y (Ku true (ok_spec_l3put _ pr pr) ⟨⟨⟨Y, Y, Y, Y, Y, Y, Y, trivial⟩, leb⟩, trivial⟩ Y Y Y (fun _ => (Ks Y Y (Ku true (ok_spec_l3put _ pr pr) ⟨⟨⟨Y, Y, Y, Y, Y, Y, Y, trivial⟩, leb⟩, trivial⟩ Y Y Y (fun _ => (Ks Y Y (Kp (ok_spec_l2bytes _ _) ⟨Y, Y, trivial⟩ Y Y Y Y Y (Ka Y (Kd (kH (Kbc (Ka Y (Ka Y (Kd (Kr (Er (ra := [.one (.d _)]) rfl rfl)))))))))))))))))))) (fun g1 => om)))))))))))))) (fun g0 => om))))))))))))))))))
  ·rw [show cmpR a b = cmpI a.ty b.ty by unfold cmpR; rw [if_pos h1, if_neg h2]]
   refine Kbc (kBox Y Y Y Y Y (kBox Y Y Y Y Y (Ka Y (Kdb (Kc (Kf Y Y (Ke Y Y Y (Kf Y Y (Ke Y Y Y (Kp (ok_spec_l2cmp _ _ pr pr) ⟨⟨⟨Y, trivial⟩, leb⟩, ⟨⟨Y, trivial⟩, leb⟩, trivial⟩ Y Y Y Y Y (Ka Y (Kdb (Kbc (Ka Y (Kj Y Y Y (Kd (Km Y (fun g0 => Kc (Kf Y Y (Ke Y Y Y (Kf Y Y (Ke Y Y Y (Kp (ok_spec_l3num _ _) ⟨Y, Y, trivial⟩ Y Y Y Y Y (Ka Y (Kdb (Kbc (Ka Y (Kj Y Y Y (Kd (Km Y (fun g1 => om) (fun g1 => Kn (Kbc (Ka Y (Ka Y (Kd (Kr (Er (ra := [.one (.d _)]) rfl rfl)))))))))))))))))))) (fun g0 => om))))))))))))))))))
 ·rw [show cmpR a b = cmpN a.name b.name by unfold cmpR; rw [if_neg h1]]
  refine Kbc (kBox Y Y Y Y Y (kBox Y Y Y Y Y (Ka Y (Kdb (Kc (Kf Y Y (Ke Y Y Y (Kf Y Y (Ke Y Y Y (Kp (ok_spec_l2cmp _ _ pr pr) ⟨⟨⟨Y, trivial⟩, leb⟩, ⟨⟨Y, trivial⟩, leb⟩, trivial⟩ Y Y Y Y Y (Ka Y (Kdb (Kbc (Ka Y (Kj Y Y Y (Kd (Km Y (fun g0 => om) (fun g0 => Kn (Kb (Kbc (Ka Y (Kj Y Y Y (Kd (Km Y (fun g1 => om) (fun g1 => Kn (Kbc (Ka Y (Ka Y (Kd (Kr (Er (ra := [.one (.d _)]) rfl rfl)))))))))))))))))))))))))))))))

def c_spec_l5alone : C := (.g (.o 0 4 (.mov (.v (.bool false))) .done) (.seq (.g (.o 0 6 (.mov (.t 0)) (.o 1 7 (.mov (.t 1)) (.o 2 8 (.iad 7 (.t 6) (.t 7)) (.o 3 9 (.fad (.t 8) 1) (.o 4 10 (.load none (.t 9)) (.o 5 11 (.bin .neq (.t 10) (.i 5)) .done)))))) (.cond (.t 11) (.g (.o 0 4 (.mov (.v (.bool true))) .done) .ret) .skip)) (.seq (.g (.o 0 5 (.mov (.i 0)) .done) (.block 0 (.loop (.seq (.g (.o 0 12 (.mov (.t 5)) (.o 1 13 (.mov (.t 0)) (.o 2 14 (.len (.t 13)) (.o 3 15 (.bin .lss (.t 12) (.t 14)) .done)))) (.cond (.t 15) .skip (.exit 0))) (.seq (.block 1 (.seq (.reg true (.op 0 [] (some 18) none true (.mov (.t 5)) (.op 1 [] (some 19) none true (.mov (.t 1)) (.op 2 [] (some 20) none true (.bin .neq (.t 18) (.t 19)) (.op 3 [] (some 21) none true (.mov (.t 20)) (.op 4 [] (some 22) (some (21, true)) true (.mov (.t 0)) (.op 5 [] (some 23) (some (21, true)) true (.mov (.t 5)) (.op 6 [] (some 24) (some (21, true)) true (.iad 7 (.t 22) (.t 23)) (.op 7 [] (some 25) (some (21, true)) true (.fad (.t 24) 0) (.op 8 [] (some 26) (some (21, true)) true (.load (some 1) (.t 25)) (.op 9 [] (some 27) (some (21, true)) true (.mov (.t 0)) (.op 10 [] (some 28) (some (21, true)) true (.mov (.t 1)) (.op 11 [] (some 29) (some (21, true)) true (.iad 7 (.t 27) (.t 28)) (.op 12 [] (some 30) (some (21, true)) true (.fad (.t 29) 0) (.op 13 [] (some 31) (some (21, true)) true (.load (some 1) (.t 30)) (.op 14 [8, 13] (some 32) (some (21, true)) false (.call 32 82 [(.t 26), (.t 31)]) (.op 15 [] (some 33) (some (21, true)) true (.bin .eql (.t 32) (.i 0)) (.op 16 [] (some 34) none true (.pick (.t 21) (.t 33) (.v (.bool false))) .done)))))))))))))))))) (.cond (.t 34) (.g (.o 0 4 (.mov (.v (.bool false))) .done) .ret) .skip))) (.reg false (.o 0 16 (.mov (.t 5)) (.o 1 17 (.bin .add (.t 16) (.i 1)) (.o 2 5 (.mov (.t 17)) .done))))))))) (.g (.o 0 4 (.mov (.v (.bool true))) .done) .ret))))
theorem dg_spec_l5alone : Tryz.f81.body.bind (digC Tryz.prog Tryz.f81.ntmps []) = some c_spec_l5alone := by kernel_rfl
theorem rs_spec_l5alone : resSlots Tryz.prog Tryz.f81 = some [.s 4] := by kernel_rfl
theorem ok_spec_l5alone (l : List Rr) (i : Nat) (hs : SmallRs l) (hi : i < l.length) :
  FnOK Tryz.prog 81 [.one (.d (encR l)), .one (.d (.sc (.int .i64 i)))] (fun ra _ => ra = [.one (.d (.sc (.bool (aloneR l i))))]) := by
 refine FnOK.ofK Tryz.func81 (by kernel_rfl) dg_spec_l5alone rs_spec_l5alone rfl rfl ?_
 delta c_spec_l5alone T.o X.i C.g
 have h1 := hs.len
 have hbi := hs.mem _ (List.getElem_mem hi)
 have n1 := hbi.n.len
 by_cases p : l[i].ty = 5
 ·refine Kbc (Ka Y (Kdb (Kbc (Ka Y (Ka Y (kIadR Y Y Y om (kFadD Y (Ky Y Y (Kj Y Y Y (Kd (kCondIN Y (fun g0 => om) (fun g0 => Kn (Kb (Kbc (Ka Y (Kd (Kt ?_)))))))))))))))))
  refine kLoop (α := { k : Nat // k ≤ l.length ∧ ∀ j, (h : j < k) → (h' : j < l.length) → j ≠ i → l[j].name ≠ l[i].name }) (fun y => ⟨tabSl [(0, .dv (encR l)), (1, .i i), (5, .i y.1)], obTab 1 [], []⟩) (fun y => l.length - y.1) ⟨0, by simp, fun _ h => by omega⟩ .normA ?_
  rintro ⟨k, hk, hn⟩
  simp only
  rcases Nat.lt_or_ge k l.length with hlt | hge
  ·have hbk := hs.mem _ (List.getElem_mem hlt)
   have n2 := hbk.n.len
   have hz := cmpN_zero l[k].name l[i].name
   by_cases p1 : k = i
   ·refine Kb (Kbc (Ka Y (Ka Y (Kq Y Y (Kj Y Y Y (Kd (Km Y (fun g0 => Kn (Kb (Kt (Kb (kRegD (Ka Y (Ka Y (Kj Y Y Y (Ka Y (kGIN Y (fun g1 => om) (fun g1 => Kg Y (Kg Y (Kg Y (Kg Y (Kg Y (Kg Y (Kg Y (Kg Y (Kg Y (Kg Y (Ks Y Y (Kg Y (Kg Y (Kl Y (Ka Y (Kd (kH (kCondF Y (Kn (Kv (Kc (Ka Y (kAdd Y Y om (Ka Y (Kd ?_))))))))))))))))))))))))))))))))))) (fun g0 => om))))))))
    refine kInv ⟨⟨k + 1, by omega, fun j h h' hne => hn j om h' hne⟩, by simp only; omega, .normA⟩
   ·by_cases p2 : l[k].name = l[i].name
    ·have hc : cmpN l[k].name l[i].name = 0 := by simpa [p2] using hz
     rw [show aloneR l i = false by rw [aloneR_no hi p hlt p1 p2]]
     refine Kb (Kbc (Ka Y (Ka Y (Kq Y Y (Kj Y Y Y (Kd (Km Y (fun g0 => Kn (Kb (Kt (Kb (kRegD (Ka Y (Ka Y (Kj Y Y Y (Ka Y (kGIN Y (fun g1 => Ki Y (Ka Y (Ki Y (Ka Y (Ki Y (kIadR Y Y Y om (Ki Y (kFadD Y (Ki Y (Ky Y Y (Ki Y (Ka Y (Ki Y (Ka Y (Ki Y (kIadR Y Y Y om (Ki Y (kFadD Y (Ki Y (Ky Y Y (Ks Y Y (Ki Y (Kp (ok_spec_l2cmp _ _ pr pr) ⟨⟨⟨Y, trivial⟩, leb⟩, ⟨⟨Y, trivial⟩, leb⟩, trivial⟩ Y Y Y Y Y (Ki Y (Kj Y Y Y (Kk Y (Ka Y (Kd (kH (Km Y (fun g2 => Kbc (Ka Y (Kd (Kr (Er (ra := [.one (.d _)]) rfl rfl))))) (fun g2 => om))))))))))))))))))))))))))))))) (fun g1 => om))))))))))) (fun g0 => om))))))))
    ·have hc : cmpN l[k].name l[i].name ≠ 0 := by simpa [p2] using hz
     refine Kb (Kbc (Ka Y (Ka Y (Kq Y Y (Kj Y Y Y (Kd (Km Y (fun g0 => Kn (Kb (Kt (Kb (kRegD (Ka Y (Ka Y (Kj Y Y Y (Ka Y (kGIN Y (fun g1 => Ki Y (Ka Y (Ki Y (Ka Y (Ki Y (kIadR Y Y Y om (Ki Y (kFadD Y (Ki Y (Ky Y Y (Ki Y (Ka Y (Ki Y (Ka Y (Ki Y (kIadR Y Y Y om (Ki Y (kFadD Y (Ki Y (Ky Y Y (Ks Y Y (Ki Y (Kp (ok_spec_l2cmp _ _ pr pr) ⟨⟨⟨Y, trivial⟩, leb⟩, ⟨⟨Y, trivial⟩, leb⟩, trivial⟩ Y Y Y Y Y (Ki Y (Kj Y Y Y (Kk Y (Ka Y (Kd (kH (Km Y (fun g2 => om) (fun g2 => Kn (Kv (Kc (Ka Y (kAdd Y Y om (Ka Y (Kd ?_))))))))))))))))))))))))))))))))))))) (fun g1 => om))))))))))) (fun g0 => om))))))))
     refine kInv ⟨⟨k + 1, by omega, fun j h h' hne => ?_⟩, by simp only; omega, .normA⟩
     by_cases e : j = k
     ·subst e; exact p2
     ·exact hn j (by omega) h' hne
  ·rw [show aloneR l i = true by exact aloneR_yes hi fun j h' hne => hn j (by omega) h' hne]
   refine Kb (Kbc (Ka Y (Ka Y (Kq Y Y (Kj Y Y Y (Kd (Km Y (fun g0 => om) (fun g0 => kExit (kExC (kExI (kExB (Kbc (Ka Y (Kd (Kr (Er (ra := [.one (.d _)]) rfl rfl))))))))))))))))
 ·rw [show aloneR l i = true by exact aloneR_ty hi p]
  refine Kbc (Ka Y (Kdb (Kbc (Ka Y (Ka Y (kIadR Y Y Y om (kFadD Y (Ky Y Y (Kj Y Y Y (Kd (kCondIN Y (fun g0 => Kbc (Ka Y (Kd (Kr (Er (ra := [.one (.d _)]) rfl rfl))))) (fun g0 => om))))))))))))

def c_spec_ZoneOk : C := (.g (.o 0 1 (.box 1 (.t 0)) (.o 1 2 (.mov (.v (.bool false))) .done)) (.seq (.g (.o 0 6 (.fad (.t 1) 0) (.o 1 7 (.load (some 1) (.t 6)) (.o 2 8 (.call 8 78 [(.t 7)]) (.o 3 9 (.un .not (.t 8)) (.o 4 10 (.mov (.t 9)) (.op 5 [] (some 11) (some (10, false)) false (.fad (.t 1) 1) (.op 6 [] (some 12) (some (10, false)) false (.load none (.t 11)) (.op 7 [] (some 13) (some (10, false)) false (.len (.t 12)) (.op 8 [] (some 14) (some (10, false)) false (.bin .gtr (.t 13) (.i 60)) (.o 9 15 (.pick (.t 10) (.v (.bool true)) (.t 14)) .done)))))))))) (.cond (.t 15) (.g (.o 0 2 (.mov (.v (.bool false))) .done) .ret) .skip)) (.g (.o 0 3 (.mov (.i 0)) .done) (.seq (.g (.o 0 4 (.mov (.i 0)) .done) (.block 0 (.loop (.seq (.g (.o 0 16 (.mov (.t 4)) (.o 1 17 (.fad (.t 1) 1) (.o 2 18 (.load none (.t 17)) (.o 3 19 (.len (.t 18)) (.o 4 20 (.bin .lss (.t 16) (.t 19)) .done))))) (.cond (.t 20) .skip (.exit 0))) (.seq (.block 1 (.g (.o 0 23 (.fad (.t 1) 1) (.o 1 24 (.load none (.t 23)) (.o 2 25 (.mov (.t 4)) (.o 3 26 (.iad 7 (.t 24) (.t 25)) (.o 4 27 (.load (some 7) (.t 26)) (.o 5 5 (.alloc 5 [(.n 1), (.i 0), (.i 0), (.i 0), (.n 1), (.n 1), (.n 1)]) (.op 6 [] none none false (.store (some 7) (.t 5) (.t 27)) .done))))))) (.seq (.seq (.reg true (.op 0 [] (some 28) none true (.load (some 7) (.t 5)) (.op 1 [0] (some 29) none false (.call 29 22 [(.t 28)]) (.op 2 [] (some 30) none true (.un .not (.t 29)) (.op 3 [] (some 31) none true (.mov (.t 30)) (.op 4 [] (some 32) (some (31, false)) true (.fad (.t 5) 0) (.op 5 [] (some 33) (some (31, false)) true (.load (some 1) (.t 32)) (.op 6 [] (some 34) (some (31, false)) true (.fad (.t 1) 0) (.op 7 [] (some 35) (some (31, false)) true (.load (some 1) (.t 34)) (.op 8 [5, 0, 7] (some 36) (some (31, false)) false (.call 36 79 [(.t 33), (.t 35)]) (.op 9 [] (some 37) (some (31, false)) true (.un .not (.t 36)) (.op 10 [] (some 38) none true (.pick (.t 31) (.v (.bool true)) (.t 37)) (.op 11 [] (some 39) none true (.mov (.t 38)) (.op 12 [] (some 40) (some (39, false)) true (.mov (.t 4)) (.op 13 [] (some 41) (some (39, false)) true (.bin .gtr (.t 40) (.i 0)) (.op 14 [] (some 42) (some (39, false)) true (.mov (.t 41)) (.op 15 [] (some 43) (some (42, true)) true (.fad (.t 1) 1) (.op 16 [] (some 44) (some (42, true)) true (.load none (.t 43)) (.op 17 [] (some 45) (some (42, true)) true (.mov (.t 4)) (.op 18 [] (some 46) (some (42, true)) true (.bin .sub (.t 45) (.i 1)) (.op 19 [] (some 47) (some (42, true)) true (.iad 7 (.t 44) (.t 46)) (.op 20 [] (some 48) (some (42, true)) true (.load (some 7) (.t 47)) (.op 21 [] (some 49) (some (42, true)) true (.load (some 7) (.t 5)) (.op 22 [20, 16, 5, 7, 21, 0] (some 50) (some (42, true)) false (.call 50 80 [(.t 48), (.t 49)]) (.op 23 [] (some 51) (some (42, true)) true (.bin .geq (.t 50) (.i 0)) (.op 24 [] (some 52) (some (39, false)) true (.pick (.t 42) (.t 51) (.v (.bool false))) (.op 25 [] (some 53) none true (.pick (.t 39) (.v (.bool true)) (.t 52)) (.op 26 [] (some 54) none true (.mov (.t 53)) (.op 27 [] (some 55) (some (54, false)) true (.fad (.t 1) 1) (.op 28 [] (some 56) (some (54, false)) true (.load none (.t 55)) (.op 29 [] (some 57) (some (54, false)) true (.mov (.t 4)) (.op 30 [28, 20, 21, 5, 7, 16] (some 58) (some (54, false)) false (.call 58 81 [(.t 56), (.t 57)]) (.op 31 [] (some 59) (some (54, false)) true (.un .not (.t 58)) (.op 32 [] (some 60) none true (.pick (.t 54) (.v (.bool true)) (.t 59)) .done)))))))))))))))))))))))))))))))))) (.cond (.t 60) (.g (.o 0 2 (.mov (.v (.bool false))) .done) .ret) .skip)) (.g (.o 0 61 (.fad (.t 5) 1) (.o 1 62 (.load none (.t 61)) (.o 2 63 (.bin .eql (.t 62) (.i 6)) .done))) (.cond (.t 63) (.g (.o 0 64 (.mov (.t 3)) (.o 1 65 (.bin .add (.t 64) (.i 1)) (.o 2 3 (.mov (.t 65)) .done))) (.g (.o 0 66 (.fad (.t 5) 0) (.o 1 67 (.load (some 1) (.t 66)) (.o 2 68 (.fad (.t 1) 0) (.o 3 69 (.load (some 1) (.t 68)) (.o 4 70 (.call 70 82 [(.t 67), (.t 69)]) (.o 5 71 (.bin .neq (.t 70) (.i 0)) .done)))))) (.cond (.t 71) (.g (.o 0 2 (.mov (.v (.bool false))) .done) .ret) .skip))) .skip))))) (.reg false (.o 0 21 (.mov (.t 4)) (.o 1 22 (.bin .add (.t 21) (.i 1)) (.o 2 4 (.mov (.t 22)) .done))))))))) (.g (.o 0 72 (.mov (.t 3)) (.o 1 73 (.bin .eql (.t 72) (.i 1)) (.o 2 2 (.mov (.t 73)) .done))) .ret)))))
theorem dg_spec_ZoneOk : Tryz.f21.body.bind (digC Tryz.prog Tryz.f21.ntmps []) = some c_spec_ZoneOk := by kernel_rfl
theorem rs_spec_ZoneOk : resSlots Tryz.prog Tryz.f21 = some [.s 2] := by kernel_rfl
theorem ok_spec_ZoneOk (z : Zone) (hs : SmallZ z) :
    FnOK Tryz.prog 21 [.agg (z.cells.map .d)] (fun ra _ => ra = [.one (.d (.sc (.bool (zoneOk z))))]) := by
  refine FnOK.ofK Tryz.func21 (by kernel_rfl) dg_spec_ZoneOk rs_spec_ZoneOk rfl rfl ?_
  delta c_spec_ZoneOk T.o X.i C.g
  have o1 := hs.o.len
  have o2 := hs.o.mem
  have h1 := hs.r.len
  have hm := hs.r.mem
  have hr := hs.r
  cases a1 : nameOk z.origin
  · rw [show zoneOk z = false by unfold zoneOk; rw [a1]; rfl]
    refine Kbc (kBox Y Y Y Y Y (Ka Y (Kdb (Kbc (Kf Y Y (Ke Y Y Y (Kp (ok_spec_NameOk _ pr pr) ⟨⟨⟨Y, trivial⟩, leb⟩, trivial⟩ Y Y Y Y Y (Kw Y Y (Ka Y (kGN Y (fun g0 => Kg Y (Kg Y (Kg Y (Kg Y (Kk Y (Ka Y (Kd (kCondT Y (Kbc (Ka Y (Kd (Kr (Er (ra := [.one (.d _)]) rfl rfl))))))))))))) (fun g0 => (by (simp [*] at g0)))))))))))))
  by_cases a2 : z.rrs.length ≤ 60
  case neg =>
    rw [show zoneOk z = false by unfold zoneOk; rw [decide_eq_false a2]; simp]
    refine Kbc (kBox Y Y Y Y Y (Ka Y (Kdb (Kbc (Kf Y Y (Ke Y Y Y (Kp (ok_spec_NameOk _ pr pr) ⟨⟨⟨Y, trivial⟩, leb⟩, trivial⟩ Y Y Y Y Y (Kw Y Y (Ka Y (kGN Y (fun g0 => (by (simp [*] at g0))) (fun g0 => Ki Y (Kf Y Y (Ki Y (Ke Y Y Y (Ki Y (Kq Y Y (Ki Y (Kj Y Y Y (Kl Y (Ka Y (Kd (Km Y (fun g1 => Kbc (Ka Y (Kd (Kr (Er (ra := [.one (.d _)]) rfl rfl))))) (fun g1 => om)))))))))))))))))))))))
  refine Kbc (kBox Y Y Y Y Y (Ka Y (Kdb (Kbc (Kf Y Y (Ke Y Y Y (Kp (ok_spec_NameOk _ pr pr) ⟨⟨⟨Y, trivial⟩, leb⟩, trivial⟩ Y Y Y Y Y (Kw Y Y (Ka Y (kGN Y (fun g0 => (by (simp [*] at g0))) (fun g0 => Ki Y (Kf Y Y (Ki Y (Ke Y Y Y (Ki Y (Kq Y Y (Ki Y (Kj Y Y Y (Kl Y (Ka Y (Kd (Km Y (fun g1 => om) (fun g1 => Kn (Kbc (Ka Y (Kdb (Kbc (Ka Y (Kd (Kt ?_))))))))))))))))))))))))))))))
  refine kLoop (α := { i : Nat // i ≤ z.rrs.length ∧ (List.range i).all (zAt z) = true ∧ (z.rrs.take i).all rrOk = true }) (fun y => ⟨tabSl [(1, .c (.ptr (rid 1 0) 1 0)), (3, .i (zTops (z.rrs.take y.1))), (4, .i y.1)], obTab 1 [(rid 1 0, ⟨1, 0, .box (z.cells.map .d)⟩)], []⟩) (fun y => z.rrs.length - y.1) ⟨0, by simp⟩ .normA ?_
  rintro ⟨i, hi, hz, hal⟩
  simp only
  have ht := zTops_le z.rrs i
  rcases Nat.lt_or_ge i z.rrs.length with hlt | hge
  · have hbi := hm _ (List.getElem_mem hlt)
    have n1 := hbi.n.len
    have n2 := hbi.n.mem
    have hts := zTops_succ z.rrs i hlt
    have hq := zAt_eq hlt
    have hcz := cmpN_zero z.rrs[i].name z.origin
    cases hk : rrOk z.rrs[i]
    · rw [show zoneOk z = false by unfold zoneOk; rw [all_no hlt hk]; simp]
      refine Kb (Kbc (Ka Y (Kf Y Y (Ke Y Y Y (Kq Y Y (Kj Y Y Y (Kd (Km Y (fun g0 => Kn (Kb (Kt (Kbc (Kf Y Y (Ke Y Y Y (Ka Y (kIadR Y Y Y om (Ky Y Y (kAlloc Y Y (Ko Y Y Y Y (Kdb (Kb (kRegD (Ke Y Y Y (Ks Y Y (Kp (ok_spec_RrOk _ pr) ⟨⟨⟨Y, Y, Y, Y, Y, Y, Y, trivial⟩, leb⟩, trivial⟩ Y Y Y Y Y (Kw Y Y (Ka Y (kGN Y (fun g1 => Kg Y (Kg Y (Kg Y (Kg Y (Ks Y Y (Kg Y (Kg Y (Kk Y (Ka Y (Ka Y (Kg Y (Kg Y (Kg Y (kGU Y (kGU Y (kGU Y (kGU Y (kGU Y (kGU Y (kGU Y (Ks Y Y (kGU Y (kGU Y (Kg Y (Kk Y (Ka Y (Ka Y (Kg Y (Kg Y (Kg Y (Ks Y Y (Kg Y (Kg Y (Kk Y (Ka Y (Kd (kH (kCondT Y (Kbc (Ka Y (Kd (Kr (Er (ra := [.one (.d _)]) rfl rfl))))))))))))))))))))))))))))))))))))))))))) (fun g1 => (by (simp [*] at g1))))))))))))))))))))))) (fun g0 => om)))))))))
    have kp : rrOk (z.rrs[((i : Int) - 1).toNat]'(by omega)) = true := by
      rcases Nat.eq_zero_or_pos i with h0 | h0
      · have e : ((i : Int) - 1).toNat = i := by omega
        simp only [e]; exact hk
      · have e : ((i : Int) - 1).toNat = i - 1 := by omega
        simp only [e]
        exact List.all_eq_true.1 hal _ (by rw [List.mem_take_iff_getElem]; exact ⟨i - 1, by omega, rfl⟩)
    refine Kb ?_
    refine Kbc (Ka Y (Kf Y Y (Ke Y Y Y (Kq Y Y (Kj Y Y Y (Kd (Km Y (fun g0 => Kn (Kb (Kt (Kbc (Kf Y Y (Ke Y Y Y (Ka Y (kIadR Y Y Y om (Ky Y Y (kAlloc Y Y (Ko Y Y Y Y (Kdb (Kb (kRegD (Ke Y Y Y (Ks Y Y (Kp (ok_spec_RrOk _ pr) ⟨⟨⟨Y, Y, Y, Y, Y, Y, Y, trivial⟩, leb⟩, trivial⟩ Y Y Y Y Y (Kw Y Y (Ka Y (kGN Y (fun g1 => (by (simp [*] at g1))) (fun g1 => Ki Y (Kf Y Y (Ki Y (Ke Y Y Y (Ki Y (Kf Y Y (Ki Y (Ke Y Y Y (Ks Y Y (Ki Y (Kp (ok_spec_l2under _ _ pr pr) ⟨⟨⟨Y, trivial⟩, leb⟩, ⟨⟨Y, trivial⟩, leb⟩, trivial⟩ Y Y Y Y Y (Ki Y (Kw Y Y (Kl Y (Ka Y (Ka Y (kGN Y (fun g2 => Kg Y (Kg Y (Kg Y (kGU Y (kGU Y (kGU Y (kGU Y (kGU Y (kGU Y (kGU Y (Ks Y Y (kGU Y (kGU Y (Kg Y (Kk Y (Ka Y (Ka Y (Kg Y (Kg Y (Kg Y (Ks Y Y (Kg Y (Kg Y (Kk Y (Ka Y (Kd (kH (kCondT Y (Kbc (Ka Y (Kd (Kr (Er (ra := [.one (.d _)]) rfl ?_))))))))))))))))))))))))))))))))) (fun g2 => Ki Y (Ka Y (Ki Y (Kj Y Y Y (Ki Y (Ka Y (kGP Y (fun g3 => Ki Y (Kf Y Y (Ki Y (Ke Y Y Y (Ki Y (Ka Y (Ki Y (kDif Y Y om (Ki Y (kIadT Y Y om (Ki Y (Ky Y Y (Ki Y (Ke Y Y Y (Ks Y Y (Ki Y (Kp (ok_spec_l3cmp _ _ pr pr pr pr) ⟨⟨⟨Y, Y, Y, Y, Y, Y, Y, trivial⟩, leb⟩, ⟨⟨Y, Y, Y, Y, Y, Y, Y, trivial⟩, leb⟩, trivial⟩ Y Y Y Y Y (Ki Y (Kj Y Y Y (Ki Y (Kk Y (Ka Y (Kl Y (Ka Y (Ka Y (kGP Y (fun g4 => Kg Y (Kg Y (Kg Y (Ks Y Y (Kg Y (Kg Y (Kk Y (Ka Y (Kd (kH (kCondT Y (Kbc (Ka Y (Kd (Kr (Er (ra := [.one (.d _)]) rfl ?_)))))))))))))))) (fun g4 => Ki Y (Kf Y Y (Ki Y (Ke Y Y Y (Ki Y (Ka Y (Ks Y Y (Ki Y (Kp (ok_spec_l5alone _ _ pr pr) ⟨Y, Y, trivial⟩ Y Y Y Y Y (Ki Y (Kw Y Y (Kl Y (Ka Y (Kd (kH (kCondN Y (fun g5 => Kbc (Ka Y (Kd (Kr (Er (ra := [.one (.d _)]) rfl ?_))))) (fun g5 => Kn (Kbc (Kf Y Y (Ke Y Y Y (Kj Y Y Y (Kd (Km Y (fun g6 => Kbc (Ka Y (kAdd Y Y om (Ka Y (Kdb (Kc (Kf Y Y (Ke Y Y Y (Kf Y Y (Ke Y Y Y (Kp (ok_spec_l2cmp _ _ pr pr) ⟨⟨⟨Y, trivial⟩, leb⟩, ⟨⟨Y, trivial⟩, leb⟩, trivial⟩ Y Y Y Y Y (Kj Y Y Y (Kd (kCondIN Y (fun g7 => Kbc (Ka Y (Kd (Kr (Er (ra := [.one (.d _)]) rfl ?_))))) (fun g7 => Kn (Kv (Kc (Ka Y (kAdd Y Y om (Ka Y (Kd ?_))))))))))))))))))))) (fun g6 => Kn (Kv (Kc (Ka Y (kAdd Y Y om (Ka Y (Kd ?_)))))))))))))))))))))))))))))))))))))))))))))))))))))))) (fun g3 => Kg Y (Kg Y (Kg Y (Kg Y (Kg Y (Kg Y (Kg Y (Ks Y Y (Kg Y (Kg Y (Ki Y (Kl Y (Ka Y (Kl Y (Ka Y (Ka Y (Ki Y (Kf Y Y (Ki Y (Ke Y Y Y (Ki Y (Ka Y (Ks Y Y (Ki Y (Kp (ok_spec_l5alone _ _ pr pr) ⟨Y, Y, trivial⟩ Y Y Y Y Y (Ki Y (Kw Y Y (Kl Y (Ka Y (Kd (kH (kCondN Y (fun g8 => Kbc (Ka Y (Kd (Kr (Er (ra := [.one (.d _)]) rfl ?_))))) (fun g8 => Kn (Kbc (Kf Y Y (Ke Y Y Y (Kj Y Y Y (Kd (Km Y (fun g9 => Kbc (Ka Y (kAdd Y Y om (Ka Y (Kdb (Kc (Kf Y Y (Ke Y Y Y (Kf Y Y (Ke Y Y Y (Kp (ok_spec_l2cmp _ _ pr pr) ⟨⟨⟨Y, trivial⟩, leb⟩, ⟨⟨Y, trivial⟩, leb⟩, trivial⟩ Y Y Y Y Y (Kj Y Y Y (Kd (kCondIN Y (fun g10 => Kbc (Ka Y (Kd (Kr (Er (ra := [.one (.d _)]) rfl ?_))))) (fun g10 => Kn (Kv (Kc (Ka Y (kAdd Y Y om (Ka Y (Kd ?_))))))))))))))))))))) (fun g9 => Kn (Kv (Kc (Ka Y (kAdd Y Y om (Ka Y (Kd ?_)))))))))))))))))))))))))))))))))))))))))))))))))))))))))))))))))))))))))))))))))))))))))) (fun g0 => om))))))))
    all_goals first
      | (refine congrArg (fun z : Bool => [RA.one (RV.d (DV.sc (Value.bool z)))]) (zone_no hlt (Bool.eq_false_iff.2 fun h => ?_)).symm
         rw [hq] at h
         simp only [Bool.and_eq_true, decide_eq_true_eq, Bool.or_eq_true, Bool.not_eq_true', beq_eq_false_iff_ne] at h
         obtain ⟨⟨⟨k1, k2⟩, k3⟩, k4⟩ := h
         first
           | (rw [prevB_pos (by omega) hlt (by omega), decide_eq_true_eq] at k2; omega)
           | (simp_all; done)
           | (simp_all; omega))
      | (have e1 : prevB z.rrs i = true := by
           first
             | (rw [prevB_pos (by omega) hlt (by omega)]; exact decide_eq_true (by omega))
             | (have : i = 0 := by omega
                subst this; exact prevB_zero)
         have e2 : aloneR z.rrs i = true := by
           first
             | assumption
             | (simp [*]; done)
             | (rw [decide_eq_true (by omega)]; simp)
         have e3 : (!(z.rrs[i].ty == 6) || decide (z.rrs[i].name = z.origin)) = true := by
           first
             | (simp [*]; done)
             | (simp_all; done)
         first
           | rw [if_pos (by assumption)] at hts
           | rw [if_neg (by assumption)] at hts
         have hz' : zAt z i = true := by rw [hq, e1, e2, e3]; simp [*]
         exact kInv ⟨⟨i + 1, by omega, range_all hz hz', all_step hlt hal hk⟩, by simp only; omega, .normA⟩)
  · rw [show zoneOk z = decide (zTops z.rrs = 1) by unfold zoneOk; rw [a1, decide_eq_true a2, show (List.range z.rrs.length).all (zAt z) = true by rw [show z.rrs.length = i by omega]; exact hz, show z.rrs.all rrOk = true by rw [show i = z.rrs.length by omega, List.take_length] at hal; exact hal]; rfl]
    refine Kb (Kbc (Ka Y (Kf Y Y (Ke Y Y Y (Kq Y Y (Kj Y Y Y (Kd (Km Y (fun g0 => om) (fun g0 => kExit (kExC (kExI (kExB (Kbc (Ka Y (Kj Y Y Y (Ka Y (Kd (Kr (Er (ra := [.one (.d _)]) rfl ?_)))))))))))))))))))
    rw [show i = z.rrs.length by omega, List.take_length]
    rfl

def c_spec_l2own : C := (.g (.o 0 1 (.box 1 (.t 0)) (.o 1 2 (.alloc 2 [(.n 1)]) .done)) (.g (.o 0 3 (.alloc 3 [(.n 1)]) .done) (.seq (.g (.o 0 4 (.mov (.i 0)) .done) (.block 0 (.loop (.seq (.g (.o 0 5 (.mov (.t 4)) (.o 1 6 (.fad (.t 1) 0) (.o 2 7 (.load none (.t 6)) (.o 3 8 (.len (.t 7)) (.o 4 9 (.bin .lss (.t 5) (.t 8)) .done))))) (.cond (.t 9) .skip (.exit 0))) (.seq (.block 1 (.reg true (.op 0 [] (some 12) none true (.fad (.t 3) 0) (.op 1 [] (some 13) none true (.load none (.t 12)) (.op 3 [] (some 15) none true (.fad (.t 1) 0) (.op 4 [] (some 16) none true (.load none (.t 15)) (.op 5 [] (some 17) none true (.mov (.t 4)) (.op 6 [] (some 18) none true (.iad 1 (.t 16) (.t 17)) (.op 7 [] (some 19) none true (.load none (.t 18)) (.o 2 14 (.lit 14 1 [(.v (.int .u8 0))] 0 []) (.op 8 [7, 4] (some 20) none false (.app 20 1 1 (.t 14) (.t 19)) (.op 9 [7, 4] (some 21) none false (.lit 21 1 [(.n 1)] 1 [(0, 1, (.t 20))]) (.op 10 [1, 7, 4] (some 22) none false (.app 22 1 24 (.t 13) (.t 21)) (.op 11 [] (some 23) none true (.fad (.t 3) 0) (.op 12 [1, 4, 7] none none false (.store none (.t 23) (.t 22)) .done))))))))))))))) (.reg false (.o 0 10 (.mov (.t 4)) (.o 1 11 (.bin .add (.t 10) (.i 1)) (.o 2 4 (.mov (.t 11)) .done))))))))) (.g (.o 0 24 (.load (some 1) (.t 3)) (.op 1 [] none none false (.store (some 1) (.t 2) (.t 24)) .done)) .ret))))
theorem dg_spec_l2own : Tryz.f140.body.bind (digC Tryz.prog Tryz.f140.ntmps []) = some c_spec_l2own := by kernel_rfl
theorem rs_spec_l2own : resSlots Tryz.prog Tryz.f140 = some [.m 2 (some 1)] := by kernel_rfl
theorem ok_spec_l2own (a : List (List UInt8)) (ha : a.length ≤ 4194304) (hb : ∀ b ∈ a, b.length ≤ 4194304) :
  FnOK Tryz.prog 140 [.agg [.d (encBB a)]] (fun ra _ => ra = [.agg [.own true (encBB a)]]) := by
 refine FnOK.ofK Tryz.func140 (by kernel_rfl) dg_spec_l2own rs_spec_l2own rfl rfl ?_
 delta c_spec_l2own T.o X.i C.g
 refine Kbc (kBox Y Y Y Y Y (kAlloc Y Y (Kdb (Kc (kAlloc Y Y (Kdb (Kbc (Ka Y (Kd (Kt ?_))))))))))
 refine kSub (Sub.nilBox (id := rid 3 0) (id2 := rid 5000 0) (j := 0) rfl rfl rfl (by decide) (by decide)) ?_
 refine kLoop (α := { i : Nat // i ≤ a.length })
  (fun y => ⟨tabSl [(1, .c (.ptr (rid 1 0) 1 0)), (2, .c (.ptr (rid 2 0) 1 0)), (3, .c (.ptr (rid 3 0) 1 0)), (4, .i y.1)],
   obTab 1 [(rid 1 0, ⟨1, 0, .box [.d (encBB a)]⟩), (rid 2 0, ⟨1, 0, .box [.nil 1]⟩), (rid 3 0, ⟨1, 0, .box [.arr (rid 5000 0) 1]⟩), (rid 5000 0, ⟨1, 0, .arr true (encBB (a.take y.1))⟩)], []⟩) (fun y => a.length - y.1) ⟨0, by simp⟩
  .normA ?_
 rintro ⟨i, hi⟩
 simp only
 have hlen : (a.take i).length = i := by simp; omega
 rcases Nat.lt_or_ge i a.length with hlt | hge
 ·have hbi := hb _ (List.getElem_mem hlt)
  refine Kb (Kbc (Ka Y (Kf Y Y (Ke Y Y Y (Kq Y Y (Kj Y Y Y (Kd (Km Y (fun g0 => Kn (Kb (Kt (kRegD (Kf Y Y (Ke Y Y Y (Kf Y Y (Ke Y Y Y (Ka Y (kIadR Y Y Y om (Ky Y Y (kLit Y Y Y Y (Kx Y Y (kAppN Y Y Y (src_encB _ _) rfl rfl rfl rfl om (Kx Y Y (kLit Y Y Y Y (Ks Y Y (kAppR1 Y Y Y Y Y Y Y Y om (Kf Y Y (Ks Y Y (Ko Y Y Y Y (Kd (kH (Kv (Kc (Ka Y (kAdd Y Y om (Ka Y (Kd ?_))))))))))))))))))))))))))))) (fun g0 => om)))))))))
  exact kInv ⟨⟨i + 1, by omega⟩, by simp only; omega, .normA⟩
 ·refine Kb (Kbc (Ka Y (Kf Y Y (Ke Y Y Y (Kq Y Y (Kj Y Y Y (Kd (Km Y (fun g0 => om) (fun g0 => kExit (kExC (kExI (kExB (Kbc (Ke Y Y Y (Ko Y Y Y Y (Kd (Kr (Er (ra := [.agg [(.own true _)]]) rfl ?_))))))))))))))))))
  rw [show i = a.length by omega, List.take_length]

def c_spec_l3own : C := (.g (.o 0 1 (.box 1 (.t 0)) (.o 1 2 (.alloc 2 [(.n 1), (.i 0), (.i 0), (.i 0), (.n 1), (.n 1), (.n 1)]) .done)) (.seq (.reg true (.op 0 [] (some 3) none true (.fad (.t 1) 0) (.op 1 [] (some 4) none true (.load (some 1) (.t 3)) (.op 3 [] (some 6) none true (.fad (.t 1) 1) (.op 4 [] (some 7) none true (.load none (.t 6)) (.op 5 [] (some 8) none true (.fad (.t 1) 2) (.op 6 [] (some 9) none true (.load none (.t 8)) (.op 7 [] (some 10) none true (.fad (.t 1) 3) (.op 8 [] (some 11) none true (.load none (.t 10)) (.op 9 [] (some 12) none true (.fad (.t 1) 4) (.op 10 [] (some 13) none true (.load (some 1) (.t 12)) (.op 13 [] (some 16) none true (.fad (.t 1) 5) (.op 14 [] (some 17) none true (.load none (.t 16)) (.op 17 [] (some 20) none true (.fad (.t 1) 6) (.op 18 [] (some 21) none true (.load none (.t 20)) (.alt (.op 2 [1] (some 5) none false (.call 5 140 [(.t 4)]) (.alt (.op 11 [10, 1] (some 14) none false (.call 14 140 [(.t 13)]) (.alt (.o 12 15 (.lit 15 1 [(.v (.int .u8 0))] 0 []) (.alt (.op 15 [14, 10, 1] (some 18) none false (.app 18 1 1 (.t 15) (.t 17)) (.o 16 19 (.lit 19 1 [(.i 0)] 0 []) (.op 19 [18, 14, 10, 1] (some 22) none false (.app 22 1 8 (.t 19) (.t 21)) (.op 20 [] (some 23) none true (.build [(.n 1), (.i 0), (.i 0), (.i 0), (.n 1), (.n 1), (.n 1)] [(0, 1, (.t 5)), (1, 1, (.t 7)), (2, 1, (.t 9)), (3, 1, (.t 11)), (4, 1, (.t 14)), (5, 1, (.t 18)), (6, 1, (.t 22))]) (.op 21 [1, 4, 6, 8, 10, 14, 18] none none false (.store (some 7) (.t 2) (.t 23)) .done))))) (.o 16 19 (.lit 19 1 [(.i 0)] 0 []) (.op 15 [14, 10, 1] (some 18) none false (.app 18 1 1 (.t 15) (.t 17)) (.op 19 [18, 14, 10, 1] (some 22) none false (.app 22 1 8 (.t 19) (.t 21)) (.op 20 [] (some 23) none true (.build [(.n 1), (.i 0), (.i 0), (.i 0), (.n 1), (.n 1), (.n 1)] [(0, 1, (.t 5)), (1, 1, (.t 7)), (2, 1, (.t 9)), (3, 1, (.t 11)), (4, 1, (.t 14)), (5, 1, (.t 18)), (6, 1, (.t 22))]) (.op 21 [1, 4, 6, 8, 10, 14, 18] none none false (.store (some 7) (.t 2) (.t 23)) .done))))))) (.o 16 19 (.lit 19 1 [(.i 0)] 0 []) (.o 12 15 (.lit 15 1 [(.v (.int .u8 0))] 0 []) (.op 15 [14, 10, 1] (some 18) none false (.app 18 1 1 (.t 15) (.t 17)) (.op 19 [18, 14, 10, 1] (some 22) none false (.app 22 1 8 (.t 19) (.t 21)) (.op 20 [] (some 23) none true (.build [(.n 1), (.i 0), (.i 0), (.i 0), (.n 1), (.n 1), (.n 1)] [(0, 1, (.t 5)), (1, 1, (.t 7)), (2, 1, (.t 9)), (3, 1, (.t 11)), (4, 1, (.t 14)), (5, 1, (.t 18)), (6, 1, (.t 22))]) (.op 21 [1, 4, 6, 8, 10, 14, 18] none none false (.store (some 7) (.t 2) (.t 23)) .done)))))))) (.alt (.o 12 15 (.lit 15 1 [(.v (.int .u8 0))] 0 []) (.alt (.op 11 [10, 1] (some 14) none false (.call 14 140 [(.t 13)]) (.alt (.op 15 [14, 10, 1] (some 18) none false (.app 18 1 1 (.t 15) (.t 17)) (.o 16 19 (.lit 19 1 [(.i 0)] 0 []) (.op 19 [18, 14, 10, 1] (some 22) none false (.app 22 1 8 (.t 19) (.t 21)) (.op 20 [] (some 23) none true (.build [(.n 1), (.i 0), (.i 0), (.i 0), (.n 1), (.n 1), (.n 1)] [(0, 1, (.t 5)), (1, 1, (.t 7)), (2, 1, (.t 9)), (3, 1, (.t 11)), (4, 1, (.t 14)), (5, 1, (.t 18)), (6, 1, (.t 22))]) (.op 21 [1, 4, 6, 8, 10, 14, 18] none none false (.store (some 7) (.t 2) (.t 23)) .done))))) (.o 16 19 (.lit 19 1 [(.i 0)] 0 []) (.op 15 [14, 10, 1] (some 18) none false (.app 18 1 1 (.t 15) (.t 17)) (.op 19 [18, 14, 10, 1] (some 22) none false (.app 22 1 8 (.t 19) (.t 21)) (.op 20 [] (some 23) none true (.build [(.n 1), (.i 0), (.i 0), (.i 0), (.n 1), (.n 1), (.n 1)] [(0, 1, (.t 5)), (1, 1, (.t 7)), (2, 1, (.t 9)), (3, 1, (.t 11)), (4, 1, (.t 14)), (5, 1, (.t 18)), (6, 1, (.t 22))]) (.op 21 [1, 4, 6, 8, 10, 14, 18] none none false (.store (some 7) (.t 2) (.t 23)) .done))))))) (.o 16 19 (.lit 19 1 [(.i 0)] 0 []) (.op 11 [10, 1] (some 14) none false (.call 14 140 [(.t 13)]) (.op 15 [14, 10, 1] (some 18) none false (.app 18 1 1 (.t 15) (.t 17)) (.op 19 [18, 14, 10, 1] (some 22) none false (.app 22 1 8 (.t 19) (.t 21)) (.op 20 [] (some 23) none true (.build [(.n 1), (.i 0), (.i 0), (.i 0), (.n 1), (.n 1), (.n 1)] [(0, 1, (.t 5)), (1, 1, (.t 7)), (2, 1, (.t 9)), (3, 1, (.t 11)), (4, 1, (.t 14)), (5, 1, (.t 18)), (6, 1, (.t 22))]) (.op 21 [1, 4, 6, 8, 10, 14, 18] none none false (.store (some 7) (.t 2) (.t 23)) .done)))))))) (.o 16 19 (.lit 19 1 [(.i 0)] 0 []) (.alt (.op 11 [10, 1] (some 14) none false (.call 14 140 [(.t 13)]) (.o 12 15 (.lit 15 1 [(.v (.int .u8 0))] 0 []) (.op 15 [14, 10, 1] (some 18) none false (.app 18 1 1 (.t 15) (.t 17)) (.op 19 [18, 14, 10, 1] (some 22) none false (.app 22 1 8 (.t 19) (.t 21)) (.op 20 [] (some 23) none true (.build [(.n 1), (.i 0), (.i 0), (.i 0), (.n 1), (.n 1), (.n 1)] [(0, 1, (.t 5)), (1, 1, (.t 7)), (2, 1, (.t 9)), (3, 1, (.t 11)), (4, 1, (.t 14)), (5, 1, (.t 18)), (6, 1, (.t 22))]) (.op 21 [1, 4, 6, 8, 10, 14, 18] none none false (.store (some 7) (.t 2) (.t 23)) .done)))))) (.o 12 15 (.lit 15 1 [(.v (.int .u8 0))] 0 []) (.op 11 [10, 1] (some 14) none false (.call 14 140 [(.t 13)]) (.op 15 [14, 10, 1] (some 18) none false (.app 18 1 1 (.t 15) (.t 17)) (.op 19 [18, 14, 10, 1] (some 22) none false (.app 22 1 8 (.t 19) (.t 21)) (.op 20 [] (some 23) none true (.build [(.n 1), (.i 0), (.i 0), (.i 0), (.n 1), (.n 1), (.n 1)] [(0, 1, (.t 5)), (1, 1, (.t 7)), (2, 1, (.t 9)), (3, 1, (.t 11)), (4, 1, (.t 14)), (5, 1, (.t 18)), (6, 1, (.t 22))]) (.op 21 [1, 4, 6, 8, 10, 14, 18] none none false (.store (some 7) (.t 2) (.t 23)) .done))))))))))) (.alt (.o 12 15 (.lit 15 1 [(.v (.int .u8 0))] 0 []) (.alt (.op 2 [1] (some 5) none false (.call 5 140 [(.t 4)]) (.alt (.op 11 [10, 1] (some 14) none false (.call 14 140 [(.t 13)]) (.alt (.op 15 [14, 10, 1] (some 18) none false (.app 18 1 1 (.t 15) (.t 17)) (.o 16 19 (.lit 19 1 [(.i 0)] 0 []) (.op 19 [18, 14, 10, 1] (some 22) none false (.app 22 1 8 (.t 19) (.t 21)) (.op 20 [] (some 23) none true (.build [(.n 1), (.i 0), (.i 0), (.i 0), (.n 1), (.n 1), (.n 1)] [(0, 1, (.t 5)), (1, 1, (.t 7)), (2, 1, (.t 9)), (3, 1, (.t 11)), (4, 1, (.t 14)), (5, 1, (.t 18)), (6, 1, (.t 22))]) (.op 21 [1, 4, 6, 8, 10, 14, 18] none none false (.store (some 7) (.t 2) (.t 23)) .done))))) (.o 16 19 (.lit 19 1 [(.i 0)] 0 []) (.op 15 [14, 10, 1] (some 18) none false (.app 18 1 1 (.t 15) (.t 17)) (.op 19 [18, 14, 10, 1] (some 22) none false (.app 22 1 8 (.t 19) (.t 21)) (.op 20 [] (some 23) none true (.build [(.n 1), (.i 0), (.i 0), (.i 0), (.n 1), (.n 1), (.n 1)] [(0, 1, (.t 5)), (1, 1, (.t 7)), (2, 1, (.t 9)), (3, 1, (.t 11)), (4, 1, (.t 14)), (5, 1, (.t 18)), (6, 1, (.t 22))]) (.op 21 [1, 4, 6, 8, 10, 14, 18] none none false (.store (some 7) (.t 2) (.t 23)) .done))))))) (.o 16 19 (.lit 19 1 [(.i 0)] 0 []) (.op 11 [10, 1] (some 14) none false (.call 14 140 [(.t 13)]) (.op 15 [14, 10, 1] (some 18) none false (.app 18 1 1 (.t 15) (.t 17)) (.op 19 [18, 14, 10, 1] (some 22) none false (.app 22 1 8 (.t 19) (.t 21)) (.op 20 [] (some 23) none true (.build [(.n 1), (.i 0), (.i 0), (.i 0), (.n 1), (.n 1), (.n 1)] [(0, 1, (.t 5)), (1, 1, (.t 7)), (2, 1, (.t 9)), (3, 1, (.t 11)), (4, 1, (.t 14)), (5, 1, (.t 18)), (6, 1, (.t 22))]) (.op 21 [1, 4, 6, 8, 10, 14, 18] none none false (.store (some 7) (.t 2) (.t 23)) .done)))))))) (.o 16 19 (.lit 19 1 [(.i 0)] 0 []) (.op 2 [1] (some 5) none false (.call 5 140 [(.t 4)]) (.op 11 [10, 1] (some 14) none false (.call 14 140 [(.t 13)]) (.op 15 [14, 10, 1] (some 18) none false (.app 18 1 1 (.t 15) (.t 17)) (.op 19 [18, 14, 10, 1] (some 22) none false (.app 22 1 8 (.t 19) (.t 21)) (.op 20 [] (some 23) none true (.build [(.n 1), (.i 0), (.i 0), (.i 0), (.n 1), (.n 1), (.n 1)] [(0, 1, (.t 5)), (1, 1, (.t 7)), (2, 1, (.t 9)), (3, 1, (.t 11)), (4, 1, (.t 14)), (5, 1, (.t 18)), (6, 1, (.t 22))]) (.op 21 [1, 4, 6, 8, 10, 14, 18] none none false (.store (some 7) (.t 2) (.t 23)) .done))))))))) (.o 16 19 (.lit 19 1 [(.i 0)] 0 []) (.alt (.op 2 [1] (some 5) none false (.call 5 140 [(.t 4)]) (.alt (.op 11 [10, 1] (some 14) none false (.call 14 140 [(.t 13)]) (.o 12 15 (.lit 15 1 [(.v (.int .u8 0))] 0 []) (.op 15 [14, 10, 1] (some 18) none false (.app 18 1 1 (.t 15) (.t 17)) (.op 19 [18, 14, 10, 1] (some 22) none false (.app 22 1 8 (.t 19) (.t 21)) (.op 20 [] (some 23) none true (.build [(.n 1), (.i 0), (.i 0), (.i 0), (.n 1), (.n 1), (.n 1)] [(0, 1, (.t 5)), (1, 1, (.t 7)), (2, 1, (.t 9)), (3, 1, (.t 11)), (4, 1, (.t 14)), (5, 1, (.t 18)), (6, 1, (.t 22))]) (.op 21 [1, 4, 6, 8, 10, 14, 18] none none false (.store (some 7) (.t 2) (.t 23)) .done)))))) (.o 12 15 (.lit 15 1 [(.v (.int .u8 0))] 0 []) (.op 11 [10, 1] (some 14) none false (.call 14 140 [(.t 13)]) (.op 15 [14, 10, 1] (some 18) none false (.app 18 1 1 (.t 15) (.t 17)) (.op 19 [18, 14, 10, 1] (some 22) none false (.app 22 1 8 (.t 19) (.t 21)) (.op 20 [] (some 23) none true (.build [(.n 1), (.i 0), (.i 0), (.i 0), (.n 1), (.n 1), (.n 1)] [(0, 1, (.t 5)), (1, 1, (.t 7)), (2, 1, (.t 9)), (3, 1, (.t 11)), (4, 1, (.t 14)), (5, 1, (.t 18)), (6, 1, (.t 22))]) (.op 21 [1, 4, 6, 8, 10, 14, 18] none none false (.store (some 7) (.t 2) (.t 23)) .done)))))))) (.o 12 15 (.lit 15 1 [(.v (.int .u8 0))] 0 []) (.op 2 [1] (some 5) none false (.call 5 140 [(.t 4)]) (.op 11 [10, 1] (some 14) none false (.call 14 140 [(.t 13)]) (.op 15 [14, 10, 1] (some 18) none false (.app 18 1 1 (.t 15) (.t 17)) (.op 19 [18, 14, 10, 1] (some 22) none false (.app 22 1 8 (.t 19) (.t 21)) (.op 20 [] (some 23) none true (.build [(.n 1), (.i 0), (.i 0), (.i 0), (.n 1), (.n 1), (.n 1)] [(0, 1, (.t 5)), (1, 1, (.t 7)), (2, 1, (.t 9)), (3, 1, (.t 11)), (4, 1, (.t 14)), (5, 1, (.t 18)), (6, 1, (.t 22))]) (.op 21 [1, 4, 6, 8, 10, 14, 18] none none false (.store (some 7) (.t 2) (.t 23)) .done)))))))))))))))))))))))))) .ret))
theorem dg_spec_l3own : Tryz.f75.body.bind (digC Tryz.prog Tryz.f75.ntmps []) = some c_spec_l3own := by kernel_rfl
theorem rs_spec_l3own : resSlots Tryz.prog Tryz.f75 = some [.m 2 (some 7)] := by kernel_rfl
theorem ok_spec_l3own (r : Rr) (hs : SmallR r) :
  FnOK Tryz.prog 75 [.agg (r.cells.map .d)] (fun ra _ => ra = [.agg [.own true (encBB r.name), .d (.sc (.int .i64 r.ty)), .d (.sc (.int .i64 r.ttl)), .d (.sc (.int .i64 r.addr)), .own true (encBB r.to), .own true (encB r.text), .own true (encI r.nums)]]) := by
 refine FnOK.ofK Tryz.func75 (by kernel_rfl) dg_spec_l3own rs_spec_l3own rfl rfl ?_
 delta c_spec_l3own T.o X.i C.g
 have n1 := hs.n.len
 have n2 := hs.n.mem
 have t1 := hs.t.len
 have t2 := hs.t.mem
 have x1 := hs.x
 have m1 := hs.m
 refine Kb (kCut ⟨tabSl [(1, .c (.ptr (rid 1 0) 1 0)), (2, .c (.ptr (rid 2 0) 1 0))], obTab 1 [(rid 1 0, ⟨1, 0, .box (r.cells.map .d)⟩), (rid 2 0, ⟨1, 0, .box [.nil 1, .d (.sc (.int .i64 0)), .d (.sc (.int .i64 0)), .d (.sc (.int .i64 0)), .nil 1, .nil 1, .nil 1]⟩)], []⟩ ?_ (fun x hc => ?_))
 case refine_2 => refine kReg (kBox rfl rfl rfl rfl rfl (kAlloc rfl rfl (kDone (hc _ .normA))))
 refine Kb (kCut ⟨tabSl [(2, .c (.ptr (rid 2 0) 1 0))], obTab 1 [(rid 2 0, ⟨1, 0, .box [.arr (rid 5 0) 1, .d (.sc (.int .i64 r.ty)), .d (.sc (.int .i64 r.ttl)), .d (.sc (.int .i64 r.addr)), .arr (rid 14 0) 1, .arr (rid 15 0) 1, .arr (rid 19 0) 1]⟩), (rid 5 0, ⟨1, 0, .arr true (encBB r.name)⟩), (rid 14 0, ⟨1, 0, .arr true (encBB r.to)⟩), (rid 15 0, ⟨1, 0, .arr true (encB r.text)⟩), (rid 19 0, ⟨1, 0, .arr true (encI r.nums)⟩)], []⟩ ?_ (fun x hc => ?_))
 case refine_2 => refine kRegD (kFadP rfl rfl (kLoadP rfl rfl rfl (kFadP rfl rfl (kLoadP rfl rfl rfl (kFadP rfl rfl (kLoadP rfl rfl rfl (kFadP rfl rfl (kLoadP rfl rfl rfl (kFadP rfl rfl (kLoadP rfl rfl rfl (kFadP rfl rfl (kLoadP rfl rfl rfl (kFadP rfl rfl (kLoadP rfl rfl rfl (kAlt (kRelK rfl rfl (kCall1 true (ok_spec_l2own _ pr pr) ⟨⟨⟨rfl, trivial⟩, leb⟩, trivial⟩ rfl rfl rfl (fun _ => (kAlt (kRelK rfl rfl (kCall1 true (ok_spec_l2own _ pr pr) ⟨⟨⟨rfl, trivial⟩, leb⟩, trivial⟩ rfl rfl rfl (fun _ => (kAlt (kLit rfl rfl rfl rfl (kAlt (kRelK rfl rfl (kAppN rfl rfl rfl (src_encB _ _) rfl rfl rfl rfl (by omega) (kLit rfl rfl rfl rfl (kRelK rfl rfl (kAppN rfl rfl rfl (src_encI _ _) rfl rfl rfl rfl (by omega) (kBuildG rfl (kRelF rfl rfl (kStoreP rfl rfl rfl rfl (kDone (kH (hc _ .normA))))))))))) (kLit rfl rfl rfl rfl (kRelK rfl rfl (kAppN rfl rfl rfl (src_encB _ _) rfl rfl rfl rfl (by omega) (kRelK rfl rfl (kAppN rfl rfl rfl (src_encI _ _) rfl rfl rfl rfl (by omega) (kBuildG rfl (kRelF rfl rfl (kStoreP rfl rfl rfl rfl (kDone (kH (hc _ .normA))))))))))))) (kLit rfl rfl rfl rfl (kLit rfl rfl rfl rfl (kRelK rfl rfl (kAppN rfl rfl rfl (src_encB _ _) rfl rfl rfl rfl (by omega) (kRelK rfl rfl (kAppN rfl rfl rfl (src_encI _ _) rfl rfl rfl rfl (by omega) (kBuildG rfl (kRelF rfl rfl (kStoreP rfl rfl rfl rfl (kDone (kH (hc _ .normA)))))))))))))))) (kAlt (kLit rfl rfl rfl rfl (kAlt (kRelK rfl rfl (kCall1 true (ok_spec_l2own _ pr pr) ⟨⟨⟨rfl, trivial⟩, leb⟩, trivial⟩ rfl rfl rfl (fun _ => (kAlt (kRelK rfl rfl (kAppN rfl rfl rfl (src_encB _ _) rfl rfl rfl rfl (by omega) (kLit rfl rfl rfl rfl (kRelK rfl rfl (kAppN rfl rfl rfl (src_encI _ _) rfl rfl rfl rfl (by omega) (kBuildG rfl (kRelF rfl rfl (kStoreP rfl rfl rfl rfl (kDone (kH (hc _ .normA))))))))))) (kLit rfl rfl rfl rfl (kRelK rfl rfl (kAppN rfl rfl rfl (src_encB _ _) rfl rfl rfl rfl (by omega) (kRelK rfl rfl (kAppN rfl rfl rfl (src_encI _ _) rfl rfl rfl rfl (by omega) (kBuildG rfl (kRelF rfl rfl (kStoreP rfl rfl rfl rfl (kDone (kH (hc _ .normA))))))))))))))) (kLit rfl rfl rfl rfl (kRelK rfl rfl (kCall1 true (ok_spec_l2own _ pr pr) ⟨⟨⟨rfl, trivial⟩, leb⟩, trivial⟩ rfl rfl rfl (fun _ => (kRelK rfl rfl (kAppN rfl rfl rfl (src_encB _ _) rfl rfl rfl rfl (by omega) (kRelK rfl rfl (kAppN rfl rfl rfl (src_encI _ _) rfl rfl rfl rfl (by omega) (kBuildG rfl (kRelF rfl rfl (kStoreP rfl rfl rfl rfl (kDone (kH (hc _ .normA)))))))))))))))) (kLit rfl rfl rfl rfl (kAlt (kRelK rfl rfl (kCall1 true (ok_spec_l2own _ pr pr) ⟨⟨⟨rfl, trivial⟩, leb⟩, trivial⟩ rfl rfl rfl (fun _ => (kLit rfl rfl rfl rfl (kRelK rfl rfl (kAppN rfl rfl rfl (src_encB _ _) rfl rfl rfl rfl (by omega) (kRelK rfl rfl (kAppN rfl rfl rfl (src_encI _ _) rfl rfl rfl rfl (by omega) (kBuildG rfl (kRelF rfl rfl (kStoreP rfl rfl rfl rfl (kDone (kH (hc _ .normA)))))))))))))) (kLit rfl rfl rfl rfl (kRelK rfl rfl (kCall1 true (ok_spec_l2own _ pr pr) ⟨⟨⟨rfl, trivial⟩, leb⟩, trivial⟩ rfl rfl rfl (fun _ => (kRelK rfl rfl (kAppN rfl rfl rfl (src_encB _ _) rfl rfl rfl rfl (by omega) (kRelK rfl rfl (kAppN rfl rfl rfl (src_encI _ _) rfl rfl rfl rfl (by omega) (kMem [(24576, ⟨2, 0, .arr true _⟩), (61440, ⟨2, 0, .arr true _⟩), (65536, ⟨3, 0, .arr true _⟩), (81920, ⟨3, 0, .arr true _⟩), (12288, ⟨1, 0, .box [.nil 1, .d _, .d _, .d _, .nil 1, .nil 1, .nil 1]⟩)] [(5, .g [.arr 24576 2]), (7, .c (.d _)), (9, .c (.d _)), (11, .c (.d _)), (14, .g [.arr 61440 2]), (18, .c (.arr 65536 3)), (22, .c (.arr 81920 3)), (2, .c (.ptr 12288 1 0))] [8192, 8192, 8192, 8192, 8192, 8192, 8192] ⟨rfl, rfl, rfl, rfl, rfl, trivial⟩ ⟨rfl, rfl, rfl, rfl, rfl, rfl, rfl, rfl, trivial⟩ rfl (kBuildG rfl (kMem [(12288, ⟨1, 0, .box [.nil 1, .d _, .d _, .d _, .nil 1, .nil 1, .nil 1]⟩), (24576, ⟨2, 0, .arr true _⟩), (61440, ⟨2, 0, .arr true _⟩), (65536, ⟨3, 0, .arr true _⟩), (81920, ⟨3, 0, .arr true _⟩)] [(2, .c (.ptr 12288 1 0)), (23, .g [.arr 24576 2, .d _, .d _, .d _, .arr 61440 2, .arr 65536 3, .arr 81920 3])] [8192, 8192, 8192, 8192, 8192, 8192, 8192] ⟨rfl, rfl, rfl, rfl, rfl, trivial⟩ ⟨rfl, rfl, trivial⟩ rfl (kRelF rfl rfl (kStoreP rfl rfl rfl rfl (kDone (kH (kMem [(12288, ⟨1, 0, .box [.arr 24576 2, .d _, .d _, .d _, .arr 61440 2, .arr 65536 3, .arr 81920 3]⟩), (24576, ⟨2, 0, .arr true _⟩), (61440, ⟨2, 0, .arr true _⟩), (65536, ⟨3, 0, .arr true _⟩), (81920, ⟨3, 0, .arr true _⟩)] [(2, .c (.ptr 12288 1 0))] [] ⟨rfl, rfl, rfl, rfl, rfl, trivial⟩ ⟨rfl, trivial⟩ rfl (hc _ .normA)))))))))))))))))))))))) (kAlt (kLit rfl rfl rfl rfl (kMem [(65536, ⟨2, 0, .arr true _⟩), (12288, ⟨1, 0, .box [.nil 1, .d _, .d _, .d _, .nil 1, .nil 1, .nil 1]⟩)] [(4, .g [.d _]), (13, .g [.d _]), (15, .c (.arr 65536 2)), (17, .c (.d _)), (21, .c (.d _)), (7, .c (.d _)), (9, .c (.d _)), (11, .c (.d _)), (2, .c (.ptr 12288 1 0))] [8192, 8192, 8192, 8192, 8192, 8192, 8192] ⟨rfl, rfl, trivial⟩ ⟨rfl, rfl, rfl, rfl, rfl, rfl, rfl, rfl, rfl, trivial⟩ rfl (kAlt (kRelK rfl rfl (kCall1 true (ok_spec_l2own _ pr pr) ⟨⟨⟨rfl, trivial⟩, leb⟩, trivial⟩ rfl rfl rfl (fun _ => (kAlt (kRelK rfl rfl (kCall1 true (ok_spec_l2own _ pr pr) ⟨⟨⟨rfl, trivial⟩, leb⟩, trivial⟩ rfl rfl rfl (fun _ => (kAlt (kRelK rfl rfl (kAppN rfl rfl rfl (src_encB _ _) rfl rfl rfl rfl (by omega) (kLit rfl rfl rfl rfl (kRelK rfl rfl (kAppN rfl rfl rfl (src_encI _ _) rfl rfl rfl rfl (by omega) (kBuildG rfl (kRelF rfl rfl (kStoreP rfl rfl rfl rfl (kDone (kH (hc _ .normA))))))))))) (kLit rfl rfl rfl rfl (kRelK rfl rfl (kAppN rfl rfl rfl (src_encB _ _) rfl rfl rfl rfl (by omega) (kRelK rfl rfl (kAppN rfl rfl rfl (src_encI _ _) rfl rfl rfl rfl (by omega) (kBuildG rfl (kRelF rfl rfl (kStoreP rfl rfl rfl rfl (kDone (kH (hc _ .normA))))))))))))))) (kLit rfl rfl rfl rfl (kRelK rfl rfl (kCall1 true (ok_spec_l2own _ pr pr) ⟨⟨⟨rfl, trivial⟩, leb⟩, trivial⟩ rfl rfl rfl (fun _ => (kRelK rfl rfl (kAppN rfl rfl rfl (src_encB _ _) rfl rfl rfl rfl (by omega) (kRelK rfl rfl (kAppN rfl rfl rfl (src_encI _ _) rfl rfl rfl rfl (by omega) (kBuildG rfl (kRelF rfl rfl (kStoreP rfl rfl rfl rfl (kDone (kH (hc _ .normA)))))))))))))))))) (kLit rfl rfl rfl rfl (kRelK rfl rfl (kCall1 true (ok_spec_l2own _ pr pr) ⟨⟨⟨rfl, trivial⟩, leb⟩, trivial⟩ rfl rfl rfl (fun _ => (kRelK rfl rfl (kCall1 true (ok_spec_l2own _ pr pr) ⟨⟨⟨rfl, trivial⟩, leb⟩, trivial⟩ rfl rfl rfl (fun _ => (kRelK rfl rfl (kAppN rfl rfl rfl (src_encB _ _) rfl rfl rfl rfl (by omega) (kRelK rfl rfl (kAppN rfl rfl rfl (src_encI _ _) rfl rfl rfl rfl (by omega) (kBuildG rfl (kRelF rfl rfl (kStoreP rfl rfl rfl rfl (kDone (kH (hc _ .normA)))))))))))))))))))) (kLit rfl rfl rfl rfl (kAlt (kRelK rfl rfl (kCall1 true (ok_spec_l2own _ pr pr) ⟨⟨⟨rfl, trivial⟩, leb⟩, trivial⟩ rfl rfl rfl (fun _ => (kAlt (kRelK rfl rfl (kCall1 true (ok_spec_l2own _ pr pr) ⟨⟨⟨rfl, trivial⟩, leb⟩, trivial⟩ rfl rfl rfl (fun _ => (kLit rfl rfl rfl rfl (kRelK rfl rfl (kAppN rfl rfl rfl (src_encB _ _) rfl rfl rfl rfl (by omega) (kRelK rfl rfl (kAppN rfl rfl rfl (src_encI _ _) rfl rfl rfl rfl (by omega) (kBuildG rfl (kRelF rfl rfl (kStoreP rfl rfl rfl rfl (kDone (kH (hc _ .normA)))))))))))))) (kLit rfl rfl rfl rfl (kRelK rfl rfl (kCall1 true (ok_spec_l2own _ pr pr) ⟨⟨⟨rfl, trivial⟩, leb⟩, trivial⟩ rfl rfl rfl (fun _ => (kRelK rfl rfl (kAppN rfl rfl rfl (src_encB _ _) rfl rfl rfl rfl (by omega) (kRelK rfl rfl (kAppN rfl rfl rfl (src_encI _ _) rfl rfl rfl rfl (by omega) (kBuildG rfl (kRelF rfl rfl (kStoreP rfl rfl rfl rfl (kDone (kH (hc _ .normA)))))))))))))))))) (kLit rfl rfl rfl rfl (kRelK rfl rfl (kCall1 true (ok_spec_l2own _ pr pr) ⟨⟨⟨rfl, trivial⟩, leb⟩, trivial⟩ rfl rfl rfl (fun _ => (kRelK rfl rfl (kCall1 true (ok_spec_l2own _ pr pr) ⟨⟨⟨rfl, trivial⟩, leb⟩, trivial⟩ rfl rfl rfl (fun _ => (kRelK rfl rfl (kAppN rfl rfl rfl (src_encB _ _) rfl rfl rfl rfl (by omega) (kRelK rfl rfl (kAppN rfl rfl rfl (src_encI _ _) rfl rfl rfl rfl (by omega) (kBuildG rfl (kRelF rfl rfl (kStoreP rfl rfl rfl rfl (kDone (kH (hc _ .normA)))))))))))))))))))))))))))))))))))
 refine (Kr (Er (ra := [.agg [(.own true _), (.d _), (.d _), (.d _), (.own true _), (.own true _), (.own true _)]]) rfl rfl))

def c_spec_l3ownAll : C := (.g (.o 0 2 (.mov (.n 7)) .done) (.g (.o 0 3 (.mov (.n 7)) .done) (.seq (.g (.o 0 4 (.mov (.i 0)) .done) (.block 0 (.loop (.seq (.g (.o 0 5 (.mov (.t 4)) (.o 1 6 (.mov (.t 0)) (.o 2 7 (.len (.t 6)) (.o 3 8 (.bin .lss (.t 5) (.t 7)) .done)))) (.cond (.t 8) .skip (.exit 0))) (.seq (.block 1 (.reg false (.o 0 11 (.mov (.t 3)) (.o 1 12 (.mov (.t 0)) (.o 2 13 (.mov (.t 4)) (.o 3 14 (.iad 7 (.t 12) (.t 13)) (.o 4 15 (.load (some 7) (.t 14)) (.o 5 16 (.call 16 75 [(.t 15)]) (.o 6 17 (.lit 17 7 [(.n 1), (.i 0), (.i 0), (.i 0), (.n 1), (.n 1), (.n 1)] 1 [(0, 7, (.t 16))]) (.o 7 18 (.app 18 7 120 (.t 11) (.t 17)) (.o 8 3 (.mov (.t 18)) .done))))))))))) (.reg false (.o 0 9 (.mov (.t 4)) (.o 1 10 (.bin .add (.t 9) (.i 1)) (.o 2 4 (.mov (.t 10)) .done))))))))) (.g (.o 0 19 (.mov (.t 3)) (.o 1 2 (.mov (.t 19)) .done)) .ret))))
theorem dg_spec_l3ownAll : Tryz.f141.body.bind (digC Tryz.prog Tryz.f141.ntmps []) = some c_spec_l3ownAll := by kernel_rfl
theorem rs_spec_l3ownAll : resSlots Tryz.prog Tryz.f141 = some [.s 2] := by kernel_rfl
theorem ok_spec_l3ownAll (l : List Rr) (hs : SmallRs l) :
  FnOK Tryz.prog 141 [.one (.d (encR l))] (fun ra _ => ra = [.one (.own true (encR l))]) := by
 refine FnOK.ofK Tryz.func141 (by kernel_rfl) dg_spec_l3ownAll rs_spec_l3ownAll rfl rfl ?_
 delta c_spec_l3ownAll T.o X.i C.g
 have h1 := hs.len
 refine Kbc (Ka Y (Kdb (Kc (Ka Y (Kdb (Kbc (Ka Y (Kd (Kt ?_)))))))))
 refine kSub (Sub.nilArr (j := 3) (id := rid 5000 0) (sz := 7) rfl (by decide)) ?_
 refine kLoop (α := { i : Nat // i ≤ l.length }) (fun y => ⟨tabSl [(0, .dv (encR l)), (3, .c (.arr (rid 5000 0) 1)), (4, .i y.1)], obTab 1 [(rid 5000 0, ⟨1, 0, .arr true (encR (l.take y.1))⟩)], []⟩) (fun y => l.length - y.1) ⟨0, by simp⟩ .normA ?_
 rintro ⟨i, hi⟩
 simp only
 have hlen : (l.take i).length = i := by simp; omega
 rcases Nat.lt_or_ge i l.length with hlt | hge
 ·have hbi := hs.mem _ (List.getElem_mem hlt)
  refine Kb (Kbc (Ka Y (Ka Y (Kq Y Y (Kj Y Y Y (Kd (Km Y (fun g0 => Kn (Kb (Kt (Kc (Ka Y (Ka Y (Ka Y (kIadR Y Y Y om (Ky Y Y (Ku true (ok_spec_l3own _ pr) ⟨⟨⟨Y, Y, Y, Y, Y, Y, Y, trivial⟩, leb⟩, trivial⟩ Y Y Y (fun _ => (kLit Y Y Y Y (kAppRec Y Y Y Y Y Y Y om (Ka Y (Kd (Kv (Kc (Ka Y (kAdd Y Y om (Ka Y (Kd ?_))))))))))))))))))))) (fun g0 => om))))))))
  exact kInv ⟨⟨i + 1, by omega⟩, by simp only; omega, .normA⟩
 ·refine Kb (Kbc (Ka Y (Ka Y (Kq Y Y (Kj Y Y Y (Kd (Km Y (fun g0 => om) (fun g0 => kExit (kExC (kExI (kExB (Kbc (Ka Y (Ka Y (Kd (Kr (Er (ra := [.one (.own true _)]) rfl ?_)))))))))))))))))
  rw [show i = l.length by omega, List.take_length]

def c_spec_l5own : C := (.g (.o 0 1 (.box 1 (.t 0)) (.o 1 2 (.alloc 2 [(.n 1), (.n 7)]) .done)) (.seq (.reg true (.op 0 [] (some 3) none true (.fad (.t 1) 0) (.op 1 [] (some 4) none true (.load (some 1) (.t 3)) (.op 3 [] (some 6) none true (.fad (.t 1) 1) (.op 4 [] (some 7) none true (.load none (.t 6)) (.op 2 [1] (some 5) none false (.call 5 140 [(.t 4)]) (.op 5 [4, 1] (some 8) none false (.call 8 141 [(.t 7)]) (.op 6 [] (some 9) none true (.build [(.n 1), (.n 7)] [(0, 1, (.t 5)), (1, 1, (.t 8))]) (.op 7 [1, 4] none none false (.store (some 2) (.t 2) (.t 9)) .done))))))))) .ret))
theorem dg_spec_l5own : Tryz.f56.body.bind (digC Tryz.prog Tryz.f56.ntmps []) = some c_spec_l5own := by kernel_rfl
theorem rs_spec_l5own : resSlots Tryz.prog Tryz.f56 = some [.m 2 (some 2)] := by kernel_rfl
theorem ok_spec_l5own (z : Zone) (hs : SmallZ z) :
  FnOK Tryz.prog 56 [.agg (z.cells.map .d)] (fun ra _ => ra = [.agg [.own true (encBB z.origin), .own true (encR z.rrs)]]) := by
 refine FnOK.ofK Tryz.func56 (by kernel_rfl) dg_spec_l5own rs_spec_l5own rfl rfl ?_
 delta c_spec_l5own T.o X.i C.g
 have o1 := hs.o.len
 have o2 := hs.o.mem
 have h1 := hs.r
 refine Kbc (kBox Y Y Y Y Y (kAlloc Y Y (Kdb (kRegD (Kf Y Y (Ke Y Y Y (Kf Y Y (Ke Y Y Y (Kx Y Y (Ku true (ok_spec_l2own _ pr pr) ⟨⟨⟨Y, trivial⟩, leb⟩, trivial⟩ Y Y Y (fun _ => (Ks Y Y (Ku true (ok_spec_l3ownAll _ pr) ⟨Y, trivial⟩ Y Y Y (fun _ => (kBuildG Y (Ks Y Y (Ko Y Y Y Y (Kd (kH (Kr (Er (ra := [.agg [(.own true _), (.own true _)]]) rfl rfl)))))))))))))))))))))

def c_spec_ZoneNew : C := (.g (.o 0 2 (.box 2 (.t 0)) (.o 1 4 (.alloc 4 [(.n 1), (.n 7)]) (.o 2 5 (.mov (.v (.bool false))) .done))) (.g (.o 0 7 (.load (some 1) (.t 2)) (.o 1 8 (.load (some 1) (.t 2)) (.o 2 9 (.load (some 1) (.t 2)) (.o 3 10 (.mov (.t 1)) (.o 4 11 (.lit 11 1 [(.i 0)] 2 [(0, 1, (.t 10)), (1, 1, (.i 60))]) (.o 5 12 (.build [(.n 1), (.i 0), (.i 0), (.i 0), (.n 1), (.n 1), (.n 1)] [(0, 1, (.t 8)), (1, 1, (.i 6)), (2, 1, (.i 60)), (4, 1, (.t 9)), (6, 1, (.t 11))]) (.o 6 13 (.lit 13 7 [(.n 1), (.i 0), (.i 0), (.i 0), (.n 1), (.n 1), (.n 1)] 1 [(0, 7, (.t 12))]) (.o 7 14 (.build [(.n 1), (.n 7)] [(0, 1, (.t 7)), (1, 1, (.t 13))]) (.o 8 6 (.alloc 6 [(.n 1), (.n 7)]) (.op 9 [] none none false (.store (some 2) (.t 6) (.t 14)) .done)))))))))) (.seq (.g (.o 0 15 (.load (some 2) (.t 6)) (.o 1 16 (.call 16 21 [(.t 15)]) (.o 2 17 (.un .not (.t 16)) .done))) (.cond (.t 17) (.g (.o 0 18 (.build [(.n 1), (.n 7)] []) (.op 1 [] none none false (.store (some 2) (.t 4) (.t 18)) (.o 2 5 (.mov (.v (.bool false))) .done))) .ret) .skip)) (.g (.o 0 19 (.load (some 2) (.t 6)) (.o 1 20 (.call 20 56 [(.t 19)]) (.op 2 [] none none false (.store (some 2) (.t 4) (.t 20)) (.o 3 5 (.mov (.v (.bool true))) .done)))) .ret))))
theorem dg_spec_ZoneNew : Tryz.f233.body.bind (digC Tryz.prog Tryz.f233.ntmps []) = some c_spec_ZoneNew := by kernel_rfl
theorem rs_spec_ZoneNew : resSlots Tryz.prog Tryz.f233 = some [.m 4 (some 2), .s 5] := by kernel_rfl
theorem ok_spec_ZoneNew (o : List (List UInt8)) (s : Int) (ho : SmallBB o) :
  FnOK Tryz.prog 233 [.agg [.d (encBB o)], .one (.d (.sc (.int .i64 s)))] (fun ra _ => ra = [.agg [.own true (encBB (zoneNewN o s).origin), .own true (encR (zoneNewN o s).rrs)], .one (.d (.sc (.bool (zoneOk (newZ o s)))))]) := by
 refine FnOK.ofK Tryz.func233 (by kernel_rfl) dg_spec_ZoneNew rs_spec_ZoneNew rfl rfl ?_
 delta c_spec_ZoneNew T.o X.i C.g
 have hs := SmallZ.top s ho
 refine Kb (kCut ⟨tabSl [(1, .i s), (2, .c (.ptr (rid 2 0) 1 0)), (4, .c (.ptr (rid 4 0) 1 0)), (5, .b false)], obTab 1 [(rid 2 0, ⟨1, 0, .box [.d (encBB o)]⟩), (rid 4 0, ⟨1, 0, .box [.nil 1, .nil 7]⟩)], []⟩ ?_ (fun x hc => ?_))
 case refine_2 => refine kReg (kBox rfl rfl rfl rfl rfl (kAlloc rfl rfl (kMovC rfl (kDone (hc _ .normA)))))
 refine Kb (kCut ⟨tabSl [(4, .c (.ptr (rid 4 0) 1 0)), (5, .b false), (6, .c (.ptr (rid 6 0) 1 0))], obTab 1 [(rid 4 0, ⟨1, 0, .box [.nil 1, .nil 7]⟩), (rid 6 0, ⟨1, 0, .box [.d (encBB o), .arr (rid 13 0) 1]⟩), (rid 13 0, ⟨1, 0, .arr false (encR [topR o s])⟩)], []⟩ ?_ (fun x hc => ?_))
 case refine_2 => refine kReg (kLoadP rfl rfl rfl (kLoadP rfl rfl rfl (kLoadP rfl rfl rfl (kMovC rfl (kLit rfl rfl rfl rfl (kBuildG rfl (kLit rfl rfl rfl rfl (kBuildG rfl (kAlloc rfl rfl (kStoreP rfl rfl rfl rfl (kDone (hc _ .normA))))))))))))
 refine Kb (Kbc (Ke Y Y Y ?_))
 refine Kp (ok_spec_ZoneOk (newZ o s) hs) ⟨⟨⟨Y, Y, trivial⟩, leb⟩, trivial⟩ Y Y Y Y Y ?_
 cases hok : zoneOk (newZ o s)
 ·rw [show zoneNewN o s = zeroZ by unfold zoneNewN; rw [hok]; rfl]
  refine Kw Y Y (Kd (kCondT Y (Kbc (kBuildG Y (Ko Y Y Y Y (Ka Y (Kd (Kr (Er (ra := [.agg [(.own true _), (.own true _)], .one (.d _)]) rfl rfl)))))))))
 ·rw [show zoneNewN o s = newZ o s by unfold zoneNewN; rw [hok]; rfl]
  refine Kw Y Y (Kd (kCondF Y (Kn (Kbc (Ke Y Y Y ?_)))))
  refine Ku true (ok_spec_l5own (newZ o s) hs) ⟨⟨⟨Y, Y, trivial⟩, leb⟩, trivial⟩ Y Y Y (fun _ => ?_)
  refine (Ko Y Y Y Y (Ka Y (Kd (Kr (Er (ra := [.agg [(.own true _), (.own true _)], .one (.d _)]) rfl rfl)))))

def c_spec_l5add : C := (.g (.o 0 2 (.box 2 (.t 0)) (.o 1 3 (.box 3 (.t 1)) (.o 2 4 (.alloc 4 [(.n 1), (.n 7)]) .done))) (.g (.o 0 10 (.fad (.t 2) 0) (.o 1 11 (.load (some 1) (.t 10)) (.o 2 12 (.build [(.n 1), (.n 7)] [(0, 1, (.t 11))]) (.o 3 5 (.alloc 5 [(.n 1), (.n 7)]) (.op 4 [] none none false (.store (some 2) (.t 5) (.t 12)) .done))))) (.g (.o 0 6 (.mov (.v (.bool false))) .done) (.seq (.g (.o 0 7 (.mov (.i 0)) .done) (.block 0 (.loop (.seq (.g (.o 0 13 (.mov (.t 7)) (.o 1 14 (.fad (.t 2) 1) (.o 2 15 (.load none (.t 14)) (.o 3 16 (.len (.t 15)) (.o 4 17 (.bin .lss (.t 13) (.t 16)) .done))))) (.cond (.t 17) .skip (.exit 0))) (.seq (.block 1 (.g (.o 0 20 (.fad (.t 2) 1) (.o 1 21 (.load none (.t 20)) (.o 2 22 (.mov (.t 7)) (.o 3 23 (.iad 7 (.t 21) (.t 22)) (.o 4 24 (.load (some 7) (.t 23)) (.o 5 8 (.alloc 8 [(.n 1), (.i 0), (.i 0), (.i 0), (.n 1), (.n 1), (.n 1)]) (.op 6 [] none none false (.store (some 7) (.t 8) (.t 24)) .done))))))) (.seq (.g (.o 0 25 (.fad (.t 8) 0) (.o 1 26 (.load (some 1) (.t 25)) (.o 2 27 (.fad (.t 3) 0) (.o 3 28 (.load (some 1) (.t 27)) (.o 4 29 (.call 29 82 [(.t 26), (.t 28)]) (.o 5 30 (.bin .eql (.t 29) (.i 0)) (.o 6 31 (.mov (.t 30)) (.op 7 [] (some 32) (some (31, true)) false (.fad (.t 8) 1) (.op 8 [] (some 33) (some (31, true)) false (.load none (.t 32)) (.op 9 [] (some 34) (some (31, true)) false (.fad (.t 3) 1) (.op 10 [] (some 35) (some (31, true)) false (.load none (.t 34)) (.op 11 [] (some 36) (some (31, true)) false (.bin .eql (.t 33) (.t 35)) (.o 12 37 (.pick (.t 31) (.t 36) (.v (.bool false))) .done))))))))))))) (.cond (.t 37) (.reg false (.o 0 38 (.fad (.t 3) 2) (.o 1 39 (.load none (.t 38)) (.o 2 40 (.fad (.t 8) 2) (.op 3 [] none none false (.store none (.t 40) (.t 39)) .done))))) .skip)) (.g (.o 0 41 (.load (some 7) (.t 3)) (.o 1 42 (.load (some 7) (.t 8)) (.o 2 43 (.call 43 80 [(.t 41), (.t 42)]) (.o 3 9 (.mov (.t 43)) .done)))) (.seq (.g (.o 0 44 (.mov (.t 6)) (.o 1 45 (.un .not (.t 44)) (.o 2 46 (.mov (.t 45)) (.op 3 [] (some 47) (some (46, true)) false (.mov (.t 9)) (.op 4 [] (some 48) (some (46, true)) false (.bin .leq (.t 47) (.i 0)) (.o 5 49 (.pick (.t 46) (.t 48) (.v (.bool false))) .done)))))) (.cond (.t 49) (.g (.o 0 50 (.fad (.t 5) 1) (.o 1 51 (.load none (.t 50)) (.o 2 52 (.load (some 7) (.t 3)) (.o 3 53 (.lit 53 7 [(.n 1), (.i 0), (.i 0), (.i 0), (.n 1), (.n 1), (.n 1)] 1 [(0, 7, (.t 52))]) (.o 4 54 (.app 54 7 120 (.t 51) (.t 53)) (.o 5 55 (.fad (.t 5) 1) (.op 6 [] none none false (.store none (.t 55) (.t 54)) .done))))))) (.reg false (.o 0 6 (.mov (.v (.bool true))) .done))) .skip)) (.g (.o 0 56 (.mov (.t 9)) (.o 1 57 (.bin .neq (.t 56) (.i 0)) .done)) (.cond (.t 57) (.reg false (.o 0 58 (.fad (.t 5) 1) (.o 1 59 (.load none (.t 58)) (.o 2 60 (.load (some 7) (.t 8)) (.o 3 61 (.lit 61 7 [(.n 1), (.i 0), (.i 0), (.i 0), (.n 1), (.n 1), (.n 1)] 1 [(0, 7, (.t 60))]) (.o 4 62 (.app 62 7 120 (.t 59) (.t 61)) (.o 5 63 (.fad (.t 5) 1) (.op 6 [] none none false (.store none (.t 63) (.t 62)) .done)))))))) .skip))))))) (.reg false (.o 0 18 (.mov (.t 7)) (.o 1 19 (.bin .add (.t 18) (.i 1)) (.o 2 7 (.mov (.t 19)) .done))))))))) (.seq (.g (.o 0 64 (.mov (.t 6)) (.o 1 65 (.un .not (.t 64)) .done)) (.cond (.t 65) (.reg false (.o 0 66 (.fad (.t 5) 1) (.o 1 67 (.load none (.t 66)) (.o 2 68 (.load (some 7) (.t 3)) (.o 3 69 (.lit 69 7 [(.n 1), (.i 0), (.i 0), (.i 0), (.n 1), (.n 1), (.n 1)] 1 [(0, 7, (.t 68))]) (.o 4 70 (.app 70 7 120 (.t 67) (.t 69)) (.o 5 71 (.fad (.t 5) 1) (.op 6 [] none none false (.store none (.t 71) (.t 70)) .done)))))))) .skip)) (.g (.o 0 72 (.load (some 2) (.t 5)) (.op 1 [] none none false (.store (some 2) (.t 4) (.t 72)) .done)) .ret))))))
theorem dg_spec_l5add : Tryz.f55.body.bind (digC Tryz.prog Tryz.f55.ntmps []) = some c_spec_l5add := by kernel_rfl
theorem rs_spec_l5add : resSlots Tryz.prog Tryz.f55 = some [.m 4 (some 2)] := by kernel_rfl
theorem ok_spec_l5add (z : Zone) (r : Rr) (hs : SmallZ z) (hr : SmallR r) (ho : rrOk r = true) (hm : ∀ x ∈ z.rrs, rrOk x = true) (hl : z.rrs.length ≤ 1000000) :
  FnOK Tryz.prog 55 [.agg (z.cells.map .d), .agg (r.cells.map .d)] (fun ra _ => ra = [.agg [.d (encBB z.origin), .d (encR (addL z.rrs r))]]) := by
 refine FnOK.ofK Tryz.func55 (by kernel_rfl) dg_spec_l5add rs_spec_l5add rfl rfl ?_
 delta c_spec_l5add T.o X.i C.g
 have r1 := hr.n.len
 refine Kbc (kBox Y Y Y Y Y (kBox Y Y Y Y Y (kAlloc Y Y (Kdb (Kc (Kf Y Y (Ke Y Y Y (kBuildG Y (kAlloc Y Y (Ko Y Y Y Y (Kdb (Kc (Ka Y (Kdb (Kbc (Ka Y (Kd (Kt ?_))))))))))))))))))
 refine kSub (Sub.nilBox (id := rid 5 0) (id2 := rid 5000 0) (j := 1) rfl rfl rfl (by decide) (by decide)) ?_
 refine kLoop (α := { i : Nat // i ≤ z.rrs.length }) (fun y => ⟨tabSl [(2, .c (.ptr (rid 2 0) 1 0)), (3, .c (.ptr (rid 3 0) 1 0)), (4, .c (.ptr (rid 4 0) 1 0)), (5, .c (.ptr (rid 5 0) 1 0)), (6, .b (addAt (z.rrs.take y.1) r).2), (7, .i y.1)], obTab 1 [(rid 2 0, ⟨1, 0, .box (z.cells.map .d)⟩), (rid 3 0, ⟨1, 0, .box (r.cells.map .d)⟩), (rid 4 0, ⟨1, 0, .box [.nil 1, .nil 7]⟩), (rid 5 0, ⟨1, 0, .box [.d (encBB z.origin), .arr (rid 5000 0) 1]⟩), (rid 5000 0, ⟨1, 0, .arr false (encR (addAt (z.rrs.take y.1) r).1)⟩)], []⟩) (fun y => z.rrs.length - y.1) ⟨0, by simp⟩ .normA ?_
 rintro ⟨i, hi⟩
 simp only
 have hle := addAt_len z.rrs r i
 rcases Nat.lt_or_ge i z.rrs.length with hlt | hge
 ·have hbi := hs.r.mem _ (List.getElem_mem hlt)
  have hok := hm _ (List.getElem_mem hlt)
  have n1 := hbi.n.len
  have hst := addAt_succ z.rrs r i hlt
  have hsm := ttlR_small (r := r) hbi
  have hok2 := ttlR_ok ho hok
  have hct := cmpR_ttl r z.rrs[i]
  revert hst hle
  generalize addAt (z.rrs.take i) r = S
  obtain ⟨L, p⟩ := S
  intro hle hst
  simp only at hle hst ⊢
  generalize hrow : z.rrs[i] = x at *
  by_cases e1 : x.name = r.name ∧ x.ty = r.ty
  ·have ht : ttlR r x = (⟨x.name, x.ty, r.ttl, x.addr, x.to, x.text, x.nums⟩ : Rr) := by unfold ttlR; rw [if_pos e1]
   obtain ⟨e2, e3⟩ := e1
   have e4 : cmpN x.name r.name = 0 := (cmpN_iff _ _).2 e2
   rw [ht] at hsm hok2 hct
   have ok3 := ok_spec_l3cmp r (⟨x.name, x.ty, r.ttl, x.addr, x.to, x.text, x.nums⟩ : Rr) hr hsm ho hok2
   rw [hct] at ok3
   cases p
   ·rcases Int.lt_trichotomy (cmpR r x) 0 with hc | hc | hc
    ·have hs2 : addAt (z.rrs.take (i + 1)) r = (L ++ [r] ++ [(⟨x.name, x.ty, r.ttl, x.addr, x.to, x.text, x.nums⟩ : Rr)], true) := by
      rw [hst]
      have c1 : decide (cmpR r x ≤ 0) = true := by exact decide_eq_true (by omega)
      unfold addSt
      simp only [ht, c1]
      rw [if_neg (by omega), if_pos ⟨trivial, by omega⟩]
      rfl
     refine Kb (Kbc (Ka Y (Kf Y Y (Ke Y Y Y (Kq Y Y (Kj Y Y Y (Kd (Km Y (fun g0 => Kn (Kb (Kt (Kbc (Kf Y Y (Ke Y Y Y (Ka Y (kIadRW Y Y Y prl hrow (Ky Y Y (kAlloc Y Y (Ko Y Y Y Y (Kdb (Kbc (Kf Y Y (Ke Y Y Y (Kf Y Y (Ke Y Y Y (Kp (ok_spec_l2cmp _ _ pry pry) ⟨⟨⟨Y, trivial⟩, leb⟩, ⟨⟨Y, trivial⟩, leb⟩, trivial⟩ Y Y Y Y Y (Kj Y Y Y (Ka Y (kGP Y (fun g1 => (Ki Y (Kf Y Y (Ki Y (Ke Y Y Y (Ki Y (Kf Y Y (Ki Y (Ke Y Y Y (Ki Y (Kj Y Y Y (Kk Y (Ka Y (Kd (Km Y (fun g2 => Kc (Kf Y Y (Ke Y Y Y (Kf Y Y (Ko Y Y Y Y (Kdb (Kc (Ke Y Y Y (Ke Y Y Y ?_))))))))) (fun g2 => om)))))))))))))))) (fun g1 => om)))))))))))))))))))))) (fun g0 => om)))))))))
     refine Kp ok3 ⟨⟨⟨Y, Y, Y, Y, Y, Y, Y, trivial⟩, leb⟩, ⟨⟨Y, Y, Y, Y, Y, Y, Y, trivial⟩, leb⟩, trivial⟩ Y Y Y Y Y ?_
     refine Ka Y (Kdb (Kbc (Ka Y (Kw Y Y (Ka Y (Ki Y (Ka Y (Ki Y (Kj Y Y Y (Kk Y (Ka Y (Kd (Km Y (fun g0 => Kbc (Kf Y Y (Ke Y Y Y (Ke Y Y Y (kLitG Y Y Y Y (kAppRec Y Y Y Y Y Y Y prl (Kf Y Y (Ko Y Y Y Y (Kd (Kc (Ka Y (Kdb (Kc (Ka Y (Kj Y Y Y (Kd (kCondIN Y (fun g1 => Kc (Kf Y Y (Ke Y Y Y (Ke Y Y Y (kLitG Y Y Y Y (kAppRec Y Y Y Y Y Y Y prl (Kf Y Y (Ko Y Y Y Y (Kd (Kv (Kc (Ka Y (kAdd Y Y om (Ka Y (Kd ?_))))))))))))))) (fun g1 => om)))))))))))))))))) (fun g0 => om))))))))))))))
     refine kInv ⟨⟨i + 1, by omega⟩, by simp only; omega, ?_⟩
     simp only [hs2]
     exact .normA
    ·have hs2 : addAt (z.rrs.take (i + 1)) r = (L ++ [r], true) := by
      rw [hst]
      have c1 : decide (cmpR r x ≤ 0) = true := by exact decide_eq_true (by omega)
      unfold addSt
      simp only [ht, c1]
      rw [if_pos hc, if_pos ⟨trivial, by omega⟩]
      rfl
     refine Kb (Kbc (Ka Y (Kf Y Y (Ke Y Y Y (Kq Y Y (Kj Y Y Y (Kd (Km Y (fun g0 => Kn (Kb (Kt (Kbc (Kf Y Y (Ke Y Y Y (Ka Y (kIadRW Y Y Y prl hrow (Ky Y Y (kAlloc Y Y (Ko Y Y Y Y (Kdb (Kbc (Kf Y Y (Ke Y Y Y (Kf Y Y (Ke Y Y Y (Kp (ok_spec_l2cmp _ _ pry pry) ⟨⟨⟨Y, trivial⟩, leb⟩, ⟨⟨Y, trivial⟩, leb⟩, trivial⟩ Y Y Y Y Y (Kj Y Y Y (Ka Y (kGP Y (fun g1 => (Ki Y (Kf Y Y (Ki Y (Ke Y Y Y (Ki Y (Kf Y Y (Ki Y (Ke Y Y Y (Ki Y (Kj Y Y Y (Kk Y (Ka Y (Kd (Km Y (fun g2 => Kc (Kf Y Y (Ke Y Y Y (Kf Y Y (Ko Y Y Y Y (Kdb (Kc (Ke Y Y Y (Ke Y Y Y ?_))))))))) (fun g2 => om)))))))))))))))) (fun g1 => om)))))))))))))))))))))) (fun g0 => om)))))))))
     refine Kp ok3 ⟨⟨⟨Y, Y, Y, Y, Y, Y, Y, trivial⟩, leb⟩, ⟨⟨Y, Y, Y, Y, Y, Y, Y, trivial⟩, leb⟩, trivial⟩ Y Y Y Y Y ?_
     refine Ka Y (Kdb (Kbc (Ka Y (Kw Y Y (Ka Y (Ki Y (Ka Y (Ki Y (Kj Y Y Y (Kk Y (Ka Y (Kd (Km Y (fun g0 => Kbc (Kf Y Y (Ke Y Y Y (Ke Y Y Y (kLitG Y Y Y Y (kAppRec Y Y Y Y Y Y Y prl (Kf Y Y (Ko Y Y Y Y (Kd (Kc (Ka Y (Kdb (Kc (Ka Y (Kj Y Y Y (Kd (kCondIN Y (fun g1 => om) (fun g1 => Kn (Kv (Kc (Ka Y (kAdd Y Y om (Ka Y (Kd ?_)))))))))))))))))))))))) (fun g0 => om))))))))))))))
     refine kInv ⟨⟨i + 1, by omega⟩, by simp only; omega, ?_⟩
     simp only [hs2]
     exact .normA
    ·have hs2 : addAt (z.rrs.take (i + 1)) r = (L ++ [(⟨x.name, x.ty, r.ttl, x.addr, x.to, x.text, x.nums⟩ : Rr)], false) := by
      rw [hst]
      have c1 : decide (cmpR r x ≤ 0) = false := by exact decide_eq_false (by omega)
      unfold addSt
      simp only [ht, c1]
      rw [if_neg (by omega), if_neg (fun h => by omega)]
      rfl
     refine Kb (Kbc (Ka Y (Kf Y Y (Ke Y Y Y (Kq Y Y (Kj Y Y Y (Kd (Km Y (fun g0 => Kn (Kb (Kt (Kbc (Kf Y Y (Ke Y Y Y (Ka Y (kIadRW Y Y Y prl hrow (Ky Y Y (kAlloc Y Y (Ko Y Y Y Y (Kdb (Kbc (Kf Y Y (Ke Y Y Y (Kf Y Y (Ke Y Y Y (Kp (ok_spec_l2cmp _ _ pry pry) ⟨⟨⟨Y, trivial⟩, leb⟩, ⟨⟨Y, trivial⟩, leb⟩, trivial⟩ Y Y Y Y Y (Kj Y Y Y (Ka Y (kGP Y (fun g1 => (Ki Y (Kf Y Y (Ki Y (Ke Y Y Y (Ki Y (Kf Y Y (Ki Y (Ke Y Y Y (Ki Y (Kj Y Y Y (Kk Y (Ka Y (Kd (Km Y (fun g2 => Kc (Kf Y Y (Ke Y Y Y (Kf Y Y (Ko Y Y Y Y (Kdb (Kc (Ke Y Y Y (Ke Y Y Y ?_))))))))) (fun g2 => om)))))))))))))))) (fun g1 => om)))))))))))))))))))))) (fun g0 => om)))))))))
     refine Kp ok3 ⟨⟨⟨Y, Y, Y, Y, Y, Y, Y, trivial⟩, leb⟩, ⟨⟨Y, Y, Y, Y, Y, Y, Y, trivial⟩, leb⟩, trivial⟩ Y Y Y Y Y ?_
     refine Ka Y (Kdb (Kbc (Ka Y (Kw Y Y (Ka Y (Ki Y (Ka Y (Ki Y (Kj Y Y Y (Kk Y (Ka Y (Kd (Km Y (fun g0 => om) (fun g0 => Kn (Kbc (Ka Y (Kj Y Y Y (Kd (kCondIN Y (fun g1 => Kc (Kf Y Y (Ke Y Y Y (Ke Y Y Y (kLitG Y Y Y Y (kAppRec Y Y Y Y Y Y Y prl (Kf Y Y (Ko Y Y Y Y (Kd (Kv (Kc (Ka Y (kAdd Y Y om (Ka Y (Kd ?_))))))))))))))) (fun g1 => om))))))))))))))))))))
     refine kInv ⟨⟨i + 1, by omega⟩, by simp only; omega, ?_⟩
     simp only [hs2]
     exact .normA
   ·rcases Int.lt_trichotomy (cmpR r x) 0 with hc | hc | hc
    ·have hs2 : addAt (z.rrs.take (i + 1)) r = (L ++ [(⟨x.name, x.ty, r.ttl, x.addr, x.to, x.text, x.nums⟩ : Rr)], true) := by
      rw [hst]
      have c1 : decide (cmpR r x ≤ 0) = true := by exact decide_eq_true (by omega)
      unfold addSt
      simp only [ht, c1]
      rw [if_neg (by omega), if_neg (fun h => by cases h.1)]
      rfl
     refine Kb (Kbc (Ka Y (Kf Y Y (Ke Y Y Y (Kq Y Y (Kj Y Y Y (Kd (Km Y (fun g0 => Kn (Kb (Kt (Kbc (Kf Y Y (Ke Y Y Y (Ka Y (kIadRW Y Y Y prl hrow (Ky Y Y (kAlloc Y Y (Ko Y Y Y Y (Kdb (Kbc (Kf Y Y (Ke Y Y Y (Kf Y Y (Ke Y Y Y (Kp (ok_spec_l2cmp _ _ pry pry) ⟨⟨⟨Y, trivial⟩, leb⟩, ⟨⟨Y, trivial⟩, leb⟩, trivial⟩ Y Y Y Y Y (Kj Y Y Y (Ka Y (kGP Y (fun g1 => (Ki Y (Kf Y Y (Ki Y (Ke Y Y Y (Ki Y (Kf Y Y (Ki Y (Ke Y Y Y (Ki Y (Kj Y Y Y (Kk Y (Ka Y (Kd (Km Y (fun g2 => Kc (Kf Y Y (Ke Y Y Y (Kf Y Y (Ko Y Y Y Y (Kdb (Kc (Ke Y Y Y (Ke Y Y Y ?_))))))))) (fun g2 => om)))))))))))))))) (fun g1 => om)))))))))))))))))))))) (fun g0 => om)))))))))
     refine Kp ok3 ⟨⟨⟨Y, Y, Y, Y, Y, Y, Y, trivial⟩, leb⟩, ⟨⟨Y, Y, Y, Y, Y, Y, Y, trivial⟩, leb⟩, trivial⟩ Y Y Y Y Y ?_
     refine Ka Y (Kdb (Kbc (Ka Y (Kw Y Y (Ka Y (Kg Y (Kg Y (Kl Y (Ka Y (Kd (kCondF Y (Kn (Kbc (Ka Y (Kj Y Y Y (Kd (kCondIN Y (fun g0 => Kc (Kf Y Y (Ke Y Y Y (Ke Y Y Y (kLitG Y Y Y Y (kAppRec Y Y Y Y Y Y Y prl (Kf Y Y (Ko Y Y Y Y (Kd (Kv (Kc (Ka Y (kAdd Y Y om (Ka Y (Kd ?_))))))))))))))) (fun g0 => om))))))))))))))))))
     refine kInv ⟨⟨i + 1, by omega⟩, by simp only; omega, ?_⟩
     simp only [hs2]
     exact .normA
    ·have hs2 : addAt (z.rrs.take (i + 1)) r = (L, true) := by
      rw [hst]
      have c1 : decide (cmpR r x ≤ 0) = true := by exact decide_eq_true (by omega)
      unfold addSt
      simp only [ht, c1]
      rw [if_pos hc, if_neg (fun h => by cases h.1)]
      rfl
     refine Kb (Kbc (Ka Y (Kf Y Y (Ke Y Y Y (Kq Y Y (Kj Y Y Y (Kd (Km Y (fun g0 => Kn (Kb (Kt (Kbc (Kf Y Y (Ke Y Y Y (Ka Y (kIadRW Y Y Y prl hrow (Ky Y Y (kAlloc Y Y (Ko Y Y Y Y (Kdb (Kbc (Kf Y Y (Ke Y Y Y (Kf Y Y (Ke Y Y Y (Kp (ok_spec_l2cmp _ _ pry pry) ⟨⟨⟨Y, trivial⟩, leb⟩, ⟨⟨Y, trivial⟩, leb⟩, trivial⟩ Y Y Y Y Y (Kj Y Y Y (Ka Y (kGP Y (fun g1 => (Ki Y (Kf Y Y (Ki Y (Ke Y Y Y (Ki Y (Kf Y Y (Ki Y (Ke Y Y Y (Ki Y (Kj Y Y Y (Kk Y (Ka Y (Kd (Km Y (fun g2 => Kc (Kf Y Y (Ke Y Y Y (Kf Y Y (Ko Y Y Y Y (Kdb (Kc (Ke Y Y Y (Ke Y Y Y ?_))))))))) (fun g2 => om)))))))))))))))) (fun g1 => om)))))))))))))))))))))) (fun g0 => om)))))))))
     refine Kp ok3 ⟨⟨⟨Y, Y, Y, Y, Y, Y, Y, trivial⟩, leb⟩, ⟨⟨Y, Y, Y, Y, Y, Y, Y, trivial⟩, leb⟩, trivial⟩ Y Y Y Y Y ?_
     refine Ka Y (Kdb (Kbc (Ka Y (Kw Y Y (Ka Y (Kg Y (Kg Y (Kl Y (Ka Y (Kd (kCondF Y (Kn (Kbc (Ka Y (Kj Y Y Y (Kd (kCondIN Y (fun g0 => om) (fun g0 => Kn (Kv (Kc (Ka Y (kAdd Y Y om (Ka Y (Kd ?_))))))))))))))))))))))))
     refine kInv ⟨⟨i + 1, by omega⟩, by simp only; omega, ?_⟩
     simp only [hs2]
     exact .normA
    ·have hs2 : addAt (z.rrs.take (i + 1)) r = (L ++ [(⟨x.name, x.ty, r.ttl, x.addr, x.to, x.text, x.nums⟩ : Rr)], true) := by
      rw [hst]
      have c1 : decide (cmpR r x ≤ 0) = false := by exact decide_eq_false (by omega)
      unfold addSt
      simp only [ht, c1]
      rw [if_neg (by omega), if_neg (fun h => by omega)]
      rfl
     refine Kb (Kbc (Ka Y (Kf Y Y (Ke Y Y Y (Kq Y Y (Kj Y Y Y (Kd (Km Y (fun g0 => Kn (Kb (Kt (Kbc (Kf Y Y (Ke Y Y Y (Ka Y (kIadRW Y Y Y prl hrow (Ky Y Y (kAlloc Y Y (Ko Y Y Y Y (Kdb (Kbc (Kf Y Y (Ke Y Y Y (Kf Y Y (Ke Y Y Y (Kp (ok_spec_l2cmp _ _ pry pry) ⟨⟨⟨Y, trivial⟩, leb⟩, ⟨⟨Y, trivial⟩, leb⟩, trivial⟩ Y Y Y Y Y (Kj Y Y Y (Ka Y (kGP Y (fun g1 => (Ki Y (Kf Y Y (Ki Y (Ke Y Y Y (Ki Y (Kf Y Y (Ki Y (Ke Y Y Y (Ki Y (Kj Y Y Y (Kk Y (Ka Y (Kd (Km Y (fun g2 => Kc (Kf Y Y (Ke Y Y Y (Kf Y Y (Ko Y Y Y Y (Kdb (Kc (Ke Y Y Y (Ke Y Y Y ?_))))))))) (fun g2 => om)))))))))))))))) (fun g1 => om)))))))))))))))))))))) (fun g0 => om)))))))))
     refine Kp ok3 ⟨⟨⟨Y, Y, Y, Y, Y, Y, Y, trivial⟩, leb⟩, ⟨⟨Y, Y, Y, Y, Y, Y, Y, trivial⟩, leb⟩, trivial⟩ Y Y Y Y Y ?_
     refine Ka Y (Kdb (Kbc (Ka Y (Kw Y Y (Ka Y (Kg Y (Kg Y (Kl Y (Ka Y (Kd (kCondF Y (Kn (Kbc (Ka Y (Kj Y Y Y (Kd (kCondIN Y (fun g0 => Kc (Kf Y Y (Ke Y Y Y (Ke Y Y Y (kLitG Y Y Y Y (kAppRec Y Y Y Y Y Y Y prl (Kf Y Y (Ko Y Y Y Y (Kd (Kv (Kc (Ka Y (kAdd Y Y om (Ka Y (Kd ?_))))))))))))))) (fun g0 => om))))))))))))))))))
     refine kInv ⟨⟨i + 1, by omega⟩, by simp only; omega, ?_⟩
     simp only [hs2]
     exact .normA
  ·have ht : ttlR r x = x := by unfold ttlR; rw [if_neg e1]
   have e4 : ¬ (cmpN x.name r.name = 0 ∧ x.ty = r.ty) := fun h => e1 ⟨(cmpN_iff _ _).1 h.1, h.2⟩
   cases p
   ·rcases Int.lt_trichotomy (cmpR r x) 0 with hc | hc | hc
    ·have hs2 : addAt (z.rrs.take (i + 1)) r = (L ++ [r] ++ [x], true) := by
      rw [hst]
      have c1 : decide (cmpR r x ≤ 0) = true := by exact decide_eq_true (by omega)
      unfold addSt
      simp only [ht, c1]
      rw [if_neg (by omega), if_pos ⟨trivial, by omega⟩]
      rfl
     refine Kb (Kbc (Ka Y (Kf Y Y (Ke Y Y Y (Kq Y Y (Kj Y Y Y (Kd (Km Y (fun g0 => Kn (Kb (Kt (Kbc (Kf Y Y (Ke Y Y Y (Ka Y (kIadRW Y Y Y prl hrow (Ky Y Y (kAlloc Y Y (Ko Y Y Y Y (Kdb (Kbc (Kf Y Y (Ke Y Y Y (Kf Y Y (Ke Y Y Y (Kp (ok_spec_l2cmp _ _ pry pry) ⟨⟨⟨Y, trivial⟩, leb⟩, ⟨⟨Y, trivial⟩, leb⟩, trivial⟩ Y Y Y Y Y (Kj Y Y Y (Ka Y (kGP Y (fun g1 => (Ki Y (Kf Y Y (Ki Y (Ke Y Y Y (Ki Y (Kf Y Y (Ki Y (Ke Y Y Y (Ki Y (Kj Y Y Y (Kk Y (Ka Y (Kd (Km Y (fun g2 => om) (fun g2 => Kn (Kbc (Ke Y Y Y (Ke Y Y Y (Kp (ok_spec_l3cmp _ _ pry pry pry pry) ⟨⟨⟨Y, Y, Y, Y, Y, Y, Y, trivial⟩, leb⟩, ⟨⟨Y, Y, Y, Y, Y, Y, Y, trivial⟩, leb⟩, trivial⟩ Y Y Y Y Y (Ka Y (Kdb (Kbc (Ka Y (Kw Y Y (Ka Y (Ki Y (Ka Y (Ki Y (Kj Y Y Y (Kk Y (Ka Y (Kd (Km Y (fun g3 => Kbc (Kf Y Y (Ke Y Y Y (Ke Y Y Y (kLitG Y Y Y Y (kAppRec Y Y Y Y Y Y Y prl (Kf Y Y (Ko Y Y Y Y (Kd (Kc (Ka Y (Kdb (Kc (Ka Y (Kj Y Y Y (Kd (kCondIN Y (fun g4 => Kc (Kf Y Y (Ke Y Y Y (Ke Y Y Y (kLitG Y Y Y Y (kAppRec Y Y Y Y Y Y Y prl (Kf Y Y (Ko Y Y Y Y (Kd (Kv (Kc (Ka Y (kAdd Y Y om (Ka Y (Kd ?_))))))))))))))) (fun g4 => om)))))))))))))))))) (fun g3 => om))))))))))))))))))))))))))))))))))) (fun g1 => (Kg Y (Kg Y (Kg Y (Kg Y (Kg Y (Kl Y (Ka Y (Kd (kCondF Y (Kn (Kbc (Ke Y Y Y (Ke Y Y Y (Kp (ok_spec_l3cmp _ _ pry pry pry pry) ⟨⟨⟨Y, Y, Y, Y, Y, Y, Y, trivial⟩, leb⟩, ⟨⟨Y, Y, Y, Y, Y, Y, Y, trivial⟩, leb⟩, trivial⟩ Y Y Y Y Y (Ka Y (Kdb (Kbc (Ka Y (Kw Y Y (Ka Y (Ki Y (Ka Y (Ki Y (Kj Y Y Y (Kk Y (Ka Y (Kd (Km Y (fun g5 => Kbc (Kf Y Y (Ke Y Y Y (Ke Y Y Y (kLitG Y Y Y Y (kAppRec Y Y Y Y Y Y Y prl (Kf Y Y (Ko Y Y Y Y (Kd (Kc (Ka Y (Kdb (Kc (Ka Y (Kj Y Y Y (Kd (kCondIN Y (fun g6 => Kc (Kf Y Y (Ke Y Y Y (Ke Y Y Y (kLitG Y Y Y Y (kAppRec Y Y Y Y Y Y Y prl (Kf Y Y (Ko Y Y Y Y (Kd (Kv (Kc (Ka Y (kAdd Y Y om (Ka Y (Kd ?_))))))))))))))) (fun g6 => om)))))))))))))))))) (fun g5 => om))))))))))))))))))))))))))))))))))))))))))))))))))) (fun g0 => om)))))))))
     all_goals
      refine kInv ⟨⟨i + 1, by omega⟩, by simp only; omega, ?_⟩
      simp only [hs2]
      exact .normA
    ·have hs2 : addAt (z.rrs.take (i + 1)) r = (L ++ [r], true) := by
      rw [hst]
      have c1 : decide (cmpR r x ≤ 0) = true := by exact decide_eq_true (by omega)
      unfold addSt
      simp only [ht, c1]
      rw [if_pos hc, if_pos ⟨trivial, by omega⟩]
      rfl
     refine Kb (Kbc (Ka Y (Kf Y Y (Ke Y Y Y (Kq Y Y (Kj Y Y Y (Kd (Km Y (fun g0 => Kn (Kb (Kt (Kbc (Kf Y Y (Ke Y Y Y (Ka Y (kIadRW Y Y Y prl hrow (Ky Y Y (kAlloc Y Y (Ko Y Y Y Y (Kdb (Kbc (Kf Y Y (Ke Y Y Y (Kf Y Y (Ke Y Y Y (Kp (ok_spec_l2cmp _ _ pry pry) ⟨⟨⟨Y, trivial⟩, leb⟩, ⟨⟨Y, trivial⟩, leb⟩, trivial⟩ Y Y Y Y Y (Kj Y Y Y (Ka Y (kGP Y (fun g1 => (Ki Y (Kf Y Y (Ki Y (Ke Y Y Y (Ki Y (Kf Y Y (Ki Y (Ke Y Y Y (Ki Y (Kj Y Y Y (Kk Y (Ka Y (Kd (Km Y (fun g2 => om) (fun g2 => Kn (Kbc (Ke Y Y Y (Ke Y Y Y (Kp (ok_spec_l3cmp _ _ pry pry pry pry) ⟨⟨⟨Y, Y, Y, Y, Y, Y, Y, trivial⟩, leb⟩, ⟨⟨Y, Y, Y, Y, Y, Y, Y, trivial⟩, leb⟩, trivial⟩ Y Y Y Y Y (Ka Y (Kdb (Kbc (Ka Y (Kw Y Y (Ka Y (Ki Y (Ka Y (Ki Y (Kj Y Y Y (Kk Y (Ka Y (Kd (Km Y (fun g3 => Kbc (Kf Y Y (Ke Y Y Y (Ke Y Y Y (kLitG Y Y Y Y (kAppRec Y Y Y Y Y Y Y prl (Kf Y Y (Ko Y Y Y Y (Kd (Kc (Ka Y (Kdb (Kc (Ka Y (Kj Y Y Y (Kd (kCondIN Y (fun g4 => om) (fun g4 => Kn (Kv (Kc (Ka Y (kAdd Y Y om (Ka Y (Kd ?_)))))))))))))))))))))))) (fun g3 => om))))))))))))))))))))))))))))))))))) (fun g1 => (Kg Y (Kg Y (Kg Y (Kg Y (Kg Y (Kl Y (Ka Y (Kd (kCondF Y (Kn (Kbc (Ke Y Y Y (Ke Y Y Y (Kp (ok_spec_l3cmp _ _ pry pry pry pry) ⟨⟨⟨Y, Y, Y, Y, Y, Y, Y, trivial⟩, leb⟩, ⟨⟨Y, Y, Y, Y, Y, Y, Y, trivial⟩, leb⟩, trivial⟩ Y Y Y Y Y (Ka Y (Kdb (Kbc (Ka Y (Kw Y Y (Ka Y (Ki Y (Ka Y (Ki Y (Kj Y Y Y (Kk Y (Ka Y (Kd (Km Y (fun g5 => Kbc (Kf Y Y (Ke Y Y Y (Ke Y Y Y (kLitG Y Y Y Y (kAppRec Y Y Y Y Y Y Y prl (Kf Y Y (Ko Y Y Y Y (Kd (Kc (Ka Y (Kdb (Kc (Ka Y (Kj Y Y Y (Kd (kCondIN Y (fun g6 => om) (fun g6 => Kn (Kv (Kc (Ka Y (kAdd Y Y om (Ka Y (Kd ?_)))))))))))))))))))))))) (fun g5 => om))))))))))))))))))))))))))))))))))))))))))))))))))) (fun g0 => om)))))))))
     all_goals
      refine kInv ⟨⟨i + 1, by omega⟩, by simp only; omega, ?_⟩
      simp only [hs2]
      exact .normA
    ·have hs2 : addAt (z.rrs.take (i + 1)) r = (L ++ [x], false) := by
      rw [hst]
      have c1 : decide (cmpR r x ≤ 0) = false := by exact decide_eq_false (by omega)
      unfold addSt
      simp only [ht, c1]
      rw [if_neg (by omega), if_neg (fun h => by omega)]
      rfl
     refine Kb (Kbc (Ka Y (Kf Y Y (Ke Y Y Y (Kq Y Y (Kj Y Y Y (Kd (Km Y (fun g0 => Kn (Kb (Kt (Kbc (Kf Y Y (Ke Y Y Y (Ka Y (kIadRW Y Y Y prl hrow (Ky Y Y (kAlloc Y Y (Ko Y Y Y Y (Kdb (Kbc (Kf Y Y (Ke Y Y Y (Kf Y Y (Ke Y Y Y (Kp (ok_spec_l2cmp _ _ pry pry) ⟨⟨⟨Y, trivial⟩, leb⟩, ⟨⟨Y, trivial⟩, leb⟩, trivial⟩ Y Y Y Y Y (Kj Y Y Y (Ka Y (kGP Y (fun g1 => (Ki Y (Kf Y Y (Ki Y (Ke Y Y Y (Ki Y (Kf Y Y (Ki Y (Ke Y Y Y (Ki Y (Kj Y Y Y (Kk Y (Ka Y (Kd (Km Y (fun g2 => om) (fun g2 => Kn (Kbc (Ke Y Y Y (Ke Y Y Y (Kp (ok_spec_l3cmp _ _ pry pry pry pry) ⟨⟨⟨Y, Y, Y, Y, Y, Y, Y, trivial⟩, leb⟩, ⟨⟨Y, Y, Y, Y, Y, Y, Y, trivial⟩, leb⟩, trivial⟩ Y Y Y Y Y (Ka Y (Kdb (Kbc (Ka Y (Kw Y Y (Ka Y (Ki Y (Ka Y (Ki Y (Kj Y Y Y (Kk Y (Ka Y (Kd (Km Y (fun g3 => om) (fun g3 => Kn (Kbc (Ka Y (Kj Y Y Y (Kd (kCondIN Y (fun g4 => Kc (Kf Y Y (Ke Y Y Y (Ke Y Y Y (kLitG Y Y Y Y (kAppRec Y Y Y Y Y Y Y prl (Kf Y Y (Ko Y Y Y Y (Kd (Kv (Kc (Ka Y (kAdd Y Y om (Ka Y (Kd ?_))))))))))))))) (fun g4 => om))))))))))))))))))))))))))))))))))))))))) (fun g1 => (Kg Y (Kg Y (Kg Y (Kg Y (Kg Y (Kl Y (Ka Y (Kd (kCondF Y (Kn (Kbc (Ke Y Y Y (Ke Y Y Y (Kp (ok_spec_l3cmp _ _ pry pry pry pry) ⟨⟨⟨Y, Y, Y, Y, Y, Y, Y, trivial⟩, leb⟩, ⟨⟨Y, Y, Y, Y, Y, Y, Y, trivial⟩, leb⟩, trivial⟩ Y Y Y Y Y (Ka Y (Kdb (Kbc (Ka Y (Kw Y Y (Ka Y (Ki Y (Ka Y (Ki Y (Kj Y Y Y (Kk Y (Ka Y (Kd (Km Y (fun g5 => om) (fun g5 => Kn (Kbc (Ka Y (Kj Y Y Y (Kd (kCondIN Y (fun g6 => Kc (Kf Y Y (Ke Y Y Y (Ke Y Y Y (kLitG Y Y Y Y (kAppRec Y Y Y Y Y Y Y prl (Kf Y Y (Ko Y Y Y Y (Kd (Kv (Kc (Ka Y (kAdd Y Y om (Ka Y (Kd ?_))))))))))))))) (fun g6 => om))))))))))))))))))))))))))))))))))))))))))))))))))))))))) (fun g0 => om)))))))))
     all_goals
      refine kInv ⟨⟨i + 1, by omega⟩, by simp only; omega, ?_⟩
      simp only [hs2]
      exact .normA
   ·rcases Int.lt_trichotomy (cmpR r x) 0 with hc | hc | hc
    ·have hs2 : addAt (z.rrs.take (i + 1)) r = (L ++ [x], true) := by
      rw [hst]
      have c1 : decide (cmpR r x ≤ 0) = true := by exact decide_eq_true (by omega)
      unfold addSt
      simp only [ht, c1]
      rw [if_neg (by omega), if_neg (fun h => by cases h.1)]
      rfl
     refine Kb (Kbc (Ka Y (Kf Y Y (Ke Y Y Y (Kq Y Y (Kj Y Y Y (Kd (Km Y (fun g0 => Kn (Kb (Kt (Kbc (Kf Y Y (Ke Y Y Y (Ka Y (kIadRW Y Y Y prl hrow (Ky Y Y (kAlloc Y Y (Ko Y Y Y Y (Kdb (Kbc (Kf Y Y (Ke Y Y Y (Kf Y Y (Ke Y Y Y (Kp (ok_spec_l2cmp _ _ pry pry) ⟨⟨⟨Y, trivial⟩, leb⟩, ⟨⟨Y, trivial⟩, leb⟩, trivial⟩ Y Y Y Y Y (Kj Y Y Y (Ka Y (kGP Y (fun g1 => (Ki Y (Kf Y Y (Ki Y (Ke Y Y Y (Ki Y (Kf Y Y (Ki Y (Ke Y Y Y (Ki Y (Kj Y Y Y (Kk Y (Ka Y (Kd (Km Y (fun g2 => om) (fun g2 => Kn (Kbc (Ke Y Y Y (Ke Y Y Y (Kp (ok_spec_l3cmp _ _ pry pry pry pry) ⟨⟨⟨Y, Y, Y, Y, Y, Y, Y, trivial⟩, leb⟩, ⟨⟨Y, Y, Y, Y, Y, Y, Y, trivial⟩, leb⟩, trivial⟩ Y Y Y Y Y (Ka Y (Kdb (Kbc (Ka Y (Kw Y Y (Ka Y (Kg Y (Kg Y (Kl Y (Ka Y (Kd (kCondF Y (Kn (Kbc (Ka Y (Kj Y Y Y (Kd (kCondIN Y (fun g3 => Kc (Kf Y Y (Ke Y Y Y (Ke Y Y Y (kLitG Y Y Y Y (kAppRec Y Y Y Y Y Y Y prl (Kf Y Y (Ko Y Y Y Y (Kd (Kv (Kc (Ka Y (kAdd Y Y om (Ka Y (Kd ?_))))))))))))))) (fun g3 => om))))))))))))))))))))))))))))))))))))))) (fun g1 => (Kg Y (Kg Y (Kg Y (Kg Y (Kg Y (Kl Y (Ka Y (Kd (kCondF Y (Kn (Kbc (Ke Y Y Y (Ke Y Y Y (Kp (ok_spec_l3cmp _ _ pry pry pry pry) ⟨⟨⟨Y, Y, Y, Y, Y, Y, Y, trivial⟩, leb⟩, ⟨⟨Y, Y, Y, Y, Y, Y, Y, trivial⟩, leb⟩, trivial⟩ Y Y Y Y Y (Ka Y (Kdb (Kbc (Ka Y (Kw Y Y (Ka Y (Kg Y (Kg Y (Kl Y (Ka Y (Kd (kCondF Y (Kn (Kbc (Ka Y (Kj Y Y Y (Kd (kCondIN Y (fun g4 => Kc (Kf Y Y (Ke Y Y Y (Ke Y Y Y (kLitG Y Y Y Y (kAppRec Y Y Y Y Y Y Y prl (Kf Y Y (Ko Y Y Y Y (Kd (Kv (Kc (Ka Y (kAdd Y Y om (Ka Y (Kd ?_))))))))))))))) (fun g4 => om))))))))))))))))))))))))))))))))))))))))))))))))))))))) (fun g0 => om)))))))))
     all_goals
      refine kInv ⟨⟨i + 1, by omega⟩, by simp only; omega, ?_⟩
      simp only [hs2]
      exact .normA
    ·have hs2 : addAt (z.rrs.take (i + 1)) r = (L, true) := by
      rw [hst]
      have c1 : decide (cmpR r x ≤ 0) = true := by exact decide_eq_true (by omega)
      unfold addSt
      simp only [ht, c1]
      rw [if_pos hc, if_neg (fun h => by cases h.1)]
      rfl
     refine Kb (Kbc (Ka Y (Kf Y Y (Ke Y Y Y (Kq Y Y (Kj Y Y Y (Kd (Km Y (fun g0 => Kn (Kb (Kt (Kbc (Kf Y Y (Ke Y Y Y (Ka Y (kIadRW Y Y Y prl hrow (Ky Y Y (kAlloc Y Y (Ko Y Y Y Y (Kdb (Kbc (Kf Y Y (Ke Y Y Y (Kf Y Y (Ke Y Y Y (Kp (ok_spec_l2cmp _ _ pry pry) ⟨⟨⟨Y, trivial⟩, leb⟩, ⟨⟨Y, trivial⟩, leb⟩, trivial⟩ Y Y Y Y Y (Kj Y Y Y (Ka Y (kGP Y (fun g1 => (Ki Y (Kf Y Y (Ki Y (Ke Y Y Y (Ki Y (Kf Y Y (Ki Y (Ke Y Y Y (Ki Y (Kj Y Y Y (Kk Y (Ka Y (Kd (Km Y (fun g2 => om) (fun g2 => Kn (Kbc (Ke Y Y Y (Ke Y Y Y (Kp (ok_spec_l3cmp _ _ pry pry pry pry) ⟨⟨⟨Y, Y, Y, Y, Y, Y, Y, trivial⟩, leb⟩, ⟨⟨Y, Y, Y, Y, Y, Y, Y, trivial⟩, leb⟩, trivial⟩ Y Y Y Y Y (Ka Y (Kdb (Kbc (Ka Y (Kw Y Y (Ka Y (Kg Y (Kg Y (Kl Y (Ka Y (Kd (kCondF Y (Kn (Kbc (Ka Y (Kj Y Y Y (Kd (kCondIN Y (fun g3 => om) (fun g3 => Kn (Kv (Kc (Ka Y (kAdd Y Y om (Ka Y (Kd ?_))))))))))))))))))))))))))))))))))))))))))))) (fun g1 => (Kg Y (Kg Y (Kg Y (Kg Y (Kg Y (Kl Y (Ka Y (Kd (kCondF Y (Kn (Kbc (Ke Y Y Y (Ke Y Y Y (Kp (ok_spec_l3cmp _ _ pry pry pry pry) ⟨⟨⟨Y, Y, Y, Y, Y, Y, Y, trivial⟩, leb⟩, ⟨⟨Y, Y, Y, Y, Y, Y, Y, trivial⟩, leb⟩, trivial⟩ Y Y Y Y Y (Ka Y (Kdb (Kbc (Ka Y (Kw Y Y (Ka Y (Kg Y (Kg Y (Kl Y (Ka Y (Kd (kCondF Y (Kn (Kbc (Ka Y (Kj Y Y Y (Kd (kCondIN Y (fun g4 => om) (fun g4 => Kn (Kv (Kc (Ka Y (kAdd Y Y om (Ka Y (Kd ?_))))))))))))))))))))))))))))))))))))))))))))))))))))))))))))) (fun g0 => om)))))))))
     all_goals
      refine kInv ⟨⟨i + 1, by omega⟩, by simp only; omega, ?_⟩
      simp only [hs2]
      exact .normA
    ·have hs2 : addAt (z.rrs.take (i + 1)) r = (L ++ [x], true) := by
      rw [hst]
      have c1 : decide (cmpR r x ≤ 0) = false := by exact decide_eq_false (by omega)
      unfold addSt
      simp only [ht, c1]
      rw [if_neg (by omega), if_neg (fun h => by omega)]
      rfl
     refine Kb (Kbc (Ka Y (Kf Y Y (Ke Y Y Y (Kq Y Y (Kj Y Y Y (Kd (Km Y (fun g0 => Kn (Kb (Kt (Kbc (Kf Y Y (Ke Y Y Y (Ka Y (kIadRW Y Y Y prl hrow (Ky Y Y (kAlloc Y Y (Ko Y Y Y Y (Kdb (Kbc (Kf Y Y (Ke Y Y Y (Kf Y Y (Ke Y Y Y (Kp (ok_spec_l2cmp _ _ pry pry) ⟨⟨⟨Y, trivial⟩, leb⟩, ⟨⟨Y, trivial⟩, leb⟩, trivial⟩ Y Y Y Y Y (Kj Y Y Y (Ka Y (kGP Y (fun g1 => (Ki Y (Kf Y Y (Ki Y (Ke Y Y Y (Ki Y (Kf Y Y (Ki Y (Ke Y Y Y (Ki Y (Kj Y Y Y (Kk Y (Ka Y (Kd (Km Y (fun g2 => om) (fun g2 => Kn (Kbc (Ke Y Y Y (Ke Y Y Y (Kp (ok_spec_l3cmp _ _ pry pry pry pry) ⟨⟨⟨Y, Y, Y, Y, Y, Y, Y, trivial⟩, leb⟩, ⟨⟨Y, Y, Y, Y, Y, Y, Y, trivial⟩, leb⟩, trivial⟩ Y Y Y Y Y (Ka Y (Kdb (Kbc (Ka Y (Kw Y Y (Ka Y (Kg Y (Kg Y (Kl Y (Ka Y (Kd (kCondF Y (Kn (Kbc (Ka Y (Kj Y Y Y (Kd (kCondIN Y (fun g3 => Kc (Kf Y Y (Ke Y Y Y (Ke Y Y Y (kLitG Y Y Y Y (kAppRec Y Y Y Y Y Y Y prl (Kf Y Y (Ko Y Y Y Y (Kd (Kv (Kc (Ka Y (kAdd Y Y om (Ka Y (Kd ?_))))))))))))))) (fun g3 => om))))))))))))))))))))))))))))))))))))))) (fun g1 => (Kg Y (Kg Y (Kg Y (Kg Y (Kg Y (Kl Y (Ka Y (Kd (kCondF Y (Kn (Kbc (Ke Y Y Y (Ke Y Y Y (Kp (ok_spec_l3cmp _ _ pry pry pry pry) ⟨⟨⟨Y, Y, Y, Y, Y, Y, Y, trivial⟩, leb⟩, ⟨⟨Y, Y, Y, Y, Y, Y, Y, trivial⟩, leb⟩, trivial⟩ Y Y Y Y Y (Ka Y (Kdb (Kbc (Ka Y (Kw Y Y (Ka Y (Kg Y (Kg Y (Kl Y (Ka Y (Kd (kCondF Y (Kn (Kbc (Ka Y (Kj Y Y Y (Kd (kCondIN Y (fun g4 => Kc (Kf Y Y (Ke Y Y Y (Ke Y Y Y (kLitG Y Y Y Y (kAppRec Y Y Y Y Y Y Y prl (Kf Y Y (Ko Y Y Y Y (Kd (Kv (Kc (Ka Y (kAdd Y Y om (Ka Y (Kd ?_))))))))))))))) (fun g4 => om))))))))))))))))))))))))))))))))))))))))))))))))))))))) (fun g0 => om)))))))))
     all_goals
      refine kInv ⟨⟨i + 1, by omega⟩, by simp only; omega, ?_⟩
      simp only [hs2]
      exact .normA
 ·rw [show i = z.rrs.length by omega, List.take_length]
  have hle2 := addAt_len z.rrs r z.rrs.length
  rw [List.take_length] at hle2
  cases hp : (addAt z.rrs r).2
  ·rw [show addL z.rrs r = (addAt z.rrs r).1 ++ [r] by unfold addL; rw [hp]; rfl]
   refine Kb (Kbc (Ka Y (Kf Y Y (Ke Y Y Y (Kq Y Y (Kj Y Y Y (Kd (Km Y (fun g0 => om) (fun g0 => kExit (kExC (kExI (kExB (Kb (Kbc (Ka Y (Kw Y Y (Kd (kCondT Y (Kc (Kf Y Y (Ke Y Y Y (Ke Y Y Y (kLitG Y Y Y Y (kAppRec Y Y Y Y Y Y Y prl (Kf Y Y (Ko Y Y Y Y (Kdb (Kc (Ke Y Y Y (Ko Y Y Y Y (Kd (Kr (Er (ra := [.agg [(.d _), (.d _)]]) rfl rfl)))))))))))))))))))))))))))))))))
  ·rw [show addL z.rrs r = (addAt z.rrs r).1 by unfold addL; rw [hp]; rfl]
   refine Kb (Kbc (Ka Y (Kf Y Y (Ke Y Y Y (Kq Y Y (Kj Y Y Y (Kd (Km Y (fun g0 => om) (fun g0 => kExit (kExC (kExI (kExB (Kb (Kbc (Ka Y (Kw Y Y (Kd (kCondF Y (Kn (Kbc (Ke Y Y Y (Ko Y Y Y Y (Kd (Kr (Er (ra := [.agg [(.d _), (.d _)]]) rfl rfl)))))))))))))))))))))))))

def c_spec_Add : C := (.g (.o 0 2 (.box 2 (.t 0)) (.o 1 3 (.box 3 (.t 1)) (.o 2 4 (.alloc 4 [(.n 1), (.n 7)]) (.o 3 5 (.mov (.v (.bool false))) .done)))) (.seq (.g (.o 0 7 (.load (some 2) (.t 2)) (.o 1 8 (.call 8 21 [(.t 7)]) (.o 2 9 (.un .not (.t 8)) (.o 3 10 (.mov (.t 9)) (.op 4 [] (some 11) (some (10, false)) false (.load (some 7) (.t 3)) (.op 5 [] (some 12) (some (10, false)) false (.call 12 22 [(.t 11)]) (.op 6 [] (some 13) (some (10, false)) false (.un .not (.t 12)) (.o 7 14 (.pick (.t 10) (.v (.bool true)) (.t 13)) .done)))))))) (.cond (.t 14) (.g (.o 0 15 (.build [(.n 1), (.n 7)] []) (.op 1 [] none none false (.store (some 2) (.t 4) (.t 15)) (.o 2 5 (.mov (.v (.bool false))) .done))) .ret) .skip)) (.g (.o 0 16 (.load (some 2) (.t 2)) (.o 1 17 (.load (some 7) (.t 3)) (.o 2 18 (.call 18 55 [(.t 16), (.t 17)]) (.o 3 6 (.alloc 6 [(.n 1), (.n 7)]) (.op 4 [] none none false (.store (some 2) (.t 6) (.t 18)) .done))))) (.seq (.g (.o 0 19 (.load (some 2) (.t 6)) (.o 1 20 (.call 20 21 [(.t 19)]) (.o 2 21 (.un .not (.t 20)) .done))) (.cond (.t 21) (.g (.o 0 22 (.load (some 2) (.t 2)) (.o 1 23 (.call 23 56 [(.t 22)]) (.op 2 [] none none false (.store (some 2) (.t 4) (.t 23)) (.o 3 5 (.mov (.v (.bool false))) .done)))) .ret) .skip)) (.g (.o 0 24 (.load (some 2) (.t 6)) (.o 1 25 (.call 25 56 [(.t 24)]) (.op 2 [] none none false (.store (some 2) (.t 4) (.t 25)) (.o 3 5 (.mov (.v (.bool true))) .done)))) .ret)))))
theorem dg_spec_Add : Tryz.f11.body.bind (digC Tryz.prog Tryz.f11.ntmps []) = some c_spec_Add := by kernel_rfl
theorem rs_spec_Add : resSlots Tryz.prog Tryz.f11 = some [.m 4 (some 2), .s 5] := by kernel_rfl
theorem ok_spec_Add (z : Zone) (r : Rr) (hs : SmallZ z) (hr : SmallR r) :
  FnOK Tryz.prog 11 [.agg (z.cells.map .d), .agg (r.cells.map .d)] (fun ra _ => ra = [.agg [.own true (encBB (addN z r).origin), .own true (encR (addN z r).rrs)], .one (.d (.sc (.bool (addOk z r))))]) := by
 refine FnOK.ofK Tryz.func11 (by kernel_rfl) dg_spec_Add rs_spec_Add rfl rfl ?_
 delta c_spec_Add T.o X.i C.g
 cases a1 : zoneOk z
 ·rw [show addN z r = zeroZ by unfold addN; rw [a1]; rfl, show addOk z r = false by unfold addOk; rw [a1]; rfl]
  refine Kbc (kBox Y Y Y Y Y (kBox Y Y Y Y Y (kAlloc Y Y (Ka Y (Kdb (Kbc (Ke Y Y Y (Kp (ok_spec_ZoneOk _ pry) ⟨⟨⟨Y, Y, trivial⟩, leb⟩, trivial⟩ Y Y Y Y Y (Kw Y Y (Ka Y (kGN Y (fun g0 => Kg Y (Kg Y (Kg Y (Kk Y (Ka Y (Kd (kCondT Y (Kbc (kBuildG Y (Ko Y Y Y Y (Ka Y (Kd (Kr (Er (ra := [.agg [(.own true _), (.own true _)], .one (.d _)]) rfl rfl)))))))))))))) (fun g0 => (by (simp [*] at g0))))))))))))))
 cases a2 : rrOk r
 ·rw [show addN z r = zeroZ by unfold addN; rw [a1, a2]; rfl, show addOk z r = false by unfold addOk; rw [a1, a2]; rfl]
  refine Kbc (kBox Y Y Y Y Y (kBox Y Y Y Y Y (kAlloc Y Y (Ka Y (Kdb (Kbc (Ke Y Y Y (Kp (ok_spec_ZoneOk _ pry) ⟨⟨⟨Y, Y, trivial⟩, leb⟩, trivial⟩ Y Y Y Y Y (Kw Y Y (Ka Y (kGN Y (fun g0 => (by (simp [*] at g0))) (fun g0 => Ki Y (Ke Y Y Y (Ki Y (Kp (ok_spec_RrOk _ pry) ⟨⟨⟨Y, Y, Y, Y, Y, Y, Y, trivial⟩, leb⟩, trivial⟩ Y Y Y Y Y (Ki Y (Kw Y Y (Kl Y (Ka Y (Kd (kCondN Y (fun g1 => Kbc (kBuildG Y (Ko Y Y Y Y (Ka Y (Kd (Kr (Er (ra := [.agg [(.own true _), (.own true _)], .one (.d _)]) rfl rfl))))))) (fun g1 => (by (simp [*] at g1))))))))))))))))))))))))
 have hm := zone_rrs a1
 have hp := zoneOk_pos a1
 have hl : z.rrs.length ≤ 1000000 := by omega
 have hz2 := addZ_small a1 a2
 have ok1 := ok_spec_ZoneOk (addZ z r) hz2
 have ok2 := ok_spec_l5own (addZ z r) hz2
 refine Kbc (kBox Y Y Y Y Y (kBox Y Y Y Y Y (kAlloc Y Y (Ka Y (Kdb (Kbc (Ke Y Y Y (Kp (ok_spec_ZoneOk _ pry) ⟨⟨⟨Y, Y, trivial⟩, leb⟩, trivial⟩ Y Y Y Y Y (Kw Y Y (Ka Y (kGN Y (fun g0 => (by (simp [*] at g0))) (fun g0 => Ki Y (Ke Y Y Y (Ki Y (Kp (ok_spec_RrOk _ pry) ⟨⟨⟨Y, Y, Y, Y, Y, Y, Y, trivial⟩, leb⟩, trivial⟩ Y Y Y Y Y (Ki Y (Kw Y Y (Kl Y (Ka Y (Kd (kCondN Y (fun g1 => (by (simp [*] at g1))) (fun g1 => Kn (Kbc (Ke Y Y Y (Ke Y Y Y (kCallD2 (ok_spec_l5add _ _ pry pry pry pry pry) ⟨⟨⟨Y, Y, trivial⟩, leb⟩, ⟨⟨Y, Y, Y, Y, Y, Y, Y, trivial⟩, leb⟩, trivial⟩ Y Y Y Y (kAlloc Y Y (Ko Y Y Y Y (Kdb (Kbc (Ke Y Y Y ?_)))))))))))))))))))))))))))))))
 refine Kp ok1 ⟨⟨⟨Y, Y, trivial⟩, leb⟩, trivial⟩ Y Y Y Y Y ?_
 cases a3 : zoneOk (addZ z r)
 ·rw [show addN z r = z by unfold addN; rw [a1, a2, a3]; rfl, show addOk z r = false by unfold addOk; rw [a1, a2, a3]; rfl]
  refine Kw Y Y (Kd (kCondT Y (Kbc (Ke Y Y Y (Ku true (ok_spec_l5own _ pry) ⟨⟨⟨Y, Y, trivial⟩, leb⟩, trivial⟩ Y Y Y (fun _ => (Ko Y Y Y Y (Ka Y (Kd (Kr (Er (ra := [.agg [(.own true _), (.own true _)], .one (.d _)]) rfl rfl)))))))))))
 ·rw [show addN z r = addZ z r by unfold addN; rw [a1, a2, a3]; rfl, show addOk z r = true by unfold addOk; rw [a1, a2, a3]; rfl]
  refine Kw Y Y (Kd (kCondF Y (Kn (Kbc (Ke Y Y Y ?_)))))
  refine Ku true ok2 ⟨⟨⟨Y, Y, trivial⟩, leb⟩, trivial⟩ Y Y Y (fun _ => ?_)
  refine (Ko Y Y Y Y (Ka Y (Kd (Kr (Er (ra := [.agg [(.own true _), (.own true _)], .one (.d _)]) rfl rfl)))))

def c_spec_l11zone : C := (.g (.o 0 4 (.alloc 4 [(.n 1), (.n 7)]) .done) (.g (.o 0 9 (.mov (.t 0)) (.o 1 10 (.call 10 222 [(.t 9)]) (.o 2 11 (.call 11 233 [(.t 10), (.i 1)]) (.o 3 8 (.mov (.t 11)) (.o 4 12 (.ext (.t 8) 0) (.o 5 13 (.ext (.t 8) 1) (.o 6 5 (.alloc 5 [(.n 1), (.n 7)]) (.op 7 [] none none false (.store (some 2) (.t 5) (.t 12)) (.o 8 6 (.mov (.t 13)) .done))))))))) (.seq (.g (.o 0 7 (.mov (.i 0)) .done) (.block 0 (.loop (.seq (.g (.o 0 14 (.mov (.t 7)) (.o 1 15 (.mov (.t 1)) (.o 2 16 (.len (.t 15)) (.o 3 17 (.bin .lss (.t 14) (.t 16)) .done)))) (.cond (.t 17) .skip (.exit 0))) (.seq (.block 1 (.reg true (.op 0 [] (some 21) none true (.load (some 2) (.t 5)) (.op 1 [] (some 22) none true (.mov (.t 1)) (.op 2 [] (some 23) none true (.mov (.t 7)) (.op 3 [] (some 24) none true (.iad 7 (.t 22) (.t 23)) (.op 4 [] (some 25) none true (.load (some 7) (.t 24)) (.op 5 [0, 4] (some 26) none false (.call 26 11 [(.t 21), (.t 25)]) (.op 6 [] (some 20) none true (.mov (.t 26)) (.op 7 [] (some 27) none true (.ext (.t 20) 0) (.op 8 [] (some 28) none true (.ext (.t 20) 1) (.op 9 [0, 4] none none false (.store (some 2) (.t 5) (.t 27)) .done)))))))))))) (.reg false (.o 0 18 (.mov (.t 7)) (.o 1 19 (.bin .add (.t 18) (.i 1)) (.o 2 7 (.mov (.t 19)) .done))))))))) (.g (.o 0 29 (.load (some 2) (.t 5)) (.op 1 [] none none false (.store (some 2) (.t 4) (.t 29)) .done)) .ret))))
theorem dg_spec_l11zone : Tryz.f219.body.bind (digC Tryz.prog Tryz.f219.ntmps []) = some c_spec_l11zone := by kernel_rfl
theorem rs_spec_l11zone : resSlots Tryz.prog Tryz.f219 = some [.m 4 (some 2)] := by kernel_rfl
theorem foldl_succ {α β : Type} (f : β → α → β) (l : List α) (i : Nat) (h : i < l.length) (b : β) : (l.take (i + 1)).foldl f b = f ((l.take i).foldl f b) l[i] := by
 rw [← List.take_append_getElem h, List.foldl_append]; rfl
def emptyZ : Zone := ⟨[], []⟩
def stpI (t : Task) : Task := if t.steps + 1 = 6 then endT { t with steps := t.steps + 1 } 2 else { t with steps := t.steps + 1 }
def ownF (t : Task) (l : List Rr) : List Rr := l.filter fun r => decide (r.name = t.name) && r.ty == t.ftype
def aliI (t : Task) (l : List Rr) : Int := idx (fun r => decide (r.name = t.name) && r.ty == 5) l
def takenT (t : Task) (l : List Rr) : Task := if 12 < t.answers.length + l.length then endT { t with answers := t.answers ++ l } 2 else endT { t with answers := t.answers ++ l } 0
def aliT (t : Task) (r : Rr) : Task := { t with answers := t.answers ++ [r], name := r.to }
def outT (t : Task) : Task := stpI { t with zone := [], servers := t.hints, turn := 0 }
def folGo (l : List Rr) (code : Int) : Nat → Bool → Task → Task × Bool
 | 0, al, t => (t, al)
 | k + 1, al, t =>
  if 0 < (ownF t l).length then (takenT t (ownF t l), true)
  else if aliI t l < 0 then (if al && code == 3 then endT t 3 else t, al)
  else if underN (l.getD (aliI t l).toNat emptyR).to t.zone then
   (if (stpI (aliT t (l.getD (aliI t l).toNat emptyR))).state = 1 then (stpI (aliT t (l.getD (aliI t l).toNat emptyR)), true) else folGo l code k true (stpI (aliT t (l.getD (aliI t l).toNat emptyR))))
  else (outT (aliT t (l.getD (aliI t l).toNat emptyR)), true)
def folT (t : Task) (m : Msg) : Task × Bool := folGo (insideR m.an t.zone) m.code 7 false t
def refSt (t : Task) (st : List Rr × Int) (r : Rr) : List Rr × Int :=
 if r.ty = 2 ∧ underN r.name t.zone = true ∧ t.zone.length < r.name.length ∧ underN t.name r.name = true ∧ st.2 ≤ r.name.length then
  (if st.2 < r.name.length then ([r], (r.name.length : Int)) else (st.1 ++ [r], st.2))
 else st
def refL (t : Task) (m : Msg) : List Rr := (m.au.foldl (refSt t) ([], 0)).1
def srvSt (r : Rr) (s : List Int) (a : Rr) : List Int := if a.ty = 1 ∧ a.name = r.to ∧ s.length < 4 then s ++ [a.addr] else s
def srvL (t : Task) (m : Msg) (l : List Rr) : List Int := l.foldl (fun s r => (insideR m.mo t.zone).foldl (srvSt r) s) []
def refT (t : Task) (m : Msg) : Task :=
 if (refL t m).length = 0 then (if m.auth then endT t 0 else nextT t)
 else if (srvL t m (refL t m)).length = 0 then endT t 2
 else stpI { t with zone := ((refL t m).getD 0 emptyR).name, servers := srvL t m (refL t m), turn := 0 }
def heardT (t : Task) (m : Msg) : Task :=
 if t.sends + 1 = 12 then sentT t
 else if m.code ≠ 0 ∧ m.code ≠ 3 then nextT (sentT t)
 else if (folT (sentT t) m).2 then (folT (sentT t) m).1
 else if m.code = 3 then endT (folT (sentT t) m).1 3
 else refT (folT (sentT t) m).1 m
def bestN (zs : List Zone) (at' : List Int) (ip : Int) (n : List (List UInt8)) : Nat → Int
 | 0 => -1
 | k + 1 => if at'.getD k 0 = ip ∧ underN n (zs.getD k emptyZ).origin = true ∧ (bestN zs at' ip n k < 0 ∨ (zs.getD (bestN zs at' ip n k).toNat emptyZ).origin.length < (zs.getD k emptyZ).origin.length) then k else bestN zs at' ip n k
theorem bestN_rng (zs : List Zone) (at' : List Int) (ip : Int) (n : List (List UInt8)) : ∀ k, -1 ≤ bestN zs at' ip n k ∧ bestN zs at' ip n k < k
 | 0 => by unfold bestN; omega
 | k + 1 => by
  have := bestN_rng zs at' ip n k
  unfold bestN
  split
  ·omega
  ·omega
def serveN (zs : List Zone) (at' : List Int) (ip : Int) (m : Msg) : Msg × Bool :=
 if at'.contains ip then
  (if bestN zs at' ip (m.qs.getD 0 ⟨[], 0⟩).name zs.length < 0 then (repM m 5, true) else (ansM (zs.getD (bestN zs at' ip (m.qs.getD 0 ⟨[], 0⟩).name zs.length).toNat emptyZ) m, true))
 else (nothingM, false)
def askM (t : Task) : Msg := ⟨t.id, false, 0, false, 0, [⟨t.name, t.ftype⟩], [], [], [], [], []⟩
def resGo (zs : List Zone) (at' : List Int) (lost : List Bool) : Nat → Nat → Task → Task
 | 0, _, t => t
 | k + 1, i, t =>
  if t.state = 1 then t
  else if !(serveN zs at' (t.servers.getD t.turn.toNat 0) (askM t)).2 || lost.getD i false then resGo zs at' lost k (i + 1) (lostT t)
  else resGo zs at' lost k (i + 1) (heardT t (serveN zs at' (t.servers.getD t.turn.toNat 0) (askM t)).1)
structure TB (t : Task) : Prop where
 id : 0 ≤ t.id ∧ t.id ≤ 65535
 fn : nameOk t.fname = true
 ft : tyOk t.ftype = true
 n : nameOk t.name = true
 z : nameOk t.zone = true
 u : underN t.name t.zone = true
 h : ipsOk t.hints = true
 s : ipsOk t.servers = true
 tu : 0 ≤ t.turn ∧ t.turn ≤ (t.servers.length : Int) - 1
 se : 0 ≤ t.sends ∧ t.sends ≤ 12
 sp : 0 ≤ t.steps ∧ t.steps ≤ 6
structure RI (W : Rr → Prop) (t : Task) : Prop where
 b : TB t
 st : t.state = 0 ∨ t.state = 1
 co : 0 ≤ t.code ∧ t.code ≤ 10
 an : t.answers.length ≤ 12
 wr : ∀ r ∈ t.answers, W r
 go : t.state ≠ 1 → t.code = 0 ∧ t.sends < 12 ∧ t.steps < 6 ∧ t.answers.length ≤ t.steps
theorem RI.ok {W : Rr → Prop} (hW : ∀ r, W r → rrOk r = true) {t : Task} (h : RI W t) : taskOk t = true := by
 have hb := h.b
 have hst := h.st
 unfold taskOk
 simp only [Bool.and_eq_true, decide_eq_true_eq, Bool.or_eq_true, beq_iff_eq]
 refine ⟨⟨⟨⟨⟨⟨⟨⟨⟨⟨⟨⟨by omega, hb.id⟩, hb.fn⟩, hb.ft⟩, ⟨hb.n, hb.z⟩, hb.u⟩, hb.h⟩, hb.s⟩, hb.tu⟩, hb.se⟩, hb.sp⟩, h.co⟩, ?_⟩, ?_⟩
 ·unfold rrsOk
  simp only [Bool.and_eq_true, decide_eq_true_eq, List.all_eq_true]
  exact ⟨by have := h.an; omega, fun r hr => hW r (h.wr r hr)⟩
 ·rcases hst with e | e
  ·obtain ⟨g1, g2, g3, _⟩ := h.go (by omega)
   exact .inr ⟨⟨g1, g2⟩, g3⟩
  ·exact .inl e
theorem TB.of {t : Task} (h : taskOk t = true) : TB t ∧ (t.state = 0 ∨ t.state = 1) ∧ (0 ≤ t.code ∧ t.code ≤ 10) ∧ rrsOk t.answers = true ∧ (t.state = 1 ∨ (t.code = 0 ∧ t.sends < 12) ∧ t.steps < 6) := by
 unfold taskOk at h
 simp only [Bool.and_eq_true, decide_eq_true_eq, Bool.or_eq_true, beq_iff_eq] at h
 obtain ⟨⟨⟨⟨⟨⟨⟨⟨⟨⟨⟨⟨h1, h2⟩, h3⟩, h4⟩, h5⟩, h6⟩, h7⟩, h8⟩, h9⟩, h10⟩, h11⟩, h12⟩, h13⟩ := h
 exact ⟨⟨h2, h3, h4, h5.1.1, h5.1.2, h5.2, h6, h7, h8, h9, h10⟩, by omega, h11, h12, h13⟩
theorem TB.end {t : Task} (h : TB t) (c : Int) : TB (endT t c) := ⟨h.id, h.fn, h.ft, h.n, h.z, h.u, h.h, h.s, h.tu, h.se, h.sp⟩
theorem ips_pos {l : List Int} (h : ipsOk l = true) : 1 ≤ l.length ∧ l.length ≤ 4 := by
 unfold ipsOk at h
 simp only [Bool.and_eq_true, decide_eq_true_eq] at h
 omega
variable {W : Rr → Prop}
theorem RI.end {t : Task} (h : TB t) {c : Int} (hc : c = 0 ∨ c = 2 ∨ c = 3) (ha : c = 2 ∨ t.answers.length ≤ 12) (hw : ∀ r ∈ t.answers, W r) : RI W (endT t c) := by
 refine ⟨h.end c, .inr rfl, by show 0 ≤ c ∧ c ≤ 10; omega, ?_, ?_, fun e => absurd rfl e⟩
 ·show (if c ≠ 0 ∧ c ≠ 3 then [] else t.answers).length ≤ 12
  split
  ·exact Nat.zero_le _
  ·rename_i hne
   rcases ha with rfl | ha
   ·exact absurd (And.intro (by decide) (by decide)) hne
   ·exact ha
 ·show ∀ r ∈ (if c ≠ 0 ∧ c ≠ 3 then [] else t.answers), W r
  split
  ·exact nofun
  ·exact hw
structure FI (W : Rr → Prop) (t : Task) (j : Nat) : Prop where
 b : TB t
 st : t.state = 0
 co : t.code = 0
 se : t.sends < 12
 sp : t.steps < 6
 an : (t.answers.length : Int) ≤ t.steps + j
 wr : ∀ r ∈ t.answers, W r
theorem RI.fi {t : Task} (h : RI W t) (h0 : ¬ t.state = 1) : FI W t 0 := by
 obtain ⟨g1, g2, g3, g4⟩ := h.go h0
 exact ⟨h.b, h.st.resolve_right h0, g1, g2, g3, by omega, h.wr⟩
theorem FI.ri {t : Task} (h : FI W t 0) : RI W t := by
 have := h.sp
 have := h.an
 exact ⟨h.b, .inl h.st, by have := h.co; omega, by omega, h.wr, fun _ => ⟨h.co, h.se, h.sp, by omega⟩⟩
theorem FI.stp {t : Task} (h : FI W t 1) : RI W (stpI t) := by
 have h1 := h.sp
 have h2 := h.an
 have h3 := h.b.sp
 unfold stpI
 split
 ·have hb : TB { t with steps := t.steps + 1 } := ⟨h.b.id, h.b.fn, h.b.ft, h.b.n, h.b.z, h.b.u, h.b.h, h.b.s, h.b.tu, h.b.se, by simp only; omega⟩
  exact RI.end hb (by omega) (.inl rfl) h.wr
 ·refine ⟨⟨h.b.id, h.b.fn, h.b.ft, h.b.n, h.b.z, h.b.u, h.b.h, h.b.s, h.b.tu, h.b.se, ?_⟩, .inl h.st, ?_, ?_, h.wr, fun _ => ⟨h.co, h.se, ?_, ?_⟩⟩ <;> simp only
  ·omega
  ·have := h.co; omega
  ·omega
  ·omega
  ·omega
theorem stpI_sends (t : Task) : (stpI t).sends = t.sends := by unfold stpI; split <;> rfl
theorem RI.taken {t : Task} (h : FI W t 0) {l : List Rr} (hl : ∀ r ∈ l, W r) : RI W (takenT t l) := by
 have hw : ∀ r ∈ t.answers ++ l, W r := fun r hr => (List.mem_append.1 hr).elim (h.wr r) (hl r)
 have hb : TB { t with answers := t.answers ++ l } := ⟨h.b.id, h.b.fn, h.b.ft, h.b.n, h.b.z, h.b.u, h.b.h, h.b.s, h.b.tu, h.b.se, h.b.sp⟩
 unfold takenT
 split
 ·exact RI.end hb (by omega) (.inl rfl) hw
 ·refine RI.end hb (by omega) (.inr ?_) hw
  simp only [List.length_append]; omega
theorem ali_at {t : Task} {l : List Rr} (h : ¬ aliI t l < 0) : ∃ i, ∃ hi : i < l.length, aliI t l = i ∧ l.getD (aliI t l).toNat emptyR = l[i] ∧ l[i].name = t.name ∧ l[i].ty = 5 := by
 unfold aliI idx at *
 split at h
 ·rename_i i hi
  have h2 := List.findIdx?_eq_some_iff_getElem.1 hi
  obtain ⟨h3, h4, _⟩ := h2
  refine ⟨i, h3, rfl, ?_, ?_⟩
  ·rw [Int.toNat_natCast, List.getD_eq_getElem?_getD, List.getElem?_eq_getElem h3]; rfl
  ·simp only [Bool.and_eq_true, decide_eq_true_eq, beq_iff_eq] at h4; exact h4
 ·exact absurd (by decide) h
theorem to_name {r : Rr} (h : rrOk r = true) (h2 : hasTo r.ty = true) : nameOk r.to = true := by
 unfold rrOk dataOk at h
 simp only [Bool.and_eq_true] at h
 have := h.2.1.2
 rw [if_pos h2] at this
 exact this
theorem folGo_ri (hW : ∀ r, W r → rrOk r = true) {l : List Rr} (hl : ∀ r ∈ l, W r) {code : Int} : ∀ (k : Nat) (al : Bool) (t : Task), FI W t 0 → RI W (folGo l code k al t).1 ∧ (folGo l code k al t).1.sends = t.sends ∧ ((folGo l code k al t).2 = false → al = false ∧ (folGo l code k al t).1 = t)
 | 0, al, t, h => ⟨h.ri, rfl, fun h => ⟨h, rfl⟩⟩
 | k + 1, al, t, h => by
  have htk : RI W (takenT t (ownF t l)) := RI.taken h fun r hr => hl r (List.mem_filter.1 hr).1
  unfold folGo
  split
  ·refine ⟨htk, ?_, nofun⟩
   unfold takenT; split <;> rfl
  split
  ·refine ⟨?_, ?_, fun e => ⟨e, ?_⟩⟩
   ·show RI W (if _ then _ else _)
    split
    ·have := h.an; have := h.sp
     exact RI.end h.b (by omega) (.inr (by omega)) h.wr
    ·exact h.ri
   ·show (if _ then _ else _ : Task).sends = _
    split <;> rfl
   ·simp only at e
    simp [e]
  rename_i ha
  obtain ⟨i, hi, _, e2, e3, e4⟩ := ali_at ha
  rw [e2]
  have hr := hl _ (List.getElem_mem hi)
  have hto := to_name (hW _ hr) (by rw [e4]; rfl)
  have hw : ∀ r ∈ t.answers ++ [l[i]], W r := fun r hx => (List.mem_append.1 hx).elim (h.wr r) fun hx => by rw [List.mem_singleton] at hx; rw [hx]; exact hr
  have han : ((t.answers ++ [l[i]]).length : Int) ≤ t.steps + 1 := by have := h.an; rw [List.length_append, List.length_singleton]; omega
  split
  ·rename_i hu
   have hf : FI W (aliT t l[i]) 1 := ⟨⟨h.b.id, h.b.fn, h.b.ft, hto, h.b.z, hu, h.b.h, h.b.s, h.b.tu, h.b.se, h.b.sp⟩, h.st, h.co, h.se, h.sp, han, hw⟩
   have hst := hf.stp
   split
   ·exact ⟨hst, stpI_sends _, nofun⟩
   ·rename_i h0
    obtain ⟨r1, r2, r3⟩ := folGo_ri hW hl (code := code) k true (stpI (aliT t l[i])) (hst.fi h0)
    exact ⟨r1, r2.trans (stpI_sends _), fun e => by cases (r3 e).1⟩
  ·have hp := ips_pos h.b.h
   have hf : FI W { aliT t l[i] with zone := [], servers := t.hints, turn := 0 } 1 := ⟨⟨h.b.id, h.b.fn, h.b.ft, hto, nameOk_nil, under_nil _, h.b.h, h.b.h, by simp only; omega, h.b.se, h.b.sp⟩, h.st, h.co, h.se, h.sp, han, hw⟩
   exact ⟨hf.stp, stpI_sends _, nofun⟩
theorem refSt_mem {t : Task} : ∀ (l : List Rr) (st : List Rr × Int), (∀ r ∈ st.1, r ∈ l ∨ r ∈ st.1) → ∀ r ∈ (l.foldl (refSt t) st).1, r ∈ st.1 ∨ (r ∈ l ∧ r.ty = 2 ∧ underN t.name r.name = true)
 | [], st, _, r, hr => .inl hr
 | x :: l, st, _, r, hr => by
  rw [List.foldl_cons] at hr
  rcases refSt_mem l (refSt t st x) (fun _ h => .inr h) r hr with h | h
  ·unfold refSt at h
   split at h
   ·rename_i hc
    split at h
    ·rw [List.mem_singleton] at h
     rw [h]; exact .inr ⟨List.mem_cons_self .., hc.1, hc.2.2.2.1⟩
    ·rcases List.mem_append.1 h with h | h
     ·exact .inl h
     ·rw [List.mem_singleton] at h
      rw [h]; exact .inr ⟨List.mem_cons_self .., hc.1, hc.2.2.2.1⟩
   ·exact .inl h
  ·exact .inr ⟨List.mem_cons_of_mem _ h.1, h.2⟩
theorem refL_mem {t : Task} {m : Msg} {r : Rr} (h : r ∈ refL t m) : r ∈ m.au ∧ r.ty = 2 ∧ underN t.name r.name = true := by
 rcases refSt_mem m.au ([], 0) nofun r h with h | h
 ·cases h
 ·exact h
theorem srv_in {r : Rr} : ∀ (l : List Rr) (s : List Int), (∀ x ∈ l, rrOk x = true) → s.length ≤ 4 → (∀ a ∈ s, isW a = true) → (l.foldl (srvSt r) s).length ≤ 4 ∧ ∀ a ∈ l.foldl (srvSt r) s, isW a = true
 | [], s, _, h1, h2 => ⟨h1, h2⟩
 | x :: l, s, hx, h1, h2 => by
  rw [List.foldl_cons]
  refine srv_in l _ (fun y hy => hx y (List.mem_cons_of_mem _ hy)) ?_ ?_
  ·unfold srvSt; split
   ·rw [List.length_append, List.length_singleton]; omega
   ·exact h1
  ·unfold srvSt; split
   ·rename_i hc
    intro a ha
    rcases List.mem_append.1 ha with ha | ha
    ·exact h2 a ha
    ·rw [List.mem_singleton] at ha
     rw [ha]
     have := hx x (List.mem_cons_self ..)
     unfold rrOk dataOk at this
     simp only [Bool.and_eq_true] at this
     have h3 := this.2.1.1.2
     rw [if_pos (by simp [hc.1])] at h3
     exact h3
   ·exact h2
theorem srv_out {L : List Rr} (hL : ∀ x ∈ L, rrOk x = true) : ∀ (l : List Rr) (s : List Int), s.length ≤ 4 → (∀ a ∈ s, isW a = true) → (l.foldl (fun s r => L.foldl (srvSt r) s) s).length ≤ 4 ∧ ∀ a ∈ l.foldl (fun s r => L.foldl (srvSt r) s) s, isW a = true
 | [], s, h1, h2 => ⟨h1, h2⟩
 | x :: l, s, h1, h2 => by
  rw [List.foldl_cons]
  obtain ⟨g1, g2⟩ := srv_in (r := x) L s hL h1 h2
  exact srv_out hL l _ g1 g2
theorem srvL_ok {t : Task} {m : Msg} (hm : ∀ x ∈ m.mo, rrOk x = true) (l : List Rr) : (srvL t m l).length ≤ 4 ∧ ∀ a ∈ srvL t m l, isW a = true :=
 srv_out (fun x hx => hm x (List.mem_filter.1 hx).1) l [] (Nat.zero_le _) nofun
theorem RI.next {t : Task} (h : RI W t) : RI W (nextT t) := by
 have hp := ips_pos h.b.s
 have m1 := Int.tmod_nonneg (a := t.turn + 1) (t.servers.length : Int) (by have := h.b.tu; omega)
 have m2 := Int.tmod_lt_of_pos (t.turn + 1) (show (0 : Int) < (t.servers.length : Int) by omega)
 exact ⟨⟨h.b.id, h.b.fn, h.b.ft, h.b.n, h.b.z, h.b.u, h.b.h, h.b.s, by unfold nextT; simp only; omega, h.b.se, h.b.sp⟩, h.st, h.co, h.an, h.wr, h.go⟩
theorem RI.ref {t : Task} (h : FI W t 0) {m : Msg} (hu : ∀ x ∈ m.au, rrOk x = true) (hm : ∀ x ∈ m.mo, rrOk x = true) : RI W (refT t m) ∧ (refT t m).sends = t.sends := by
 have han := h.an
 have hsp := h.sp
 unfold refT
 split
 ·split
  ·exact ⟨RI.end h.b (by omega) (.inr (by omega)) h.wr, rfl⟩
  ·exact ⟨h.ri.next, rfl⟩
 split
 ·exact ⟨RI.end h.b (by omega) (.inl rfl) h.wr, rfl⟩
 ·rename_i h1 h2
  obtain ⟨s1, s2⟩ := srvL_ok hm (refL t m) (t := t)
  have h0 : 0 < (refL t m).length := by omega
  have hg : (refL t m).getD 0 emptyR = (refL t m)[0] := by rw [List.getD_eq_getElem?_getD, List.getElem?_eq_getElem h0]; rfl
  obtain ⟨r1, r2, r3⟩ := refL_mem (List.getElem_mem h0)
  have hok := hu _ r1
  refine ⟨FI.stp ?_, stpI_sends _⟩
  rw [hg]
  refine ⟨⟨h.b.id, h.b.fn, h.b.ft, h.b.n, (rrOk_ty hok).2.2.2.2, r3, h.b.h, ?_, by simp only; omega, h.b.se, h.b.sp⟩, h.st, h.co, h.se, h.sp, by simp only; omega, h.wr⟩
  show ipsOk (srvL t m (refL t m)) = true
  unfold ipsOk
  simp only [Bool.and_eq_true, decide_eq_true_eq, List.all_eq_true]
  exact ⟨by omega, s2⟩
theorem RI.sent {t : Task} (h : FI W t 0) : RI W (sentT t) ∧ (sentT t).sends = t.sends + 1 ∧ (¬ t.sends + 1 = 12 → (sentT t).state = 0) := by
 have han := h.an
 have hsp := h.sp
 have hse := h.se
 have hb := h.b.se
 unfold sentT
 split
 ·have hb : TB { t with sends := t.sends + 1 } := ⟨h.b.id, h.b.fn, h.b.ft, h.b.n, h.b.z, h.b.u, h.b.h, h.b.s, h.b.tu, by simp only; omega, h.b.sp⟩
  exact ⟨RI.end hb (by omega) (.inl rfl) h.wr, rfl, fun e => by omega⟩
 ·refine ⟨⟨⟨h.b.id, h.b.fn, h.b.ft, h.b.n, h.b.z, h.b.u, h.b.h, h.b.s, h.b.tu, by simp only; omega, h.b.sp⟩, .inl h.st, by have := h.co; simp only; omega, by simp only; omega, h.wr, fun _ => ⟨h.co, by simp only; omega, hsp, by simp only; omega⟩⟩, rfl, fun _ => h.st⟩
theorem RI.heard (hW : ∀ r, W r → rrOk r = true) {t : Task} (h : FI W t 0) {m : Msg} (ha : ∀ x ∈ m.an, W x) (hu : ∀ x ∈ m.au, rrOk x = true) (hm : ∀ x ∈ m.mo, rrOk x = true) : RI W (heardT t m) ∧ (heardT t m).sends = t.sends + 1 := by
 obtain ⟨s1, s2, s3⟩ := RI.sent h
 unfold heardT
 split
 ·exact ⟨s1, s2⟩
 rename_i hn
 have hf := s1.fi (by rw [s3 hn]; decide)
 obtain ⟨f1, f2, f3⟩ := folGo_ri hW (l := insideR m.an (sentT t).zone) (fun r hr => ha r (List.mem_filter.1 hr).1) (code := m.code) 7 false (sentT t) hf
 split
 ·exact ⟨s1.next, s2⟩
 split
 ·exact ⟨f1, f2.trans s2⟩
 rename_i he
 have he' := (f3 (by simpa [folT] using he)).2
 have e2 : (folT (sentT t) m).1 = sentT t := he'
 rw [e2]
 split
 ·have := hf.an; have := hf.sp
  exact ⟨RI.end hf.b (by omega) (.inr (by omega)) hf.wr, s2⟩
 ·obtain ⟨r1, r2⟩ := RI.ref hf hu hm
  exact ⟨r1, r2.trans s2⟩
theorem ask_ok {t : Task} (h : TB t) : msgOk (askM t) = true := by
 have hn := wireN_small h.n
 unfold msgOk msgMay askM
 simp only [List.getD_cons_zero, Bool.and_eq_true, decide_eq_true_eq, List.length_cons, List.length_nil, if_true]
 refine ⟨⟨⟨⟨⟨h.id, by decide⟩, ⟨trivial, h.n⟩, ?_⟩, ⟨⟨⟨⟨rfl, rfl⟩, rfl⟩, rfl⟩, rfl⟩⟩, trivial⟩, ?_⟩
 ·unfold askedT; rw [h.ft]; rfl
 ·unfold msgLen msgB
  simp only [List.flatMap_nil, List.append_nil, List.nil_append]
  rw [headB_len]
  simp only [List.getD_cons_zero]
  omega
theorem serve_ok {zs : List Zone} (hz : ∀ z ∈ zs, zoneOk z = true) {at' : List Int} {ip : Int} {m : Msg} (hm : msgOk m = true) (hop : m.op = 0) (h : (serveN zs at' ip m).2 = true) :
  msgOk (serveN zs at' ip m).1 = true ∧ (serveN zs at' ip m).1.id = m.id ∧ (serveN zs at' ip m).1.reply = true ∧ (serveN zs at' ip m).1.op = 0 ∧ (serveN zs at' ip m).1.qs = [m.qs.getD 0 ⟨[], 0⟩] ∧ ∀ r ∈ (serveN zs at' ip m).1.an ++ (serveN zs at' ip m).1.au ++ (serveN zs at' ip m).1.mo, ∃ z ∈ zs, r ∈ z.rrs := by
 have hb := bestN_rng zs at' ip (m.qs.getD 0 ⟨[], 0⟩).name zs.length
 unfold serveN at h ⊢
 split at h
 ·rename_i hc
  rw [if_pos hc]
  split
  ·exact ⟨repM_ok hm hop (by omega), rfl, rfl, hop, rfl, nofun⟩
  ·rename_i hn
   have hlt : (bestN zs at' ip (m.qs.getD 0 ⟨[], 0⟩).name zs.length).toNat < zs.length := by omega
   have hg : zs.getD (bestN zs at' ip (m.qs.getD 0 ⟨[], 0⟩).name zs.length).toNat emptyZ = zs[(bestN zs at' ip (m.qs.getD 0 ⟨[], 0⟩).name zs.length).toNat] := by rw [List.getD_eq_getElem?_getD, List.getElem?_eq_getElem hlt]; rfl
   rw [hg]
   have hzz := hz _ (List.getElem_mem hlt)
   obtain ⟨g1, g2, g3, _, g5⟩ := ansM_good hzz hm hop
   have he := ansRaw_e (m := m) hzz
   refine ⟨g1, g2, g3, ?_, ?_, fun r hr => ⟨_, List.getElem_mem hlt, g5 r hr⟩⟩
   ·show (ansM _ m).op = 0
    unfold ansM; split
    ·rw [he.op]; exact hop
    ·exact hop
   ·show (ansM _ m).qs = _
    unfold ansM; split
    ·exact he.qs
    ·rfl
 ·cases h
theorem resGo_ri {zs : List Zone} (hz : ∀ z ∈ zs, zoneOk z = true) {at' : List Int} {lost : List Bool} : ∀ (k i : Nat) (t : Task), RI (fun r => ∃ z ∈ zs, r ∈ z.rrs) t → (¬ t.state = 1 → 12 ≤ k + t.sends) → RI (fun r => ∃ z ∈ zs, r ∈ z.rrs) (resGo zs at' lost k i t) ∧ (resGo zs at' lost k i t).state = 1
 | 0, i, t, h, hk => ⟨h, by
  rcases h.st with e | e
  ·have := h.go (by omega)
   have := hk (by omega)
   omega
  ·exact e⟩
 | k + 1, i, t, h, hk => by
  have hW : ∀ r, (∃ z ∈ zs, r ∈ z.rrs) → rrOk r = true := fun r ⟨z, hz1, hz2⟩ => zone_rrs (hz z hz1) r hz2
  unfold resGo
  split
  ·rename_i e; exact ⟨h, e⟩
  rename_i h0
  have hf := h.fi h0
  have hk' := hk h0
  obtain ⟨s1, s2, _⟩ := RI.sent hf
  split
  ·exact resGo_ri hz k (i + 1) (lostT t) s1.next (fun _ => by show 12 ≤ (k : Int) + (sentT t).sends; omega)
  ·rename_i hc
   have hs2 : (serveN zs at' (t.servers.getD t.turn.toNat 0) (askM t)).2 = true := by
    simp only [Bool.or_eq_true, Bool.not_eq_true'] at hc
    cases hq : (serveN zs at' (t.servers.getD t.turn.toNat 0) (askM t)).2 with
    | true => rfl
    | false => exact absurd (.inl hq) hc
   obtain ⟨m1, _, _, _, _, m6⟩ := serve_ok hz (ask_ok hf.b) rfl hs2
   have hp := MayP.of (by unfold msgOk at m1; simp only [Bool.and_eq_true] at m1; exact m1.1)
   obtain ⟨r1, r2⟩ := RI.heard hW hf (m := (serveN zs at' (t.servers.getD t.turn.toNat 0) (askM t)).1) (fun x hx => m6 x (List.mem_append.2 (.inl (List.mem_append.2 (.inl hx))))) (fun x hx => hp.au.2 x hx) (fun x hx => hp.mo.2 x hx)
   exact resGo_ri hz k (i + 1) _ r1 (fun _ => by omega)

def lCom : List UInt8 := [99, 111, 109]
def lX : List UInt8 := [120]
def lNs : List UInt8 := [110, 115]
def nCom : List (List UInt8) := [lCom]
def nXc : List (List UInt8) := [lX, lCom]
def nsR (n t : List (List UInt8)) : Rr := ⟨n, 2, 60, 0, t, [], []⟩
def aR (n : List (List UInt8)) (ip : Int) : Rr := ⟨n, 1, 60, ip, [], [], []⟩
def zRoot : Zone := [nsR nCom [lNs, lCom], aR [lNs, lCom] 2].foldl addN (zoneNewN [] 1)
def zCom : Zone := [nsR nXc [lNs, lX, lCom], aR [lNs, lX, lCom] 3, aR [lNs, lCom] 2, aR [[121], lCom] 20].foldl addN (zoneNewN nCom 1)
structure X3 (z : Zone) : Prop where
 ok : zoneOk z = true
 o : z.origin = nXc
 ns : ∀ r ∈ z.rrs, r.ty ≠ 2
 len : z.rrs.length ≤ 6
def qX : List (List (List UInt8)) := [[[119, 119, 119], lX, lCom], [[97], lX, lCom], [[98], lX, lCom], [lX, lCom]]
def qC : List (List (List UInt8)) := [[[121], lCom], [[110, 111], lCom]]
def qR : List (List (List UInt8)) := [[[111, 114, 103]]]
def tX1 (n : List (List UInt8)) (ty : Int) (h : List Int) : Task := ⟨0, 7, n, ty, n, nCom, h, [2], 0, 1, 1, 0, []⟩
def tX2 (n : List (List UInt8)) (ty : Int) (h : List Int) : Task := ⟨0, 7, n, ty, n, nXc, h, [3], 0, 2, 2, 0, []⟩
theorem closed_1 : ∀ h ∈ [[1], [1, 9]], ∀ n ∈ qX ++ qC, ∀ ty ∈ [1, 16, 5], heardT (askT n ty h 7) (ansM zRoot (askM (askT n ty h 7))) = tX1 n ty h := by decide +kernel
theorem closed_2 : ∀ h ∈ [[1], [1, 9]], ∀ n ∈ qX, ∀ ty ∈ [1, 16, 5], heardT (tX1 n ty h) (ansM zCom (askM (tX1 n ty h))) = tX2 n ty h := by decide +kernel
theorem closed_C : ∀ h ∈ [[1], [1, 9]], ∀ n ∈ qC, ∀ ty ∈ [1, 16, 5], ((lookupN zCom n ty).2 = 0 → (heardT (tX1 n ty h) (ansM zCom (askM (tX1 n ty h)))).state = 1 ∧ (heardT (tX1 n ty h) (ansM zCom (askM (tX1 n ty h)))).code = 0 ∧ (heardT (tX1 n ty h) (ansM zCom (askM (tX1 n ty h)))).answers = (lookupN zCom n ty).1) ∧
  ((lookupN zCom n ty).2 = 4 → (heardT (tX1 n ty h) (ansM zCom (askM (tX1 n ty h)))).state = 1 ∧ (heardT (tX1 n ty h) (ansM zCom (askM (tX1 n ty h)))).code = 3 ∧ (heardT (tX1 n ty h) (ansM zCom (askM (tX1 n ty h)))).answers = []) := by decide +kernel
theorem closed_R : ∀ h ∈ [[1], [1, 9]], ∀ n ∈ qR, ∀ ty ∈ [1, 16, 5], ((lookupN zRoot n ty).2 = 0 → (heardT (askT n ty h 7) (ansM zRoot (askM (askT n ty h 7)))).state = 1 ∧ (heardT (askT n ty h 7) (ansM zRoot (askM (askT n ty h 7)))).code = 0 ∧ (heardT (askT n ty h 7) (ansM zRoot (askM (askT n ty h 7)))).answers = (lookupN zRoot n ty).1) ∧
  ((lookupN zRoot n ty).2 = 4 → (heardT (askT n ty h 7) (ansM zRoot (askM (askT n ty h 7)))).state = 1 ∧ (heardT (askT n ty h 7) (ansM zRoot (askM (askT n ty h 7)))).code = 3 ∧ (heardT (askT n ty h 7) (ansM zRoot (askM (askT n ty h 7)))).answers = []) := by decide +kernel
theorem zRoot_o : zRoot.origin = [] := by decide +kernel
theorem zCom_o : zCom.origin = nCom := by decide +kernel
theorem zRoot_ok : zoneOk zRoot = true := by decide +kernel
theorem zCom_ok : zoneOk zCom = true := by decide +kernel
theorem names_u : (∀ n ∈ qX, underN n nXc = true ∧ underN n nCom = true ∧ nameOk n = true ∧ (wireN n).length ≤ 11) ∧ (∀ n ∈ qC, underN n nXc = false ∧ underN n nCom = true ∧ nameOk n = true) ∧ (∀ n ∈ qR, underN n nXc = false ∧ underN n nCom = false ∧ nameOk n = true) := by decide +kernel
theorem serve_a (a b c : Zone) (m : Msg) (hu : underN (m.qs.getD 0 ⟨[], 0⟩).name a.origin = true) : serveN [a, b, c] [1, 2, 3] 1 m = (ansM a m, true) := by
 have b1 : bestN [a, b, c] [1, 2, 3] 1 (m.qs.getD 0 ⟨[], 0⟩).name 1 = 0 := if_pos ⟨rfl, hu, .inl (show (-1 : Int) < 0 by decide)⟩
 have b2 : bestN [a, b, c] [1, 2, 3] 1 (m.qs.getD 0 ⟨[], 0⟩).name 2 = 0 := (if_neg fun h => absurd (show (2 : Int) = 1 from h.1) (by decide)).trans b1
 have hb : bestN [a, b, c] [1, 2, 3] 1 (m.qs.getD 0 ⟨[], 0⟩).name 3 = 0 := (if_neg fun h => absurd (show (3 : Int) = 1 from h.1) (by decide)).trans b2
 unfold serveN
 rw [if_pos (by decide), show ([a, b, c] : List Zone).length = 3 from rfl, hb]
 rfl
theorem serve_b (a b c : Zone) (m : Msg) (hu : underN (m.qs.getD 0 ⟨[], 0⟩).name b.origin = true) : serveN [a, b, c] [1, 2, 3] 2 m = (ansM b m, true) := by
 have b1 : bestN [a, b, c] [1, 2, 3] 2 (m.qs.getD 0 ⟨[], 0⟩).name 1 = -1 := if_neg fun h => absurd (show (1 : Int) = 2 from h.1) (by decide)
 have b2 : bestN [a, b, c] [1, 2, 3] 2 (m.qs.getD 0 ⟨[], 0⟩).name 2 = 1 := if_pos ⟨rfl, hu, .inl (by rw [b1]; decide)⟩
 have hb : bestN [a, b, c] [1, 2, 3] 2 (m.qs.getD 0 ⟨[], 0⟩).name 3 = 1 := (if_neg fun h => absurd (show (3 : Int) = 2 from h.1) (by decide)).trans b2
 unfold serveN
 rw [if_pos (by decide), show ([a, b, c] : List Zone).length = 3 from rfl, hb]
 rfl
theorem serve_c (a b c : Zone) (m : Msg) (hu : underN (m.qs.getD 0 ⟨[], 0⟩).name c.origin = true) : serveN [a, b, c] [1, 2, 3] 3 m = (ansM c m, true) := by
 have b1 : bestN [a, b, c] [1, 2, 3] 3 (m.qs.getD 0 ⟨[], 0⟩).name 1 = -1 := if_neg fun h => absurd (show (1 : Int) = 3 from h.1) (by decide)
 have b2 : bestN [a, b, c] [1, 2, 3] 3 (m.qs.getD 0 ⟨[], 0⟩).name 2 = -1 := (if_neg fun h => absurd (show (2 : Int) = 3 from h.1) (by decide)).trans b1
 have hb : bestN [a, b, c] [1, 2, 3] 3 (m.qs.getD 0 ⟨[], 0⟩).name 3 = 2 := if_pos ⟨rfl, hu, .inl (by rw [b2]; decide)⟩
 unfold serveN
 rw [if_pos (by decide), show ([a, b, c] : List Zone).length = 3 from rfl, hb]
 rfl
theorem serve_1 (z3 : Zone) (m : Msg) : serveN [zRoot, zCom, z3] [1, 2, 3] 1 m = (ansM zRoot m, true) :=
 serve_a _ _ _ m (by rw [zRoot_o]; exact under_nil _)
theorem serve_2 (z3 : Zone) (m : Msg) (hu : underN (m.qs.getD 0 ⟨[], 0⟩).name nCom = true) : serveN [zRoot, zCom, z3] [1, 2, 3] 2 m = (ansM zCom m, true) :=
 serve_b _ _ _ m (by rw [zCom_o]; exact hu)
theorem serve_3 (z3 : Zone) (m : Msg) (hu : underN (m.qs.getD 0 ⟨[], 0⟩).name z3.origin = true) : serveN [zRoot, zCom, z3] [1, 2, 3] 3 m = (ansM z3 m, true) := serve_c _ _ _ m hu
theorem resGo_done (zs : List Zone) (at' : List Int) (lost : List Bool) (k i : Nat) (t : Task) (h : t.state = 1) : resGo zs at' lost k i t = t := by
 cases k with
 | zero => rfl
 | succ k => unfold resGo; rw [if_pos h]
theorem resGo_step {zs : List Zone} {at' : List Int} {k i : Nat} {t : Task} {m : Msg} (h : ¬ t.state = 1) (hs : serveN zs at' (t.servers.getD t.turn.toNat 0) (askM t) = (m, true)) : resGo zs at' [] (k + 1) i t = resGo zs at' [] k (i + 1) (heardT t m) := by
 rw [resGo, if_neg h, hs]
 rfl
theorem flatRr_le {l : List Rr} {k : Nat} (h : ∀ r ∈ l, (rrB r 1).length ≤ k) : (l.flatMap fun r => rrB r 1).length ≤ l.length * k := flatMap_le h
theorem ans_ok {n : List (List UInt8)} {ty : Int} (hn : nameOk n = true) (hw : (wireN n).length ≤ 11) (ht : tyOk ty = true) {id : Int} (hid : 0 ≤ id ∧ id ≤ 65535) {code : Int} (hc : 0 ≤ code ∧ code ≤ 10) {auth : Bool} {an au : List Rr} (h1 : an.length ≤ 12) (h2 : ∀ r ∈ an, rrOk r = true) (h3 : au.length ≤ 12) (h4 : ∀ r ∈ au, rrOk r = true)
  (hl : (an.flatMap fun r => rrB r 1).length + (au.flatMap fun r => rrB r 1).length ≤ 480) : msgOk ⟨id, true, 0, auth, code, [⟨n, ty⟩], an, au, [], [], []⟩ = true := by
 unfold msgOk msgMay
 simp only [List.getD_cons_zero, Bool.and_eq_true, decide_eq_true_eq, List.length_cons, List.length_nil, if_true]
 refine ⟨⟨⟨⟨⟨hid, hc⟩, ⟨trivial, hn⟩, ?_⟩, ⟨⟨⟨⟨?_, ?_⟩, rfl⟩, rfl⟩, rfl⟩⟩, trivial⟩, ?_⟩
 ·unfold askedT; rw [ht]; rfl
 ·unfold rrsOk; simp only [Bool.and_eq_true, decide_eq_true_eq, List.all_eq_true]; exact ⟨by omega, h2⟩
 ·unfold rrsOk; simp only [Bool.and_eq_true, decide_eq_true_eq, List.all_eq_true]; exact ⟨by omega, h4⟩
 ·unfold msgLen msgB
  simp only [List.flatMap_nil, List.append_nil, List.flatMap_append, List.length_append]
  rw [headB_len]
  simp only [List.getD_cons_zero]
  omega
theorem rr_small {r : Rr} (h : rrOk r = true) (ht : r.ty = 1 ∨ r.ty = 16) : (rdata r).length ≤ 41 := by
 rcases ht with e | e
 ·rw [rdata_A e]; simp [w4]
 ·rw [rdata_text (by omega) (by rw [e]; rfl)]
  unfold rrOk dataOk at h
  simp only [Bool.and_eq_true] at h
  have := h.2.2
  rw [if_pos (by rw [e]; rfl)] at this
  have := of_decide_eq_true this
  simp only [List.length_cons]; omega
theorem refAt_none {z : Zone} (h : ∀ r ∈ z.rrs, r.ty ≠ 2) (n : List (List UInt8)) : ∀ k, refAt z n k = none
 | 0 => rfl
 | k + 1 => by
  have : setOf z.rrs (n.drop k) 2 = [] := by
   unfold setOf
   rw [List.filter_eq_nil_iff]
   intro r hr hx
   simp only [Bool.and_eq_true, Bool.or_eq_true, beq_iff_eq] at hx
   rcases hx.2 with e | e
   ·cases e
   ·exact h r hr e
  unfold refAt
  rw [this, if_neg (by simp)]
  exact refAt_none h n k
theorem set_mem {l : List Rr} {n : List (List UInt8)} {t : Int} (ht : t ≠ 255) {r : Rr} (h : r ∈ setOf l n t) : r ∈ l ∧ r.name = n ∧ r.ty = t := by
 obtain ⟨h1, h2⟩ := List.mem_filter.1 h
 simp only [Bool.and_eq_true, decide_eq_true_eq, Bool.or_eq_true, beq_iff_eq] at h2
 exact ⟨h1, h2.1, h2.2.resolve_left ht⟩
theorem last_ask {z : Zone} (h3 : X3 z) {h : List Int} {n : List (List UInt8)} (hn : n ∈ qX) {ty : Int} (hty : ty ∈ [1, 16, 5]) :
  ((lookupN z n ty).2 = 0 → (heardT (tX2 n ty h) (ansM z (askM (tX2 n ty h)))).state = 1 ∧ (heardT (tX2 n ty h) (ansM z (askM (tX2 n ty h)))).code = 0 ∧ (heardT (tX2 n ty h) (ansM z (askM (tX2 n ty h)))).answers = (lookupN z n ty).1) ∧
  ((lookupN z n ty).2 = 4 → (heardT (tX2 n ty h) (ansM z (askM (tX2 n ty h)))).state = 1 ∧ (heardT (tX2 n ty h) (ansM z (askM (tX2 n ty h)))).code = 3 ∧ (heardT (tX2 n ty h) (ansM z (askM (tX2 n ty h)))).answers = []) := by
 obtain ⟨u1, u2, u3, u4⟩ := names_u.1 n hn
 have hk : tyOk ty = true := by revert ty; decide
 have ht255 : ty ≠ 255 := by revert ty; decide
 have hzp := zoneP.1 h3.ok
 have hu : underN n z.origin = true := by rw [h3.o]; exact u1
 have hq : ((askM (tX2 n ty h)).qs.getD 0 ⟨[], 0⟩) = ⟨n, ty⟩ := rfl
 have hlk := lookup_none (t := ty) hu (refAt_none h3.ns n (n.length - z.origin.length))
 constructor
 ·intro e0
  have hl : (lookupN z n ty).1 = setOf z.rrs n ty ∧ 0 < (setOf z.rrs n ty).length := by
   rw [hlk] at e0 ⊢
   split
   ·rename_i g; exact ⟨rfl, g⟩
   ·rename_i g
    rw [if_neg g] at e0
    split at e0
    ·cases e0
    ·simp only at e0
     split at e0 <;> cases e0
  obtain ⟨hl, hpos⟩ := hl
  have hlen : (setOf z.rrs n ty).length ≤ 6 := Nat.le_trans (List.length_filter_le _ _) h3.len
  have hmem : ∀ r ∈ setOf z.rrs n ty, r ∈ z.rrs ∧ r.name = n ∧ r.ty = ty := fun r hr => set_mem ht255 hr
  have hok : ∀ r ∈ setOf z.rrs n ty, rrOk r = true := fun r hr => hzp.ok r (hmem r hr).1
  have hraw : ansRaw z (askM (tX2 n ty h)) = ⟨7, true, 0, true, 0, [⟨n, ty⟩], setOf z.rrs n ty, [], [], [], []⟩ := by
   unfold ansRaw ansGo
   rw [hq]
   rw [if_pos e0, hl]
   rfl
  have hsz : ((setOf z.rrs n ty).flatMap fun r => rrB r 1).length ≤ 480 := by
   by_cases h5 : ty = 5
   ·have h1 : (setOf z.rrs n ty).length ≤ 1 := by
     obtain ⟨r, hr⟩ := List.exists_mem_of_length_pos hpos
     obtain ⟨m1, m2, m3⟩ := hmem r hr
     have := hzp.alone r m1 (by omega)
     rw [m2] at this
     refine Nat.le_trans ?_ this
     unfold setOf
     refine (List.Sublist.length_le ?_)
     have : (z.rrs.filter fun r => decide (r.name = n) && (ty == 255 || r.ty == ty)) = (z.rrs.filter fun r => decide (r.name = n) && ((255 : Int) == 255 || r.ty == 255)).filter fun r => r.ty == ty := by
      rw [List.filter_filter]
      refine List.filter_congr fun r _ => ?_
      rw [h5]
      cases decide (r.name = n) <;> simp
     rw [this]
     exact List.filter_sublist
    have := flatRr_le (k := 307) fun r hr => rrB_small (hok r hr) 1
    omega
   ·have hty' : ty = 1 ∨ ty = 16 := by simp at hty; omega
    have := flatRr_le (l := setOf z.rrs n ty) (k := 62) fun r hr => by
     have h7 := rr_small (hok r hr) (by rw [(hmem r hr).2.2]; exact hty')
     rw [rrB_len, (hmem r hr).2.1]
     omega
    omega
  have hans : ansM z (askM (tX2 n ty h)) = ⟨7, true, 0, true, 0, [⟨n, ty⟩], setOf z.rrs n ty, [], [], [], []⟩ := by
   unfold ansM
   rw [hraw, if_pos (ans_ok u3 u4 hk (by omega) (by omega) (by omega) hok (Nat.zero_le _) (fun r hr => absurd hr List.not_mem_nil) (by simpa using hsz))]
  rw [hans, hl]
  have hin : insideR (setOf z.rrs n ty) nXc = setOf z.rrs n ty := by
   unfold insideR
   rw [List.filter_eq_self]
   intro r hr
   rw [(hmem r hr).2.1]; exact u1
  have hs : sentT (tX2 n ty h) = ⟨0, 7, n, ty, n, nXc, h, [3], 0, 3, 2, 0, []⟩ := rfl
  have hown : ownF ⟨0, 7, n, ty, n, nXc, h, [3], 0, 3, 2, 0, []⟩ (setOf z.rrs n ty) = setOf z.rrs n ty := by
   unfold ownF
   rw [List.filter_eq_self]
   intro r hr
   obtain ⟨_, m2, m3⟩ := hmem r hr
   simp only [m2, m3, decide_true, beq_self_eq_true, Bool.and_self]
  have hf : folT (sentT (tX2 n ty h)) ⟨7, true, 0, true, 0, [⟨n, ty⟩], setOf z.rrs n ty, [], [], [], []⟩ = (takenT ⟨0, 7, n, ty, n, nXc, h, [3], 0, 3, 2, 0, []⟩ (setOf z.rrs n ty), true) := by
   unfold folT
   rw [hs]
   simp only
   rw [hin, folGo, hown, if_pos hpos]
  have ht : takenT ⟨0, 7, n, ty, n, nXc, h, [3], 0, 3, 2, 0, []⟩ (setOf z.rrs n ty) = ⟨1, 7, n, ty, n, nXc, h, [3], 0, 3, 2, 0, setOf z.rrs n ty⟩ := by
   unfold takenT
   rw [if_neg (by simp only [List.length_nil]; omega)]
   rfl
  have hh : heardT (tX2 n ty h) ⟨7, true, 0, true, 0, [⟨n, ty⟩], setOf z.rrs n ty, [], [], [], []⟩ = ⟨1, 7, n, ty, n, nXc, h, [3], 0, 3, 2, 0, setOf z.rrs n ty⟩ := by
   unfold heardT
   have hne : ¬ (tX2 n ty h).sends + 1 = 12 := show ¬ ((2 : Int) + 1 = 12) by decide
   rw [if_neg hne, if_neg (by simp), hf, if_pos rfl]
   exact ht
  rw [hh]
  exact ⟨rfl, rfl, rfl⟩
 ·intro e4
  have hraw : ansRaw z (askM (tX2 n ty h)) = ⟨7, true, 0, true, 3, [⟨n, ty⟩], [], [zTopR z], [], [], []⟩ := by
   unfold ansRaw ansGo
   rw [hq]
   simp only
   rw [e4]
   rfl
  have htop := hzp.ok _ (zTopR_mem h3.ok)
  have hsz := rrB_small htop 1
  have hans : ansM z (askM (tX2 n ty h)) = ⟨7, true, 0, true, 3, [⟨n, ty⟩], [], [zTopR z], [], [], []⟩ := by
   unfold ansM
   rw [hraw, if_pos (ans_ok u3 u4 hk (by omega) (by omega) (Nat.zero_le _) (fun r hr => absurd hr List.not_mem_nil) (by simp) (fun r hr => by rw [List.mem_singleton] at hr; rw [hr]; exact htop) (by simp only [List.flatMap_nil, List.length_nil, List.flatMap_cons, List.append_nil]; omega))]
  rw [hans]
  exact ⟨rfl, rfl, rfl⟩
theorem finds_main {z : Zone} (h3 : X3 z) {h : List Int} (hh : h ∈ [[1], [1, 9]]) {n : List (List UInt8)} (hn : n ∈ qX ++ qC ++ qR) {ty : Int} (hty : ty ∈ [1, 16, 5]) (Z : Zone) (hZ : Z = if underN n z.origin then z else if underN n zCom.origin then zCom else zRoot) :
  ((lookupN Z n ty).2 = 0 → (resGo [zRoot, zCom, z] [1, 2, 3] [] 12 0 (askT n ty h 7)).code = 0 ∧ (resGo [zRoot, zCom, z] [1, 2, 3] [] 12 0 (askT n ty h 7)).answers = (lookupN Z n ty).1) ∧
  ((lookupN Z n ty).2 = 4 → (resGo [zRoot, zCom, z] [1, 2, 3] [] 12 0 (askT n ty h 7)).code = 3 ∧ (resGo [zRoot, zCom, z] [1, 2, 3] [] 12 0 (askT n ty h 7)).answers = []) := by
 have hs1 : (askT n ty h 7).servers.getD (askT n ty h 7).turn.toNat 0 = 1 := by
  revert h; simp [askT]
 have s1 : resGo [zRoot, zCom, z] [1, 2, 3] [] 12 0 (askT n ty h 7) = resGo [zRoot, zCom, z] [1, 2, 3] [] 11 1 (heardT (askT n ty h 7) (ansM zRoot (askM (askT n ty h 7)))) :=
  resGo_step (show ¬ ((0 : Int) = 1) by decide) (by rw [hs1]; exact serve_1 z _)
 rcases List.mem_append.1 hn with hn | hn
 ·have e1 := closed_1 h hh n hn ty hty
  rw [e1] at s1
  have hu2 : underN n nCom = true := by
   rcases List.mem_append.1 hn with hn | hn
   ·exact (names_u.1 n hn).2.1
   ·exact (names_u.2.1 n hn).2.1
  have s2 : resGo [zRoot, zCom, z] [1, 2, 3] [] 11 1 (tX1 n ty h) = resGo [zRoot, zCom, z] [1, 2, 3] [] 10 2 (heardT (tX1 n ty h) (ansM zCom (askM (tX1 n ty h)))) :=
   resGo_step (show ¬ ((0 : Int) = 1) by decide) (serve_2 z _ hu2)
  rcases List.mem_append.1 hn with hn | hn
  ·obtain ⟨u1, _, _, _⟩ := names_u.1 n hn
   rw [closed_2 h hh n hn ty hty] at s2
   have s3 : resGo [zRoot, zCom, z] [1, 2, 3] [] 10 2 (tX2 n ty h) = resGo [zRoot, zCom, z] [1, 2, 3] [] 9 3 (heardT (tX2 n ty h) (ansM z (askM (tX2 n ty h)))) :=
    resGo_step (show ¬ ((0 : Int) = 1) by decide) (serve_3 z _ (by rw [h3.o]; exact u1))
   rw [h3.o, if_pos u1] at hZ
   subst hZ
   obtain ⟨l1, l2⟩ := last_ask h3 hn hty (h := h)
   rw [s1, s2, s3]
   constructor
   ·intro e
    obtain ⟨k1, k2, k3⟩ := l1 e
    rw [resGo_done _ _ _ _ _ _ k1]; exact ⟨k2, k3⟩
   ·intro e
    obtain ⟨k1, k2, k3⟩ := l2 e
    rw [resGo_done _ _ _ _ _ _ k1]; exact ⟨k2, k3⟩
  ·obtain ⟨u1, u2, _⟩ := names_u.2.1 n hn
   rw [h3.o, if_neg (by rw [u1]; decide), zCom_o, if_pos u2] at hZ
   subst hZ
   obtain ⟨l1, l2⟩ := closed_C h hh n hn ty hty
   rw [s1, s2]
   constructor
   ·intro e
    obtain ⟨k1, k2, k3⟩ := l1 e
    rw [resGo_done _ _ _ _ _ _ k1]; exact ⟨k2, k3⟩
   ·intro e
    obtain ⟨k1, k2, k3⟩ := l2 e
    rw [resGo_done _ _ _ _ _ _ k1]; exact ⟨k2, k3⟩
 ·obtain ⟨u1, u2, _⟩ := names_u.2.2 n hn
  rw [h3.o, if_neg (by rw [u1]; decide), zCom_o, if_neg (by rw [u2]; decide)] at hZ
  subst hZ
  obtain ⟨l1, l2⟩ := closed_R h hh n hn ty hty
  rw [s1]
  constructor
  ·intro e
   obtain ⟨k1, k2, k3⟩ := l1 e
   rw [resGo_done _ _ _ _ _ _ k1]; exact ⟨k2, k3⟩
  ·intro e
   obtain ⟨k1, k2, k3⟩ := l2 e
   rw [resGo_done _ _ _ _ _ _ k1]; exact ⟨k2, k3⟩

theorem fold_zok : ∀ (l : List Rr), (∀ r ∈ l, rrOk r = true) → ∀ {z : Zone}, zoneOk z = true → zoneOk (l.foldl addN z) = true
 | [], _, z, h => h
 | x :: l, hl, z, h => by
  rw [List.foldl_cons]
  exact fold_zok l (fun r hr => hl r (List.mem_cons_of_mem _ hr)) (addN_ok h (hl x (List.mem_cons_self ..)))
theorem x3_step {z : Zone} {k : Nat} (hz : zoneOk z = true) (ho : z.origin = nXc) (hn : ∀ r ∈ z.rrs, r.ty ≠ 2) (hk : z.rrs.length ≤ k) {x : Rr} (hx : rrOk x = true) (h2 : x.ty ≠ 2) :
  (addN z x).origin = nXc ∧ (∀ r ∈ (addN z x).rrs, r.ty ≠ 2) ∧ (addN z x).rrs.length ≤ k + 1 := by
 unfold addN
 rw [if_pos (by rw [hz, hx]; rfl)]
 split
 ·refine ⟨ho, fun r hr => ?_, ?_⟩
  ·rcases mem_addL.1 hr with rfl | ⟨y, hy, _, rfl⟩
   ·exact h2
   ·have := hn y hy
    unfold ttlR; split <;> exact this
  ·exact Nat.le_trans (addL_le _ _) (by omega)
 ·exact ⟨ho, hn, by omega⟩
theorem x3_go : ∀ (l : List Rr), (∀ r ∈ l, rrOk r = true) → (∀ r ∈ l, r.ty ≠ 2) → ∀ {z : Zone} {k : Nat}, zoneOk z = true → z.origin = nXc → (∀ r ∈ z.rrs, r.ty ≠ 2) → z.rrs.length ≤ k →
  (l.foldl addN z).origin = nXc ∧ (∀ r ∈ (l.foldl addN z).rrs, r.ty ≠ 2) ∧ (l.foldl addN z).rrs.length ≤ k + l.length
 | [], _, _, z, k, _, ho, hn, hk => ⟨ho, hn, hk⟩
 | x :: l, hl, h2, z, k, hz, ho, hn, hk => by
  rw [List.foldl_cons]
  have hx := hl x (List.mem_cons_self ..)
  obtain ⟨s1, s2, s3⟩ := x3_step hz ho hn hk hx (h2 x (List.mem_cons_self ..))
  obtain ⟨g1, g2, g3⟩ := x3_go l (fun r hr => hl r (List.mem_cons_of_mem _ hr)) (fun r hr => h2 r (List.mem_cons_of_mem _ hr)) (addN_ok hz hx) s1 s2 s3
  exact ⟨g1, g2, by rw [List.length_cons]; omega⟩
theorem new_x0 : zoneNewN (readN (ByteArray.mk #[120, 46, 99, 111, 109, 46]).toList) 1 = newZ nXc 1 ∧ zoneOk (newZ nXc 1) = true := by decide +kernel
theorem x3_fold {l : List Rr} (hl : ∀ r ∈ l, rrOk r = true) (h2 : ∀ r ∈ l, r.ty ≠ 2) (h5 : l.length ≤ 5) : X3 (l.foldl addN (zoneNewN (readN (ByteArray.mk #[120, 46, 99, 111, 109, 46]).toList) 1)) := by
 rw [new_x0.1]
 obtain ⟨g1, g2, g3⟩ := x3_go l hl h2 (z := newZ nXc 1) (k := 1) new_x0.2 rfl (by intro r hr; simp only [newZ, List.mem_singleton] at hr; rw [hr]; unfold topR; simp) (Nat.le_refl 1)
 exact ⟨fold_zok l hl new_x0.2, g1, g2, by omega⟩
theorem zRoot_eq : ([⟨readN (ByteArray.mk #[99, 111, 109, 46]).toList, 2, 60, 0, readN (ByteArray.mk #[110, 115, 46, 99, 111, 109, 46]).toList, [], []⟩, ⟨readN (ByteArray.mk #[110, 115, 46, 99, 111, 109, 46]).toList, 1, 60, 2, [], [], []⟩] : List Rr).foldl addN (zoneNewN (readN (ByteArray.mk #[46]).toList) 1) = zRoot := by decide +kernel
theorem zCom_eq : ([⟨readN (ByteArray.mk #[120, 46, 99, 111, 109, 46]).toList, 2, 60, 0, readN (ByteArray.mk #[110, 115, 46, 120, 46, 99, 111, 109, 46]).toList, [], []⟩, ⟨readN (ByteArray.mk #[110, 115, 46, 120, 46, 99, 111, 109, 46]).toList, 1, 60, 3, [], [], []⟩, ⟨readN (ByteArray.mk #[110, 115, 46, 99, 111, 109, 46]).toList, 1, 60, 2, [], [], []⟩, ⟨readN (ByteArray.mk #[121, 46, 99, 111, 109, 46]).toList, 1, 60, 20, [], [], []⟩] : List Rr).foldl addN (zoneNewN (readN (ByteArray.mk #[99, 111, 109, 46]).toList) 1) = zCom := by decide +kernel
def qByt : List ByteArray := [ByteArray.mk #[119, 119, 119, 46, 120, 46, 99, 111, 109, 46], ByteArray.mk #[97, 46, 120, 46, 99, 111, 109, 46], ByteArray.mk #[98, 46, 120, 46, 99, 111, 109, 46], ByteArray.mk #[121, 46, 99, 111, 109, 46], ByteArray.mk #[110, 111, 46, 99, 111, 109, 46], ByteArray.mk #[120, 46, 99, 111, 109, 46], ByteArray.mk #[111, 114, 103, 46]]
theorem qByt_q : ∀ b ∈ qByt, readN b.toList ∈ qX ++ qC ++ qR := by decide +kernel

theorem okx_spec_l11zone (b : ByteArray) (l : List Rr) (hb : b.size ≤ 4194303) (hl : ∀ r ∈ l, rrOk r = true) (hll : l.length ≤ 1000) (h0 : zoneOk (newZ (readN b.toList) 1) = true) :
  FnOK Tryz.prog 219 [.one (.d (.sc (.string b))), .one (.d (encR l))] (fun ra _ => ra = [.agg [.d (encBB (l.foldl addN (zoneNewN (readN b.toList) 1)).origin), .d (encR (l.foldl addN (zoneNewN (readN b.toList) 1)).rrs)]]) := by
 refine FnOK.ofK Tryz.func219 (by kernel_rfl) dg_spec_l11zone rs_spec_l11zone rfl rfl ?_
 delta c_spec_l11zone T.o X.i C.g
 have e0 : zoneNewN (readN b.toList) 1 = newZ (readN b.toList) 1 := by unfold zoneNewN; rw [if_pos h0]
 have hn : SmallBB (readN b.toList) := .ok (readN_ok _)
 have h1 : zoneOk (zoneNewN (readN b.toList) 1) = true := by rw [e0]; exact h0
 refine Kbc (kAlloc Y Y (Kdb (Kc (Ka Y (Ku true (ok_spec_l2of _ prx) ⟨Y, trivial⟩ Y Y Y (fun _ => (Ku true (ok_spec_ZoneNew _ _ prx) ⟨⟨⟨Y, trivial⟩, leb⟩, rfl, trivial⟩ Y Y Y (fun _ => (kMovT Y (kExtC Y Y (kExtC Y Y (kAlloc Y Y (kMem [(24576, ⟨1, 0, .box [.nil 1, .nil 7]⟩), (49152, ⟨1, 0, .arr true _⟩), (49153, ⟨1, 0, .arr true _⟩)] [(5, .c (.ptr 24576 1 0)), (12, .g [.arr 49152 1, .arr 49153 1]), (13, .c (.d _))] [] ⟨Y, Y, Y, trivial⟩ ⟨Y, Y, Y, trivial⟩ Y (Ko Y Y Y Y (Ka Y (Kdb (Kbc (Ka Y (Kd (Kt ?_))))))))))))))))))))
 refine kSub (Sub.frzBox (rid 5 0) (rid 11 0) 0 rfl rfl rfl rfl rfl) ?_
 refine kSub (Sub.frzBox (rid 5 0) (rid 11 1) 1 rfl rfl rfl rfl rfl) ?_
 refine kLoop (α := { i : Nat // i ≤ l.length }) (fun y => ⟨tabSl [(1, .dv (encR l)), (4, .c (.ptr (rid 4 0) 1 0)), (5, .c (.ptr (rid 5 0) 1 0)), (7, .i y.1)], obTab 1 [(rid 4 0, ⟨1, 0, .box [.nil 1, .nil 7]⟩), (rid 5 0, ⟨1, 0, .box [.d (encBB ((l.take y.1).foldl addN (zoneNewN (readN b.toList) 1)).origin), .d (encR ((l.take y.1).foldl addN (zoneNewN (readN b.toList) 1)).rrs)]⟩)], []⟩) (fun y => l.length - y.1) ⟨0, Nat.zero_le _⟩ .normA ?_
 rintro ⟨i, hi⟩
 simp only
 have hz : zoneOk ((l.take i).foldl addN (zoneNewN (readN b.toList) 1)) = true := fold_zok (l.take i) (fun r hr => hl r (List.mem_of_mem_take hr)) h1
 rcases Nat.lt_or_ge i l.length with hlt | hge
 ·have hr := hl _ (List.getElem_mem hlt)
  have hrs := rrOk_small hr
  have hzs := zoneOk_small hz
  have hsu := foldl_succ addN l i hlt (zoneNewN (readN b.toList) 1)
  refine Kb (Kbc (Ka Y (Ka Y (Kq Y Y (Kj Y Y Y (Kd (Km Y (fun g0 => Kn (Kb (Kt (kRegD (Ke Y Y Y (Ka Y (Ka Y (kIadR Y Y Y prl (Ky Y Y (Ks Y Y (Ku true (ok_spec_Add _ _ prx prx) ⟨⟨⟨Y, Y, trivial⟩, leb⟩, ⟨⟨Y, Y, Y, Y, Y, Y, Y, trivial⟩, leb⟩, trivial⟩ Y Y Y (fun _ => (kMovT Y (kExtC Y Y (kExtC Y Y (kMem [(24576, ⟨1, 0, .box [.d _, .d _]⟩), (110592, ⟨2, 0, .arr true _⟩), (110593, ⟨2, 0, .arr true _⟩)] [(5, .c (.ptr 24576 1 0)), (27, .g [.arr 110592 2, .arr 110593 2])] [] ⟨Y, Y, Y, trivial⟩ ⟨Y, Y, trivial⟩ Y (Ks Y Y (Ko Y Y Y Y (Kd (kH (Kv (Kc (Ka Y (kAdd Y Y om (Ka Y (Kd ?_)))))))))))))))))))))))))) (fun g0 => om))))))))
  refine kInv ⟨⟨i + 1, hlt⟩, by simp only; omega, (Sub.frzBox (rid 5 0) (rid 26 0) 0 rfl rfl rfl rfl rfl).trans ((Sub.frzBox (rid 5 0) (rid 26 1) 1 rfl rfl rfl rfl rfl).trans ?_)⟩
  rw [hsu]
  exact .normA
 ·have he : i = l.length := by omega
  subst he
  rw [List.take_length]
  refine Kb (Kbc (Ka Y (Ka Y (Kq Y Y (Kj Y Y Y (Kd (Km Y (fun g0 => om) (fun g0 => kExit (kExC (kExI (kExB (Kbc (Ke Y Y Y (kMem [(20480, ⟨1, 0, .box [.nil 1, .nil 7]⟩)] [(4, .c (.ptr 20480 1 0)), (29, .g [.d _, .d _])] [] ⟨Y, trivial⟩ ⟨Y, Y, trivial⟩ Y (Ko Y Y Y Y (Kd (kMem [(20480, ⟨1, 0, .box [.d _, .d _]⟩)] [(4, .c (.ptr 20480 1 0))] [] ⟨Y, trivial⟩ ⟨Y, trivial⟩ Y (Kr (Er (ra := [.agg [(.d _), (.d _)]]) rfl rfl)))))))))))))))))))

def c_spec_l1Byte : C := (.g (.o 0 2 (.mov (.i 0)) .done) (.g (.o 0 4 (.mov (.t 0)) (.o 1 5 (.mov (.t 0)) (.o 2 6 (.nck (.t 5)) (.o 3 7 (.fad (.t 6) 2) (.o 4 8 (.load none (.t 7)) (.o 5 9 (.bin .mul (.t 8) (.i 6364136223846793005)) (.o 6 10 (.bin .add (.t 9) (.i 1442695040888963407)) (.o 7 11 (.nck (.t 4)) (.o 8 12 (.fad (.t 11) 2) (.op 9 [] none none false (.store none (.t 12) (.t 10)) .done)))))))))) (.seq (.reg true (.op 0 [] (some 13) none true (.mov (.t 0)) (.op 1 [] (some 14) none true (.nck (.t 13)) (.op 2 [] (some 15) none true (.fad (.t 14) 2) (.op 3 [] (some 16) none true (.load none (.t 15)) (.op 4 [] (some 17) none true (.bin .shr (.t 16) (.v (.int .u64 33))) (.op 5 [] (some 18) none true (.mov (.t 0)) (.op 6 [] (some 19) none true (.nck (.t 18)) (.op 7 [] (some 20) none true (.fad (.t 19) 2) (.op 8 [] (some 21) none true (.load none (.t 20)) (.op 9 [] (some 22) none true (.bin .shr (.t 21) (.v (.int .u64 45))) (.op 10 [] (some 23) none true (.bin .xor (.t 17) (.t 22)) (.op 11 [] (some 24) none true (.bin .and (.t 23) (.i 255)) (.op 12 [] (some 3) none true (.mov (.t 24)) .done)))))))))))))) (.seq (.seq (.reg true (.op 0 [] (some 25) none true (.mov (.t 0)) (.op 1 [] (some 26) none true (.nck (.t 25)) (.op 2 [] (some 27) none true (.fad (.t 26) 1) (.op 3 [] (some 28) none true (.load none (.t 27)) (.op 4 [] (some 29) none true (.mov (.t 0)) (.op 5 [] (some 30) none true (.nck (.t 29)) (.op 6 [] (some 31) none true (.fad (.t 30) 0) (.op 7 [] (some 32) none true (.load none (.t 31)) (.op 8 [] (some 33) none true (.len (.t 32)) (.op 9 [] (some 34) none true (.bin .lss (.t 28) (.t 33)) .done))))))))))) (.cond (.t 34) (.seq (.reg true (.op 0 [] (some 35) none true (.mov (.t 3)) (.op 1 [] (some 36) none true (.mov (.t 0)) (.op 2 [] (some 37) none true (.nck (.t 36)) (.op 3 [] (some 38) none true (.fad (.t 37) 0) (.op 4 [] (some 39) none true (.load none (.t 38)) (.op 5 [] (some 40) none true (.mov (.t 0)) (.op 6 [] (some 41) none true (.nck (.t 40)) (.op 7 [] (some 42) none true (.fad (.t 41) 1) (.op 8 [] (some 43) none true (.load none (.t 42)) (.op 9 [] (some 44) none true (.iad 1 (.t 39) (.t 43)) (.op 10 [] (some 45) none true (.load none (.t 44)) (.op 11 [] (some 46) none true (.conv .i64 (.t 45)) (.op 12 [] (some 47) none true (.bin .add (.t 35) (.t 46)) (.op 13 [] (some 48) none true (.bin .and (.t 47) (.i 255)) (.op 14 [] (some 3) none true (.mov (.t 48)) .done)))))))))))))))) (.reg false (.o 0 49 (.mov (.t 0)) (.o 1 50 (.mov (.t 0)) (.o 2 51 (.nck (.t 50)) (.o 3 52 (.fad (.t 51) 1) (.o 4 53 (.load none (.t 52)) (.o 5 54 (.bin .add (.t 53) (.i 1)) (.o 6 55 (.nck (.t 49)) (.o 7 56 (.fad (.t 55) 1) (.op 8 [] none none false (.store none (.t 56) (.t 54)) .done))))))))))) .skip)) (.g (.o 0 57 (.mov (.t 3)) (.o 1 2 (.mov (.t 57)) .done)) .ret)))))
theorem dg_spec_l1Byte : Tryz.f159.body.bind (digC Tryz.prog Tryz.f159.ntmps []) = some c_spec_l1Byte := by kernel_rfl
theorem rs_spec_l1Byte : resSlots Tryz.prog Tryz.f159 = some [.s 2] := by kernel_rfl
theorem ok_spec_l1Byte (c : Cu) :
  FnOK Tryz.prog 159 [.one (.box c.cells)] (fun ra os => ∃ x : Int × Cu, (0 ≤ x.1 ∧ x.1 ≤ 255) ∧ ra = [.one (.d (.sc (.int .i64 x.1)))] ∧ os.b 0 = x.2.cells) := by
 refine FnOK.ofK Tryz.func159 (by kernel_rfl) dg_spec_l1Byte rs_spec_l1Byte rfl rfl ?_
 delta c_spec_l1Byte T.o X.i C.g
 have c0 := c.i0
 have c1 := c.i1
 have c2 := c.b
 refine Kbc (Ka Y (Kdb (Kc (Ka Y (Ka Y (kNck Y Y (Kf Y Y (Ke Y Y Y (Kj Y Y Y (Kj Y Y Y (kNck Y Y (Kf Y Y (Ko Y Y Y Y (Kdb (kRegD (Ka Y (kNck Y Y (Kf Y Y (Ke Y Y Y (kShr (m := 33) Y Y Y (Ka Y (kNck Y Y (Kf Y Y (Ke Y Y Y (kShr (m := 45) Y Y Y (Kj Y Y Y (Kj Y Y Y (Ka Y (Kd (kH (Kb (Kb (kRegD (Ka Y (kNck Y Y (Kf Y Y (Ke Y Y Y (Ka Y (kNck Y Y (Kf Y Y (Ke Y Y Y (Kq Y Y (Kj Y Y Y (Kd (kH (Km Y (fun g0 => Kb (kRegD (Ka Y (Ka Y (kNck Y Y (Kf Y Y (Ke Y Y Y (Ka Y (kNck Y Y (Kf Y Y (Ke Y Y Y (kIadT Y Y om (Ky Y Y (kConv Y (Kj Y Y Y (Kj Y Y Y (Ka Y (Kd (kH (Kc (Ka Y (Ka Y (kNck Y Y (Kf Y Y (Ke Y Y Y (kAdd Y Y om (kNck Y Y (Kf Y Y (Ko Y Y Y Y (Kdb (Kc (Ka Y (Ka Y (Kd (Kr (Er (ra := [.one (.d _)]) rfl ?_)))))))))))))))))))))))))))))))))))) (fun g0 => Kn (Kbc (Ka Y (Ka Y (Kd (Kr (Er (ra := [.one (.d _)]) rfl ?_)))))))))))))))))))))))))))))))))))))))))))))))))))))
 ·refine ⟨(IntKind.i64.wrap ((_ &&& BitVec.ofInt 64 255).toNat : Int), ⟨c.code, c.i + 1, IntKind.i64.wrap _, by omega, by omega, c.b⟩), and255 _, rfl, rfl⟩
 ·refine ⟨(IntKind.i64.wrap ((_ &&& BitVec.ofInt 64 255).toNat : Int), ⟨c.code, c.i, IntKind.i64.wrap _, c.i0, c.i1, c.b⟩), and255 _, rfl, rfl⟩

def c_spec_l1Below : C := (.g (.o 0 4 (.mov (.i 0)) .done) (.seq (.g (.o 0 9 (.mov (.t 1)) (.o 1 10 (.bin .leq (.t 9) (.i 0)) .done)) (.cond (.t 10) (.g (.o 0 4 (.mov (.i 0)) .done) .ret) .skip)) (.seq (.g (.o 0 11 (.mov (.t 1)) (.o 1 12 (.bin .leq (.t 11) (.i 256)) .done)) (.cond (.t 12) (.g (.o 0 13 (.mov (.t 0)) (.o 1 14 (.call 14 159 [(.t 13)]) (.o 2 15 (.mov (.t 1)) (.o 3 16 (.bin .rem (.t 14) (.t 15)) (.o 4 4 (.mov (.t 16)) .done))))) .ret) .skip)) (.g (.o 0 17 (.mov (.t 0)) (.o 1 18 (.call 18 159 [(.t 17)]) (.o 2 5 (.mov (.t 18)) .done))) (.g (.o 0 19 (.mov (.t 0)) (.o 1 20 (.call 20 159 [(.t 19)]) (.o 2 6 (.mov (.t 20)) .done))) (.g (.o 0 21 (.mov (.t 0)) (.o 1 22 (.call 22 159 [(.t 21)]) (.o 2 7 (.mov (.t 22)) .done))) (.g (.o 0 23 (.mov (.t 0)) (.o 1 24 (.call 24 159 [(.t 23)]) (.o 2 8 (.mov (.t 24)) .done))) (.g (.o 0 25 (.mov (.t 5)) (.o 1 26 (.bin .mul (.t 25) (.i 16777216)) (.o 2 27 (.mov (.t 6)) (.o 3 28 (.bin .mul (.t 27) (.i 65536)) (.o 4 29 (.bin .add (.t 26) (.t 28)) (.o 5 30 (.mov (.t 7)) (.o 6 31 (.bin .mul (.t 30) (.i 256)) (.o 7 32 (.bin .add (.t 29) (.t 31)) (.o 8 33 (.mov (.t 8)) (.o 9 34 (.bin .add (.t 32) (.t 33)) (.o 10 35 (.mov (.t 1)) (.o 11 36 (.bin .rem (.t 34) (.t 35)) (.o 12 4 (.mov (.t 36)) .done))))))))))))) .ret))))))))
theorem dg_spec_l1Below : Tryz.f76.body.bind (digC Tryz.prog Tryz.f76.ntmps []) = some c_spec_l1Below := by kernel_rfl
theorem rs_spec_l1Below : resSlots Tryz.prog Tryz.f76 = some [.s 4] := by kernel_rfl
theorem ok_spec_l1Below (c : Cu) (n : Int) :
  FnOK Tryz.prog 76 [.one (.box c.cells), .one (.d (.sc (.int .i64 n)))] (fun ra os => ∃ x : Int × Cu, (0 ≤ x.1 ∧ (x.1 < n ∨ x.1 = 0)) ∧ ra = [.one (.d (.sc (.int .i64 x.1)))] ∧ os.b 0 = x.2.cells) := by
 refine FnOK.ofK Tryz.func76 (by kernel_rfl) dg_spec_l1Below rs_spec_l1Below rfl rfl ?_
 delta c_spec_l1Below T.o X.i C.g
 refine Kbc (Ka Y (Kdb (Kbc (Ka Y (Kj Y Y Y (Kd (Km Y (fun g0 => Kbc (Ka Y (Kd (Kr (Er (ra := [.one (.d _)]) rfl ?_))))) (fun g0 => Kn (Kb (Kbc (Ka Y (Kj Y Y Y (Kd (Km Y (fun g1 => Kbc (Ka Y (Kz (ok_spec_l1Byte _) ⟨⟨rfl, _, rfl, rfl⟩, trivial⟩ Y Y Y (fun _ => rfl) (fun x2 hx2 => (Ka Y (kRem Y Y om (Ka Y (Kd (Kr (Er (ra := [.one (.d _)]) rfl ?_)))))))))) (fun g1 => Kn (Kbc (Ka Y (Kz (ok_spec_l1Byte _) ⟨⟨rfl, _, rfl, rfl⟩, trivial⟩ Y Y Y (fun _ => rfl) (fun x3 hx3 => (Ka Y (Kdb (Kc (Ka Y (Kz (ok_spec_l1Byte _) ⟨⟨rfl, _, rfl, rfl⟩, trivial⟩ Y Y Y (fun _ => rfl) (fun x4 hx4 => (Ka Y (Kdb (Kc (Ka Y (Kz (ok_spec_l1Byte _) ⟨⟨rfl, _, rfl, rfl⟩, trivial⟩ Y Y Y (fun _ => rfl) (fun x5 hx5 => (Ka Y (Kdb (Kc (Ka Y (Kz (ok_spec_l1Byte _) ⟨⟨rfl, _, rfl, rfl⟩, trivial⟩ Y Y Y (fun _ => rfl) (fun x6 hx6 => (Ka Y (Kdb (Kc (Ka Y (kMul Y Y om (Ka Y (kMul Y Y om (kAdd Y Y om (Ka Y (kMul Y Y om (kAdd Y Y om (Ka Y (kAdd Y Y om (Ka Y (kRem Y Y om (Ka Y (Kd (Kr (Er (ra := [.one (.d _)]) rfl ?_))))))))))))))))))))))))))))))))))))))))))))))))))))))))
 ·exact ⟨(0, c), ⟨Int.le_refl _, .inr rfl⟩, rfl, rfl⟩
 ·have := tmod_in (a := x2.1) (n := n) hx2.1 (by omega)
  exact ⟨(x2.1.tmod n, x2.2), ⟨this.1, .inl this.2⟩, rfl, rfl⟩
 ·have := tmod_in (a := x3.1 * 16777216 + x4.1 * 65536 + x5.1 * 256 + x6.1) (n := n) (by omega) (by omega)
  exact ⟨(_, x6.2), ⟨this.1, .inl this.2⟩, rfl, rfl⟩

def c_spec_l2draw : C := (.g (.o 0 2 (.alloc 2 [(.n 1)]) .done) (.g (.o 0 3 (.lit 3 1 [(.v (.string ⟨#[]⟩))] 12 [(0, 1, (.v (.string ⟨#[46]⟩))), (1, 1, (.v (.string ⟨#[104, 111, 109, 101, 46]⟩))), (2, 1, (.v (.string ⟨#[112, 99, 46, 104, 111, 109, 101, 46]⟩))), (3, 1, (.v (.string ⟨#[116, 118, 46, 104, 111, 109, 101, 46]⟩))), (4, 1, (.v (.string ⟨#[97, 46, 112, 99, 46, 104, 111, 109, 101, 46]⟩))), (5, 1, (.v (.string ⟨#[99, 111, 109, 46]⟩))), (6, 1, (.v (.string ⟨#[120, 46, 99, 111, 109, 46]⟩))), (7, 1, (.v (.string ⟨#[119, 119, 119, 46, 120, 46, 99, 111, 109, 46]⟩))), (8, 1, (.v (.string ⟨#[110, 115, 46, 99, 111, 109, 46]⟩))), (9, 1, (.v (.string ⟨#[51, 46, 48, 46, 48, 46, 49, 48, 46, 105, 110, 45, 97, 100, 100, 114, 46, 97, 114, 112, 97, 46]⟩))), (10, 1, (.v (.string ⟨#[115, 117, 98, 46, 104, 111, 109, 101, 46]⟩))), (11, 1, (.v (.string ⟨#[121, 46, 115, 117, 98, 46, 104, 111, 109, 101, 46]⟩)))]) (.o 1 4 (.mov (.t 0)) (.o 2 5 (.call 5 76 [(.t 4), (.i 12)]) (.o 3 6 (.iad 1 (.t 3) (.t 5)) (.o 4 7 (.load none (.t 6)) (.o 5 8 (.call 8 222 [(.t 7)]) (.op 6 [] none none false (.store (some 1) (.t 2) (.t 8)) .done))))))) .ret))
theorem dg_spec_l2draw : Tryz.f234.body.bind (digC Tryz.prog Tryz.f234.ntmps []) = some c_spec_l2draw := by kernel_rfl
theorem rs_spec_l2draw : resSlots Tryz.prog Tryz.f234 = some [.m 2 (some 1)] := by kernel_rfl
theorem ok_spec_l2draw (c : Cu) :
  FnOK Tryz.prog 234 [.one (.box c.cells)] (fun ra os => ∃ x : List (List UInt8) × Cu, (nameOk x.1 = true) ∧ ra = [.agg [.own true (encBB x.1)]] ∧ os.b 0 = x.2.cells) := by
 refine FnOK.ofK Tryz.func234 (by kernel_rfl) dg_spec_l2draw rs_spec_l2draw rfl rfl ?_
 delta c_spec_l2draw T.o X.i C.g
 refine Kbc (kAlloc Y Y (Kdb (Kc (kLitG Y Y Y Y (Ka Y (Kz (ok_spec_l1Below _ _) ⟨⟨rfl, _, rfl, rfl⟩, rfl, trivial⟩ Y Y Y (fun _ => rfl) (fun x0 hx0 => (kIadStr Y Y Y Y (by simp only [List.length_cons, List.length_nil]; omega) (kLoadStr Y Y Y (by simp only [List.length_cons, List.length_nil]; omega) rfl (fun b1 hb1 => (Ku true (ok_spec_l2of _ pry) ⟨Y, trivial⟩ Y Y Y (fun _ => (Ko Y Y Y Y (Kd (Kr (Er (ra := [.agg [(.own true _)]]) rfl ?_))))))))))))))))
 exact ⟨(readN b1.toList, x0.2), readN_ok _, rfl, rfl⟩

def c_spec_l1PickInt : C := (.g (.o 0 4 (.mov (.i 0)) .done) (.g (.o 0 5 (.mov (.t 1)) (.o 1 6 (.mov (.t 0)) (.o 2 7 (.mov (.t 1)) (.o 3 8 (.len (.t 7)) (.o 4 9 (.call 9 76 [(.t 6), (.t 8)]) (.o 5 10 (.iad 1 (.t 5) (.t 9)) (.o 6 11 (.load none (.t 10)) (.o 7 4 (.mov (.t 11)) .done)))))))) .ret))
theorem dg_spec_l1PickInt : Tryz.f158.body.bind (digC Tryz.prog Tryz.f158.ntmps []) = some c_spec_l1PickInt := by kernel_rfl
theorem rs_spec_l1PickInt : resSlots Tryz.prog Tryz.f158 = some [.s 4] := by kernel_rfl
theorem ok_spec_l1PickInt (c : Cu) (xs : List (List DV)) {l : List Int} (hx : intsOf xs = some l) (h0 : 0 < l.length) (h1 : l.length ≤ 1000000) :
  FnOK Tryz.prog 158 [.one (.box c.cells), .one (.d (.sl 1 xs))] (fun ra os => ∃ x : Int × Cu, (x.1 ∈ l) ∧ ra = [.one (.d (.sc (.int .i64 x.1)))] ∧ os.b 0 = x.2.cells) := by
 rw [intsOf_eq hx]
 refine FnOK.ofK Tryz.func158 (by kernel_rfl) dg_spec_l1PickInt rs_spec_l1PickInt rfl rfl ?_
 delta c_spec_l1PickInt T.o X.i C.g
 refine Kbc (Ka Y (Kdb (Kc (Ka Y (Ka Y (Ka Y (Kq Y Y (Kz (ok_spec_l1Below _ _) ⟨⟨rfl, _, rfl, rfl⟩, rfl, trivial⟩ Y Y Y (fun _ => rfl) (fun x0 hx0 => (kIadT Y Y om (Ky Y Y (Ka Y (Kd (Kr (Er (ra := [.one (.d _)]) rfl ?_)))))))))))))))
 exact ⟨(_, x0.2), List.getElem_mem _, rfl, rfl⟩

def c_spec_l1some : C := (.g (.o 0 4 (.mov (.n 1)) .done) (.g (.o 0 5 (.mov (.n 1)) .done) (.g (.o 0 8 (.mov (.t 0)) (.o 1 9 (.mov (.t 1)) (.o 2 10 (.call 10 76 [(.t 8), (.t 9)]) (.o 3 6 (.mov (.t 10)) .done)))) (.seq (.g (.o 0 7 (.mov (.i 0)) .done) (.block 0 (.loop (.seq (.g (.o 0 11 (.mov (.t 7)) (.o 1 12 (.mov (.t 6)) (.o 2 13 (.bin .lss (.t 11) (.t 12)) .done))) (.cond (.t 13) .skip (.exit 0))) (.seq (.block 1 (.reg false (.o 0 16 (.mov (.t 5)) (.o 1 17 (.mov (.t 0)) (.o 2 18 (.call 18 159 [(.t 17)]) (.o 3 19 (.conv .u8 (.t 18)) (.o 4 20 (.lit 20 1 [(.v (.int .u8 0))] 1 [(0, 1, (.t 19))]) (.o 5 21 (.app 21 1 1 (.t 16) (.t 20)) (.o 6 5 (.mov (.t 21)) .done))))))))) (.reg false (.o 0 14 (.mov (.t 7)) (.o 1 15 (.bin .add (.t 14) (.i 1)) (.o 2 7 (.mov (.t 15)) .done))))))))) (.g (.o 0 22 (.mov (.t 5)) (.o 1 4 (.mov (.t 22)) .done)) .ret)))))
theorem dg_spec_l1some : Tryz.f235.body.bind (digC Tryz.prog Tryz.f235.ntmps []) = some c_spec_l1some := by kernel_rfl
theorem rs_spec_l1some : resSlots Tryz.prog Tryz.f235 = some [.s 4] := by kernel_rfl
theorem ok_spec_l1some (c : Cu) (n : Int) (hn : n ≤ 4194304) :
  FnOK Tryz.prog 235 [.one (.box c.cells), .one (.d (.sc (.int .i64 n)))] (fun ra os => ∃ x : List UInt8 × Cu, ((x.1.length : Int) < n ∨ x.1 = []) ∧ ra = [.one (.own true (encB x.1))] ∧ os.b 0 = x.2.cells) := by
 refine FnOK.ofK Tryz.func235 (by kernel_rfl) dg_spec_l1some rs_spec_l1some rfl rfl ?_
 delta c_spec_l1some T.o X.i C.g
 refine Kbc (Ka Y (Kdb (Kc (Ka Y (Kdb (Kc (Ka Y (Ka Y (Kz (ok_spec_l1Below _ _) ⟨⟨rfl, _, rfl, rfl⟩, rfl, trivial⟩ Y Y Y (fun _ => rfl) (fun x0 hx0 => (Ka Y (Kdb (Kbc (Ka Y (Kd (Kt ?_))))))))))))))))
 refine kSub (Sub.nilArr (j := 5) (id := rid 5000 0) (sz := 1) rfl (by decide)) ?_
 refine kLoop (α := { l : List UInt8 // (l.length : Int) ≤ x0.1 } × Cu) (fun y => ⟨tabSl [(0, .c (.ptr 0 0 0)), (5, .c (.arr (rid 5000 0) 1)), (6, .i x0.1), (7, .i y.1.1.length)], obTab 1 [(0, ⟨0, 0, .box (y.2.cells.map .d)⟩), (rid 5000 0, ⟨1, 0, .arr true (encB y.1.1)⟩)], []⟩) (fun y => x0.1.toNat - y.1.1.length) (⟨[], by simp; omega⟩, x0.2) .normA ?_
 rintro ⟨⟨l, hl⟩, c'⟩
 simp only
 rcases Int.lt_or_le (l.length : Int) x0.1 with hlt | hge
 ·refine Kb (Kbc (Ka Y (Ka Y (Kj Y Y Y (Kd (Km Y (fun g0 => Kn (Kb (Kt (Kc (Ka Y (Ka Y (Kz (ok_spec_l1Byte _) ⟨⟨rfl, _, rfl, rfl⟩, trivial⟩ Y Y Y (fun _ => rfl) (fun x1 hx1 => (kConvU8 Y (kLit Y Y Y Y (kAppR1 Y Y Y Y Y Y Y Y om (Ka Y (Kd (Kv (Kc (Ka Y (kAdd Y Y om (Ka Y (Kd ?_))))))))))))))))))) (fun g0 => om)))))))
  refine kInv ⟨(⟨l ++ [u8 x1.1], by simp; omega⟩, x1.2), by simp; omega, .norm ?_ ?_⟩
  ·refine ⟨⟨_, rfl, rfl, rfl, rfl⟩, ⟨_, rfl, rfl, rfl, rfl⟩, ⟨_, rfl, .inl rfl⟩, ⟨_, rfl, .inl ?_⟩, trivial⟩
   simp
  ·repeat' first | exact trivial | exact rfl | exact .inl rfl | refine ⟨_, rfl, ?_⟩ | refine ⟨?_, ?_⟩ | fail
 ·refine Kb (Kbc (Ka Y (Ka Y (Kj Y Y Y (Kd (Km Y (fun g0 => om) (fun g0 => kExit (kExC (kExI (kExB (Kbc (Ka Y (Ka Y (Kd (Kr (Er (ra := [.one (.own true _)]) rfl ?_))))))))))))))))
  exact ⟨(l, c'), by rcases hx0.2 with h | h; exact .inl (by simp only; omega); exact .inr (show l = [] from List.eq_nil_of_length_eq_zero (by omega)), rfl, rfl⟩

end Go.Proofs.YtdfcphdolipapaaGreat.FnFindsFn
