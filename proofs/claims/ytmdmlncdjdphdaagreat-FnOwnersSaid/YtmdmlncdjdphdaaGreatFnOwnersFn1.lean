/- What the functions that FnOwners reaches compute, one contract each; each with the bounds that it states. -/
import Derived.Test.YtmdmlncdjdphdaaGreatHearth4
import Derived.Test.YtmdmlncdjdphdaaGreatProg
import Derived.KernelRfl
set_option maxRecDepth 100000
set_option maxHeartbeats 8000000
set_option linter.unusedVariables false
set_option linter.unusedSimpArgs false
namespace Go.Proofs.YtmdmlncdjdphdaaGreat.FnOwnersFn
open Go Hearth Go.Proofs

def c_spec_l1New : C := (.g (.o 0 2 (.mov (.v (.pointer none))) .done) (.g (.o 0 5 (.mov (.t 0)) (.o 1 6 (.len (.t 5)) (.o 2 7 (.bin .add (.i 42222) (.t 6)) (.o 3 3 (.mov (.t 7)) .done)))) (.seq (.g (.o 0 4 (.mov (.i 0)) .done) (.block 0 (.loop (.seq (.g (.o 0 8 (.mov (.t 4)) (.o 1 9 (.mov (.t 0)) (.o 2 10 (.len (.t 9)) (.o 3 11 (.bin .lss (.t 8) (.t 10)) (.o 4 12 (.mov (.t 11)) (.op 5 [] (some 13) (some (12, true)) false (.mov (.t 4)) (.op 6 [] (some 14) (some (12, true)) false (.bin .lss (.t 13) (.i 4000)) (.o 7 15 (.pick (.t 12) (.t 14) (.v (.bool false))) .done)))))))) (.cond (.t 15) .skip (.exit 0))) (.seq (.block 1 (.reg false (.o 0 18 (.mov (.t 3)) (.o 1 19 (.bin .mul (.t 18) (.i 131)) (.o 2 20 (.mov (.t 0)) (.o 3 21 (.mov (.t 4)) (.o 4 22 (.iad 1 (.t 20) (.t 21)) (.o 5 23 (.load none (.t 22)) (.o 6 24 (.conv .i64 (.t 23)) (.o 7 25 (.bin .add (.t 19) (.t 24)) (.o 8 26 (.bin .add (.t 25) (.i 7)) (.o 9 27 (.bin .and (.t 26) (.i 1073741823)) (.o 10 3 (.mov (.t 27)) .done))))))))))))) (.reg false (.o 0 16 (.mov (.t 4)) (.o 1 17 (.bin .add (.t 16) (.i 1)) (.o 2 4 (.mov (.t 17)) .done))))))))) (.g (.o 0 28 (.mov (.t 0)) (.o 1 29 (.mov (.t 3)) (.o 2 30 (.build [(.n 1), (.i 0), (.i 0)] [(0, 1, (.t 28)), (2, 1, (.t 29))]) (.o 3 31 (.box 31 (.t 30)) (.o 4 2 (.mov (.t 31)) .done))))) .ret))))
theorem dg_spec_l1New : Tryz.f63.body.bind (digC Tryz.prog Tryz.f63.ntmps []) = some c_spec_l1New := by kernel_rfl
theorem rs_spec_l1New : resSlots Tryz.prog Tryz.f63 = some [.s 2] := by kernel_rfl
theorem ok_spec_l1New (code : List UInt8) (hb : (code.length : Int) ≤ 9223372036854775807) :
    FnOK Tryz.prog 63 [.one (.d (encB code))] (fun ra _ => ∃ c : Cu, True ∧ ra = [.one (.box c.cells)]) := by
  refine FnOK.ofK Tryz.func63 (by kernel_rfl) dg_spec_l1New rs_spec_l1New rfl rfl ?_
  delta c_spec_l1New T.o X.i C.g
  refine Kbc (Ka Y (Kdb (Kc (Ka Y (Kq Y Y (Kj Y Y Y (Ka Y (Kdb (Kbc (Ka Y (Kd (Kt ?_))))))))))))
  refine kLoop (α := { i : Nat // i ≤ code.length } × Int) (fun y => ⟨tabSl [(0, .dv (encB code)), (3, .i y.2), (4, .i y.1.1)], obTab 1 [], []⟩) (fun y => code.length - y.1.1) (⟨0, by simp⟩, _) .normA ?_
  rintro ⟨⟨i, hi⟩, h⟩
  simp only
  rcases Nat.lt_or_ge i code.length with hlt | hge
  · refine Kb (Kbc (Ka Y (Ka Y (Kq Y Y (Kj Y Y Y (Ka Y (kGP Y (fun g0 => Ki Y (Ka Y (Ki Y (Kj Y Y Y (Kk Y (Ka Y (Kd (Km Y (fun g1 => Kn (Kb (Kt (Kc (Ka Y (Kj Y Y Y (Ka Y (Ka Y (kIadR Y Y Y om (Ky Y Y (kConv Y (Kj Y Y Y (Kj Y Y Y (Kj Y Y Y (Ka Y (Kd (Kv (Kc (Ka Y (kAdd Y Y om (Ka Y (Kd ?_)))))))))))))))))))))) (fun g1 => kExit (kExC (kExI (kExB (Kbc (Ka Y (Ka Y (kBuildG Y (kBox Y Y Y Y Y (Ka Y (Kd (Kr (Er (ra := [.one (.box [_, _, _])]) rfl ?_))))))))))))))))))))) (fun g0 => om))))))))
    · exact kInv ⟨(⟨i + 1, by omega⟩, _), by simp only; omega, .normA⟩
    · exact ⟨⟨code, 0, h, by omega, by omega, hb⟩, trivial, rfl⟩
  · refine Kb (Kbc (Ka Y (Ka Y (Kq Y Y (Kj Y Y Y (Ka Y (kGP Y (fun g0 => om) (fun g0 => Kg Y (Kg Y (Kl Y (Ka Y (Kd (kCondF Y (kExit (kExC (kExI (kExB (Kbc (Ka Y (Ka Y (kBuildG Y (kBox Y Y Y Y Y (Ka Y (Kd (Kr (Er (ra := [.one (.box [_, _, _])]) rfl ?_))))))))))))))))))))))))))
    exact ⟨⟨code, 0, h, by omega, by omega, hb⟩, trivial, rfl⟩

def c_spec_Lower : C := (.g (.o 0 2 (.mov (.n 1)) .done) (.g (.o 0 5 (.lit 5 1 [(.v (.int .u8 0))] 0 []) (.o 1 6 (.mov (.t 0)) (.o 2 7 (.app 7 1 1 (.t 5) (.t 6)) (.o 3 3 (.mov (.t 7)) .done)))) (.seq (.g (.o 0 4 (.mov (.i 0)) .done) (.block 0 (.loop (.seq (.g (.o 0 8 (.mov (.t 4)) (.o 1 9 (.mov (.t 3)) (.o 2 10 (.len (.t 9)) (.o 3 11 (.bin .lss (.t 8) (.t 10)) .done)))) (.cond (.t 11) .skip (.exit 0))) (.seq (.block 1 (.g (.o 0 14 (.mov (.t 3)) (.o 1 15 (.mov (.t 4)) (.o 2 16 (.iad 1 (.t 14) (.t 15)) (.o 3 17 (.load none (.t 16)) (.o 4 18 (.bin .geq (.t 17) (.v (.int .u8 65))) (.o 5 19 (.mov (.t 18)) (.op 6 [] (some 20) (some (19, true)) false (.mov (.t 3)) (.op 7 [] (some 21) (some (19, true)) false (.mov (.t 4)) (.op 8 [] (some 22) (some (19, true)) false (.iad 1 (.t 20) (.t 21)) (.op 9 [] (some 23) (some (19, true)) false (.load none (.t 22)) (.op 10 [] (some 24) (some (19, true)) false (.bin .leq (.t 23) (.v (.int .u8 90))) (.o 11 25 (.pick (.t 19) (.t 24) (.v (.bool false))) .done)))))))))))) (.cond (.t 25) (.reg false (.o 0 26 (.mov (.t 3)) (.o 1 27 (.mov (.t 4)) (.o 2 28 (.mov (.t 3)) (.o 3 29 (.mov (.t 4)) (.o 4 30 (.iad 1 (.t 28) (.t 29)) (.o 5 31 (.load none (.t 30)) (.o 6 32 (.bin .add (.t 31) (.v (.int .u8 32))) (.o 7 33 (.iad 1 (.t 26) (.t 27)) (.op 8 [] none none false (.store none (.t 33) (.t 32)) .done)))))))))) .skip))) (.reg false (.o 0 12 (.mov (.t 4)) (.o 1 13 (.bin .add (.t 12) (.i 1)) (.o 2 4 (.mov (.t 13)) .done))))))))) (.g (.o 0 34 (.mov (.t 3)) (.o 1 2 (.mov (.t 34)) .done)) .ret))))
theorem dg_spec_Lower : Tryz.f248.body.bind (digC Tryz.prog Tryz.f248.ntmps []) = some c_spec_Lower := by kernel_rfl
theorem rs_spec_Lower : resSlots Tryz.prog Tryz.f248 = some [.s 2] := by kernel_rfl
theorem ok_spec_Lower (b : List UInt8) (hb : b.length ≤ 4194304) :
    FnOK Tryz.prog 248 [.one (.d (encB b))] (fun ra _ => ra = [.one (.own true (encB (lowerB b)))]) := by
  refine FnOK.ofK Tryz.func248 (by kernel_rfl) dg_spec_Lower rs_spec_Lower rfl rfl ?_
  delta c_spec_Lower T.o X.i C.g
  refine Kbc (Ka Y (Kdb (Kc (kLit Y Y Y Y (Ka Y (kAppN Y Y Y (src_encB _ _) rfl rfl rfl rfl om (Ka Y (Kdb (Kbc (Ka Y (Kd (Kt ?_))))))))))))
  refine kLoop (α := { i : Nat // i ≤ b.length }) (fun y => ⟨tabSl [(3, .c (.arr (rid 5 0) 1)), (4, .i y.1)], obTab 1 [(rid 5 0, ⟨1, 0, .arr true (encB (lowerB (b.take y.1) ++ b.drop y.1))⟩)], []⟩) (fun y => b.length - y.1) ⟨0, by simp⟩ .normA ?_
  rintro ⟨i, hi⟩
  simp only
  have hlen : (lowerB (b.take i) ++ b.drop i).length = b.length := by simp [lowerB]; omega
  rcases Nat.lt_or_ge i b.length with hlt | hge
  · have hget : (lowerB (b.take i) ++ b.drop i)[i]? = some b[i] := by
      rw [List.getElem?_append_right (by simp [lowerB]; omega)]; simp [lowerB, Nat.min_eq_left hi]
    have hst : ∀ c, c = lowC b[i] → (lowerB (b.take i) ++ b.drop i).set i c = lowerB (b.take (i + 1)) ++ b.drop (i + 1) := by
      rintro c rfl
      rw [take_set_succ _ _ _ _ hlt (by simp [lowerB]; omega)]
      unfold lowerB
      rw [← List.take_append_getElem hlt, List.map_append]
      rfl
    revert hget hst hlen
    generalize lowerB (b.take i) ++ b.drop i = L
    intro hlen hget hst
    have hiL : i < L.length := by omega
    have hg : L[i] = b[i] := by rw [List.getElem?_eq_getElem hiL] at hget; simpa using hget
    have hw : IntKind.u8.wrap (((L[i]).toNat : Int) + 32) = ((L[i] + 32 : UInt8).toNat : Int) := by
      have := (L[i]).toNat_lt
      simp [IntKind.wrap, IntKind.bits, IntKind.signed, UInt8.toNat_add]
    have hno : (¬ ((L[i]).toNat : Int) ≥ 65 ∨ ¬ ((L[i]).toNat : Int) ≤ 90) → L = lowerB (b.take (i + 1)) ++ b.drop (i + 1) := by
      intro h
      rw [← hst L[i] (by
        rw [hg] at h ⊢
        unfold lowC
        rw [if_neg]
        rintro ⟨h1, h2⟩
        have h1 := UInt8.le_iff_toNat_le.1 h1
        have h2 := UInt8.le_iff_toNat_le.1 h2
        simp at h1 h2
        omega)]
      simp
    refine Kb (Kbc (Ka Y (Ka Y (Kq Y Y (Kj Y Y Y (Kd (Km Y (fun g0 => Kn (Kb (Kt (Kbc (Ka Y (Ka Y (kIadAR Y Y Y Y om (kLoadER Y Y om rfl (Kj Y Y Y (Ka Y (kGP Y (fun g1 => (Ki Y (Ka Y (Ki Y (Ka Y (Ki Y (kIadAR Y Y Y Y om (Ki Y (kLoadER Y Y om rfl (Ki Y (Kj Y Y Y (Kk Y (Ka Y (Kd (Km Y (fun g2 => Kc (Ka Y (Ka Y (Ka Y (Ka Y (kIadAR Y Y Y Y om (kLoadER Y Y om rfl (Kj Y Y Y (kIadAR Y Y Y Y om ?_))))))))) (fun g2 => Kn (Kv (Kc (Ka Y (kAdd Y Y om (Ka Y (Kd ?_)))))))))))))))))))))) (fun g1 => (Kg Y (Kg Y (Kg Y (Kg Y (Kg Y (Kl Y (Ka Y (Kd (kCondF Y (Kn (Kv (Kc (Ka Y (kAdd Y Y om (Ka Y (Kd ?_)))))))))))))))))))))))))))) (fun g0 => om))))))))
    · refine kStoreER (z := L[i] + 32) Y Y Y Y Y Y Y hiL (by rw [← hw]; rfl) ?_
      refine Kd (Kv (Kc (Ka Y (kAdd Y Y om (Ka Y (Kd ?_))))))
      refine kInv ⟨⟨i + 1, by omega⟩, by simp only; omega, ?_⟩
      simp only
      rw [← hst (L[i] + 32) (by
        rw [hg] at *
        unfold lowC
        rw [if_pos]
        simp only [UInt8.le_iff_toNat_le]
        exact ⟨by simp; omega, by simp; omega⟩)]
      exact .normA
    all_goals
      refine kInv ⟨⟨i + 1, by omega⟩, by simp only; omega, ?_⟩
      simp only
      rw [← hno (by omega)]
      exact .normA
  · refine Kb (Kbc (Ka Y (Ka Y (Kq Y Y (Kj Y Y Y (Kd (Km Y (fun g0 => om) (fun g0 => kExit (kExC (kExI (kExB (Kbc (Ka Y (Ka Y (Kd (Kr (Er (ra := [.one (.own true _)]) rfl ?_)))))))))))))))))
    rw [show i = b.length by omega]
    simp

def c_spec_LabelOk : C := (.g (.o 0 2 (.mov (.v (.bool false))) .done) (.seq (.g (.o 0 4 (.mov (.t 0)) (.o 1 5 (.len (.t 4)) (.o 2 6 (.bin .lss (.t 5) (.i 1)) (.o 3 7 (.mov (.t 6)) (.op 4 [] (some 8) (some (7, false)) false (.mov (.t 0)) (.op 5 [] (some 9) (some (7, false)) false (.len (.t 8)) (.op 6 [] (some 10) (some (7, false)) false (.bin .gtr (.t 9) (.i 15)) (.o 7 11 (.pick (.t 7) (.v (.bool true)) (.t 10)) .done)))))))) (.cond (.t 11) (.g (.o 0 2 (.mov (.v (.bool false))) .done) .ret) .skip)) (.seq (.g (.o 0 3 (.mov (.i 0)) .done) (.block 0 (.loop (.seq (.g (.o 0 12 (.mov (.t 3)) (.o 1 13 (.mov (.t 0)) (.o 2 14 (.len (.t 13)) (.o 3 15 (.bin .lss (.t 12) (.t 14)) .done)))) (.cond (.t 15) .skip (.exit 0))) (.seq (.block 1 (.g (.o 0 18 (.mov (.t 0)) (.o 1 19 (.mov (.t 3)) (.o 2 20 (.iad 1 (.t 18) (.t 19)) (.o 3 21 (.load none (.t 20)) (.o 4 22 (.bin .geq (.t 21) (.v (.int .u8 97))) (.o 5 23 (.mov (.t 22)) (.op 6 [] (some 24) (some (23, true)) false (.mov (.t 0)) (.op 7 [] (some 25) (some (23, true)) false (.mov (.t 3)) (.op 8 [] (some 26) (some (23, true)) false (.iad 1 (.t 24) (.t 25)) (.op 9 [] (some 27) (some (23, true)) false (.load none (.t 26)) (.op 10 [] (some 28) (some (23, true)) false (.bin .leq (.t 27) (.v (.int .u8 122))) (.o 11 29 (.pick (.t 23) (.t 28) (.v (.bool false))) (.o 12 30 (.un .not (.t 29)) (.o 13 31 (.mov (.t 30)) (.op 14 [] (some 32) (some (31, true)) false (.mov (.t 0)) (.op 15 [] (some 33) (some (31, true)) false (.mov (.t 3)) (.op 16 [] (some 34) (some (31, true)) false (.iad 1 (.t 32) (.t 33)) (.op 17 [] (some 35) (some (31, true)) false (.load none (.t 34)) (.op 18 [] (some 36) (some (31, true)) false (.bin .geq (.t 35) (.v (.int .u8 48))) (.op 19 [] (some 37) (some (31, true)) false (.mov (.t 36)) (.op 20 [] (some 38) (some (37, true)) false (.mov (.t 0)) (.op 21 [] (some 39) (some (37, true)) false (.mov (.t 3)) (.op 22 [] (some 40) (some (37, true)) false (.iad 1 (.t 38) (.t 39)) (.op 23 [] (some 41) (some (37, true)) false (.load none (.t 40)) (.op 24 [] (some 42) (some (37, true)) false (.bin .leq (.t 41) (.v (.int .u8 57))) (.op 25 [] (some 43) (some (31, true)) false (.pick (.t 37) (.t 42) (.v (.bool false))) (.op 26 [] (some 44) (some (31, true)) false (.un .not (.t 43)) (.o 27 45 (.pick (.t 31) (.t 44) (.v (.bool false))) (.o 28 46 (.mov (.t 45)) (.op 29 [] (some 47) (some (46, true)) false (.mov (.t 0)) (.op 30 [] (some 48) (some (46, true)) false (.mov (.t 3)) (.op 31 [] (some 49) (some (46, true)) false (.iad 1 (.t 47) (.t 48)) (.op 32 [] (some 50) (some (46, true)) false (.load none (.t 49)) (.op 33 [] (some 51) (some (46, true)) false (.bin .neq (.t 50) (.v (.int .u8 45))) (.o 34 52 (.pick (.t 46) (.t 51) (.v (.bool false))) .done))))))))))))))))))))))))))))))))))) (.cond (.t 52) (.g (.o 0 2 (.mov (.v (.bool false))) .done) .ret) .skip))) (.reg false (.o 0 16 (.mov (.t 3)) (.o 1 17 (.bin .add (.t 16) (.i 1)) (.o 2 3 (.mov (.t 17)) .done))))))))) (.g (.o 0 2 (.mov (.v (.bool true))) .done) .ret))))
theorem dg_spec_LabelOk : Tryz.f129.body.bind (digC Tryz.prog Tryz.f129.ntmps []) = some c_spec_LabelOk := by kernel_rfl
theorem rs_spec_LabelOk : resSlots Tryz.prog Tryz.f129 = some [.s 2] := by kernel_rfl
theorem ok_spec_LabelOk (b : List UInt8) (hb : b.length ≤ 4194304) :
    FnOK Tryz.prog 129 [.one (.d (encB b))] (fun ra _ => ra = [.one (.d (.sc (.bool (labelOk b))))]) := by
  refine FnOK.ofK Tryz.func129 (by kernel_rfl) dg_spec_LabelOk rs_spec_LabelOk rfl rfl ?_
  delta c_spec_LabelOk T.o X.i C.g
  refine Kbc (Ka Y (Kdb (Kbc (Ka Y (Kq Y Y (Kj Y Y Y (Ka Y (kGP Y (fun g0 => Kg Y (Kg Y (Kg Y (Kk Y (Ka Y (Kd (kCondT Y (Kbc (Ka Y (Kd (Kr (Er (ra := [.one (.d _)]) rfl ?_)))))))))))) (fun g0 => Ki Y (Ka Y (Ki Y (Kq Y Y (Ki Y (Kj Y Y Y (Kl Y (Ka Y (Kd (Km Y (fun g1 => Kbc (Ka Y (Kd (Kr (Er (ra := [.one (.d _)]) rfl ?_))))) (fun g1 => Kn (Kb (Kbc (Ka Y (Kd (Kt ?_))))))))))))))))))))))))
  · rw [show labelOk b = false by simp only [labelOk]; rw [decide_eq_false (by omega)]; rfl]
  · rw [show labelOk b = false by simp only [labelOk]; rw [decide_eq_false (p := b.length ≤ 15) (by omega)]; simp]
  refine kLoop (α := { i : Nat // i ≤ b.length ∧ (b.take i).all okLetter = true })
    (fun y => ⟨tabSl [(0, .dv (encB b)), (3, .i y.1)], (St.init [.one (.d (encB b))]).ob, []⟩) (fun y => b.length - y.1) ⟨0, by simp⟩
    (.tab rfl ⟨.refl _, .refl _, trivial⟩) ?_
  rintro ⟨i, hi, hl⟩
  simp only
  refine Kb (Kbc (Ka Y (Ka Y (Kq Y Y (Kj Y Y Y (Kd (Km Y (fun g0 => Kn (Kb (Kt (Kbc (Ka Y (Ka Y (kIadR Y Y Y om (Ky Y Y (Kj Y Y Y (Ka Y (kGP Y (fun g1 => Ki Y (Ka Y (Ki Y (Ka Y (Ki Y (kIadR Y Y Y om (Ki Y (Ky Y Y (Ki Y (Kj Y Y Y (Kk Y (Ka Y (Kw Y Y (Ka Y (kGN Y (fun g2 => Ki Y (Ka Y (Ki Y (Ka Y (Ki Y (kIadR Y Y Y om (Ki Y (Ky Y Y (Ki Y (Kj Y Y Y (Ki Y (Ka Y (kGP Y (fun g3 => Ki Y (Ka Y (Ki Y (Ka Y (Ki Y (kIadR Y Y Y om (Ki Y (Ky Y Y (Ki Y (Kj Y Y Y (Ki Y (Kk Y (Ka Y (Ki Y (Kw Y Y (Kk Y (Ka Y (Ka Y (kGN Y (fun g4 => Ki Y (Ka Y (Ki Y (Ka Y (Ki Y (kIadR Y Y Y om (Ki Y (Ky Y Y (Ki Y (Kj Y Y Y (Kk Y (Ka Y (Kd (kCondN Y (fun g5 => Kbc (Ka Y (Kd (Kr (Er (ra := [.one (.d _)]) rfl ?_))))) (fun g5 => Kn (Kv (Kc (Ka Y (kAdd Y Y om (Ka Y (Kd ?_))))))))))))))))))))) (fun g4 => Kg Y (Kg Y (Kg Y (Kg Y (Kg Y (Kl Y (Ka Y (Kd (kCondF Y (Kn (Kv (Kc (Ka Y (kAdd Y Y om (Ka Y (Kd ?_))))))))))))))))))))))))))))))))))) (fun g3 => om)))))))))))))) (fun g2 => Kg Y (Kg Y (Kg Y (Kg Y (Kg Y (Kg Y (kGU Y (kGU Y (kGU Y (kGU Y (kGU Y (Kg Y (Kg Y (Kl Y (Ka Y (Ka Y (Kg Y (Kg Y (Kg Y (Kg Y (Kg Y (Kl Y (Ka Y (Kd (kCondF Y (Kn (Kv (Kc (Ka Y (kAdd Y Y om (Ka Y (Kd ?_))))))))))))))))))))))))))))))))))))))))))))))) (fun g1 => Kg Y (Kg Y (Kg Y (Kg Y (Kg Y (Kl Y (Ka Y (Kw Y Y (Ka Y (Ki Y (Ka Y (Ki Y (Ka Y (Ki Y (kIadR Y Y Y om (Ki Y (Ky Y Y (Ki Y (Kj Y Y Y (Ki Y (Ka Y (kGP Y (fun g6 => Ki Y (Ka Y (Ki Y (Ka Y (Ki Y (kIadR Y Y Y om (Ki Y (Ky Y Y (Ki Y (Kj Y Y Y (Ki Y (Kk Y (Ka Y (Ki Y (Kw Y Y (Kk Y (Ka Y (Ka Y (kGN Y (fun g7 => Ki Y (Ka Y (Ki Y (Ka Y (Ki Y (kIadR Y Y Y om (Ki Y (Ky Y Y (Ki Y (Kj Y Y Y (Kk Y (Ka Y (Kd (kCondN Y (fun g8 => Kbc (Ka Y (Kd (Kr (Er (ra := [.one (.d _)]) rfl ?_))))) (fun g8 => Kn (Kv (Kc (Ka Y (kAdd Y Y om (Ka Y (Kd ?_))))))))))))))))))))) (fun g7 => Kg Y (Kg Y (Kg Y (Kg Y (Kg Y (Kl Y (Ka Y (Kd (kCondF Y (Kn (Kv (Kc (Ka Y (kAdd Y Y om (Ka Y (Kd ?_))))))))))))))))))))))))))))))))))) (fun g6 => Kg Y (Kg Y (Kg Y (Kg Y (Kg Y (Ki Y (Kl Y (Ka Y (Ki Y (Kw Y Y (Kk Y (Ka Y (Ka Y (Ki Y (Ka Y (Ki Y (Ka Y (Ki Y (kIadR Y Y Y om (Ki Y (Ky Y Y (Ki Y (Kj Y Y Y (Kk Y (Ka Y (Kd (kCondN Y (fun g9 => Kbc (Ka Y (Kd (Kr (Er (ra := [.one (.d _)]) rfl ?_))))) (fun g9 => Kn (Kv (Kc (Ka Y (kAdd Y Y om (Ka Y (Kd ?_))))))))))))))))))))))))))))))))))))))))))))))))))))))))))))))))))) (fun g0 => kExit (kExC (kExI (kExB (Kbc (Ka Y (Kd (Kr (Er (ra := [.one (.d _)]) rfl ?_))))))))))))))))
  all_goals try simp only [decide_eq_true_eq, decide_eq_false_iff_not, beq_iff_eq, beq_eq_false_iff_ne] at *
  all_goals first
    | exact kInv ⟨⟨i + 1, by omega, labelOk_step (by omega) hl (by rw [okLetter_iff]; omega)⟩, by simp only; omega, .tab rfl ⟨.refl _, .refl _, trivial⟩⟩
    | rw [labelOk_no (b := b) (i := i) (by omega) (by rw [okLetter_iff]; omega)]
    | skip
  have hge : i = b.length := by omega
  subst hge
  rw [List.take_length] at hl
  rw [show labelOk b = true by simp only [labelOk]; rw [decide_eq_true (by omega), decide_eq_true (by omega), hl]; rfl]

def c_spec_NameOk : C := (.g (.o 0 1 (.box 1 (.t 0)) (.o 1 2 (.mov (.v (.bool false))) .done)) (.seq (.g (.o 0 4 (.fad (.t 1) 0) (.o 1 5 (.load none (.t 4)) (.o 2 6 (.len (.t 5)) (.o 3 7 (.bin .gtr (.t 6) (.i 6)) .done)))) (.cond (.t 7) (.g (.o 0 2 (.mov (.v (.bool false))) .done) .ret) .skip)) (.seq (.g (.o 0 3 (.mov (.i 0)) .done) (.block 0 (.loop (.seq (.g (.o 0 8 (.mov (.t 3)) (.o 1 9 (.fad (.t 1) 0) (.o 2 10 (.load none (.t 9)) (.o 3 11 (.len (.t 10)) (.o 4 12 (.bin .lss (.t 8) (.t 11)) .done))))) (.cond (.t 12) .skip (.exit 0))) (.seq (.block 1 (.g (.o 0 15 (.fad (.t 1) 0) (.o 1 16 (.load none (.t 15)) (.o 2 17 (.mov (.t 3)) (.o 3 18 (.iad 1 (.t 16) (.t 17)) (.o 4 19 (.load none (.t 18)) (.o 5 20 (.call 20 129 [(.t 19)]) (.o 6 21 (.un .not (.t 20)) .done))))))) (.cond (.t 21) (.g (.o 0 2 (.mov (.v (.bool false))) .done) .ret) .skip))) (.reg false (.o 0 13 (.mov (.t 3)) (.o 1 14 (.bin .add (.t 13) (.i 1)) (.o 2 3 (.mov (.t 14)) .done))))))))) (.g (.o 0 2 (.mov (.v (.bool true))) .done) .ret))))
theorem dg_spec_NameOk : Tryz.f47.body.bind (digC Tryz.prog Tryz.f47.ntmps []) = some c_spec_NameOk := by kernel_rfl
theorem rs_spec_NameOk : resSlots Tryz.prog Tryz.f47 = some [.s 2] := by kernel_rfl
theorem ok_spec_NameOk (a : List (List UInt8)) (ha : a.length ≤ 4194304) (hb : ∀ b ∈ a, b.length ≤ 4194304) :
    FnOK Tryz.prog 47 [.agg [.d (encBB a)]] (fun ra _ => ra = [.one (.d (.sc (.bool (nameOk a))))]) := by
  refine FnOK.ofK Tryz.func47 (by kernel_rfl) dg_spec_NameOk rs_spec_NameOk rfl rfl ?_
  delta c_spec_NameOk T.o X.i C.g
  refine Kbc (kBox Y Y Y Y Y (Ka Y (Kdb (Kbc (Kf Y Y (Ke Y Y Y (Kq Y Y (Kj Y Y Y (Kd (Km Y (fun g0 => Kbc (Ka Y (Kd (Kr (Er (ra := [.one (.d _)]) rfl ?_))))) (fun g0 => Kn (Kb (Kbc (Ka Y (Kd (Kt ?_))))))))))))))))
  · rw [show nameOk a = false by simp only [nameOk]; rw [decide_eq_false (by omega)]; rfl]
  refine kLoop (α := { i : Nat // i ≤ a.length ∧ (a.take i).all labelOk = true })
    (fun y => ⟨tabSl [(1, .c (.ptr (rid 1 0) 1 0)), (3, .i y.1)], obTab 1 [(rid 1 0, ⟨1, 0, .box [.d (encBB a)]⟩)], []⟩) (fun y => a.length - y.1) ⟨0, by simp⟩
    .normA ?_
  rintro ⟨i, hi, hl⟩
  simp only
  refine Kb (Kbc (Ka Y (Kf Y Y (Ke Y Y Y (Kq Y Y (Kj Y Y Y (Kd (Km Y (fun g0 => Kn (Kb (Kt (Kbc (Kf Y Y (Ke Y Y Y (Ka Y (kIadR Y Y Y om (Ky Y Y (Kp (ok_spec_LabelOk _ (by first | assumption | omega | solve_by_elim [List.getElem_mem])) ⟨Y, trivial⟩ Y Y Y Y Y (Kw Y Y (Kd (kCondN Y (fun g1 => Kbc (Ka Y (Kd (Kr (Er (ra := [.one (.d _)]) rfl ?_))))) (fun g1 => Kn (Kv (Kc (Ka Y (kAdd Y Y om (Ka Y (Kd ?_)))))))))))))))))))) (fun g0 => kExit (kExC (kExI (kExB (Kbc (Ka Y (Kd (Kr (Er (ra := [.one (.d _)]) rfl ?_)))))))))))))))))
  · rename_i h
    rw [show nameOk a = false by simp only [nameOk]; rw [all_no (i := i) (by omega) (by assumption), Bool.and_false]]
  · exact kInv ⟨⟨i + 1, by omega, all_step om hl (by assumption)⟩, by simp only; omega, .normA⟩
  · have hge : i = a.length := by omega
    subst hge
    rw [List.take_length] at hl
    rw [show nameOk a = true by simp only [nameOk]; rw [decide_eq_true (by omega), hl]; rfl]

def c_spec_NameRead : C := (.g (.o 0 2 (.alloc 2 [(.n 1)]) (.o 1 3 (.mov (.v (.bool false))) .done)) (.seq (.g (.o 0 7 (.mov (.t 0)) (.o 1 8 (.b2s (.t 7)) (.o 2 9 (.bin .eql (.t 8) (.v (.string ⟨#[46]⟩))) .done))) (.cond (.t 9) (.g (.o 0 10 (.build [(.n 1)] []) (.op 1 [] none none false (.store (some 1) (.t 2) (.t 10)) (.o 2 3 (.mov (.v (.bool true))) .done))) .ret) .skip)) (.g (.o 0 4 (.alloc 4 [(.n 1)]) .done) (.g (.o 0 5 (.mov (.n 1)) .done) (.seq (.g (.o 0 6 (.mov (.i 0)) .done) (.block 0 (.loop (.seq (.g (.o 0 11 (.mov (.t 6)) (.o 1 12 (.mov (.t 0)) (.o 2 13 (.len (.t 12)) (.o 3 14 (.bin .leq (.t 11) (.t 13)) .done)))) (.cond (.t 14) .skip (.exit 0))) (.seq (.block 1 (.seq (.g (.o 0 17 (.mov (.t 6)) (.o 1 18 (.mov (.t 0)) (.o 2 19 (.len (.t 18)) (.o 3 20 (.bin .lss (.t 17) (.t 19)) (.o 4 21 (.mov (.t 20)) (.op 5 [] (some 22) (some (21, true)) false (.mov (.t 0)) (.op 6 [] (some 23) (some (21, true)) false (.mov (.t 6)) (.op 7 [] (some 24) (some (21, true)) false (.iad 1 (.t 22) (.t 23)) (.op 8 [] (some 25) (some (21, true)) false (.load none (.t 24)) (.op 9 [] (some 26) (some (21, true)) false (.bin .neq (.t 25) (.v (.int .u8 46))) (.o 10 27 (.pick (.t 21) (.t 26) (.v (.bool false))) .done))))))))))) (.cond (.t 27) (.g (.o 0 28 (.mov (.t 5)) (.o 1 29 (.mov (.t 0)) (.o 2 30 (.mov (.t 6)) (.o 3 31 (.iad 1 (.t 29) (.t 30)) (.o 4 32 (.load none (.t 31)) (.o 5 33 (.lit 33 1 [(.v (.int .u8 0))] 1 [(0, 1, (.t 32))]) (.o 6 34 (.app 34 1 1 (.t 28) (.t 33)) (.o 7 5 (.mov (.t 34)) .done)))))))) (.exit 1)) .skip)) (.seq (.g (.o 0 35 (.mov (.t 6)) (.o 1 36 (.mov (.t 0)) (.o 2 37 (.len (.t 36)) (.o 3 38 (.bin .eql (.t 35) (.t 37)) (.o 4 39 (.mov (.t 38)) (.op 5 [] (some 40) (some (39, true)) false (.mov (.t 5)) (.op 6 [] (some 41) (some (39, true)) false (.len (.t 40)) (.op 7 [] (some 42) (some (39, true)) false (.bin .eql (.t 41) (.i 0)) (.o 8 43 (.pick (.t 39) (.t 42) (.v (.bool false))) (.o 9 44 (.mov (.t 43)) (.op 10 [] (some 45) (some (44, true)) false (.mov (.t 6)) (.op 11 [] (some 46) (some (44, true)) false (.bin .gtr (.t 45) (.i 0)) (.o 12 47 (.pick (.t 44) (.t 46) (.v (.bool false))) .done))))))))))))) (.cond (.t 47) (.exit 0) .skip)) (.seq (.reg true (.op 0 [] (some 48) none true (.fad (.t 4) 0) (.op 1 [] (some 49) none true (.load none (.t 48)) (.op 2 [] (some 50) none true (.mov (.t 5)) (.o 3 51 (.call 51 248 [(.t 50)]) (.o 4 52 (.lit 52 1 [(.n 1)] 1 [(0, 1, (.t 51))]) (.op 5 [1] (some 53) none false (.app 53 1 24 (.t 49) (.t 52)) (.op 6 [] (some 54) none true (.fad (.t 4) 0) (.op 7 [1] none none false (.store none (.t 54) (.t 53)) .done))))))))) (.reg false (.o 0 5 (.mov (.n 1)) .done)))))) (.reg false (.o 0 15 (.mov (.t 6)) (.o 1 16 (.bin .add (.t 15) (.i 1)) (.o 2 6 (.mov (.t 16)) .done))))))))) (.seq (.g (.o 0 55 (.load (some 1) (.t 4)) (.o 1 56 (.call 56 47 [(.t 55)]) (.o 2 57 (.un .not (.t 56)) .done))) (.cond (.t 57) (.g (.o 0 58 (.build [(.n 1)] []) (.op 1 [] none none false (.store (some 1) (.t 2) (.t 58)) (.o 2 3 (.mov (.v (.bool false))) .done))) .ret) .skip)) (.g (.o 0 59 (.load (some 1) (.t 4)) (.op 1 [] none none false (.store (some 1) (.t 2) (.t 59)) (.o 2 3 (.mov (.v (.bool true))) .done))) .ret)))))))
theorem dg_spec_NameRead : Tryz.f170.body.bind (digC Tryz.prog Tryz.f170.ntmps []) = some c_spec_NameRead := by kernel_rfl
theorem rs_spec_NameRead : resSlots Tryz.prog Tryz.f170 = some [.m 2 (some 1), .s 3] := by kernel_rfl
theorem ok_spec_NameRead (b : List UInt8) (hb : b.length ≤ 4194303) :
    FnOK Tryz.prog 170 [.one (.d (encB b))] (fun ra _ => ra = [.agg [.own true (encBB (readN b))], .one (.d (.sc (.bool (readOk b))))]) := by
  refine FnOK.ofK Tryz.func170 (by kernel_rfl) dg_spec_NameRead rs_spec_NameRead rfl rfl ?_
  delta c_spec_NameRead T.o X.i C.g
  obtain ⟨rl1, rl2⟩ := readL_small hb
  refine Kbc (kAlloc Y Y (Ka Y (Kdb (Kbc (Ka Y (kB2s Y Y (Kj Y Y Y (Kd (kCond Y (fun g0 => Kbc (kBuildG Y (Ko Y Y Y Y (Ka Y (Kd (Kr (Er (ra := [.agg [(.own true _)], .one (.d _)]) rfl ?_))))))) (fun g0 => Kn (Kbc (kAlloc Y Y (Kdb (Kc (Ka Y (Kdb (Kbc (Ka Y (Kd (Kt ?_))))))))))))))))))))
  · rw [eq46] at g0
    have e : b = [46] := of_decide_eq_true g0
    subst e
    rfl
  rw [eq46] at g0
  have hne : b ≠ [46] := of_decide_eq_false g0
  have hrn : readN b = if nameOk (readL b) then readL b else [] := by unfold readN; rw [if_neg hne]
  have hro : readOk b = nameOk (readL b) := by unfold readOk; rw [decide_eq_false hne]; rfl
  rw [hrn, hro]
  refine kSub (Sub.nilBox (id := rid 4 0) (id2 := rid 5001 0) (j := 0) rfl rfl rfl (by decide) (by decide)) ?_
  refine kSub (Sub.nilArr (j := 5) (id := rid 5000 0) (sz := 1) rfl (by decide)) ?_
  refine kLoop (α := { i : Nat // i ≤ b.length + 1 }) (fun y => ⟨tabSl [(0, .dv (encB b)), (2, .c (.ptr (rid 2 0) 1 0)), (4, .c (.ptr (rid 4 0) 1 0)), (5, .c (.arr (rid 5000 0) 1)), (6, .i y.1)], obTab 1 [(rid 2 0, ⟨1, 0, .box [.nil 1]⟩), (rid 4 0, ⟨1, 0, .box [.arr (rid 5001 0) 1]⟩), (rid 5000 0, ⟨1, 0, .arr true (encB (rdW b y.1))⟩), (rid 5001 0, ⟨1, 0, .arr true (encBB (rdL b y.1))⟩)], []⟩) (fun y => b.length + 1 - y.1) ⟨0, by simp⟩ .normA ?_
  rintro ⟨i, hi⟩
  simp only
  have hmem := rdW_mem b i
  rcases Nat.lt_or_ge i b.length with hlt | hge
  · have hlens := rd_lens b i (by omega)
    by_cases hc : b[i] = 46
    · obtain ⟨s1, s2⟩ := rd_dot hlt hc
      have hcn : ((b[i]).toNat : Int) = 46 := by rw [hc]; rfl
      revert s1 s2
      generalize rdL b i = L at *
      generalize rdW b i = W at *
      intro s1 s2
      refine Kb (Kbc (Ka Y (Ka Y (Kq Y Y (Kj Y Y Y (Kd (Km Y (fun g0 => Kn (Kb (Kt (Kb (Kbc (Ka Y (Ka Y (Kq Y Y (Kj Y Y Y (Ka Y (kGP Y (fun g1 => Ki Y (Ka Y (Ki Y (Ka Y (Ki Y (kIadR Y Y Y om (Ki Y (Ky Y Y (Ki Y (Kj Y Y Y (Kk Y (Ka Y (Kd (kCondIN Y (fun g2 => om) (fun g2 => Kn (Kb (Kbc (Ka Y (Ka Y (Kq Y Y (Kj Y Y Y (Ka Y (kGP Y (fun g3 => om) (fun g3 => Kg Y (Kg Y (Kg Y (Kl Y (Ka Y (Ka Y (Kg Y (Kg Y (Kl Y (Ka Y (Kd (kCondF Y (Kn (Kb (kRegD (Kf Y Y (Ke Y Y Y (Ka Y (Ku true (ok_spec_Lower _ pry) ⟨Y, trivial⟩ Y Y Y (fun _ => (kLit Y Y Y Y (Ks Y Y (kAppR1 Y Y Y Y Y Y Y Y om (Kf Y Y (Ks Y Y (Ko Y Y Y Y (Kd (kH (Kc (Ka Y (Kd (Kv (Kc (Ka Y (kAdd Y Y om (Ka Y (Kd ?_)))))))))))))))))))))))))))))))))))))))))))))))))))))))))))) (fun g1 => om)))))))))))) (fun g0 => om))))))))
      refine kInv ⟨⟨i + 1, by omega⟩, by simp only; omega, ?_⟩
      simp only [s1, s2]
      exact (Sub.nilArr (j := 5) (id := rid 5000 0) (sz := 1) rfl (by decide)).trans .normA
    · obtain ⟨s1, s2⟩ := rd_char hlt hc
      have hcn : ((b[i]).toNat : Int) ≠ 46 := fun h => hc (UInt8.toNat_inj.1 (by have : b[i].toNat = 46 := by omega
                                                                                 rw [this]; rfl))
      revert s1 s2
      generalize rdL b i = L at *
      generalize rdW b i = W at *
      intro s1 s2
      refine Kb (Kbc (Ka Y (Ka Y (Kq Y Y (Kj Y Y Y (Kd (Km Y (fun g0 => Kn (Kb (Kt (Kb (Kbc (Ka Y (Ka Y (Kq Y Y (Kj Y Y Y (Ka Y (kGP Y (fun g1 => Ki Y (Ka Y (Ki Y (Ka Y (Ki Y (kIadR Y Y Y om (Ki Y (Ky Y Y (Ki Y (Kj Y Y Y (Kk Y (Ka Y (Kd (kCondIN Y (fun g2 => Kbc (Ka Y (Ka Y (Ka Y (kIadR Y Y Y om (Ky Y Y (kLit Y Y Y Y (kAppR1 Y Y Y Y Y Y Y Y om (Ka Y (Kd (kExit (kExC (kExB (Kc (Ka Y (kAdd Y Y om (Ka Y (Kd ?_)))))))))))))))))) (fun g2 => om))))))))))))))) (fun g1 => om)))))))))))) (fun g0 => om))))))))
      refine kInv ⟨⟨i + 1, by omega⟩, by simp only; omega, ?_⟩
      simp only [s1, s2]
      exact .normA
  · rcases Nat.lt_or_ge b.length i with hgt | hle
    · have e : i = b.length + 1 := by omega
      subst e
      rw [rd_last.1, rd_last.2]
      cases hno : nameOk (readL b)
      · refine Kb (Kbc (Ka Y (Ka Y (Kq Y Y (Kj Y Y Y (Kd (Km Y (fun g0 => om) (fun g0 => kExit (kExC (kExI (kExB (Kb (Kbc (Ke Y Y Y (Kp (ok_spec_NameOk _ pry pry) ⟨⟨⟨Y, trivial⟩, leb⟩, trivial⟩ Y Y Y Y Y (Kw Y Y (Kd (kCondN Y (fun g1 => Kbc (kBuildG Y (Ko Y Y Y Y (Ka Y (Kd (Kr (Er (ra := [.agg [(.own true _)], .one (.d _)]) rfl rfl))))))) (fun g1 => (by (simp [*] at g1)))))))))))))))))))))
      · refine Kb (Kbc (Ka Y (Ka Y (Kq Y Y (Kj Y Y Y (Kd (Km Y (fun g0 => om) (fun g0 => kExit (kExC (kExI (kExB (Kb (Kbc (Ke Y Y Y (Kp (ok_spec_NameOk _ pry pry) ⟨⟨⟨Y, trivial⟩, leb⟩, trivial⟩ Y Y Y Y Y (Kw Y Y (Kd (kCondN Y (fun g1 => (by (simp [*] at g1))) (fun g1 => Kn (Kbc (Ke Y Y Y (Ko Y Y Y Y (Ka Y (Kd (Kr (Er (ra := [.agg [(.own true _)], .one (.d _)]) rfl rfl))))))))))))))))))))))))))
    · have e : i = b.length := by omega
      subst e
      have hlens := rd_lens b b.length (Nat.le_refl _)
      have s1 := (rd_last (b := b)).1
      have s2 := (rd_last (b := b)).2
      by_cases hw : rdW b b.length = [] ∧ 0 < b.length
      · rw [rd_end, if_pos hw] at *
        rw [hw.1]
        obtain ⟨hw1, hw2⟩ := hw
        cases hno : nameOk (rdL b b.length)
        · refine Kb (Kbc (Ka Y (Ka Y (Kq Y Y (Kj Y Y Y (Kd (Km Y (fun g0 => Kn (Kb (Kt (Kb (Kbc (Ka Y (Ka Y (Kq Y Y (Kj Y Y Y (Ka Y (kGP Y (fun g1 => om) (fun g1 => Kg Y (Kg Y (Kg Y (Kg Y (Kg Y (Kl Y (Ka Y (Kd (kCondF Y (Kn (Kb (Kbc (Ka Y (Ka Y (Kq Y Y (Kj Y Y Y (Ka Y (kGP Y (fun g2 => Ki Y (Ka Y (Ki Y (Kq Y Y (Ki Y (Kj Y Y Y (Kk Y (Ka Y (Ka Y (Ki Y (Ka Y (Ki Y (Kj Y Y Y (Kk Y (Ka Y (Kd (Km Y (fun g3 => kExit (kExC (kExB' rfl (kExC (kExI (kExB (Kb (Kbc (Ke Y Y Y (Kp (ok_spec_NameOk _ pry pry) ⟨⟨⟨Y, trivial⟩, leb⟩, trivial⟩ Y Y Y Y Y (Kw Y Y (Kd (kCondN Y (fun g4 => Kbc (kBuildG Y (Ko Y Y Y Y (Ka Y (Kd (Kr (Er (ra := [.agg [(.own true _)], .one (.d _)]) rfl rfl))))))) (fun g4 => (by (simp [*] at g4)))))))))))))))) (fun g3 => om)))))))))))))))))) (fun g2 => om)))))))))))))))))))))))))))))) (fun g0 => om))))))))
        · refine Kb (Kbc (Ka Y (Ka Y (Kq Y Y (Kj Y Y Y (Kd (Km Y (fun g0 => Kn (Kb (Kt (Kb (Kbc (Ka Y (Ka Y (Kq Y Y (Kj Y Y Y (Ka Y (kGP Y (fun g1 => om) (fun g1 => Kg Y (Kg Y (Kg Y (Kg Y (Kg Y (Kl Y (Ka Y (Kd (kCondF Y (Kn (Kb (Kbc (Ka Y (Ka Y (Kq Y Y (Kj Y Y Y (Ka Y (kGP Y (fun g2 => Ki Y (Ka Y (Ki Y (Kq Y Y (Ki Y (Kj Y Y Y (Kk Y (Ka Y (Ka Y (Ki Y (Ka Y (Ki Y (Kj Y Y Y (Kk Y (Ka Y (Kd (Km Y (fun g3 => kExit (kExC (kExB' rfl (kExC (kExI (kExB (Kb (Kbc (Ke Y Y Y (Kp (ok_spec_NameOk _ pry pry) ⟨⟨⟨Y, trivial⟩, leb⟩, trivial⟩ Y Y Y Y Y (Kw Y Y (Kd (kCondN Y (fun g4 => (by (simp [*] at g4))) (fun g4 => Kn (Kbc (Ke Y Y Y (Ko Y Y Y Y (Ka Y (Kd (Kr (Er (ra := [.agg [(.own true _)], .one (.d _)]) rfl rfl))))))))))))))))))))) (fun g3 => om)))))))))))))))))) (fun g2 => om)))))))))))))))))))))))))))))) (fun g0 => om))))))))
      · rw [rd_end, if_neg hw] at *
        have hw' : (rdW b b.length).length ≠ 0 ∨ b.length = 0 := by
          rcases Nat.eq_zero_or_pos b.length with h | h
          · exact .inr h
          · exact .inl fun h0 => hw ⟨List.eq_nil_of_length_eq_zero h0, h⟩
        revert s1 s2
        generalize rdL b b.length = L at *
        generalize rdW b b.length = W at *
        intro s1 s2
        refine Kb (Kbc (Ka Y (Ka Y (Kq Y Y (Kj Y Y Y (Kd (Km Y (fun g0 => Kn (Kb (Kt (Kb (Kbc (Ka Y (Ka Y (Kq Y Y (Kj Y Y Y (Ka Y (kGP Y (fun g1 => om) (fun g1 => Kg Y (Kg Y (Kg Y (Kg Y (Kg Y (Kl Y (Ka Y (Kd (kCondF Y (Kn (Kb (Kbc (Ka Y (Ka Y (Kq Y Y (Kj Y Y Y (Ka Y (kGP Y (fun g2 => Ki Y (Ka Y (Ki Y (Kq Y Y (Ki Y (Kj Y Y Y (Kk Y (Ka Y (Ka Y (kGP Y (fun g3 => Ki Y (Ka Y (Ki Y (Kj Y Y Y (Kk Y (Ka Y (Kd (Km Y (fun g4 => om) (fun g4 => Kn (Kb (kRegD (Kf Y Y (Ke Y Y Y (Ka Y (Ku true (ok_spec_Lower _ pry) ⟨Y, trivial⟩ Y Y Y (fun _ => (kLit Y Y Y Y (Ks Y Y (kAppR1 Y Y Y Y Y Y Y Y om (Kf Y Y (Ks Y Y (Ko Y Y Y Y (Kd (kH (Kc (Ka Y (Kd (Kv (Kc (Ka Y (kAdd Y Y om (Ka Y (Kd ?_))))))))))))))))))))))))))))))))) (fun g3 => Kg Y (Kg Y (Kl Y (Ka Y (Kd (kCondF Y (Kn (Kb (kRegD (Kf Y Y (Ke Y Y Y (Ka Y (Ku true (ok_spec_Lower _ pry) ⟨Y, trivial⟩ Y Y Y (fun _ => (kLit Y Y Y Y (Ks Y Y (kAppR1 Y Y Y Y Y Y Y Y om (Kf Y Y (Ks Y Y (Ko Y Y Y Y (Kd (kH (Kc (Ka Y (Kd (Kv (Kc (Ka Y (kAdd Y Y om (Ka Y (Kd ?_))))))))))))))))))))))))))))))))))))))))) (fun g2 => om)))))))))))))))))))))))))))))) (fun g0 => om))))))))
        all_goals
          refine kInv ⟨⟨b.length + 1, by omega⟩, by simp only; omega, ?_⟩
          simp only [s1, s2]
          exact (Sub.nilArr (j := 5) (id := rid 5000 0) (sz := 1) rfl (by decide)).trans .normA

def c_spec_l2of : C := (.g (.o 0 2 (.alloc 2 [(.n 1)]) .done) (.g (.o 0 6 (.mov (.t 0)) (.o 1 7 (.s2b (.t 6)) (.o 2 8 (.call 8 170 [(.t 7)]) (.o 3 5 (.mov (.t 8)) (.o 4 9 (.ext (.t 5) 0) (.o 5 10 (.ext (.t 5) 1) (.o 6 3 (.alloc 3 [(.n 1)]) (.op 7 [] none none false (.store (some 1) (.t 3) (.t 9)) (.o 8 4 (.mov (.t 10)) .done))))))))) (.g (.o 0 11 (.load (some 1) (.t 3)) (.op 1 [] none none false (.store (some 1) (.t 2) (.t 11)) .done)) .ret)))
theorem dg_spec_l2of : Tryz.f153.body.bind (digC Tryz.prog Tryz.f153.ntmps []) = some c_spec_l2of := by kernel_rfl
theorem rs_spec_l2of : resSlots Tryz.prog Tryz.f153 = some [.m 2 (some 1)] := by kernel_rfl
theorem ok_spec_l2of (b : ByteArray) (hb : b.size ≤ 4194303) :
    FnOK Tryz.prog 153 [.one (.d (.sc (.string b)))] (fun ra _ => ra = [.agg [.own true (encBB (readN b.toList))]]) := by
  refine FnOK.ofK Tryz.func153 (by kernel_rfl) dg_spec_l2of rs_spec_l2of rfl rfl ?_
  delta c_spec_l2of T.o X.i C.g
  have h : b.toList.length ≤ 4194303 := by rw [bt_len]; exact hb
  refine Kbc (kAlloc Y Y (Kdb (Kc (Ka Y (kS2b Y om (Ku true (ok_spec_NameRead _ pry) ⟨Y, trivial⟩ Y Y Y (fun _ => (kMovT Y (kExtC Y Y (kExtC Y Y (kAlloc Y Y (Ko Y Y Y Y (Ka Y (Kdb (Kc (Ke Y Y Y (Ko Y Y Y Y (Kd (Kr (Er (ra := [.agg [(.own true _)]]) rfl rfl))))))))))))))))))))

def c_spec_l1Byte : C := (.g (.o 0 2 (.mov (.i 0)) .done) (.g (.o 0 4 (.mov (.t 0)) (.o 1 5 (.mov (.t 0)) (.o 2 6 (.nck (.t 5)) (.o 3 7 (.fad (.t 6) 2) (.o 4 8 (.load none (.t 7)) (.o 5 9 (.bin .mul (.t 8) (.i 6364136223846793005)) (.o 6 10 (.bin .add (.t 9) (.i 1442695040888963407)) (.o 7 11 (.nck (.t 4)) (.o 8 12 (.fad (.t 11) 2) (.op 9 [] none none false (.store none (.t 12) (.t 10)) .done)))))))))) (.seq (.reg true (.op 0 [] (some 13) none true (.mov (.t 0)) (.op 1 [] (some 14) none true (.nck (.t 13)) (.op 2 [] (some 15) none true (.fad (.t 14) 2) (.op 3 [] (some 16) none true (.load none (.t 15)) (.op 4 [] (some 17) none true (.bin .shr (.t 16) (.v (.int .u64 33))) (.op 5 [] (some 18) none true (.mov (.t 0)) (.op 6 [] (some 19) none true (.nck (.t 18)) (.op 7 [] (some 20) none true (.fad (.t 19) 2) (.op 8 [] (some 21) none true (.load none (.t 20)) (.op 9 [] (some 22) none true (.bin .shr (.t 21) (.v (.int .u64 45))) (.op 10 [] (some 23) none true (.bin .xor (.t 17) (.t 22)) (.op 11 [] (some 24) none true (.bin .and (.t 23) (.i 255)) (.op 12 [] (some 3) none true (.mov (.t 24)) .done)))))))))))))) (.seq (.seq (.reg true (.op 0 [] (some 25) none true (.mov (.t 0)) (.op 1 [] (some 26) none true (.nck (.t 25)) (.op 2 [] (some 27) none true (.fad (.t 26) 1) (.op 3 [] (some 28) none true (.load none (.t 27)) (.op 4 [] (some 29) none true (.mov (.t 0)) (.op 5 [] (some 30) none true (.nck (.t 29)) (.op 6 [] (some 31) none true (.fad (.t 30) 0) (.op 7 [] (some 32) none true (.load none (.t 31)) (.op 8 [] (some 33) none true (.len (.t 32)) (.op 9 [] (some 34) none true (.bin .lss (.t 28) (.t 33)) .done))))))))))) (.cond (.t 34) (.seq (.reg true (.op 0 [] (some 35) none true (.mov (.t 3)) (.op 1 [] (some 36) none true (.mov (.t 0)) (.op 2 [] (some 37) none true (.nck (.t 36)) (.op 3 [] (some 38) none true (.fad (.t 37) 0) (.op 4 [] (some 39) none true (.load none (.t 38)) (.op 5 [] (some 40) none true (.mov (.t 0)) (.op 6 [] (some 41) none true (.nck (.t 40)) (.op 7 [] (some 42) none true (.fad (.t 41) 1) (.op 8 [] (some 43) none true (.load none (.t 42)) (.op 9 [] (some 44) none true (.iad 1 (.t 39) (.t 43)) (.op 10 [] (some 45) none true (.load none (.t 44)) (.op 11 [] (some 46) none true (.conv .i64 (.t 45)) (.op 12 [] (some 47) none true (.bin .add (.t 35) (.t 46)) (.op 13 [] (some 48) none true (.bin .and (.t 47) (.i 255)) (.op 14 [] (some 3) none true (.mov (.t 48)) .done)))))))))))))))) (.reg false (.o 0 49 (.mov (.t 0)) (.o 1 50 (.mov (.t 0)) (.o 2 51 (.nck (.t 50)) (.o 3 52 (.fad (.t 51) 1) (.o 4 53 (.load none (.t 52)) (.o 5 54 (.bin .add (.t 53) (.i 1)) (.o 6 55 (.nck (.t 49)) (.o 7 56 (.fad (.t 55) 1) (.op 8 [] none none false (.store none (.t 56) (.t 54)) .done))))))))))) .skip)) (.g (.o 0 57 (.mov (.t 3)) (.o 1 2 (.mov (.t 57)) .done)) .ret)))))
theorem dg_spec_l1Byte : Tryz.f200.body.bind (digC Tryz.prog Tryz.f200.ntmps []) = some c_spec_l1Byte := by kernel_rfl
theorem rs_spec_l1Byte : resSlots Tryz.prog Tryz.f200 = some [.s 2] := by kernel_rfl
theorem ok_spec_l1Byte (c : Cu) :
    FnOK Tryz.prog 200 [.one (.box c.cells)] (fun ra os => ∃ x : Int × Cu, (0 ≤ x.1 ∧ x.1 ≤ 255) ∧ ra = [.one (.d (.sc (.int .i64 x.1)))] ∧ os.b 0 = x.2.cells) := by
  refine FnOK.ofK Tryz.func200 (by kernel_rfl) dg_spec_l1Byte rs_spec_l1Byte rfl rfl ?_
  delta c_spec_l1Byte T.o X.i C.g
  have c0 := c.i0
  have c1 := c.i1
  have c2 := c.b
  refine Kbc (Ka Y (Kdb (Kc (Ka Y (Ka Y (kNck Y Y (Kf Y Y (Ke Y Y Y (Kj Y Y Y (Kj Y Y Y (kNck Y Y (Kf Y Y (Ko Y Y Y Y (Kdb (kRegD (Ka Y (kNck Y Y (Kf Y Y (Ke Y Y Y (kShr (m := 33) Y Y Y (Ka Y (kNck Y Y (Kf Y Y (Ke Y Y Y (kShr (m := 45) Y Y Y (Kj Y Y Y (Kj Y Y Y (Ka Y (Kd (kH (Kb (Kb (kRegD (Ka Y (kNck Y Y (Kf Y Y (Ke Y Y Y (Ka Y (kNck Y Y (Kf Y Y (Ke Y Y Y (Kq Y Y (Kj Y Y Y (Kd (kH (Km Y (fun g0 => Kb (kRegD (Ka Y (Ka Y (kNck Y Y (Kf Y Y (Ke Y Y Y (Ka Y (kNck Y Y (Kf Y Y (Ke Y Y Y (kIadT Y Y om (Ky Y Y (kConv Y (Kj Y Y Y (Kj Y Y Y (Ka Y (Kd (kH (Kc (Ka Y (Ka Y (kNck Y Y (Kf Y Y (Ke Y Y Y (kAdd Y Y om (kNck Y Y (Kf Y Y (Ko Y Y Y Y (Kdb (Kc (Ka Y (Ka Y (Kd (Kr (Er (ra := [.one (.d _)]) rfl ?_)))))))))))))))))))))))))))))))))))) (fun g0 => Kn (Kbc (Ka Y (Ka Y (Kd (Kr (Er (ra := [.one (.d _)]) rfl ?_)))))))))))))))))))))))))))))))))))))))))))))))))))))
  · refine ⟨(IntKind.i64.wrap ((_ &&& BitVec.ofInt 64 255).toNat : Int), ⟨c.code, c.i + 1, IntKind.i64.wrap _, by omega, by omega, c.b⟩), and255 _, rfl, rfl⟩
  · refine ⟨(IntKind.i64.wrap ((_ &&& BitVec.ofInt 64 255).toNat : Int), ⟨c.code, c.i, IntKind.i64.wrap _, c.i0, c.i1, c.b⟩), and255 _, rfl, rfl⟩

def c_spec_l1Below : C := (.g (.o 0 4 (.mov (.i 0)) .done) (.seq (.g (.o 0 9 (.mov (.t 1)) (.o 1 10 (.bin .leq (.t 9) (.i 0)) .done)) (.cond (.t 10) (.g (.o 0 4 (.mov (.i 0)) .done) .ret) .skip)) (.seq (.g (.o 0 11 (.mov (.t 1)) (.o 1 12 (.bin .leq (.t 11) (.i 256)) .done)) (.cond (.t 12) (.g (.o 0 13 (.mov (.t 0)) (.o 1 14 (.call 14 200 [(.t 13)]) (.o 2 15 (.mov (.t 1)) (.o 3 16 (.bin .rem (.t 14) (.t 15)) (.o 4 4 (.mov (.t 16)) .done))))) .ret) .skip)) (.g (.o 0 17 (.mov (.t 0)) (.o 1 18 (.call 18 200 [(.t 17)]) (.o 2 5 (.mov (.t 18)) .done))) (.g (.o 0 19 (.mov (.t 0)) (.o 1 20 (.call 20 200 [(.t 19)]) (.o 2 6 (.mov (.t 20)) .done))) (.g (.o 0 21 (.mov (.t 0)) (.o 1 22 (.call 22 200 [(.t 21)]) (.o 2 7 (.mov (.t 22)) .done))) (.g (.o 0 23 (.mov (.t 0)) (.o 1 24 (.call 24 200 [(.t 23)]) (.o 2 8 (.mov (.t 24)) .done))) (.g (.o 0 25 (.mov (.t 5)) (.o 1 26 (.bin .mul (.t 25) (.i 16777216)) (.o 2 27 (.mov (.t 6)) (.o 3 28 (.bin .mul (.t 27) (.i 65536)) (.o 4 29 (.bin .add (.t 26) (.t 28)) (.o 5 30 (.mov (.t 7)) (.o 6 31 (.bin .mul (.t 30) (.i 256)) (.o 7 32 (.bin .add (.t 29) (.t 31)) (.o 8 33 (.mov (.t 8)) (.o 9 34 (.bin .add (.t 32) (.t 33)) (.o 10 35 (.mov (.t 1)) (.o 11 36 (.bin .rem (.t 34) (.t 35)) (.o 12 4 (.mov (.t 36)) .done))))))))))))) .ret))))))))
theorem dg_spec_l1Below : Tryz.f117.body.bind (digC Tryz.prog Tryz.f117.ntmps []) = some c_spec_l1Below := by kernel_rfl
theorem rs_spec_l1Below : resSlots Tryz.prog Tryz.f117 = some [.s 4] := by kernel_rfl
theorem ok_spec_l1Below (c : Cu) (n : Int) :
    FnOK Tryz.prog 117 [.one (.box c.cells), .one (.d (.sc (.int .i64 n)))] (fun ra os => ∃ x : Int × Cu, (0 ≤ x.1 ∧ (x.1 < n ∨ x.1 = 0)) ∧ ra = [.one (.d (.sc (.int .i64 x.1)))] ∧ os.b 0 = x.2.cells) := by
  refine FnOK.ofK Tryz.func117 (by kernel_rfl) dg_spec_l1Below rs_spec_l1Below rfl rfl ?_
  delta c_spec_l1Below T.o X.i C.g
  refine Kbc (Ka Y (Kdb (Kbc (Ka Y (Kj Y Y Y (Kd (Km Y (fun g0 => Kbc (Ka Y (Kd (Kr (Er (ra := [.one (.d _)]) rfl ?_))))) (fun g0 => Kn (Kb (Kbc (Ka Y (Kj Y Y Y (Kd (Km Y (fun g1 => Kbc (Ka Y (Kz (ok_spec_l1Byte _) ⟨⟨rfl, _, rfl, rfl⟩, trivial⟩ Y Y Y (fun _ => rfl) (fun x2 hx2 => (Ka Y (kRem Y Y om (Ka Y (Kd (Kr (Er (ra := [.one (.d _)]) rfl ?_)))))))))) (fun g1 => Kn (Kbc (Ka Y (Kz (ok_spec_l1Byte _) ⟨⟨rfl, _, rfl, rfl⟩, trivial⟩ Y Y Y (fun _ => rfl) (fun x3 hx3 => (Ka Y (Kdb (Kc (Ka Y (Kz (ok_spec_l1Byte _) ⟨⟨rfl, _, rfl, rfl⟩, trivial⟩ Y Y Y (fun _ => rfl) (fun x4 hx4 => (Ka Y (Kdb (Kc (Ka Y (Kz (ok_spec_l1Byte _) ⟨⟨rfl, _, rfl, rfl⟩, trivial⟩ Y Y Y (fun _ => rfl) (fun x5 hx5 => (Ka Y (Kdb (Kc (Ka Y (Kz (ok_spec_l1Byte _) ⟨⟨rfl, _, rfl, rfl⟩, trivial⟩ Y Y Y (fun _ => rfl) (fun x6 hx6 => (Ka Y (Kdb (Kc (Ka Y (kMul Y Y om (Ka Y (kMul Y Y om (kAdd Y Y om (Ka Y (kMul Y Y om (kAdd Y Y om (Ka Y (kAdd Y Y om (Ka Y (kRem Y Y om (Ka Y (Kd (Kr (Er (ra := [.one (.d _)]) rfl ?_))))))))))))))))))))))))))))))))))))))))))))))))))))))))
  · exact ⟨(0, c), ⟨Int.le_refl _, .inr rfl⟩, rfl, rfl⟩
  · have := tmod_in (a := x2.1) (n := n) hx2.1 (by omega)
    exact ⟨(x2.1.tmod n, x2.2), ⟨this.1, .inl this.2⟩, rfl, rfl⟩
  · have := tmod_in (a := x3.1 * 16777216 + x4.1 * 65536 + x5.1 * 256 + x6.1) (n := n) (by omega) (by omega)
    exact ⟨(_, x6.2), ⟨this.1, .inl this.2⟩, rfl, rfl⟩

def c_spec_l1PickInt : C := (.g (.o 0 4 (.mov (.i 0)) .done) (.g (.o 0 5 (.mov (.t 1)) (.o 1 6 (.mov (.t 0)) (.o 2 7 (.mov (.t 1)) (.o 3 8 (.len (.t 7)) (.o 4 9 (.call 9 117 [(.t 6), (.t 8)]) (.o 5 10 (.iad 1 (.t 5) (.t 9)) (.o 6 11 (.load none (.t 10)) (.o 7 4 (.mov (.t 11)) .done)))))))) .ret))
theorem dg_spec_l1PickInt : Tryz.f118.body.bind (digC Tryz.prog Tryz.f118.ntmps []) = some c_spec_l1PickInt := by kernel_rfl
theorem rs_spec_l1PickInt : resSlots Tryz.prog Tryz.f118 = some [.s 4] := by kernel_rfl
theorem ok_spec_l1PickInt (c : Cu) (xs : List (List DV)) {l : List Int} (hx : intsOf xs = some l) (h0 : 0 < l.length) (h1 : l.length ≤ 1000000) :
    FnOK Tryz.prog 118 [.one (.box c.cells), .one (.d (.sl 1 xs))] (fun ra os => ∃ x : Int × Cu, (x.1 ∈ l) ∧ ra = [.one (.d (.sc (.int .i64 x.1)))] ∧ os.b 0 = x.2.cells) := by
  rw [intsOf_eq hx]
  refine FnOK.ofK Tryz.func118 (by kernel_rfl) dg_spec_l1PickInt rs_spec_l1PickInt rfl rfl ?_
  delta c_spec_l1PickInt T.o X.i C.g
  refine Kbc (Ka Y (Kdb (Kc (Ka Y (Ka Y (Ka Y (Kq Y Y (Kz (ok_spec_l1Below _ _) ⟨⟨rfl, _, rfl, rfl⟩, rfl, trivial⟩ Y Y Y (fun _ => rfl) (fun x0 hx0 => (kIadT Y Y om (Ky Y Y (Ka Y (Kd (Kr (Er (ra := [.one (.d _)]) rfl ?_)))))))))))))))
  exact ⟨(_, x0.2), List.getElem_mem _, rfl, rfl⟩

def c_spec_TypeOk : C := (.g (.o 0 2 (.mov (.v (.bool false))) .done) (.seq (.g (.o 0 3 (.mov (.t 0)) .done) (.block 0 (.seq (.g (.o 0 5 (.bin .eql (.t 3) (.i 1)) (.o 1 4 (.mov (.t 5)) .done)) (.cond (.t 4) .skip (.g (.o 0 6 (.bin .eql (.t 3) (.i 2)) (.o 1 4 (.mov (.t 6)) .done)) (.cond (.t 4) .skip (.g (.o 0 7 (.bin .eql (.t 3) (.i 5)) (.o 1 4 (.mov (.t 7)) .done)) (.cond (.t 4) .skip (.g (.o 0 8 (.bin .eql (.t 3) (.i 6)) (.o 1 4 (.mov (.t 8)) .done)) (.cond (.t 4) .skip (.g (.o 0 9 (.bin .eql (.t 3) (.i 12)) (.o 1 4 (.mov (.t 9)) .done)) (.cond (.t 4) .skip (.g (.o 0 10 (.bin .eql (.t 3) (.i 16)) (.o 1 4 (.mov (.t 10)) .done)) (.cond (.t 4) .skip (.reg false (.o 0 11 (.bin .eql (.t 3) (.i 49)) (.o 1 4 (.mov (.t 11)) .done))))))))))))))) (.cond (.t 4) (.g (.o 0 2 (.mov (.v (.bool true))) .done) .ret) .skip)))) (.g (.o 0 2 (.mov (.v (.bool false))) .done) .ret)))
theorem dg_spec_TypeOk : Tryz.f48.body.bind (digC Tryz.prog Tryz.f48.ntmps []) = some c_spec_TypeOk := by kernel_rfl
theorem rs_spec_TypeOk : resSlots Tryz.prog Tryz.f48 = some [.s 2] := by kernel_rfl
theorem ok_spec_TypeOk (n : Int) : FnOK Tryz.prog 48 [.one (.d (.sc (.int .i64 n)))] (fun ra _ => ra = [.one (.d (.sc (.bool (tyOk n))))]) := by
  refine FnOK.ofK Tryz.func48 (by kernel_rfl) dg_spec_TypeOk rs_spec_TypeOk rfl rfl ?_
  delta c_spec_TypeOk T.o X.i C.g
  refine Kbc (Ka Y (Kdb (Kbc (Ka Y (Kd (Kt (Kb (Kbc (Kj Y Y Y (Ka Y (Kd (Km Y (fun g0 => Kn (Km Y (fun g1 => Kbc (Ka Y (Kd (Kr (Er (ra := [.one (.d _)]) rfl ?_))))) (fun g1 => om))) (fun g0 => Kbc (Kj Y Y Y (Ka Y (Kd (Km Y (fun g2 => Kn (Km Y (fun g3 => Kbc (Ka Y (Kd (Kr (Er (ra := [.one (.d _)]) rfl ?_))))) (fun g3 => om))) (fun g2 => Kbc (Kj Y Y Y (Ka Y (Kd (Km Y (fun g4 => Kn (Km Y (fun g5 => Kbc (Ka Y (Kd (Kr (Er (ra := [.one (.d _)]) rfl ?_))))) (fun g5 => om))) (fun g4 => Kbc (Kj Y Y Y (Ka Y (Kd (Km Y (fun g6 => Kn (Km Y (fun g7 => Kbc (Ka Y (Kd (Kr (Er (ra := [.one (.d _)]) rfl ?_))))) (fun g7 => om))) (fun g6 => Kbc (Kj Y Y Y (Ka Y (Kd (Km Y (fun g8 => Kn (Km Y (fun g9 => Kbc (Ka Y (Kd (Kr (Er (ra := [.one (.d _)]) rfl ?_))))) (fun g9 => om))) (fun g8 => Kbc (Kj Y Y Y (Ka Y (Kd (Km Y (fun g10 => Kn (Km Y (fun g11 => Kbc (Ka Y (Kd (Kr (Er (ra := [.one (.d _)]) rfl ?_))))) (fun g11 => om))) (fun g10 => Kc (Kj Y Y Y (Ka Y (Kd (Km Y (fun g12 => Kbc (Ka Y (Kd (Kr (Er (ra := [.one (.d _)]) rfl ?_))))) (fun g12 => Kn (Kv (Kbc (Ka Y (Kd (Kr (Er (ra := [.one (.d _)]) rfl ?_)))))))))))))))))))))))))))))))))))))))))))))))))
  all_goals simp_all [tyOk]

def c_spec_l3named : C := (.g (.o 0 2 (.mov (.v (.bool false))) .done) (.g (.o 0 3 (.mov (.t 0)) (.o 1 4 (.bin .eql (.t 3) (.i 2)) (.o 2 5 (.mov (.t 4)) (.op 3 [] (some 6) (some (5, false)) false (.mov (.t 0)) (.op 4 [] (some 7) (some (5, false)) false (.bin .eql (.t 6) (.i 5)) (.o 5 8 (.pick (.t 5) (.v (.bool true)) (.t 7)) (.o 6 9 (.mov (.t 8)) (.op 7 [] (some 10) (some (9, false)) false (.mov (.t 0)) (.op 8 [] (some 11) (some (9, false)) false (.bin .eql (.t 10) (.i 6)) (.o 9 12 (.pick (.t 9) (.v (.bool true)) (.t 11)) (.o 10 13 (.mov (.t 12)) (.op 11 [] (some 14) (some (13, false)) false (.mov (.t 0)) (.op 12 [] (some 15) (some (13, false)) false (.bin .eql (.t 14) (.i 12)) (.o 13 16 (.pick (.t 13) (.v (.bool true)) (.t 15)) (.o 14 2 (.mov (.t 16)) .done))))))))))))))) .ret))
theorem dg_spec_l3named : Tryz.f245.body.bind (digC Tryz.prog Tryz.f245.ntmps []) = some c_spec_l3named := by kernel_rfl
theorem rs_spec_l3named : resSlots Tryz.prog Tryz.f245 = some [.s 2] := by kernel_rfl
theorem ok_spec_l3named (n : Int) : FnOK Tryz.prog 245 [.one (.d (.sc (.int .i64 n)))] (fun ra _ => ra = [.one (.d (.sc (.bool (hasTo n))))]) := by
  refine FnOK.ofK Tryz.func245 (by kernel_rfl) dg_spec_l3named rs_spec_l3named rfl rfl ?_
  delta c_spec_l3named T.o X.i C.g
  refine Kbc (Ka Y (Kdb (Kc (Ka Y (Kj Y Y Y (Ka Y (kGP Y (fun g0 => Kg Y (Kg Y (Kk Y (Ka Y (Ka Y (Kg Y (Kg Y (Kk Y (Ka Y (Ka Y (Kg Y (Kg Y (Kk Y (Ka Y (Ka Y (Kd (Kr (Er (ra := [.one (.d _)]) rfl ?_)))))))))))))))))) (fun g0 => Ki Y (Ka Y (Ki Y (Kj Y Y Y (Kl Y (Ka Y (Ka Y (kGP Y (fun g1 => Kg Y (Kg Y (Kk Y (Ka Y (Ka Y (Kg Y (Kg Y (Kk Y (Ka Y (Ka Y (Kd (Kr (Er (ra := [.one (.d _)]) rfl ?_))))))))))))) (fun g1 => Ki Y (Ka Y (Ki Y (Kj Y Y Y (Kl Y (Ka Y (Ka Y (kGP Y (fun g2 => Kg Y (Kg Y (Kk Y (Ka Y (Ka Y (Kd (Kr (Er (ra := [.one (.d _)]) rfl ?_)))))))) (fun g2 => Ki Y (Ka Y (Ki Y (Kj Y Y Y (Kl Y (Ka Y (Ka Y (Kd (Kr (Er (ra := [.one (.d _)]) rfl ?_)))))))))))))))))))))))))))))))))
  all_goals simp_all [hasTo]

def c_spec_l3texted : C := (.g (.o 0 2 (.mov (.v (.bool false))) .done) (.g (.o 0 3 (.mov (.t 0)) (.o 1 4 (.bin .eql (.t 3) (.i 16)) (.o 2 5 (.mov (.t 4)) (.op 3 [] (some 6) (some (5, false)) false (.mov (.t 0)) (.op 4 [] (some 7) (some (5, false)) false (.bin .eql (.t 6) (.i 49)) (.o 5 8 (.pick (.t 5) (.v (.bool true)) (.t 7)) (.o 6 2 (.mov (.t 8)) .done))))))) .ret))
theorem dg_spec_l3texted : Tryz.f246.body.bind (digC Tryz.prog Tryz.f246.ntmps []) = some c_spec_l3texted := by kernel_rfl
theorem rs_spec_l3texted : resSlots Tryz.prog Tryz.f246 = some [.s 2] := by kernel_rfl
theorem ok_spec_l3texted (n : Int) : FnOK Tryz.prog 246 [.one (.d (.sc (.int .i64 n)))] (fun ra _ => ra = [.one (.d (.sc (.bool (hasText n))))]) := by
  refine FnOK.ofK Tryz.func246 (by kernel_rfl) dg_spec_l3texted rs_spec_l3texted rfl rfl ?_
  delta c_spec_l3texted T.o X.i C.g
  refine Kbc (Ka Y (Kdb (Kc (Ka Y (Kj Y Y Y (Ka Y (kGP Y (fun g0 => Kg Y (Kg Y (Kk Y (Ka Y (Ka Y (Kd (Kr (Er (ra := [.one (.d _)]) rfl ?_)))))))) (fun g0 => Ki Y (Ka Y (Ki Y (Kj Y Y Y (Kl Y (Ka Y (Ka Y (Kd (Kr (Er (ra := [.one (.d _)]) rfl ?_)))))))))))))))))
  all_goals simp_all [hasText]

def c_spec_l3data : C := (.g (.o 0 1 (.box 1 (.t 0)) (.o 1 2 (.mov (.v (.bool false))) .done)) (.seq (.g (.o 0 3 (.fad (.t 1) 1) (.o 1 4 (.load none (.t 3)) (.o 2 5 (.bin .eql (.t 4) (.i 1)) .done))) (.cond (.t 5) (.g (.o 0 6 (.fad (.t 1) 3) (.o 1 7 (.load none (.t 6)) (.o 2 8 (.bin .lss (.t 7) (.i 0)) (.o 3 9 (.mov (.t 8)) (.op 4 [] (some 10) (some (9, false)) false (.fad (.t 1) 3) (.op 5 [] (some 11) (some (9, false)) false (.load none (.t 10)) (.op 6 [] (some 12) (some (9, false)) false (.bin .geq (.t 11) (.i 4294967296)) (.o 7 13 (.pick (.t 9) (.v (.bool true)) (.t 12)) .done)))))))) (.cond (.t 13) (.g (.o 0 2 (.mov (.v (.bool false))) .done) .ret) .skip)) (.g (.o 0 14 (.fad (.t 1) 3) (.o 1 15 (.load none (.t 14)) (.o 2 16 (.bin .neq (.t 15) (.i 0)) .done))) (.cond (.t 16) (.g (.o 0 2 (.mov (.v (.bool false))) .done) .ret) .skip)))) (.seq (.g (.o 0 17 (.fad (.t 1) 1) (.o 1 18 (.load none (.t 17)) (.o 2 19 (.call 19 245 [(.t 18)]) .done))) (.cond (.t 19) (.g (.o 0 20 (.fad (.t 1) 4) (.o 1 21 (.load (some 1) (.t 20)) (.o 2 22 (.call 22 47 [(.t 21)]) (.o 3 23 (.un .not (.t 22)) .done)))) (.cond (.t 23) (.g (.o 0 2 (.mov (.v (.bool false))) .done) .ret) .skip)) (.g (.o 0 24 (.fad (.t 1) 4) (.o 1 25 (.fad (.t 24) 0) (.o 2 26 (.load none (.t 25)) (.o 3 27 (.len (.t 26)) (.o 4 28 (.bin .gtr (.t 27) (.i 0)) .done))))) (.cond (.t 28) (.g (.o 0 2 (.mov (.v (.bool false))) .done) .ret) .skip)))) (.seq (.g (.o 0 29 (.fad (.t 1) 1) (.o 1 30 (.load none (.t 29)) (.o 2 31 (.call 31 246 [(.t 30)]) .done))) (.cond (.t 31) (.g (.o 0 32 (.fad (.t 1) 5) (.o 1 33 (.load none (.t 32)) (.o 2 34 (.len (.t 33)) (.o 3 35 (.bin .gtr (.t 34) (.i 40)) .done)))) (.cond (.t 35) (.g (.o 0 2 (.mov (.v (.bool false))) .done) .ret) .skip)) (.g (.o 0 36 (.fad (.t 1) 5) (.o 1 37 (.load none (.t 36)) (.o 2 38 (.len (.t 37)) (.o 3 39 (.bin .gtr (.t 38) (.i 0)) .done)))) (.cond (.t 39) (.g (.o 0 2 (.mov (.v (.bool false))) .done) .ret) .skip)))) (.seq (.g (.o 0 40 (.fad (.t 1) 1) (.o 1 41 (.load none (.t 40)) (.o 2 42 (.bin .neq (.t 41) (.i 6)) .done))) (.cond (.t 42) (.g (.o 0 43 (.fad (.t 1) 6) (.o 1 44 (.load none (.t 43)) (.o 2 45 (.len (.t 44)) (.o 3 46 (.bin .eql (.t 45) (.i 0)) (.o 4 2 (.mov (.t 46)) .done))))) .ret) .skip)) (.seq (.g (.o 0 47 (.fad (.t 1) 6) (.o 1 48 (.load none (.t 47)) (.o 2 49 (.len (.t 48)) (.o 3 50 (.bin .neq (.t 49) (.i 2)) (.o 4 51 (.mov (.t 50)) (.op 5 [] (some 52) (some (51, false)) false (.fad (.t 1) 6) (.op 6 [] (some 53) (some (51, false)) false (.load none (.t 52)) (.op 7 [] (some 54) (some (51, false)) false (.iad 1 (.t 53) (.i 0)) (.op 8 [] (some 55) (some (51, false)) false (.load none (.t 54)) (.op 9 [] (some 56) (some (51, false)) false (.bin .lss (.t 55) (.i 0)) (.o 10 57 (.pick (.t 51) (.v (.bool true)) (.t 56)) (.o 11 58 (.mov (.t 57)) (.op 12 [] (some 59) (some (58, false)) false (.fad (.t 1) 6) (.op 13 [] (some 60) (some (58, false)) false (.load none (.t 59)) (.op 14 [] (some 61) (some (58, false)) false (.iad 1 (.t 60) (.i 0)) (.op 15 [] (some 62) (some (58, false)) false (.load none (.t 61)) (.op 16 [] (some 63) (some (58, false)) false (.bin .geq (.t 62) (.i 4294967296)) (.o 17 64 (.pick (.t 58) (.v (.bool true)) (.t 63)) .done)))))))))))))))))) (.cond (.t 64) (.g (.o 0 2 (.mov (.v (.bool false))) .done) .ret) .skip)) (.g (.o 0 65 (.fad (.t 1) 6) (.o 1 66 (.load none (.t 65)) (.o 2 67 (.iad 1 (.t 66) (.i 1)) (.o 3 68 (.load none (.t 67)) (.o 4 69 (.bin .geq (.t 68) (.i 0)) (.o 5 70 (.mov (.t 69)) (.op 6 [] (some 71) (some (70, true)) false (.fad (.t 1) 6) (.op 7 [] (some 72) (some (70, true)) false (.load none (.t 71)) (.op 8 [] (some 73) (some (70, true)) false (.iad 1 (.t 72) (.i 1)) (.op 9 [] (some 74) (some (70, true)) false (.load none (.t 73)) (.op 10 [] (some 75) (some (70, true)) false (.bin .leq (.t 74) (.i 100000)) (.o 11 76 (.pick (.t 70) (.t 75) (.v (.bool false))) (.o 12 2 (.mov (.t 76)) .done))))))))))))) .ret)))))))
theorem dg_spec_l3data : Tryz.f164.body.bind (digC Tryz.prog Tryz.f164.ntmps []) = some c_spec_l3data := by kernel_rfl
theorem rs_spec_l3data : resSlots Tryz.prog Tryz.f164 = some [.s 2] := by kernel_rfl
theorem ok_spec_l3data (r : Rr) (hs : SmallR r) :
    FnOK Tryz.prog 164 [.agg (r.cells.map .d)] (fun ra _ => ra = [.one (.d (.sc (.bool (dataOk r))))]) := by
  refine FnOK.ofK Tryz.func164 (by kernel_rfl) dg_spec_l3data rs_spec_l3data rfl rfl ?_
  delta c_spec_l3data T.o X.i C.g
  have t1 := hs.t.len
  have t2 := hs.t.mem
  have x1 := hs.x
  have m1 := hs.m
  refine Kbc (kBox Y Y Y Y Y (Ka Y (Kd ?_)))
  by_cases hA : (r.ty = 1 ∧ 0 ≤ r.addr ∧ r.addr < 4294967296) ∨ (r.ty ≠ 1 ∧ r.addr = 0)
  case neg =>
    have e : (if r.ty == 1 then isW r.addr else r.addr == 0) = false := by
      by_cases h : r.ty = 1
      · simp [h, isW]; omega
      · simp [h]; omega
    rw [show dataOk r = false by simp only [dataOk, e, Bool.and_false, Bool.false_and]]
    refine Kb ?_
    refine Kbc (Kf Y Y (Ke Y Y Y (Kj Y Y Y (Kd (Km Y (fun g0 => Kbc (Kf Y Y (Ke Y Y Y (Kj Y Y Y (Ka Y (kGP Y (fun g1 => Kg Y (Kg Y (Kg Y (Kk Y (Ka Y (Kd (kCondT Y (Kbc (Ka Y (Kd (Kr (Er (ra := [.one (.d _)]) rfl rfl)))))))))))) (fun g1 => Ki Y (Kf Y Y (Ki Y (Ke Y Y Y (Ki Y (Kj Y Y Y (Kl Y (Ka Y (Kd (Km Y (fun g2 => Kbc (Ka Y (Kd (Kr (Er (ra := [.one (.d _)]) rfl rfl))))) (fun g2 => om))))))))))))))))) (fun g0 => Kbc (Kf Y Y (Ke Y Y Y (Kj Y Y Y (Kd (kCondIN Y (fun g3 => Kbc (Ka Y (Kd (Kr (Er (ra := [.one (.d _)]) rfl rfl))))) (fun g3 => om))))))))))))
  have eA : (if r.ty == 1 then isW r.addr else r.addr == 0) = true := by
    rcases hA with ⟨h, _, _⟩ | ⟨h, h'⟩
    · simp [h, isW]; omega
    · simp [h, h']
  refine Kb (kCut ⟨tabSl [(1, .c (.ptr (rid 1 0) 1 0))], obTab 1 [(rid 1 0, ⟨1, 0, .box (r.cells.map .d)⟩)], []⟩ ?_ (fun x hc => ?_))
  case refine_2 =>
    refine Kbc (Kf Y Y (Ke Y Y Y (Kj Y Y Y (Kd (Km Y (fun g0 => Kbc (Kf Y Y (Ke Y Y Y (Kj Y Y Y (Ka Y (kGP Y (fun g1 => om) (fun g1 => Ki Y (Kf Y Y (Ki Y (Ke Y Y Y (Ki Y (Kj Y Y Y (Kl Y (Ka Y (Kd (Km Y (fun g2 => om) (fun g2 => Kn (hc _ .normA)))))))))))))))))) (fun g0 => Kbc (Kf Y Y (Ke Y Y Y (Kj Y Y Y (Kd (kCondIN Y (fun g3 => om) (fun g3 => Kn (hc _ .normA)))))))))))))
  by_cases eB : (if hasTo r.ty then nameOk r.to else ((r.to.length : Int) == 0)) = true
  case neg =>
    rw [show dataOk r = false by simp only [dataOk, Bool.eq_false_iff.2 eB, Bool.and_false, Bool.false_and]]
    refine Kb ?_
    cases hT : hasTo r.ty
    case false =>
      have hN : ¬ (r.to.length : Int) = 0 := by simpa [hT] using eB
      have hN' : ¬ r.to.length = 0 := by omega
      refine Kbc (Kf Y Y (Ke Y Y Y (Kp (ok_spec_l3named _) ⟨Y, trivial⟩ Y Y Y Y Y (Kd (kCond Y (fun g0 => (by (simp [*] at g0))) (fun g0 => Kbc (Kf Y Y (Kf Y Y (Ke Y Y Y (Kq Y Y (Kj Y Y Y (Kd (Km Y (fun g1 => Kbc (Ka Y (Kd (Kr (Er (ra := [.one (.d _)]) rfl rfl))))) (fun g1 => om))))))))))))))
    case true =>
      have hN : nameOk r.to = false := by simpa [hT] using eB
      refine Kbc (Kf Y Y (Ke Y Y Y (Kp (ok_spec_l3named _) ⟨Y, trivial⟩ Y Y Y Y Y (Kd (kCond Y (fun g0 => Kbc (Kf Y Y (Ke Y Y Y (Kp (ok_spec_NameOk _ pr pr) ⟨⟨⟨Y, trivial⟩, leb⟩, trivial⟩ Y Y Y Y Y (Kw Y Y (Kd (kCondN Y (fun g1 => Kbc (Ka Y (Kd (Kr (Er (ra := [.one (.d _)]) rfl rfl))))) (fun g1 => (by (simp [*] at g1)))))))))) (fun g0 => (by (simp [*] at g0))))))))
  refine Kb (kCut ⟨tabSl [(1, .c (.ptr (rid 1 0) 1 0))], obTab 1 [(rid 1 0, ⟨1, 0, .box (r.cells.map .d)⟩)], []⟩ ?_ (fun x hc => ?_))
  case refine_2 =>
    cases hT : hasTo r.ty
    case false =>
      have hN : (r.to.length : Int) = 0 := by rw [hT] at eB; simpa using eB
      have hN' : r.to.length = 0 := by omega
      clear hN
      refine Kbc (Kf Y Y (Ke Y Y Y (Kp (ok_spec_l3named _) ⟨Y, trivial⟩ Y Y Y Y Y (Kd (kCond Y (fun g0 => (by (simp [*] at g0))) (fun g0 => Kbc (Kf Y Y (Kf Y Y (Ke Y Y Y (Kq Y Y (Kj Y Y Y (Kd (Km Y (fun g1 => om) (fun g1 => Kn (hc _ .normA)))))))))))))))
    case true =>
      have hN : nameOk r.to = true := by simpa [hT] using eB
      refine Kbc (Kf Y Y (Ke Y Y Y (Kp (ok_spec_l3named _) ⟨Y, trivial⟩ Y Y Y Y Y (Kd (kCond Y (fun g0 => Kbc (Kf Y Y (Ke Y Y Y (Kp (ok_spec_NameOk _ pr pr) ⟨⟨⟨Y, trivial⟩, leb⟩, trivial⟩ Y Y Y Y Y (Kw Y Y (Kd (kCondN Y (fun g1 => (by (simp [*] at g1))) (fun g1 => Kn (hc _ .normA))))))))) (fun g0 => (by (simp [*] at g0))))))))
  by_cases eC : (if hasText r.ty then decide ((r.text.length : Int) ≤ 40) else ((r.text.length : Int) == 0)) = true
  case neg =>
    rw [show dataOk r = false by simp only [dataOk, Bool.eq_false_iff.2 eC, Bool.and_false]]
    refine Kb ?_
    cases hT : hasText r.ty
    case false =>
      have hN' : ¬ r.text.length = 0 := by rw [hT] at eC; simp at eC; simpa using eC
      refine Kbc (Kf Y Y (Ke Y Y Y (Kp (ok_spec_l3texted _) ⟨Y, trivial⟩ Y Y Y Y Y (Kd (kCond Y (fun g0 => (by (simp [*] at g0))) (fun g0 => Kbc (Kf Y Y (Ke Y Y Y (Kq Y Y (Kj Y Y Y (Kd (Km Y (fun g1 => Kbc (Ka Y (Kd (Kr (Er (ra := [.one (.d _)]) rfl rfl))))) (fun g1 => om)))))))))))))
    case true =>
      have hN' : ¬ r.text.length ≤ 40 := by rw [hT] at eC; simp at eC; omega
      refine Kbc (Kf Y Y (Ke Y Y Y (Kp (ok_spec_l3texted _) ⟨Y, trivial⟩ Y Y Y Y Y (Kd (kCond Y (fun g0 => Kbc (Kf Y Y (Ke Y Y Y (Kq Y Y (Kj Y Y Y (Kd (Km Y (fun g1 => Kbc (Ka Y (Kd (Kr (Er (ra := [.one (.d _)]) rfl rfl))))) (fun g1 => om)))))))) (fun g0 => (by (simp [*] at g0))))))))
  refine Kb (kCut ⟨tabSl [(1, .c (.ptr (rid 1 0) 1 0))], obTab 1 [(rid 1 0, ⟨1, 0, .box (r.cells.map .d)⟩)], []⟩ ?_ (fun x hc => ?_))
  case refine_2 =>
    cases hT : hasText r.ty
    case false =>
      have hN' : r.text.length = 0 := by rw [hT] at eC; simp at eC; rw [eC]; rfl
      refine Kbc (Kf Y Y (Ke Y Y Y (Kp (ok_spec_l3texted _) ⟨Y, trivial⟩ Y Y Y Y Y (Kd (kCond Y (fun g0 => (by (simp [*] at g0))) (fun g0 => Kbc (Kf Y Y (Ke Y Y Y (Kq Y Y (Kj Y Y Y (Kd (Km Y (fun g1 => om) (fun g1 => Kn (hc _ .normA))))))))))))))
    case true =>
      have hN' : r.text.length ≤ 40 := by rw [hT] at eC; simp at eC; omega
      refine Kbc (Kf Y Y (Ke Y Y Y (Kp (ok_spec_l3texted _) ⟨Y, trivial⟩ Y Y Y Y Y (Kd (kCond Y (fun g0 => Kbc (Kf Y Y (Ke Y Y Y (Kq Y Y (Kj Y Y Y (Kd (Km Y (fun g1 => om) (fun g1 => Kn (hc _ .normA))))))))) (fun g0 => (by (simp [*] at g0))))))))
  rw [show dataOk r = (if r.ty == 6 then numsOk r.nums else ((r.nums.length : Int) == 0)) by simp only [dataOk, eA, eB, eC, Bool.and_true]]
  clear eA eB eC hA
  refine Kb (Kbc (Kf Y Y (Ke Y Y Y (Kj Y Y Y (Kd (kCondIN Y (fun g0 => Kbc (Kf Y Y (Ke Y Y Y (Kq Y Y (Kj Y Y Y (Ka Y (Kd (Kr (Er (ra := [.one (.d _)]) rfl ?_))))))))) (fun g0 => Kn (Kb (Kbc (Kf Y Y (Ke Y Y Y (Kq Y Y (Kj Y Y Y (Ka Y (kGIN Y (fun g1 => Kg Y (Kg Y (Kg Y (Kg Y (Kg Y (Kk Y (Ka Y (Ka Y (Kg Y (Kg Y (Kg Y (Kg Y (Kg Y (Kk Y (Ka Y (Kd (kCondT Y (Kbc (Ka Y (Kd (Kr (Er (ra := [.one (.d _)]) rfl ?_)))))))))))))))))))))) (fun g1 => Ki Y (Kf Y Y (Ki Y (Ke Y Y Y (Ki Y (kIadR (m := 0) Y Y Y om (Ki Y (Ky Y Y (Ki Y (Kj Y Y Y (Kl Y (Ka Y (Ka Y (kGP Y (fun g2 => Kg Y (Kg Y (Kg Y (Kg Y (Kg Y (Kk Y (Ka Y (Kd (kCondT Y (Kbc (Ka Y (Kd (Kr (Er (ra := [.one (.d _)]) rfl ?_)))))))))))))) (fun g2 => Ki Y (Kf Y Y (Ki Y (Ke Y Y Y (Ki Y (kIadR (m := 0) Y Y Y om (Ki Y (Ky Y Y (Ki Y (Kj Y Y Y (Kl Y (Ka Y (Kd (Km Y (fun g3 => Kbc (Ka Y (Kd (Kr (Er (ra := [.one (.d _)]) rfl ?_))))) (fun g3 => Kn (Kbc (Kf Y Y (Ke Y Y Y (kIadR (m := 1) Y Y Y om (Ky Y Y (Kj Y Y Y (Ka Y (kGP Y (fun g4 => Ki Y (Kf Y Y (Ki Y (Ke Y Y Y (Ki Y (kIadR (m := 1) Y Y Y om (Ki Y (Ky Y Y (Ki Y (Kj Y Y Y (Kk Y (Ka Y (Ka Y (Kd (Kr (Er (ra := [.one (.d _)]) rfl ?_)))))))))))))))) (fun g4 => Kg Y (Kg Y (Kg Y (Kg Y (Kg Y (Kl Y (Ka Y (Ka Y (Kd (Kr (Er (ra := [.one (.d _)]) rfl ?_)))))))))))))))))))))))))))))))))))))))))))))))))))))))))))))))
  all_goals first
    | (simp [*]; done)
    | (rw [if_pos (by simpa using (by assumption : r.ty = 6)), numsOk, dif_pos (by assumption)]
       simp only [isW]
       refine congrArg (fun b : Bool => [RA.one (RV.d (DV.sc (Value.bool b)))]) ?_
       rw [Bool.eq_iff_iff]
       simp
       omega)

def c_spec_RrOk : C := (.g (.o 0 1 (.box 1 (.t 0)) (.o 1 2 (.mov (.v (.bool false))) .done)) (.g (.o 0 3 (.fad (.t 1) 0) (.o 1 4 (.load (some 1) (.t 3)) (.o 2 5 (.call 5 47 [(.t 4)]) (.o 3 6 (.mov (.t 5)) (.op 4 [] (some 7) (some (6, true)) false (.fad (.t 1) 1) (.op 5 [] (some 8) (some (6, true)) false (.load none (.t 7)) (.op 6 [] (some 9) (some (6, true)) false (.call 9 48 [(.t 8)]) (.o 7 10 (.pick (.t 6) (.t 9) (.v (.bool false))) (.o 8 11 (.mov (.t 10)) (.op 9 [] (some 12) (some (11, true)) false (.fad (.t 1) 2) (.op 10 [] (some 13) (some (11, true)) false (.load none (.t 12)) (.op 11 [] (some 14) (some (11, true)) false (.bin .geq (.t 13) (.i 0)) (.o 12 15 (.pick (.t 11) (.t 14) (.v (.bool false))) (.o 13 16 (.mov (.t 15)) (.op 14 [] (some 17) (some (16, true)) false (.fad (.t 1) 2) (.op 15 [] (some 18) (some (16, true)) false (.load none (.t 17)) (.op 16 [] (some 19) (some (16, true)) false (.bin .leq (.t 18) (.i 100000)) (.o 17 20 (.pick (.t 16) (.t 19) (.v (.bool false))) (.o 18 21 (.mov (.t 20)) (.op 19 [] (some 22) (some (21, true)) false (.load (some 7) (.t 1)) (.op 20 [] (some 23) (some (21, true)) false (.call 23 164 [(.t 22)]) (.o 21 24 (.pick (.t 21) (.t 23) (.v (.bool false))) (.o 22 2 (.mov (.t 24)) .done))))))))))))))))))))))) .ret))
theorem dg_spec_RrOk : Tryz.f73.body.bind (digC Tryz.prog Tryz.f73.ntmps []) = some c_spec_RrOk := by kernel_rfl
theorem rs_spec_RrOk : resSlots Tryz.prog Tryz.f73 = some [.s 2] := by kernel_rfl
theorem ok_spec_RrOk (r : Rr) (hs : SmallR r) :
    FnOK Tryz.prog 73 [.agg (r.cells.map .d)] (fun ra _ => ra = [.one (.d (.sc (.bool (rrOk r))))]) := by
  refine FnOK.ofK Tryz.func73 (by kernel_rfl) dg_spec_RrOk rs_spec_RrOk rfl rfl ?_
  delta c_spec_RrOk T.o X.i C.g
  have n1 := hs.n.len
  have n2 := hs.n.mem
  refine Kbc (kBox Y Y Y Y Y (Ka Y (Kdb (Kc (Kf Y Y (Ke Y Y Y (Kp (ok_spec_NameOk _ pr pr) ⟨⟨⟨Y, trivial⟩, leb⟩, trivial⟩ Y Y Y Y Y (Ka Y (kGS Y (fun g0 => Ki Y (Kf Y Y (Ki Y (Ke Y Y Y (Ki Y (Kp (ok_spec_TypeOk _) ⟨Y, trivial⟩ Y Y Y Y Y (Kk Y (Ka Y (Ka Y (kGS Y (fun g1 => Ki Y (Kf Y Y (Ki Y (Ke Y Y Y (Ki Y (Kj Y Y Y (Kk Y (Ka Y (Ka Y (kGP Y (fun g2 => Ki Y (Kf Y Y (Ki Y (Ke Y Y Y (Ki Y (Kj Y Y Y (Kk Y (Ka Y (Ka Y (kGP Y (fun g3 => Ki Y (Ke Y Y Y (Ki Y (Kp (ok_spec_l3data _ pr) ⟨⟨⟨Y, Y, Y, Y, Y, Y, Y, trivial⟩, leb⟩, trivial⟩ Y Y Y Y Y (Kk Y (Ka Y (Ka Y (Kd (Kr (Er (ra := [.one (.d _)]) rfl ?_)))))))))) (fun g3 => Kg Y (Kg Y (Kl Y (Ka Y (Ka Y (Kd (Kr (Er (ra := [.one (.d _)]) rfl ?_)))))))))))))))))) (fun g2 => Kg Y (Kg Y (Kg Y (Kl Y (Ka Y (Ka Y (Kg Y (Kg Y (Kl Y (Ka Y (Ka Y (Kd (Kr (Er (ra := [.one (.d _)]) rfl ?_)))))))))))))))))))))))) (fun g1 => Kg Y (Kg Y (Kg Y (Kl Y (Ka Y (Ka Y (Kg Y (Kg Y (Kg Y (Kl Y (Ka Y (Ka Y (Kg Y (Kg Y (Kl Y (Ka Y (Ka Y (Kd (Kr (Er (ra := [.one (.d _)]) rfl ?_)))))))))))))))))))))))))))))) (fun g0 => Kg Y (Kg Y (Kg Y (Kl Y (Ka Y (Ka Y (Kg Y (Kg Y (Kg Y (Kl Y (Ka Y (Ka Y (Kg Y (Kg Y (Kg Y (Kl Y (Ka Y (Ka Y (Kg Y (Kg Y (Kl Y (Ka Y (Ka Y (Kd (Kr (Er (ra := [.one (.d _)]) rfl ?_)))))))))))))))))))))))))))))))))))
  all_goals (simp only [rrOk, *]; first | rfl | (simp; done) | (simp; omega))

def c_spec_l2bytes : C := (.g (.o 0 4 (.mov (.i 0)) .done) (.seq (.g (.o 0 5 (.mov (.t 0)) (.o 1 6 (.b2s (.t 5)) (.o 2 7 (.mov (.t 1)) (.o 3 8 (.b2s (.t 7)) (.o 4 9 (.bin .lss (.t 6) (.t 8)) .done))))) (.cond (.t 9) (.g (.o 0 4 (.mov (.i (-1))) .done) .ret) .skip)) (.seq (.g (.o 0 10 (.mov (.t 0)) (.o 1 11 (.b2s (.t 10)) (.o 2 12 (.mov (.t 1)) (.o 3 13 (.b2s (.t 12)) (.o 4 14 (.bin .gtr (.t 11) (.t 13)) .done))))) (.cond (.t 14) (.g (.o 0 4 (.mov (.i 1)) .done) .ret) .skip)) (.g (.o 0 4 (.mov (.i 0)) .done) .ret))))
theorem dg_spec_l2bytes : Tryz.f166.body.bind (digC Tryz.prog Tryz.f166.ntmps []) = some c_spec_l2bytes := by kernel_rfl
theorem rs_spec_l2bytes : resSlots Tryz.prog Tryz.f166 = some [.s 4] := by kernel_rfl
theorem ok_spec_l2bytes (a b : List UInt8) :
    FnOK Tryz.prog 166 [.one (.d (encB a)), .one (.d (encB b))] (fun ra _ => ra = [.one (.d (.sc (.int .i64 (cmpB a b))))]) := by
  refine FnOK.ofK Tryz.func166 (by kernel_rfl) dg_spec_l2bytes rs_spec_l2bytes rfl rfl ?_
  delta c_spec_l2bytes T.o X.i C.g
  refine Kbc (Ka Y (Kdb (Kbc (Ka Y (kB2s Y Y (Ka Y (kB2s Y Y (Kj Y Y Y (Kd (kCond Y (fun g0 => Kbc (Ka Y (Kd (Kr (Er (ra := [.one (.d _)]) rfl ?_))))) (fun g0 => Kn (Kb (Kbc (Ka Y (kB2s Y Y (Ka Y (kB2s Y Y (Kj Y Y Y (Kd (kCondN Y (fun g1 => Kbc (Ka Y (Kd (Kr (Er (ra := [.one (.d _)]) rfl ?_))))) (fun g1 => Kn (Kbc (Ka Y (Kd (Kr (Er (ra := [.one (.d _)]) rfl ?_))))))))))))))))))))))))))
  all_goals simp_all [cmpB]

def c_spec_l2cmp : C := (.g (.o 0 2 (.box 2 (.t 0)) (.o 1 3 (.box 3 (.t 1)) (.o 2 4 (.mov (.i 0)) .done))) (.seq (.g (.o 0 5 (.mov (.i 1)) .done) (.block 0 (.loop (.seq (.g (.o 0 7 (.mov (.t 5)) (.o 1 8 (.fad (.t 2) 0) (.o 2 9 (.load none (.t 8)) (.o 3 10 (.len (.t 9)) (.o 4 11 (.bin .leq (.t 7) (.t 10)) (.o 5 12 (.mov (.t 11)) (.op 6 [] (some 13) (some (12, true)) false (.mov (.t 5)) (.op 7 [] (some 14) (some (12, true)) false (.fad (.t 3) 0) (.op 8 [] (some 15) (some (12, true)) false (.load none (.t 14)) (.op 9 [] (some 16) (some (12, true)) false (.len (.t 15)) (.op 10 [] (some 17) (some (12, true)) false (.bin .leq (.t 13) (.t 16)) (.o 11 18 (.pick (.t 12) (.t 17) (.v (.bool false))) .done)))))))))))) (.cond (.t 18) .skip (.exit 0))) (.seq (.block 1 (.seq (.reg true (.op 0 [] (some 21) none true (.fad (.t 2) 0) (.op 1 [] (some 22) none true (.load none (.t 21)) (.op 2 [] (some 23) none true (.fad (.t 2) 0) (.op 3 [] (some 24) none true (.load none (.t 23)) (.op 4 [] (some 25) none true (.len (.t 24)) (.op 5 [] (some 26) none true (.mov (.t 5)) (.op 6 [] (some 27) none true (.bin .sub (.t 25) (.t 26)) (.op 7 [] (some 28) none true (.iad 1 (.t 22) (.t 27)) (.op 8 [] (some 29) none true (.load none (.t 28)) (.op 9 [] (some 30) none true (.fad (.t 3) 0) (.op 10 [] (some 31) none true (.load none (.t 30)) (.op 11 [] (some 32) none true (.fad (.t 3) 0) (.op 12 [] (some 33) none true (.load none (.t 32)) (.op 13 [] (some 34) none true (.len (.t 33)) (.op 14 [] (some 35) none true (.mov (.t 5)) (.op 15 [] (some 36) none true (.bin .sub (.t 34) (.t 35)) (.op 16 [] (some 37) none true (.iad 1 (.t 31) (.t 36)) (.op 17 [] (some 38) none true (.load none (.t 37)) (.op 18 [8, 1, 3, 17, 10, 12] (some 39) none false (.call 39 166 [(.t 29), (.t 38)]) (.op 19 [] (some 6) none true (.mov (.t 39)) .done))))))))))))))))))))) (.g (.o 0 40 (.mov (.t 6)) (.o 1 41 (.bin .neq (.t 40) (.i 0)) .done)) (.cond (.t 41) (.g (.o 0 42 (.mov (.t 6)) (.o 1 4 (.mov (.t 42)) .done)) .ret) .skip)))) (.reg false (.o 0 19 (.mov (.t 5)) (.o 1 20 (.bin .add (.t 19) (.i 1)) (.o 2 5 (.mov (.t 20)) .done))))))))) (.seq (.g (.o 0 43 (.fad (.t 2) 0) (.o 1 44 (.load none (.t 43)) (.o 2 45 (.len (.t 44)) (.o 3 46 (.fad (.t 3) 0) (.o 4 47 (.load none (.t 46)) (.o 5 48 (.len (.t 47)) (.o 6 49 (.bin .neq (.t 45) (.t 48)) .done))))))) (.cond (.t 49) (.seq (.g (.o 0 50 (.fad (.t 2) 0) (.o 1 51 (.load none (.t 50)) (.o 2 52 (.len (.t 51)) (.o 3 53 (.fad (.t 3) 0) (.o 4 54 (.load none (.t 53)) (.o 5 55 (.len (.t 54)) (.o 6 56 (.bin .lss (.t 52) (.t 55)) .done))))))) (.cond (.t 56) (.g (.o 0 4 (.mov (.i (-1))) .done) .ret) .skip)) (.g (.o 0 4 (.mov (.i 1)) .done) .ret)) .skip)) (.g (.o 0 4 (.mov (.i 0)) .done) .ret))))
theorem dg_spec_l2cmp : Tryz.f77.body.bind (digC Tryz.prog Tryz.f77.ntmps []) = some c_spec_l2cmp := by kernel_rfl
theorem rs_spec_l2cmp : resSlots Tryz.prog Tryz.f77 = some [.s 4] := by kernel_rfl
theorem ok_spec_l2cmp (a b : List (List UInt8)) (ha : a.length ≤ 4194304) (hb : b.length ≤ 4194304) :
    FnOK Tryz.prog 77 [.agg [.d (encBB a)], .agg [.d (encBB b)]] (fun ra _ => ra = [.one (.d (.sc (.int .i64 (cmpN a b))))]) := by
  refine FnOK.ofK Tryz.func77 (by kernel_rfl) dg_spec_l2cmp rs_spec_l2cmp rfl rfl ?_
  delta c_spec_l2cmp T.o X.i C.g
  refine Kbc (kBox Y Y Y Y Y (kBox Y Y Y Y Y (Ka Y (Kdb (Kbc (Ka Y (Kd (Kt ?_))))))))
  refine kLoop (α := { k : Nat // k ≤ a.length ∧ k ≤ b.length ∧ cmpN a b = cmpL (a.reverse.drop k) (b.reverse.drop k) })
    (fun y => ⟨tabSl [(2, .c (.ptr (rid 2 0) 1 0)), (3, .c (.ptr (rid 3 0) 1 0)), (5, .i (y.1 + 1))], obTab 1 [(rid 2 0, ⟨1, 0, .box [.d (encBB a)]⟩), (rid 3 0, ⟨1, 0, .box [.d (encBB b)]⟩)], []⟩) (fun y => a.length - y.1) ⟨0, by simp [cmpN]⟩
    .normA ?_
  rintro ⟨k, h1, h2, h3⟩
  simp only
  rcases Nat.lt_or_ge k a.length with hla | hga
  · rcases Nat.lt_or_ge k b.length with hlb | hgb
    · have hst := cmpL_step a b k hla hlb (a.length - (k + 1) : Int).toNat (b.length - (k + 1) : Int).toNat (by omega) (by omega)
      refine Kb (Kbc (Ka Y (Kf Y Y (Ke Y Y Y (Kq Y Y (Kj Y Y Y (Ka Y (kGP Y (fun g0 => Ki Y (Ka Y (Ki Y (Kf Y Y (Ki Y (Ke Y Y Y (Ki Y (Kq Y Y (Ki Y (Kj Y Y Y (Kk Y (Ka Y (Kd (Km Y (fun g1 => Kn (Kb (Kt (Kb (kRegD (Kf Y Y (Ke Y Y Y (Kf Y Y (Ke Y Y Y (Kq Y Y (Ka Y (kDif Y Y om (kIadT Y Y om (Ky Y Y (Kf Y Y (Ke Y Y Y (Kf Y Y (Ke Y Y Y (Kq Y Y (Ka Y (kDif Y Y om (kIadT Y Y om (Ky Y Y (Ks Y Y (Kp (ok_spec_l2bytes _ _) ⟨Y, Y, trivial⟩ Y Y Y Y Y (Ka Y (Kd (kH (Kbc (Ka Y (Kj Y Y Y (Kd (kCondIN Y (fun g2 => Kbc (Ka Y (Ka Y (Kd (Kr (Er (ra := [.one (.d _)]) rfl ?_)))))) (fun g2 => Kn (Kv (Kc (Ka Y (kAdd Y Y om (Ka Y (Kd ?_)))))))))))))))))))))))))))))))))))))))) (fun g1 => om))))))))))))))) (fun g0 => om)))))))))
      · rw [h3, hst, if_neg (by assumption)]
      · refine kInv ⟨⟨k + 1, hla, hlb, ?_⟩, by simp only; omega, .normA⟩
        rw [h3, hst, if_pos (by assumption)]
    · rw [cmpL_end a b k h1 h2 (by omega)] at h3
      refine Kb (Kbc (Ka Y (Kf Y Y (Ke Y Y Y (Kq Y Y (Kj Y Y Y (Ka Y (kGP Y (fun g0 => Ki Y (Ka Y (Ki Y (Kf Y Y (Ki Y (Ke Y Y Y (Ki Y (Kq Y Y (Ki Y (Kj Y Y Y (Kk Y (Ka Y (Kd (Km Y (fun g1 => om) (fun g1 => kExit (kExC (kExI (kExB (Kb (Kbc (Kf Y Y (Ke Y Y Y (Kq Y Y (Kf Y Y (Ke Y Y Y (Kq Y Y (Kj Y Y Y (Kd (kCondIN Y (fun g2 => Kb (Kbc (Kf Y Y (Ke Y Y Y (Kq Y Y (Kf Y Y (Ke Y Y Y (Kq Y Y (Kj Y Y Y (Kd (Km Y (fun g3 => om) (fun g3 => Kn (Kbc (Ka Y (Kd (Kr (Er (ra := [.one (.d _)]) rfl ?_))))))))))))))))) (fun g2 => om)))))))))))))))))))))))))))))) (fun g0 => om)))))))))
      all_goals (rw [h3]; first | (rw [if_pos (by omega)]; done) | (rw [if_neg (by omega), if_pos (by omega)]; done) | rw [if_neg (by omega), if_neg (by omega)])
  · rw [cmpL_end a b k h1 h2 (by omega)] at h3
    refine Kb (Kbc (Ka Y (Kf Y Y (Ke Y Y Y (Kq Y Y (Kj Y Y Y (Ka Y (kGP Y (fun g0 => om) (fun g0 => Kg Y (Kg Y (Kg Y (Kg Y (Kg Y (Kl Y (Ka Y (Kd (kCondF Y (kExit (kExC (kExI (kExB (Kb (Kbc (Kf Y Y (Ke Y Y Y (Kq Y Y (Kf Y Y (Ke Y Y Y (Kq Y Y (Kj Y Y Y (Kd (kCondIN Y (fun g1 => Kb (Kbc (Kf Y Y (Ke Y Y Y (Kq Y Y (Kf Y Y (Ke Y Y Y (Kq Y Y (Kj Y Y Y (Kd (Km Y (fun g2 => Kbc (Ka Y (Kd (Kr (Er (ra := [.one (.d _)]) rfl ?_))))) (fun g2 => om)))))))))))) (fun g1 => Kn (Kbc (Ka Y (Kd (Kr (Er (ra := [.one (.d _)]) rfl ?_))))))))))))))))))))))))))))))))))))))
    all_goals (rw [h3]; first | (rw [if_pos (by omega)]; done) | (rw [if_neg (by omega), if_pos (by omega)]; done) | rw [if_neg (by omega), if_neg (by omega)])

def c_spec_l2under : C := (.g (.o 0 2 (.box 2 (.t 0)) (.o 1 3 (.box 3 (.t 1)) (.o 2 4 (.mov (.v (.bool false))) .done))) (.g (.o 0 6 (.fad (.t 2) 0) (.o 1 7 (.load none (.t 6)) (.o 2 8 (.len (.t 7)) (.o 3 9 (.fad (.t 3) 0) (.o 4 10 (.load none (.t 9)) (.o 5 11 (.len (.t 10)) (.o 6 12 (.bin .sub (.t 8) (.t 11)) (.o 7 5 (.mov (.t 12)) .done)))))))) (.seq (.reg true (.op 0 [] (some 13) none true (.mov (.t 5)) (.op 1 [] (some 14) none true (.bin .geq (.t 13) (.i 0)) (.op 2 [] (some 15) none true (.mov (.t 14)) (.op 3 [] (some 16) (some (15, true)) true (.fad (.t 2) 0) (.op 4 [] (some 17) (some (15, true)) true (.load none (.t 16)) (.op 5 [] (some 18) (some (15, true)) true (.mov (.t 5)) (.op 6 [] (some 19) (some (15, true)) true (.cut 1 (.t 17) (some (.t 18)) none) (.op 7 [] (some 20) (some (15, true)) true (.build [(.n 1)] [(0, 1, (.t 19))]) (.op 8 [] (some 21) (some (15, true)) true (.load (some 1) (.t 3)) (.op 9 [4, 8] (some 22) (some (15, true)) false (.call 22 77 [(.t 20), (.t 21)]) (.op 10 [] (some 23) (some (15, true)) true (.bin .eql (.t 22) (.i 0)) (.op 11 [] (some 24) none true (.pick (.t 15) (.t 23) (.v (.bool false))) (.op 12 [] (some 4) none true (.mov (.t 24)) .done)))))))))))))) .ret)))
theorem dg_spec_l2under : Tryz.f74.body.bind (digC Tryz.prog Tryz.f74.ntmps []) = some c_spec_l2under := by kernel_rfl
theorem rs_spec_l2under : resSlots Tryz.prog Tryz.f74 = some [.s 4] := by kernel_rfl
theorem ok_spec_l2under (n z : List (List UInt8)) (hn : n.length ≤ 4194304) (hz : z.length ≤ 4194304) :
    FnOK Tryz.prog 74 [.agg [.d (encBB n)], .agg [.d (encBB z)]] (fun ra _ => ra = [.one (.d (.sc (.bool (underN n z))))]) := by
  refine FnOK.ofK Tryz.func74 (by kernel_rfl) dg_spec_l2under rs_spec_l2under rfl rfl ?_
  delta c_spec_l2under T.o X.i C.g
  have hd : (n.drop (n.length - z.length : Int).toNat).length ≤ 4194304 := by simp; omega
  refine Kbc (kBox Y Y Y Y Y (kBox Y Y Y Y Y (Ka Y (Kdb (Kc (Kf Y Y (Ke Y Y Y (Kq Y Y (Kf Y Y (Ke Y Y Y (Kq Y Y (kDif Y Y om (Ka Y (Kdb (kRegD (Ka Y (Kj Y Y Y (Ka Y (kGP Y (fun g0 => Ki Y (Kf Y Y (Ki Y (Ke Y Y Y (Ki Y (Ka Y (Ki Y (kCutLT Y Y om (Ki Y (kBuild Y (Ki Y (Ke Y Y Y (Ks Y Y (Ki Y (Kp (ok_spec_l2cmp _ _ pr pr) ⟨⟨⟨Y, trivial⟩, leb⟩, ⟨⟨Y, trivial⟩, leb⟩, trivial⟩ Y Y Y Y Y (Ki Y (Kj Y Y Y (Kk Y (Ka Y (Ka Y (Kd (kH (Kr (Er (ra := [.one (.d _)]) rfl ?_)))))))))))))))))))))))) (fun g0 => Kg Y (Kg Y (Kg Y (Kg Y (Kg Y (Kg Y (Ks Y Y (Kg Y (Kg Y (Kl Y (Ka Y (Ka Y (Kd (kH (Kr (Er (ra := [.one (.d _)]) rfl ?_)))))))))))))))))))))))))))))))))))
  · rw [cmpN_zero, show (n.length - z.length : Int).toNat = n.length - z.length by omega]
    simp only [underN]
    rw [decide_eq_true (show z.length ≤ n.length by omega), Bool.true_and]
  · rw [show underN n z = false by simp only [underN]; rw [decide_eq_false (by omega)]; rfl]

def c_spec_l3num : C := (.g (.o 0 4 (.mov (.i 0)) .done) (.seq (.g (.o 0 5 (.mov (.t 0)) (.o 1 6 (.mov (.t 1)) (.o 2 7 (.bin .lss (.t 5) (.t 6)) .done))) (.cond (.t 7) (.g (.o 0 4 (.mov (.i (-1))) .done) .ret) .skip)) (.seq (.g (.o 0 8 (.mov (.t 0)) (.o 1 9 (.mov (.t 1)) (.o 2 10 (.bin .gtr (.t 8) (.t 9)) .done))) (.cond (.t 10) (.g (.o 0 4 (.mov (.i 1)) .done) .ret) .skip)) (.g (.o 0 4 (.mov (.i 0)) .done) .ret))))
theorem dg_spec_l3num : Tryz.f165.body.bind (digC Tryz.prog Tryz.f165.ntmps []) = some c_spec_l3num := by kernel_rfl
theorem rs_spec_l3num : resSlots Tryz.prog Tryz.f165 = some [.s 4] := by kernel_rfl
theorem ok_spec_l3num (a b : Int) :
    FnOK Tryz.prog 165 [.one (.d (.sc (.int .i64 a))), .one (.d (.sc (.int .i64 b)))] (fun ra _ => ra = [.one (.d (.sc (.int .i64 (cmpI a b))))]) := by
  refine FnOK.ofK Tryz.func165 (by kernel_rfl) dg_spec_l3num rs_spec_l3num rfl rfl ?_
  delta c_spec_l3num T.o X.i C.g
  refine Kbc (Ka Y (Kdb (Kbc (Ka Y (Ka Y (Kj Y Y Y (Kd (Km Y (fun g0 => Kbc (Ka Y (Kd (Kr (Er (ra := [.one (.d _)]) rfl ?_))))) (fun g0 => Kn (Kb (Kbc (Ka Y (Ka Y (Kj Y Y Y (Kd (Km Y (fun g1 => Kbc (Ka Y (Kd (Kr (Er (ra := [.one (.d _)]) rfl ?_))))) (fun g1 => Kn (Kbc (Ka Y (Kd (Kr (Er (ra := [.one (.d _)]) rfl ?_))))))))))))))))))))))
  all_goals (refine congrArg (fun z : Int => [RA.one (RV.d (DV.sc (Value.int IntKind.i64 z)))]) ?_; unfold cmpI; split <;> first | omega | (split <;> omega))

def c_spec_Put32 : C := (.g (.o 0 4 (.mov (.n 1)) .done) (.g (.o 0 6 (.lit 6 1 [(.v (.int .u8 0))] 0 []) (.o 1 7 (.mov (.t 0)) (.o 2 8 (.app 8 1 1 (.t 6) (.t 7)) (.o 3 5 (.mov (.t 8)) .done)))) (.seq (.g (.o 0 9 (.mov (.t 1)) (.o 1 10 (.bin .lss (.t 9) (.i 0)) (.o 2 11 (.mov (.t 10)) (.op 3 [] (some 12) (some (11, false)) false (.mov (.t 1)) (.op 4 [] (some 13) (some (11, false)) false (.bin .geq (.t 12) (.i 4294967296)) (.o 5 14 (.pick (.t 11) (.v (.bool true)) (.t 13)) .done)))))) (.cond (.t 14) (.g (.o 0 15 (.mov (.t 5)) (.o 1 4 (.mov (.t 15)) .done)) .ret) .skip)) (.g (.o 0 16 (.mov (.t 5)) (.o 1 17 (.mov (.t 1)) (.o 2 18 (.bin .shr (.t 17) (.v (.int .u64 24))) (.o 3 19 (.conv .u8 (.t 18)) (.o 4 20 (.mov (.t 1)) (.o 5 21 (.bin .shr (.t 20) (.v (.int .u64 16))) (.o 6 22 (.conv .u8 (.t 21)) (.o 7 23 (.mov (.t 1)) (.o 8 24 (.bin .shr (.t 23) (.v (.int .u64 8))) (.o 9 25 (.conv .u8 (.t 24)) (.o 10 26 (.mov (.t 1)) (.o 11 27 (.conv .u8 (.t 26)) (.o 12 28 (.lit 28 1 [(.v (.int .u8 0))] 4 [(0, 1, (.t 19)), (1, 1, (.t 22)), (2, 1, (.t 25)), (3, 1, (.t 27))]) (.o 13 29 (.app 29 1 1 (.t 16) (.t 28)) (.o 14 4 (.mov (.t 29)) .done))))))))))))))) .ret))))
theorem dg_spec_Put32 : Tryz.f247.body.bind (digC Tryz.prog Tryz.f247.ntmps []) = some c_spec_Put32 := by kernel_rfl
theorem rs_spec_Put32 : resSlots Tryz.prog Tryz.f247 = some [.s 4] := by kernel_rfl
theorem ok_spec_Put32 (b : List UInt8) (n : Int) (hb : b.length ≤ 16777216) (h0 : 0 ≤ n) (h1 : n < 4294967296) :
    FnOK Tryz.prog 247 [.one (.d (encB b)), .one (.d (.sc (.int .i64 n)))] (fun ra _ => ra = [.one (.own true (encB (b ++ w4 n)))]) := by
  refine FnOK.ofK Tryz.func247 (by kernel_rfl) dg_spec_Put32 rs_spec_Put32 rfl rfl ?_
  delta c_spec_Put32 T.o X.i C.g
  refine Kbc (Ka Y (Kdb (Kc (kLit Y Y Y Y (Ka Y (kAppN Y Y Y (src_encB _ _) rfl rfl rfl rfl om (Ka Y (Kdb (Kbc (Ka Y (Kj Y Y Y (Ka Y (kGP Y (fun g0 => om) (fun g0 => Ki Y (Ka Y (Ki Y (Kj Y Y Y (Kl Y (Ka Y (Kd (Km Y (fun g1 => om) (fun g1 => Kn (Kbc (Ka Y (Ka Y (kShr (m := 24) Y Y Y (kConvU8 Y (Ka Y (kShr (m := 16) Y Y Y (kConvU8 Y (Ka Y (kShr (m := 8) Y Y Y (kConvU8 Y (Ka Y (kConvU8 Y (kLit Y Y Y Y (kAppR4 Y Y Y Y Y Y Y Y om (Ka Y (Kd (Kr (Er (ra := [.one (.own true _)]) rfl rfl)))))))))))))))))))))))))))))))))))))))))
theorem ok_spec_Put32_nil (n : Int) (h0 : 0 ≤ n) (h1 : n < 4294967296) :
    FnOK Tryz.prog 247 [.one (.d (.sl 1 [])), .one (.d (.sc (.int .i64 n)))] (fun ra _ => ra = [.one (.own true (encB (w4 n)))]) := ok_spec_Put32 [] n (Nat.zero_le _) h0 h1

def c_spec_l2put : C := (.g (.o 0 3 (.box 3 (.t 1)) (.o 1 4 (.mov (.n 1)) .done)) (.seq (.g (.o 0 5 (.mov (.i 0)) .done) (.block 0 (.loop (.seq (.g (.o 0 6 (.mov (.t 5)) (.o 1 7 (.fad (.t 3) 0) (.o 2 8 (.load none (.t 7)) (.o 3 9 (.len (.t 8)) (.o 4 10 (.bin .lss (.t 6) (.t 9)) .done))))) (.cond (.t 10) .skip (.exit 0))) (.seq (.block 1 (.reg true (.op 0 [] (some 13) none true (.mov (.t 0)) (.op 1 [] (some 14) none true (.fad (.t 3) 0) (.op 2 [] (some 15) none true (.load none (.t 14)) (.op 3 [] (some 16) none true (.mov (.t 5)) (.op 4 [] (some 17) none true (.iad 1 (.t 15) (.t 16)) (.op 5 [] (some 18) none true (.load none (.t 17)) (.op 6 [] (some 19) none true (.len (.t 18)) (.op 7 [] (some 20) none true (.conv .u8 (.t 19)) (.op 10 [] (some 23) none true (.fad (.t 3) 0) (.op 11 [] (some 24) none true (.load none (.t 23)) (.op 12 [] (some 25) none true (.mov (.t 5)) (.op 13 [] (some 26) none true (.iad 1 (.t 24) (.t 25)) (.op 14 [] (some 27) none true (.load none (.t 26)) (.op 8 [5, 2] (some 21) none false (.lit 21 1 [(.v (.int .u8 0))] 1 [(0, 1, (.t 20))]) (.op 9 [5, 2] (some 22) none false (.app 22 1 1 (.t 13) (.t 21)) (.op 15 [5, 14, 11] (some 28) none false (.app 28 1 1 (.t 22) (.t 27)) (.op 16 [] (some 0) none true (.mov (.t 28)) .done))))))))))))))))))) (.reg false (.o 0 11 (.mov (.t 5)) (.o 1 12 (.bin .add (.t 11) (.i 1)) (.o 2 5 (.mov (.t 12)) .done))))))))) (.g (.o 0 29 (.mov (.t 0)) (.o 1 30 (.lit 30 1 [(.v (.int .u8 0))] 1 [(0, 1, (.v (.int .u8 0)))]) (.o 2 31 (.app 31 1 1 (.t 29) (.t 30)) (.o 3 4 (.mov (.t 31)) .done)))) .ret)))
theorem dg_spec_l2put : Tryz.f155.body.bind (digC Tryz.prog Tryz.f155.ntmps []) = some c_spec_l2put := by kernel_rfl
theorem rs_spec_l2put : resSlots Tryz.prog Tryz.f155 = some [.s 4] := by kernel_rfl
theorem ok_spec_l2put (b : List UInt8) (a : List (List UInt8)) (hs : SmallBB a) (hb : b.length ≤ 16777216) :
    FnOK Tryz.prog 155 [.one (.arr true true (encB b)), .agg [.d (encBB a)]] (fun ra _ => ra = [.one (.own true (encB (b ++ wireN a)))]) := by
  refine FnOK.ofK Tryz.func155 (by kernel_rfl) dg_spec_l2put rs_spec_l2put rfl rfl ?_
  delta c_spec_l2put T.o X.i C.g
  have h1 := hs.len
  have h2 := hs.flat
  refine Kbc (kBox Y Y Y Y Y (Ka Y (Kdb (Kbc (Ka Y (Kd (Kt ?_)))))))
  refine kLoop (α := { i : Nat // i ≤ a.length }) (fun y => ⟨tabSl [(0, .c (.arr 0 1)), (3, .c (.ptr (rid 3 0) 1 0)), (5, .i y.1)], obTab 1 [(0, ⟨1, 0, .arr true (encB (b ++ wireL (a.take y.1)))⟩), (rid 3 0, ⟨1, 0, .box [.d (encBB a)]⟩)], []⟩) (fun y => a.length - y.1) ⟨0, by simp⟩ (by simp only [List.take_zero, wireL, List.flatMap_nil, List.append_nil]; exact .normA) ?_
  rintro ⟨i, hi⟩
  simp only
  have hl := wireL_le a i
  have hl2 : (b ++ wireL (a.take i)).length = b.length + (wireL (a.take i)).length := by simp
  rcases Nat.lt_or_ge i a.length with hlt | hge
  · have hst : b ++ wireL (a.take (i + 1)) = b ++ wireL (a.take i) ++ [u8 a[i].length] ++ a[i] := by rw [wireL_take a i hlt]; simp
    have hm := hs.mem _ (List.getElem_mem hlt)
    have hlen : (b ++ wireL (a.take i) ++ [u8 a[i].length]).length = (b ++ wireL (a.take i)).length + 1 := by simp only [List.length_append, List.length_cons, List.length_nil]
    refine Kb (Kbc (Ka Y (Kf Y Y (Ke Y Y Y (Kq Y Y (Kj Y Y Y (Kd (Km Y (fun g0 => Kn (Kb (Kt (kRegD (Ka Y (Kf Y Y (Ke Y Y Y (Ka Y (kIadR Y Y Y om (Ky Y Y (Kq Y Y (kConvU8 Y (Kf Y Y (Ke Y Y Y (Ka Y (kIadR Y Y Y om (Ky Y Y (Kx Y Y (kLit Y Y Y Y (Kx Y Y (kAppR1 Y Y Y Y Y Y Y Y om (Ks Y Y (kAppR Y Y Y (src_encB _ _) rfl rfl rfl rfl om (Ka Y (Kd (kH (Kv (Kc (Ka Y (kAdd Y Y om (Ka Y (Kd ?_)))))))))))))))))))))))))))))))) (fun g0 => om)))))))))
    refine kInv ⟨⟨i + 1, by omega⟩, by simp only; omega, ?_⟩
    simp only [hst]
    exact .normA
  · have he : b ++ wireN a = b ++ wireL (a.take i) ++ [0] := by rw [show i = a.length by omega, List.take_length]; simp [wireN]
    rw [he]
    refine Kb (Kbc (Ka Y (Kf Y Y (Ke Y Y Y (Kq Y Y (Kj Y Y Y (Kd (Km Y (fun g0 => om) (fun g0 => kExit (kExC (kExI (kExB (Kbc (Ka Y (kLit Y Y Y Y (kAppR1 (z := (0 : UInt8)) rfl rfl rfl rfl rfl rfl rfl rfl om (Ka Y (Kd (Kr (Er (ra := [.one (.own true _)]) rfl rfl))))))))))))))))))))
theorem ok_spec_l2put_nil (a : List (List UInt8)) (hs : SmallBB a) :
    FnOK Tryz.prog 155 [.one (.arr true true (.sl 1 [])), .agg [.d (encBB a)]] (fun ra _ => ra = [.one (.own true (encB (wireN a)))]) := ok_spec_l2put [] a hs (Nat.zero_le _)

def c_spec_l3put : C := (.g (.o 0 1 (.box 1 (.t 0)) (.o 1 2 (.mov (.n 1)) .done)) (.seq (.block 0 (.g (.o 0 4 (.fad (.t 1) 1) (.o 1 5 (.load none (.t 4)) (.o 2 6 (.bin .eql (.t 5) (.i 1)) (.o 3 3 (.mov (.t 6)) .done)))) (.cond (.t 3) (.g (.o 0 7 (.fad (.t 1) 3) (.o 1 8 (.load none (.t 7)) (.o 2 9 (.call 9 247 [(.n 1), (.t 8)]) (.o 3 2 (.mov (.t 9)) .done)))) .ret) (.g (.o 0 11 (.fad (.t 1) 1) (.o 1 12 (.load none (.t 11)) (.o 2 13 (.bin .eql (.t 12) (.i 6)) (.o 3 10 (.mov (.t 13)) .done)))) (.cond (.t 10) (.seq (.reg true (.op 0 [] (some 14) none true (.fad (.t 1) 4) (.op 1 [] (some 15) none true (.load (some 1) (.t 14)) (.op 3 [] (some 17) none true (.fad (.t 1) 6) (.op 4 [] (some 18) none true (.load none (.t 17)) (.op 5 [] (some 19) none true (.iad 1 (.t 18) (.i 0)) (.op 6 [] (some 20) none true (.load none (.t 19)) (.op 8 [] (some 22) none true (.fad (.t 1) 6) (.op 9 [] (some 23) none true (.load none (.t 22)) (.op 10 [] (some 24) none true (.iad 1 (.t 23) (.i 1)) (.op 11 [] (some 25) none true (.load none (.t 24)) (.op 2 [1] (some 16) none false (.call 16 155 [(.n 1), (.t 15)]) (.op 7 [1, 6, 4] (some 21) none false (.call 21 247 [(.t 16), (.t 20)]) (.op 12 [1, 6, 4, 11, 9] (some 26) none false (.call 26 247 [(.t 21), (.t 25)]) (.op 13 [] (some 2) none true (.mov (.t 26)) .done))))))))))))))) .ret) (.g (.o 0 28 (.fad (.t 1) 1) (.o 1 29 (.load none (.t 28)) (.o 2 30 (.call 30 245 [(.t 29)]) (.o 3 27 (.mov (.t 30)) .done)))) (.cond (.t 27) (.g (.o 0 31 (.fad (.t 1) 4) (.o 1 32 (.load (some 1) (.t 31)) (.o 2 33 (.call 33 155 [(.n 1), (.t 32)]) (.o 3 2 (.mov (.t 33)) .done)))) .ret) .skip))))))) (.g (.o 0 34 (.fad (.t 1) 5) (.o 1 35 (.load none (.t 34)) (.o 2 36 (.len (.t 35)) (.o 3 37 (.conv .u8 (.t 36)) (.o 4 38 (.lit 38 1 [(.v (.int .u8 0))] 1 [(0, 1, (.t 37))]) (.o 5 39 (.fad (.t 1) 5) (.o 6 40 (.load none (.t 39)) (.o 7 41 (.app 41 1 1 (.t 38) (.t 40)) (.o 8 2 (.mov (.t 41)) .done))))))))) .ret)))
theorem dg_spec_l3put : Tryz.f167.body.bind (digC Tryz.prog Tryz.f167.ntmps []) = some c_spec_l3put := by kernel_rfl
theorem rs_spec_l3put : resSlots Tryz.prog Tryz.f167 = some [.s 2] := by kernel_rfl
theorem ok_spec_l3put (r : Rr) (hs : SmallR r) (hk : rrOk r = true) :
    FnOK Tryz.prog 167 [.agg (r.cells.map .d)] (fun ra _ => ra = [.one (.own true (encB (rdata r)))]) := by
  refine FnOK.ofK Tryz.func167 (by kernel_rfl) dg_spec_l3put rs_spec_l3put rfl rfl ?_
  delta c_spec_l3put T.o X.i C.g
  have ht := hs.t
  have t1 := hs.t.len
  have t2 := hs.t.flat
  have x1 := hs.x
  have m1 := hs.m
  by_cases h1 : r.ty = 1
  · rw [rdata_A h1]
    have ha := rdata_ad hk h1
    refine Kbc (kBox Y Y Y Y Y (Ka Y (Kdb (Kt (Kbc (Kf Y Y (Ke Y Y Y (Kj Y Y Y (Ka Y (Kd (Km Y (fun g0 => Kbc (Kf Y Y (Ke Y Y Y (Ku true (ok_spec_Put32_nil _ pr pr) ⟨Y, Y, trivial⟩ Y Y Y (fun _ => (Ka Y (Kd (Kr (Er (ra := [.one (.own true _)]) rfl rfl))))))))) (fun g0 => om))))))))))))
  by_cases h6 : r.ty = 6
  · obtain ⟨h2, h3, h4, h5⟩ := rdata_soa hk h6
    rw [h5]
    have w1 := wireN_len r.to
    have w2 : (wireN r.to ++ w4 (r.nums[0]'(by omega))).length = (wireN r.to).length + 4 := by rw [List.length_append, w4_len]
    refine Kbc (kBox Y Y Y Y Y (Ka Y (Kdb (Kt (Kbc (Kf Y Y (Ke Y Y Y (Kj Y Y Y (Ka Y (Kd (Km Y (fun g0 => om) (fun g0 => Kbc (Kf Y Y (Ke Y Y Y (Kj Y Y Y (Ka Y (Kd (Km Y (fun g1 => Kb (kRegD (Kf Y Y (Ke Y Y Y (Kf Y Y (Ke Y Y Y (kIadR (m := 0) Y Y Y om (Ky Y Y (Kf Y Y (Ke Y Y Y (kIadR (m := 1) Y Y Y om (Ky Y Y (Kx Y Y (Ku true (ok_spec_l2put_nil _ pr) ⟨⟨rfl, rfl⟩, ⟨⟨Y, trivial⟩, leb⟩, trivial⟩ Y Y Y (fun _ => (Kx Y Y (Ku true (ok_spec_Put32 _ _ pr pr pr) ⟨Y, Y, trivial⟩ Y Y Y (fun _ => (Ks Y Y (Ku true (ok_spec_Put32 _ _ pr pr pr) ⟨Y, Y, trivial⟩ Y Y Y (fun _ => (Ka Y (Kd (kH (Kr (Er (ra := [.one (.own true _)]) rfl rfl)))))))))))))))))))))))))) (fun g1 => om)))))))))))))))))))
  have hn := rdata_nm hk h6
  cases h2 : hasTo r.ty
  · rw [rdata_text h1 h2]
    refine Kbc (kBox Y Y Y Y Y (Ka Y (Kdb (Kt (Kbc (Kf Y Y (Ke Y Y Y (Kj Y Y Y (Ka Y (Kd (Km Y (fun g0 => om) (fun g0 => Kbc (Kf Y Y (Ke Y Y Y (Kj Y Y Y (Ka Y (Kd (Km Y (fun g1 => om) (fun g1 => Kbc (Kf Y Y (Ke Y Y Y (Kp (ok_spec_l3named _) ⟨Y, trivial⟩ Y Y Y Y Y (Ka Y (Kd (kCond Y (fun g2 => (by (simp [*] at g2))) (fun g2 => Kn (Kv (Kbc (Kf Y Y (Ke Y Y Y (Kq Y Y (kConvU8 Y (kLit Y Y Y Y (Kf Y Y (Ke Y Y Y (kApp1R Y Y (src_encB _ _) rfl rfl rfl rfl rfl om (Ka Y (Kd (Kr (Er (ra := [.one (.own true _)]) rfl rfl))))))))))))))))))))))))))))))))))))))))
  · rw [rdata_to h1 h2, hn, List.flatMap_nil, List.append_nil]
    refine Kbc (kBox Y Y Y Y Y (Ka Y (Kdb (Kt (Kbc (Kf Y Y (Ke Y Y Y (Kj Y Y Y (Ka Y (Kd (Km Y (fun g0 => om) (fun g0 => Kbc (Kf Y Y (Ke Y Y Y (Kj Y Y Y (Ka Y (Kd (Km Y (fun g1 => om) (fun g1 => Kbc (Kf Y Y (Ke Y Y Y (Kp (ok_spec_l3named _) ⟨Y, trivial⟩ Y Y Y Y Y (Ka Y (Kd (kCond Y (fun g2 => Kbc (Kf Y Y (Ke Y Y Y (Ku true (ok_spec_l2put_nil _ pr) ⟨⟨rfl, rfl⟩, ⟨⟨Y, trivial⟩, leb⟩, trivial⟩ Y Y Y (fun _ => (Ka Y (Kd (Kr (Er (ra := [.one (.own true _)]) rfl rfl))))))))) (fun g2 => (by (simp [*] at g2))))))))))))))))))))))))))))

def c_spec_l3cmp : C := (.g (.o 0 2 (.box 2 (.t 0)) (.o 1 3 (.box 3 (.t 1)) (.o 2 4 (.mov (.i 0)) .done))) (.g (.o 0 6 (.fad (.t 2) 0) (.o 1 7 (.load (some 1) (.t 6)) (.o 2 8 (.fad (.t 3) 0) (.o 3 9 (.load (some 1) (.t 8)) (.o 4 10 (.call 10 77 [(.t 7), (.t 9)]) (.o 5 5 (.mov (.t 10)) .done)))))) (.seq (.g (.o 0 11 (.mov (.t 5)) (.o 1 12 (.bin .eql (.t 11) (.i 0)) .done)) (.cond (.t 12) (.reg false (.o 0 13 (.fad (.t 2) 1) (.o 1 14 (.load none (.t 13)) (.o 2 15 (.fad (.t 3) 1) (.o 3 16 (.load none (.t 15)) (.o 4 17 (.call 17 165 [(.t 14), (.t 16)]) (.o 5 5 (.mov (.t 17)) .done))))))) .skip)) (.seq (.g (.o 0 18 (.mov (.t 5)) (.o 1 19 (.bin .eql (.t 18) (.i 0)) .done)) (.cond (.t 19) (.reg true (.op 0 [] (some 20) none true (.load (some 7) (.t 2)) (.op 2 [] (some 22) none true (.load (some 7) (.t 3)) (.op 1 [0] (some 21) none false (.call 21 167 [(.t 20)]) (.op 3 [2, 0] (some 23) none false (.call 23 167 [(.t 22)]) (.op 4 [0, 2] (some 24) none false (.call 24 166 [(.t 21), (.t 23)]) (.op 5 [] (some 5) none true (.mov (.t 24)) .done))))))) .skip)) (.g (.o 0 25 (.mov (.t 5)) (.o 1 4 (.mov (.t 25)) .done)) .ret)))))
theorem dg_spec_l3cmp : Tryz.f75.body.bind (digC Tryz.prog Tryz.f75.ntmps []) = some c_spec_l3cmp := by kernel_rfl
theorem rs_spec_l3cmp : resSlots Tryz.prog Tryz.f75 = some [.s 4] := by kernel_rfl
theorem ok_spec_l3cmp (a b : Rr) (ha : SmallR a) (hb : SmallR b) (ka : rrOk a = true) (kb : rrOk b = true) :
    FnOK Tryz.prog 75 [.agg (a.cells.map .d), .agg (b.cells.map .d)] (fun ra _ => ra = [.one (.d (.sc (.int .i64 (cmpR a b))))]) := by
  refine FnOK.ofK Tryz.func75 (by kernel_rfl) dg_spec_l3cmp rs_spec_l3cmp rfl rfl ?_
  delta c_spec_l3cmp T.o X.i C.g
  have n1 := ha.n.len
  have n2 := hb.n.len
  by_cases h1 : cmpN a.name b.name = 0
  · by_cases h2 : cmpI a.ty b.ty = 0
    · rw [show cmpR a b = cmpB (rdata a) (rdata b) by unfold cmpR; rw [if_pos h1, if_pos h2]]
      refine Kbc (kBox Y Y Y Y Y (kBox Y Y Y Y Y (Ka Y (Kdb (Kc (Kf Y Y (Ke Y Y Y (Kf Y Y (Ke Y Y Y (Kp (ok_spec_l2cmp _ _ pr pr) ⟨⟨⟨Y, trivial⟩, leb⟩, ⟨⟨Y, trivial⟩, leb⟩, trivial⟩ Y Y Y Y Y (Ka Y (Kdb (Kbc (Ka Y (Kj Y Y Y (Kd (Km Y (fun g0 => Kc (Kf Y Y (Ke Y Y Y (Kf Y Y (Ke Y Y Y (Kp (ok_spec_l3num _ _) ⟨Y, Y, trivial⟩ Y Y Y Y Y (Ka Y (Kdb (Kbc (Ka Y (Kj Y Y Y (Kd (Km Y (fun g1 => kRegD (Ke Y Y Y (Ke Y Y Y (Kx Y Y (Ku true (ok_spec_l3put _ pr pr) ⟨⟨⟨Y, Y, Y, Y, Y, Y, Y, trivial⟩, leb⟩, trivial⟩ Y Y Y (fun _ => (Ks Y Y (Ku true (ok_spec_l3put _ pr pr) ⟨⟨⟨Y, Y, Y, Y, Y, Y, Y, trivial⟩, leb⟩, trivial⟩ Y Y Y (fun _ => (Ks Y Y (Kp (ok_spec_l2bytes _ _) ⟨Y, Y, trivial⟩ Y Y Y Y Y (Ka Y (Kd (kH (Kbc (Ka Y (Ka Y (Kd (Kr (Er (ra := [.one (.d _)]) rfl rfl)))))))))))))))))))) (fun g1 => om)))))))))))))) (fun g0 => om))))))))))))))))))
    · rw [show cmpR a b = cmpI a.ty b.ty by unfold cmpR; rw [if_pos h1, if_neg h2]]
      refine Kbc (kBox Y Y Y Y Y (kBox Y Y Y Y Y (Ka Y (Kdb (Kc (Kf Y Y (Ke Y Y Y (Kf Y Y (Ke Y Y Y (Kp (ok_spec_l2cmp _ _ pr pr) ⟨⟨⟨Y, trivial⟩, leb⟩, ⟨⟨Y, trivial⟩, leb⟩, trivial⟩ Y Y Y Y Y (Ka Y (Kdb (Kbc (Ka Y (Kj Y Y Y (Kd (Km Y (fun g0 => Kc (Kf Y Y (Ke Y Y Y (Kf Y Y (Ke Y Y Y (Kp (ok_spec_l3num _ _) ⟨Y, Y, trivial⟩ Y Y Y Y Y (Ka Y (Kdb (Kbc (Ka Y (Kj Y Y Y (Kd (Km Y (fun g1 => om) (fun g1 => Kn (Kbc (Ka Y (Ka Y (Kd (Kr (Er (ra := [.one (.d _)]) rfl rfl)))))))))))))))))))) (fun g0 => om))))))))))))))))))
  · rw [show cmpR a b = cmpN a.name b.name by unfold cmpR; rw [if_neg h1]]
    refine Kbc (kBox Y Y Y Y Y (kBox Y Y Y Y Y (Ka Y (Kdb (Kc (Kf Y Y (Ke Y Y Y (Kf Y Y (Ke Y Y Y (Kp (ok_spec_l2cmp _ _ pr pr) ⟨⟨⟨Y, trivial⟩, leb⟩, ⟨⟨Y, trivial⟩, leb⟩, trivial⟩ Y Y Y Y Y (Ka Y (Kdb (Kbc (Ka Y (Kj Y Y Y (Kd (Km Y (fun g0 => om) (fun g0 => Kn (Kb (Kbc (Ka Y (Kj Y Y Y (Kd (Km Y (fun g1 => om) (fun g1 => Kn (Kbc (Ka Y (Ka Y (Kd (Kr (Er (ra := [.one (.d _)]) rfl rfl)))))))))))))))))))))))))))))))

def c_spec_l5alone : C := (.g (.o 0 4 (.mov (.v (.bool false))) .done) (.seq (.g (.o 0 6 (.mov (.t 0)) (.o 1 7 (.mov (.t 1)) (.o 2 8 (.iad 7 (.t 6) (.t 7)) (.o 3 9 (.fad (.t 8) 1) (.o 4 10 (.load none (.t 9)) (.o 5 11 (.bin .neq (.t 10) (.i 5)) .done)))))) (.cond (.t 11) (.g (.o 0 4 (.mov (.v (.bool true))) .done) .ret) .skip)) (.seq (.g (.o 0 5 (.mov (.i 0)) .done) (.block 0 (.loop (.seq (.g (.o 0 12 (.mov (.t 5)) (.o 1 13 (.mov (.t 0)) (.o 2 14 (.len (.t 13)) (.o 3 15 (.bin .lss (.t 12) (.t 14)) .done)))) (.cond (.t 15) .skip (.exit 0))) (.seq (.block 1 (.seq (.reg true (.op 0 [] (some 18) none true (.mov (.t 5)) (.op 1 [] (some 19) none true (.mov (.t 1)) (.op 2 [] (some 20) none true (.bin .neq (.t 18) (.t 19)) (.op 3 [] (some 21) none true (.mov (.t 20)) (.op 4 [] (some 22) (some (21, true)) true (.mov (.t 0)) (.op 5 [] (some 23) (some (21, true)) true (.mov (.t 5)) (.op 6 [] (some 24) (some (21, true)) true (.iad 7 (.t 22) (.t 23)) (.op 7 [] (some 25) (some (21, true)) true (.fad (.t 24) 0) (.op 8 [] (some 26) (some (21, true)) true (.load (some 1) (.t 25)) (.op 9 [] (some 27) (some (21, true)) true (.mov (.t 0)) (.op 10 [] (some 28) (some (21, true)) true (.mov (.t 1)) (.op 11 [] (some 29) (some (21, true)) true (.iad 7 (.t 27) (.t 28)) (.op 12 [] (some 30) (some (21, true)) true (.fad (.t 29) 0) (.op 13 [] (some 31) (some (21, true)) true (.load (some 1) (.t 30)) (.op 14 [8, 13] (some 32) (some (21, true)) false (.call 32 77 [(.t 26), (.t 31)]) (.op 15 [] (some 33) (some (21, true)) true (.bin .eql (.t 32) (.i 0)) (.op 16 [] (some 34) none true (.pick (.t 21) (.t 33) (.v (.bool false))) .done)))))))))))))))))) (.cond (.t 34) (.g (.o 0 4 (.mov (.v (.bool false))) .done) .ret) .skip))) (.reg false (.o 0 16 (.mov (.t 5)) (.o 1 17 (.bin .add (.t 16) (.i 1)) (.o 2 5 (.mov (.t 17)) .done))))))))) (.g (.o 0 4 (.mov (.v (.bool true))) .done) .ret))))
theorem dg_spec_l5alone : Tryz.f76.body.bind (digC Tryz.prog Tryz.f76.ntmps []) = some c_spec_l5alone := by kernel_rfl
theorem rs_spec_l5alone : resSlots Tryz.prog Tryz.f76 = some [.s 4] := by kernel_rfl
theorem ok_spec_l5alone (l : List Rr) (i : Nat) (hs : SmallRs l) (hi : i < l.length) :
    FnOK Tryz.prog 76 [.one (.d (encR l)), .one (.d (.sc (.int .i64 i)))] (fun ra _ => ra = [.one (.d (.sc (.bool (aloneR l i))))]) := by
  refine FnOK.ofK Tryz.func76 (by kernel_rfl) dg_spec_l5alone rs_spec_l5alone rfl rfl ?_
  delta c_spec_l5alone T.o X.i C.g
  have h1 := hs.len
  have hbi := hs.mem _ (List.getElem_mem hi)
  have n1 := hbi.n.len
  by_cases p : l[i].ty = 5
  · refine Kbc (Ka Y (Kdb (Kbc (Ka Y (Ka Y (kIadR Y Y Y om (kFadD Y (Ky Y Y (Kj Y Y Y (Kd (kCondIN Y (fun g0 => om) (fun g0 => Kn (Kb (Kbc (Ka Y (Kd (Kt ?_)))))))))))))))))
    refine kLoop (α := { k : Nat // k ≤ l.length ∧ ∀ j, (h : j < k) → (h' : j < l.length) → j ≠ i → l[j].name ≠ l[i].name }) (fun y => ⟨tabSl [(0, .dv (encR l)), (1, .i i), (5, .i y.1)], obTab 1 [], []⟩) (fun y => l.length - y.1) ⟨0, by simp, fun _ h => by omega⟩ .normA ?_
    rintro ⟨k, hk, hn⟩
    simp only
    rcases Nat.lt_or_ge k l.length with hlt | hge
    · have hbk := hs.mem _ (List.getElem_mem hlt)
      have n2 := hbk.n.len
      have hz := cmpN_zero l[k].name l[i].name
      by_cases p1 : k = i
      · refine Kb (Kbc (Ka Y (Ka Y (Kq Y Y (Kj Y Y Y (Kd (Km Y (fun g0 => Kn (Kb (Kt (Kb (kRegD (Ka Y (Ka Y (Kj Y Y Y (Ka Y (kGIN Y (fun g1 => om) (fun g1 => Kg Y (Kg Y (Kg Y (Kg Y (Kg Y (Kg Y (Kg Y (Kg Y (Kg Y (Kg Y (Ks Y Y (Kg Y (Kg Y (Kl Y (Ka Y (Kd (kH (kCondF Y (Kn (Kv (Kc (Ka Y (kAdd Y Y om (Ka Y (Kd ?_))))))))))))))))))))))))))))))))))) (fun g0 => om))))))))
        refine kInv ⟨⟨k + 1, by omega, fun j h h' hne => hn j om h' hne⟩, by simp only; omega, .normA⟩
      · by_cases p2 : l[k].name = l[i].name
        · have hc : cmpN l[k].name l[i].name = 0 := by simpa [p2] using hz
          rw [show aloneR l i = false by rw [aloneR_no hi p hlt p1 p2]]
          refine Kb (Kbc (Ka Y (Ka Y (Kq Y Y (Kj Y Y Y (Kd (Km Y (fun g0 => Kn (Kb (Kt (Kb (kRegD (Ka Y (Ka Y (Kj Y Y Y (Ka Y (kGIN Y (fun g1 => Ki Y (Ka Y (Ki Y (Ka Y (Ki Y (kIadR Y Y Y om (Ki Y (kFadD Y (Ki Y (Ky Y Y (Ki Y (Ka Y (Ki Y (Ka Y (Ki Y (kIadR Y Y Y om (Ki Y (kFadD Y (Ki Y (Ky Y Y (Ks Y Y (Ki Y (Kp (ok_spec_l2cmp _ _ pr pr) ⟨⟨⟨Y, trivial⟩, leb⟩, ⟨⟨Y, trivial⟩, leb⟩, trivial⟩ Y Y Y Y Y (Ki Y (Kj Y Y Y (Kk Y (Ka Y (Kd (kH (Km Y (fun g2 => Kbc (Ka Y (Kd (Kr (Er (ra := [.one (.d _)]) rfl rfl))))) (fun g2 => om))))))))))))))))))))))))))))))) (fun g1 => om))))))))))) (fun g0 => om))))))))
        · have hc : cmpN l[k].name l[i].name ≠ 0 := by simpa [p2] using hz
          refine Kb (Kbc (Ka Y (Ka Y (Kq Y Y (Kj Y Y Y (Kd (Km Y (fun g0 => Kn (Kb (Kt (Kb (kRegD (Ka Y (Ka Y (Kj Y Y Y (Ka Y (kGIN Y (fun g1 => Ki Y (Ka Y (Ki Y (Ka Y (Ki Y (kIadR Y Y Y om (Ki Y (kFadD Y (Ki Y (Ky Y Y (Ki Y (Ka Y (Ki Y (Ka Y (Ki Y (kIadR Y Y Y om (Ki Y (kFadD Y (Ki Y (Ky Y Y (Ks Y Y (Ki Y (Kp (ok_spec_l2cmp _ _ pr pr) ⟨⟨⟨Y, trivial⟩, leb⟩, ⟨⟨Y, trivial⟩, leb⟩, trivial⟩ Y Y Y Y Y (Ki Y (Kj Y Y Y (Kk Y (Ka Y (Kd (kH (Km Y (fun g2 => om) (fun g2 => Kn (Kv (Kc (Ka Y (kAdd Y Y om (Ka Y (Kd ?_))))))))))))))))))))))))))))))))))))) (fun g1 => om))))))))))) (fun g0 => om))))))))
          refine kInv ⟨⟨k + 1, by omega, fun j h h' hne => ?_⟩, by simp only; omega, .normA⟩
          by_cases e : j = k
          · subst e; exact p2
          · exact hn j (by omega) h' hne
    · rw [show aloneR l i = true by exact aloneR_yes hi fun j h' hne => hn j (by omega) h' hne]
      refine Kb (Kbc (Ka Y (Ka Y (Kq Y Y (Kj Y Y Y (Kd (Km Y (fun g0 => om) (fun g0 => kExit (kExC (kExI (kExB (Kbc (Ka Y (Kd (Kr (Er (ra := [.one (.d _)]) rfl rfl))))))))))))))))
  · rw [show aloneR l i = true by exact aloneR_ty hi p]
    refine Kbc (Ka Y (Kdb (Kbc (Ka Y (Ka Y (kIadR Y Y Y om (kFadD Y (Ky Y Y (Kj Y Y Y (Kd (kCondIN Y (fun g0 => Kbc (Ka Y (Kd (Kr (Er (ra := [.one (.d _)]) rfl rfl))))) (fun g0 => om))))))))))))

def c_spec_ZoneOk : C := (.g (.o 0 1 (.box 1 (.t 0)) (.o 1 2 (.mov (.v (.bool false))) .done)) (.seq (.g (.o 0 6 (.fad (.t 1) 0) (.o 1 7 (.load (some 1) (.t 6)) (.o 2 8 (.call 8 47 [(.t 7)]) (.o 3 9 (.un .not (.t 8)) (.o 4 10 (.mov (.t 9)) (.op 5 [] (some 11) (some (10, false)) false (.fad (.t 1) 1) (.op 6 [] (some 12) (some (10, false)) false (.load none (.t 11)) (.op 7 [] (some 13) (some (10, false)) false (.len (.t 12)) (.op 8 [] (some 14) (some (10, false)) false (.bin .gtr (.t 13) (.i 60)) (.o 9 15 (.pick (.t 10) (.v (.bool true)) (.t 14)) .done)))))))))) (.cond (.t 15) (.g (.o 0 2 (.mov (.v (.bool false))) .done) .ret) .skip)) (.g (.o 0 3 (.mov (.i 0)) .done) (.seq (.g (.o 0 4 (.mov (.i 0)) .done) (.block 0 (.loop (.seq (.g (.o 0 16 (.mov (.t 4)) (.o 1 17 (.fad (.t 1) 1) (.o 2 18 (.load none (.t 17)) (.o 3 19 (.len (.t 18)) (.o 4 20 (.bin .lss (.t 16) (.t 19)) .done))))) (.cond (.t 20) .skip (.exit 0))) (.seq (.block 1 (.g (.o 0 23 (.fad (.t 1) 1) (.o 1 24 (.load none (.t 23)) (.o 2 25 (.mov (.t 4)) (.o 3 26 (.iad 7 (.t 24) (.t 25)) (.o 4 27 (.load (some 7) (.t 26)) (.o 5 5 (.alloc 5 [(.n 1), (.i 0), (.i 0), (.i 0), (.n 1), (.n 1), (.n 1)]) (.op 6 [] none none false (.store (some 7) (.t 5) (.t 27)) .done))))))) (.seq (.seq (.reg true (.op 0 [] (some 28) none true (.load (some 7) (.t 5)) (.op 1 [0] (some 29) none false (.call 29 73 [(.t 28)]) (.op 2 [] (some 30) none true (.un .not (.t 29)) (.op 3 [] (some 31) none true (.mov (.t 30)) (.op 4 [] (some 32) (some (31, false)) true (.fad (.t 5) 0) (.op 5 [] (some 33) (some (31, false)) true (.load (some 1) (.t 32)) (.op 6 [] (some 34) (some (31, false)) true (.fad (.t 1) 0) (.op 7 [] (some 35) (some (31, false)) true (.load (some 1) (.t 34)) (.op 8 [5, 0, 7] (some 36) (some (31, false)) false (.call 36 74 [(.t 33), (.t 35)]) (.op 9 [] (some 37) (some (31, false)) true (.un .not (.t 36)) (.op 10 [] (some 38) none true (.pick (.t 31) (.v (.bool true)) (.t 37)) (.op 11 [] (some 39) none true (.mov (.t 38)) (.op 12 [] (some 40) (some (39, false)) true (.mov (.t 4)) (.op 13 [] (some 41) (some (39, false)) true (.bin .gtr (.t 40) (.i 0)) (.op 14 [] (some 42) (some (39, false)) true (.mov (.t 41)) (.op 15 [] (some 43) (some (42, true)) true (.fad (.t 1) 1) (.op 16 [] (some 44) (some (42, true)) true (.load none (.t 43)) (.op 17 [] (some 45) (some (42, true)) true (.mov (.t 4)) (.op 18 [] (some 46) (some (42, true)) true (.bin .sub (.t 45) (.i 1)) (.op 19 [] (some 47) (some (42, true)) true (.iad 7 (.t 44) (.t 46)) (.op 20 [] (some 48) (some (42, true)) true (.load (some 7) (.t 47)) (.op 21 [] (some 49) (some (42, true)) true (.load (some 7) (.t 5)) (.op 22 [20, 16, 5, 7, 21, 0] (some 50) (some (42, true)) false (.call 50 75 [(.t 48), (.t 49)]) (.op 23 [] (some 51) (some (42, true)) true (.bin .geq (.t 50) (.i 0)) (.op 24 [] (some 52) (some (39, false)) true (.pick (.t 42) (.t 51) (.v (.bool false))) (.op 25 [] (some 53) none true (.pick (.t 39) (.v (.bool true)) (.t 52)) (.op 26 [] (some 54) none true (.mov (.t 53)) (.op 27 [] (some 55) (some (54, false)) true (.fad (.t 1) 1) (.op 28 [] (some 56) (some (54, false)) true (.load none (.t 55)) (.op 29 [] (some 57) (some (54, false)) true (.mov (.t 4)) (.op 30 [28, 20, 21, 5, 7, 16] (some 58) (some (54, false)) false (.call 58 76 [(.t 56), (.t 57)]) (.op 31 [] (some 59) (some (54, false)) true (.un .not (.t 58)) (.op 32 [] (some 60) none true (.pick (.t 54) (.v (.bool true)) (.t 59)) .done)))))))))))))))))))))))))))))))))) (.cond (.t 60) (.g (.o 0 2 (.mov (.v (.bool false))) .done) .ret) .skip)) (.g (.o 0 61 (.fad (.t 5) 1) (.o 1 62 (.load none (.t 61)) (.o 2 63 (.bin .eql (.t 62) (.i 6)) .done))) (.cond (.t 63) (.g (.o 0 64 (.mov (.t 3)) (.o 1 65 (.bin .add (.t 64) (.i 1)) (.o 2 3 (.mov (.t 65)) .done))) (.g (.o 0 66 (.fad (.t 5) 0) (.o 1 67 (.load (some 1) (.t 66)) (.o 2 68 (.fad (.t 1) 0) (.o 3 69 (.load (some 1) (.t 68)) (.o 4 70 (.call 70 77 [(.t 67), (.t 69)]) (.o 5 71 (.bin .neq (.t 70) (.i 0)) .done)))))) (.cond (.t 71) (.g (.o 0 2 (.mov (.v (.bool false))) .done) .ret) .skip))) .skip))))) (.reg false (.o 0 21 (.mov (.t 4)) (.o 1 22 (.bin .add (.t 21) (.i 1)) (.o 2 4 (.mov (.t 22)) .done))))))))) (.g (.o 0 72 (.mov (.t 3)) (.o 1 73 (.bin .eql (.t 72) (.i 1)) (.o 2 2 (.mov (.t 73)) .done))) .ret)))))
theorem dg_spec_ZoneOk : Tryz.f14.body.bind (digC Tryz.prog Tryz.f14.ntmps []) = some c_spec_ZoneOk := by kernel_rfl
theorem rs_spec_ZoneOk : resSlots Tryz.prog Tryz.f14 = some [.s 2] := by kernel_rfl
theorem ok_spec_ZoneOk (z : Zone) (hs : SmallZ z) :
    FnOK Tryz.prog 14 [.agg (z.cells.map .d)] (fun ra _ => ra = [.one (.d (.sc (.bool (zoneOk z))))]) := by
  refine FnOK.ofK Tryz.func14 (by kernel_rfl) dg_spec_ZoneOk rs_spec_ZoneOk rfl rfl ?_
  delta c_spec_ZoneOk T.o X.i C.g
  have o1 := hs.o.len
  have o2 := hs.o.mem
  have h1 := hs.r.len
  have hm := hs.r.mem
  have hr := hs.r
  cases a1 : nameOk z.origin
  · rw [show zoneOk z = false by unfold zoneOk; rw [a1]; rfl]
    refine Kbc (kBox Y Y Y Y Y (Ka Y (Kdb (Kbc (Kf Y Y (Ke Y Y Y (Kp (ok_spec_NameOk _ pr pr) ⟨⟨⟨Y, trivial⟩, leb⟩, trivial⟩ Y Y Y Y Y (Kw Y Y (Ka Y (kGN Y (fun g0 => Kg Y (Kg Y (Kg Y (Kg Y (Kk Y (Ka Y (Kd (kCondT Y (Kbc (Ka Y (Kd (Kr (Er (ra := [.one (.d _)]) rfl rfl))))))))))))) (fun g0 => (by (simp [*] at g0)))))))))))))
  by_cases a2 : z.rrs.length ≤ 60
  case neg =>
    rw [show zoneOk z = false by unfold zoneOk; rw [decide_eq_false a2]; simp]
    refine Kbc (kBox Y Y Y Y Y (Ka Y (Kdb (Kbc (Kf Y Y (Ke Y Y Y (Kp (ok_spec_NameOk _ pr pr) ⟨⟨⟨Y, trivial⟩, leb⟩, trivial⟩ Y Y Y Y Y (Kw Y Y (Ka Y (kGN Y (fun g0 => (by (simp [*] at g0))) (fun g0 => Ki Y (Kf Y Y (Ki Y (Ke Y Y Y (Ki Y (Kq Y Y (Ki Y (Kj Y Y Y (Kl Y (Ka Y (Kd (Km Y (fun g1 => Kbc (Ka Y (Kd (Kr (Er (ra := [.one (.d _)]) rfl rfl))))) (fun g1 => om)))))))))))))))))))))))
  refine Kbc (kBox Y Y Y Y Y (Ka Y (Kdb (Kbc (Kf Y Y (Ke Y Y Y (Kp (ok_spec_NameOk _ pr pr) ⟨⟨⟨Y, trivial⟩, leb⟩, trivial⟩ Y Y Y Y Y (Kw Y Y (Ka Y (kGN Y (fun g0 => (by (simp [*] at g0))) (fun g0 => Ki Y (Kf Y Y (Ki Y (Ke Y Y Y (Ki Y (Kq Y Y (Ki Y (Kj Y Y Y (Kl Y (Ka Y (Kd (Km Y (fun g1 => om) (fun g1 => Kn (Kbc (Ka Y (Kdb (Kbc (Ka Y (Kd (Kt ?_))))))))))))))))))))))))))))))
  refine kLoop (α := { i : Nat // i ≤ z.rrs.length ∧ (List.range i).all (zAt z) = true ∧ (z.rrs.take i).all rrOk = true }) (fun y => ⟨tabSl [(1, .c (.ptr (rid 1 0) 1 0)), (3, .i (zTops (z.rrs.take y.1))), (4, .i y.1)], obTab 1 [(rid 1 0, ⟨1, 0, .box (z.cells.map .d)⟩)], []⟩) (fun y => z.rrs.length - y.1) ⟨0, by simp⟩ .normA ?_
  rintro ⟨i, hi, hz, hal⟩
  simp only
  have ht := zTops_le z.rrs i
  rcases Nat.lt_or_ge i z.rrs.length with hlt | hge
  · have hbi := hm _ (List.getElem_mem hlt)
    have n1 := hbi.n.len
    have n2 := hbi.n.mem
    have hts := zTops_succ z.rrs i hlt
    have hq := zAt_eq hlt
    have hcz := cmpN_zero z.rrs[i].name z.origin
    cases hk : rrOk z.rrs[i]
    · rw [show zoneOk z = false by unfold zoneOk; rw [all_no hlt hk]; simp]
      refine Kb (Kbc (Ka Y (Kf Y Y (Ke Y Y Y (Kq Y Y (Kj Y Y Y (Kd (Km Y (fun g0 => Kn (Kb (Kt (Kbc (Kf Y Y (Ke Y Y Y (Ka Y (kIadR Y Y Y om (Ky Y Y (kAlloc Y Y (Ko Y Y Y Y (Kdb (Kb (kRegD (Ke Y Y Y (Ks Y Y (Kp (ok_spec_RrOk _ pr) ⟨⟨⟨Y, Y, Y, Y, Y, Y, Y, trivial⟩, leb⟩, trivial⟩ Y Y Y Y Y (Kw Y Y (Ka Y (kGN Y (fun g1 => Kg Y (Kg Y (Kg Y (Kg Y (Ks Y Y (Kg Y (Kg Y (Kk Y (Ka Y (Ka Y (Kg Y (Kg Y (Kg Y (kGU Y (kGU Y (kGU Y (kGU Y (kGU Y (kGU Y (kGU Y (Ks Y Y (kGU Y (kGU Y (Kg Y (Kk Y (Ka Y (Ka Y (Kg Y (Kg Y (Kg Y (Ks Y Y (Kg Y (Kg Y (Kk Y (Ka Y (Kd (kH (kCondT Y (Kbc (Ka Y (Kd (Kr (Er (ra := [.one (.d _)]) rfl rfl))))))))))))))))))))))))))))))))))))))))))) (fun g1 => (by (simp [*] at g1))))))))))))))))))))))) (fun g0 => om)))))))))
    have kp : rrOk (z.rrs[((i : Int) - 1).toNat]'(by omega)) = true := by
      rcases Nat.eq_zero_or_pos i with h0 | h0
      · have e : ((i : Int) - 1).toNat = i := by omega
        simp only [e]; exact hk
      · have e : ((i : Int) - 1).toNat = i - 1 := by omega
        simp only [e]
        exact List.all_eq_true.1 hal _ (by rw [List.mem_take_iff_getElem]; exact ⟨i - 1, by omega, rfl⟩)
    refine Kb ?_
    refine Kbc (Ka Y (Kf Y Y (Ke Y Y Y (Kq Y Y (Kj Y Y Y (Kd (Km Y (fun g0 => Kn (Kb (Kt (Kbc (Kf Y Y (Ke Y Y Y (Ka Y (kIadR Y Y Y om (Ky Y Y (kAlloc Y Y (Ko Y Y Y Y (Kdb (Kb (kRegD (Ke Y Y Y (Ks Y Y (Kp (ok_spec_RrOk _ pr) ⟨⟨⟨Y, Y, Y, Y, Y, Y, Y, trivial⟩, leb⟩, trivial⟩ Y Y Y Y Y (Kw Y Y (Ka Y (kGN Y (fun g1 => (by (simp [*] at g1))) (fun g1 => Ki Y (Kf Y Y (Ki Y (Ke Y Y Y (Ki Y (Kf Y Y (Ki Y (Ke Y Y Y (Ks Y Y (Ki Y (Kp (ok_spec_l2under _ _ pr pr) ⟨⟨⟨Y, trivial⟩, leb⟩, ⟨⟨Y, trivial⟩, leb⟩, trivial⟩ Y Y Y Y Y (Ki Y (Kw Y Y (Kl Y (Ka Y (Ka Y (kGN Y (fun g2 => Kg Y (Kg Y (Kg Y (kGU Y (kGU Y (kGU Y (kGU Y (kGU Y (kGU Y (kGU Y (Ks Y Y (kGU Y (kGU Y (Kg Y (Kk Y (Ka Y (Ka Y (Kg Y (Kg Y (Kg Y (Ks Y Y (Kg Y (Kg Y (Kk Y (Ka Y (Kd (kH (kCondT Y (Kbc (Ka Y (Kd (Kr (Er (ra := [.one (.d _)]) rfl ?_))))))))))))))))))))))))))))))))) (fun g2 => Ki Y (Ka Y (Ki Y (Kj Y Y Y (Ki Y (Ka Y (kGP Y (fun g3 => Ki Y (Kf Y Y (Ki Y (Ke Y Y Y (Ki Y (Ka Y (Ki Y (kDif Y Y om (Ki Y (kIadT Y Y om (Ki Y (Ky Y Y (Ki Y (Ke Y Y Y (Ks Y Y (Ki Y (Kp (ok_spec_l3cmp _ _ pr pr pr pr) ⟨⟨⟨Y, Y, Y, Y, Y, Y, Y, trivial⟩, leb⟩, ⟨⟨Y, Y, Y, Y, Y, Y, Y, trivial⟩, leb⟩, trivial⟩ Y Y Y Y Y (Ki Y (Kj Y Y Y (Ki Y (Kk Y (Ka Y (Kl Y (Ka Y (Ka Y (kGP Y (fun g4 => Kg Y (Kg Y (Kg Y (Ks Y Y (Kg Y (Kg Y (Kk Y (Ka Y (Kd (kH (kCondT Y (Kbc (Ka Y (Kd (Kr (Er (ra := [.one (.d _)]) rfl ?_)))))))))))))))) (fun g4 => Ki Y (Kf Y Y (Ki Y (Ke Y Y Y (Ki Y (Ka Y (Ks Y Y (Ki Y (Kp (ok_spec_l5alone _ _ pr pr) ⟨Y, Y, trivial⟩ Y Y Y Y Y (Ki Y (Kw Y Y (Kl Y (Ka Y (Kd (kH (kCondN Y (fun g5 => Kbc (Ka Y (Kd (Kr (Er (ra := [.one (.d _)]) rfl ?_))))) (fun g5 => Kn (Kbc (Kf Y Y (Ke Y Y Y (Kj Y Y Y (Kd (Km Y (fun g6 => Kbc (Ka Y (kAdd Y Y om (Ka Y (Kdb (Kc (Kf Y Y (Ke Y Y Y (Kf Y Y (Ke Y Y Y (Kp (ok_spec_l2cmp _ _ pr pr) ⟨⟨⟨Y, trivial⟩, leb⟩, ⟨⟨Y, trivial⟩, leb⟩, trivial⟩ Y Y Y Y Y (Kj Y Y Y (Kd (kCondIN Y (fun g7 => Kbc (Ka Y (Kd (Kr (Er (ra := [.one (.d _)]) rfl ?_))))) (fun g7 => Kn (Kv (Kc (Ka Y (kAdd Y Y om (Ka Y (Kd ?_))))))))))))))))))))) (fun g6 => Kn (Kv (Kc (Ka Y (kAdd Y Y om (Ka Y (Kd ?_)))))))))))))))))))))))))))))))))))))))))))))))))))))))) (fun g3 => Kg Y (Kg Y (Kg Y (Kg Y (Kg Y (Kg Y (Kg Y (Ks Y Y (Kg Y (Kg Y (Ki Y (Kl Y (Ka Y (Kl Y (Ka Y (Ka Y (Ki Y (Kf Y Y (Ki Y (Ke Y Y Y (Ki Y (Ka Y (Ks Y Y (Ki Y (Kp (ok_spec_l5alone _ _ pr pr) ⟨Y, Y, trivial⟩ Y Y Y Y Y (Ki Y (Kw Y Y (Kl Y (Ka Y (Kd (kH (kCondN Y (fun g8 => Kbc (Ka Y (Kd (Kr (Er (ra := [.one (.d _)]) rfl ?_))))) (fun g8 => Kn (Kbc (Kf Y Y (Ke Y Y Y (Kj Y Y Y (Kd (Km Y (fun g9 => Kbc (Ka Y (kAdd Y Y om (Ka Y (Kdb (Kc (Kf Y Y (Ke Y Y Y (Kf Y Y (Ke Y Y Y (Kp (ok_spec_l2cmp _ _ pr pr) ⟨⟨⟨Y, trivial⟩, leb⟩, ⟨⟨Y, trivial⟩, leb⟩, trivial⟩ Y Y Y Y Y (Kj Y Y Y (Kd (kCondIN Y (fun g10 => Kbc (Ka Y (Kd (Kr (Er (ra := [.one (.d _)]) rfl ?_))))) (fun g10 => Kn (Kv (Kc (Ka Y (kAdd Y Y om (Ka Y (Kd ?_))))))))))))))))))))) (fun g9 => Kn (Kv (Kc (Ka Y (kAdd Y Y om (Ka Y (Kd ?_)))))))))))))))))))))))))))))))))))))))))))))))))))))))))))))))))))))))))))))))))))))))))) (fun g0 => om))))))))
    all_goals first
      | (refine congrArg (fun z : Bool => [RA.one (RV.d (DV.sc (Value.bool z)))]) (zone_no hlt (Bool.eq_false_iff.2 fun h => ?_)).symm
         rw [hq] at h
         simp only [Bool.and_eq_true, decide_eq_true_eq, Bool.or_eq_true, Bool.not_eq_true', beq_eq_false_iff_ne] at h
         obtain ⟨⟨⟨k1, k2⟩, k3⟩, k4⟩ := h
         first
           | (rw [prevB_pos (by omega) hlt (by omega), decide_eq_true_eq] at k2; omega)
           | (simp_all; done)
           | (simp_all; omega))
      | (have e1 : prevB z.rrs i = true := by
           first
             | (rw [prevB_pos (by omega) hlt (by omega)]; exact decide_eq_true (by omega))
             | (have : i = 0 := by omega
                subst this; exact prevB_zero)
         have e2 : aloneR z.rrs i = true := by
           first
             | assumption
             | (simp [*]; done)
             | (rw [decide_eq_true (by omega)]; simp)
         have e3 : (!(z.rrs[i].ty == 6) || decide (z.rrs[i].name = z.origin)) = true := by
           first
             | (simp [*]; done)
             | (simp_all; done)
         first
           | rw [if_pos (by assumption)] at hts
           | rw [if_neg (by assumption)] at hts
         have hz' : zAt z i = true := by rw [hq, e1, e2, e3]; simp [*]
         exact kInv ⟨⟨i + 1, by omega, range_all hz hz', all_step hlt hal hk⟩, by simp only; omega, .normA⟩)
  · rw [show zoneOk z = decide (zTops z.rrs = 1) by unfold zoneOk; rw [a1, decide_eq_true a2, show (List.range z.rrs.length).all (zAt z) = true by rw [show z.rrs.length = i by omega]; exact hz, show z.rrs.all rrOk = true by rw [show i = z.rrs.length by omega, List.take_length] at hal; exact hal]; rfl]
    refine Kb (Kbc (Ka Y (Kf Y Y (Ke Y Y Y (Kq Y Y (Kj Y Y Y (Kd (Km Y (fun g0 => om) (fun g0 => kExit (kExC (kExI (kExB (Kbc (Ka Y (Kj Y Y Y (Ka Y (Kd (Kr (Er (ra := [.one (.d _)]) rfl ?_)))))))))))))))))))
    rw [show i = z.rrs.length by omega, List.take_length]
    rfl

def c_spec_l2own : C := (.g (.o 0 1 (.box 1 (.t 0)) (.o 1 2 (.alloc 2 [(.n 1)]) .done)) (.g (.o 0 3 (.alloc 3 [(.n 1)]) .done) (.seq (.g (.o 0 4 (.mov (.i 0)) .done) (.block 0 (.loop (.seq (.g (.o 0 5 (.mov (.t 4)) (.o 1 6 (.fad (.t 1) 0) (.o 2 7 (.load none (.t 6)) (.o 3 8 (.len (.t 7)) (.o 4 9 (.bin .lss (.t 5) (.t 8)) .done))))) (.cond (.t 9) .skip (.exit 0))) (.seq (.block 1 (.reg true (.op 0 [] (some 12) none true (.fad (.t 3) 0) (.op 1 [] (some 13) none true (.load none (.t 12)) (.op 3 [] (some 15) none true (.fad (.t 1) 0) (.op 4 [] (some 16) none true (.load none (.t 15)) (.op 5 [] (some 17) none true (.mov (.t 4)) (.op 6 [] (some 18) none true (.iad 1 (.t 16) (.t 17)) (.op 7 [] (some 19) none true (.load none (.t 18)) (.o 2 14 (.lit 14 1 [(.v (.int .u8 0))] 0 []) (.op 8 [7, 4] (some 20) none false (.app 20 1 1 (.t 14) (.t 19)) (.op 9 [7, 4] (some 21) none false (.lit 21 1 [(.n 1)] 1 [(0, 1, (.t 20))]) (.op 10 [1, 7, 4] (some 22) none false (.app 22 1 24 (.t 13) (.t 21)) (.op 11 [] (some 23) none true (.fad (.t 3) 0) (.op 12 [1, 4, 7] none none false (.store none (.t 23) (.t 22)) .done))))))))))))))) (.reg false (.o 0 10 (.mov (.t 4)) (.o 1 11 (.bin .add (.t 10) (.i 1)) (.o 2 4 (.mov (.t 11)) .done))))))))) (.g (.o 0 24 (.load (some 1) (.t 3)) (.op 1 [] none none false (.store (some 1) (.t 2) (.t 24)) .done)) .ret))))
theorem dg_spec_l2own : Tryz.f175.body.bind (digC Tryz.prog Tryz.f175.ntmps []) = some c_spec_l2own := by kernel_rfl
theorem rs_spec_l2own : resSlots Tryz.prog Tryz.f175 = some [.m 2 (some 1)] := by kernel_rfl
theorem ok_spec_l2own (a : List (List UInt8)) (ha : a.length ≤ 4194304) (hb : ∀ b ∈ a, b.length ≤ 4194304) :
    FnOK Tryz.prog 175 [.agg [.d (encBB a)]] (fun ra _ => ra = [.agg [.own true (encBB a)]]) := by
  refine FnOK.ofK Tryz.func175 (by kernel_rfl) dg_spec_l2own rs_spec_l2own rfl rfl ?_
  delta c_spec_l2own T.o X.i C.g
  refine Kbc (kBox Y Y Y Y Y (kAlloc Y Y (Kdb (Kc (kAlloc Y Y (Kdb (Kbc (Ka Y (Kd (Kt ?_))))))))))
  refine kSub (Sub.nilBox (id := rid 3 0) (id2 := rid 5000 0) (j := 0) rfl rfl rfl (by decide) (by decide)) ?_
  refine kLoop (α := { i : Nat // i ≤ a.length })
    (fun y => ⟨tabSl [(1, .c (.ptr (rid 1 0) 1 0)), (2, .c (.ptr (rid 2 0) 1 0)), (3, .c (.ptr (rid 3 0) 1 0)), (4, .i y.1)],
      obTab 1 [(rid 1 0, ⟨1, 0, .box [.d (encBB a)]⟩), (rid 2 0, ⟨1, 0, .box [.nil 1]⟩), (rid 3 0, ⟨1, 0, .box [.arr (rid 5000 0) 1]⟩), (rid 5000 0, ⟨1, 0, .arr true (encBB (a.take y.1))⟩)], []⟩) (fun y => a.length - y.1) ⟨0, by simp⟩
    .normA ?_
  rintro ⟨i, hi⟩
  simp only
  have hlen : (a.take i).length = i := by simp; omega
  rcases Nat.lt_or_ge i a.length with hlt | hge
  · have hbi := hb _ (List.getElem_mem hlt)
    refine Kb (Kbc (Ka Y (Kf Y Y (Ke Y Y Y (Kq Y Y (Kj Y Y Y (Kd (Km Y (fun g0 => Kn (Kb (Kt (kRegD (Kf Y Y (Ke Y Y Y (Kf Y Y (Ke Y Y Y (Ka Y (kIadR Y Y Y om (Ky Y Y (kLit Y Y Y Y (Kx Y Y (kAppN Y Y Y (src_encB _ _) rfl rfl rfl rfl om (Kx Y Y (kLit Y Y Y Y (Ks Y Y (kAppR1 Y Y Y Y Y Y Y Y om (Kf Y Y (Ks Y Y (Ko Y Y Y Y (Kd (kH (Kv (Kc (Ka Y (kAdd Y Y om (Ka Y (Kd ?_))))))))))))))))))))))))))))) (fun g0 => om)))))))))
    exact kInv ⟨⟨i + 1, by omega⟩, by simp only; omega, .normA⟩
  · refine Kb (Kbc (Ka Y (Kf Y Y (Ke Y Y Y (Kq Y Y (Kj Y Y Y (Kd (Km Y (fun g0 => om) (fun g0 => kExit (kExC (kExI (kExB (Kbc (Ke Y Y Y (Ko Y Y Y Y (Kd (Kr (Er (ra := [.agg [(.own true _)]]) rfl ?_))))))))))))))))))
    rw [show i = a.length by omega, List.take_length]

def c_spec_l3own : C := (.g (.o 0 1 (.box 1 (.t 0)) (.o 1 2 (.alloc 2 [(.n 1), (.i 0), (.i 0), (.i 0), (.n 1), (.n 1), (.n 1)]) .done)) (.seq (.reg true (.op 0 [] (some 3) none true (.fad (.t 1) 0) (.op 1 [] (some 4) none true (.load (some 1) (.t 3)) (.op 3 [] (some 6) none true (.fad (.t 1) 1) (.op 4 [] (some 7) none true (.load none (.t 6)) (.op 5 [] (some 8) none true (.fad (.t 1) 2) (.op 6 [] (some 9) none true (.load none (.t 8)) (.op 7 [] (some 10) none true (.fad (.t 1) 3) (.op 8 [] (some 11) none true (.load none (.t 10)) (.op 9 [] (some 12) none true (.fad (.t 1) 4) (.op 10 [] (some 13) none true (.load (some 1) (.t 12)) (.op 13 [] (some 16) none true (.fad (.t 1) 5) (.op 14 [] (some 17) none true (.load none (.t 16)) (.op 17 [] (some 20) none true (.fad (.t 1) 6) (.op 18 [] (some 21) none true (.load none (.t 20)) (.alt (.op 2 [1] (some 5) none false (.call 5 175 [(.t 4)]) (.alt (.op 11 [10, 1] (some 14) none false (.call 14 175 [(.t 13)]) (.alt (.o 12 15 (.lit 15 1 [(.v (.int .u8 0))] 0 []) (.alt (.op 15 [14, 10, 1] (some 18) none false (.app 18 1 1 (.t 15) (.t 17)) (.o 16 19 (.lit 19 1 [(.i 0)] 0 []) (.op 19 [18, 14, 10, 1] (some 22) none false (.app 22 1 8 (.t 19) (.t 21)) (.op 20 [] (some 23) none true (.build [(.n 1), (.i 0), (.i 0), (.i 0), (.n 1), (.n 1), (.n 1)] [(0, 1, (.t 5)), (1, 1, (.t 7)), (2, 1, (.t 9)), (3, 1, (.t 11)), (4, 1, (.t 14)), (5, 1, (.t 18)), (6, 1, (.t 22))]) (.op 21 [1, 4, 6, 8, 10, 14, 18] none none false (.store (some 7) (.t 2) (.t 23)) .done))))) (.o 16 19 (.lit 19 1 [(.i 0)] 0 []) (.op 15 [14, 10, 1] (some 18) none false (.app 18 1 1 (.t 15) (.t 17)) (.op 19 [18, 14, 10, 1] (some 22) none false (.app 22 1 8 (.t 19) (.t 21)) (.op 20 [] (some 23) none true (.build [(.n 1), (.i 0), (.i 0), (.i 0), (.n 1), (.n 1), (.n 1)] [(0, 1, (.t 5)), (1, 1, (.t 7)), (2, 1, (.t 9)), (3, 1, (.t 11)), (4, 1, (.t 14)), (5, 1, (.t 18)), (6, 1, (.t 22))]) (.op 21 [1, 4, 6, 8, 10, 14, 18] none none false (.store (some 7) (.t 2) (.t 23)) .done))))))) (.o 16 19 (.lit 19 1 [(.i 0)] 0 []) (.o 12 15 (.lit 15 1 [(.v (.int .u8 0))] 0 []) (.op 15 [14, 10, 1] (some 18) none false (.app 18 1 1 (.t 15) (.t 17)) (.op 19 [18, 14, 10, 1] (some 22) none false (.app 22 1 8 (.t 19) (.t 21)) (.op 20 [] (some 23) none true (.build [(.n 1), (.i 0), (.i 0), (.i 0), (.n 1), (.n 1), (.n 1)] [(0, 1, (.t 5)), (1, 1, (.t 7)), (2, 1, (.t 9)), (3, 1, (.t 11)), (4, 1, (.t 14)), (5, 1, (.t 18)), (6, 1, (.t 22))]) (.op 21 [1, 4, 6, 8, 10, 14, 18] none none false (.store (some 7) (.t 2) (.t 23)) .done)))))))) (.alt (.o 12 15 (.lit 15 1 [(.v (.int .u8 0))] 0 []) (.alt (.op 11 [10, 1] (some 14) none false (.call 14 175 [(.t 13)]) (.alt (.op 15 [14, 10, 1] (some 18) none false (.app 18 1 1 (.t 15) (.t 17)) (.o 16 19 (.lit 19 1 [(.i 0)] 0 []) (.op 19 [18, 14, 10, 1] (some 22) none false (.app 22 1 8 (.t 19) (.t 21)) (.op 20 [] (some 23) none true (.build [(.n 1), (.i 0), (.i 0), (.i 0), (.n 1), (.n 1), (.n 1)] [(0, 1, (.t 5)), (1, 1, (.t 7)), (2, 1, (.t 9)), (3, 1, (.t 11)), (4, 1, (.t 14)), (5, 1, (.t 18)), (6, 1, (.t 22))]) (.op 21 [1, 4, 6, 8, 10, 14, 18] none none false (.store (some 7) (.t 2) (.t 23)) .done))))) (.o 16 19 (.lit 19 1 [(.i 0)] 0 []) (.op 15 [14, 10, 1] (some 18) none false (.app 18 1 1 (.t 15) (.t 17)) (.op 19 [18, 14, 10, 1] (some 22) none false (.app 22 1 8 (.t 19) (.t 21)) (.op 20 [] (some 23) none true (.build [(.n 1), (.i 0), (.i 0), (.i 0), (.n 1), (.n 1), (.n 1)] [(0, 1, (.t 5)), (1, 1, (.t 7)), (2, 1, (.t 9)), (3, 1, (.t 11)), (4, 1, (.t 14)), (5, 1, (.t 18)), (6, 1, (.t 22))]) (.op 21 [1, 4, 6, 8, 10, 14, 18] none none false (.store (some 7) (.t 2) (.t 23)) .done))))))) (.o 16 19 (.lit 19 1 [(.i 0)] 0 []) (.op 11 [10, 1] (some 14) none false (.call 14 175 [(.t 13)]) (.op 15 [14, 10, 1] (some 18) none false (.app 18 1 1 (.t 15) (.t 17)) (.op 19 [18, 14, 10, 1] (some 22) none false (.app 22 1 8 (.t 19) (.t 21)) (.op 20 [] (some 23) none true (.build [(.n 1), (.i 0), (.i 0), (.i 0), (.n 1), (.n 1), (.n 1)] [(0, 1, (.t 5)), (1, 1, (.t 7)), (2, 1, (.t 9)), (3, 1, (.t 11)), (4, 1, (.t 14)), (5, 1, (.t 18)), (6, 1, (.t 22))]) (.op 21 [1, 4, 6, 8, 10, 14, 18] none none false (.store (some 7) (.t 2) (.t 23)) .done)))))))) (.o 16 19 (.lit 19 1 [(.i 0)] 0 []) (.alt (.op 11 [10, 1] (some 14) none false (.call 14 175 [(.t 13)]) (.o 12 15 (.lit 15 1 [(.v (.int .u8 0))] 0 []) (.op 15 [14, 10, 1] (some 18) none false (.app 18 1 1 (.t 15) (.t 17)) (.op 19 [18, 14, 10, 1] (some 22) none false (.app 22 1 8 (.t 19) (.t 21)) (.op 20 [] (some 23) none true (.build [(.n 1), (.i 0), (.i 0), (.i 0), (.n 1), (.n 1), (.n 1)] [(0, 1, (.t 5)), (1, 1, (.t 7)), (2, 1, (.t 9)), (3, 1, (.t 11)), (4, 1, (.t 14)), (5, 1, (.t 18)), (6, 1, (.t 22))]) (.op 21 [1, 4, 6, 8, 10, 14, 18] none none false (.store (some 7) (.t 2) (.t 23)) .done)))))) (.o 12 15 (.lit 15 1 [(.v (.int .u8 0))] 0 []) (.op 11 [10, 1] (some 14) none false (.call 14 175 [(.t 13)]) (.op 15 [14, 10, 1] (some 18) none false (.app 18 1 1 (.t 15) (.t 17)) (.op 19 [18, 14, 10, 1] (some 22) none false (.app 22 1 8 (.t 19) (.t 21)) (.op 20 [] (some 23) none true (.build [(.n 1), (.i 0), (.i 0), (.i 0), (.n 1), (.n 1), (.n 1)] [(0, 1, (.t 5)), (1, 1, (.t 7)), (2, 1, (.t 9)), (3, 1, (.t 11)), (4, 1, (.t 14)), (5, 1, (.t 18)), (6, 1, (.t 22))]) (.op 21 [1, 4, 6, 8, 10, 14, 18] none none false (.store (some 7) (.t 2) (.t 23)) .done))))))))))) (.alt (.o 12 15 (.lit 15 1 [(.v (.int .u8 0))] 0 []) (.alt (.op 2 [1] (some 5) none false (.call 5 175 [(.t 4)]) (.alt (.op 11 [10, 1] (some 14) none false (.call 14 175 [(.t 13)]) (.alt (.op 15 [14, 10, 1] (some 18) none false (.app 18 1 1 (.t 15) (.t 17)) (.o 16 19 (.lit 19 1 [(.i 0)] 0 []) (.op 19 [18, 14, 10, 1] (some 22) none false (.app 22 1 8 (.t 19) (.t 21)) (.op 20 [] (some 23) none true (.build [(.n 1), (.i 0), (.i 0), (.i 0), (.n 1), (.n 1), (.n 1)] [(0, 1, (.t 5)), (1, 1, (.t 7)), (2, 1, (.t 9)), (3, 1, (.t 11)), (4, 1, (.t 14)), (5, 1, (.t 18)), (6, 1, (.t 22))]) (.op 21 [1, 4, 6, 8, 10, 14, 18] none none false (.store (some 7) (.t 2) (.t 23)) .done))))) (.o 16 19 (.lit 19 1 [(.i 0)] 0 []) (.op 15 [14, 10, 1] (some 18) none false (.app 18 1 1 (.t 15) (.t 17)) (.op 19 [18, 14, 10, 1] (some 22) none false (.app 22 1 8 (.t 19) (.t 21)) (.op 20 [] (some 23) none true (.build [(.n 1), (.i 0), (.i 0), (.i 0), (.n 1), (.n 1), (.n 1)] [(0, 1, (.t 5)), (1, 1, (.t 7)), (2, 1, (.t 9)), (3, 1, (.t 11)), (4, 1, (.t 14)), (5, 1, (.t 18)), (6, 1, (.t 22))]) (.op 21 [1, 4, 6, 8, 10, 14, 18] none none false (.store (some 7) (.t 2) (.t 23)) .done))))))) (.o 16 19 (.lit 19 1 [(.i 0)] 0 []) (.op 11 [10, 1] (some 14) none false (.call 14 175 [(.t 13)]) (.op 15 [14, 10, 1] (some 18) none false (.app 18 1 1 (.t 15) (.t 17)) (.op 19 [18, 14, 10, 1] (some 22) none false (.app 22 1 8 (.t 19) (.t 21)) (.op 20 [] (some 23) none true (.build [(.n 1), (.i 0), (.i 0), (.i 0), (.n 1), (.n 1), (.n 1)] [(0, 1, (.t 5)), (1, 1, (.t 7)), (2, 1, (.t 9)), (3, 1, (.t 11)), (4, 1, (.t 14)), (5, 1, (.t 18)), (6, 1, (.t 22))]) (.op 21 [1, 4, 6, 8, 10, 14, 18] none none false (.store (some 7) (.t 2) (.t 23)) .done)))))))) (.o 16 19 (.lit 19 1 [(.i 0)] 0 []) (.op 2 [1] (some 5) none false (.call 5 175 [(.t 4)]) (.op 11 [10, 1] (some 14) none false (.call 14 175 [(.t 13)]) (.op 15 [14, 10, 1] (some 18) none false (.app 18 1 1 (.t 15) (.t 17)) (.op 19 [18, 14, 10, 1] (some 22) none false (.app 22 1 8 (.t 19) (.t 21)) (.op 20 [] (some 23) none true (.build [(.n 1), (.i 0), (.i 0), (.i 0), (.n 1), (.n 1), (.n 1)] [(0, 1, (.t 5)), (1, 1, (.t 7)), (2, 1, (.t 9)), (3, 1, (.t 11)), (4, 1, (.t 14)), (5, 1, (.t 18)), (6, 1, (.t 22))]) (.op 21 [1, 4, 6, 8, 10, 14, 18] none none false (.store (some 7) (.t 2) (.t 23)) .done))))))))) (.o 16 19 (.lit 19 1 [(.i 0)] 0 []) (.alt (.op 2 [1] (some 5) none false (.call 5 175 [(.t 4)]) (.alt (.op 11 [10, 1] (some 14) none false (.call 14 175 [(.t 13)]) (.o 12 15 (.lit 15 1 [(.v (.int .u8 0))] 0 []) (.op 15 [14, 10, 1] (some 18) none false (.app 18 1 1 (.t 15) (.t 17)) (.op 19 [18, 14, 10, 1] (some 22) none false (.app 22 1 8 (.t 19) (.t 21)) (.op 20 [] (some 23) none true (.build [(.n 1), (.i 0), (.i 0), (.i 0), (.n 1), (.n 1), (.n 1)] [(0, 1, (.t 5)), (1, 1, (.t 7)), (2, 1, (.t 9)), (3, 1, (.t 11)), (4, 1, (.t 14)), (5, 1, (.t 18)), (6, 1, (.t 22))]) (.op 21 [1, 4, 6, 8, 10, 14, 18] none none false (.store (some 7) (.t 2) (.t 23)) .done)))))) (.o 12 15 (.lit 15 1 [(.v (.int .u8 0))] 0 []) (.op 11 [10, 1] (some 14) none false (.call 14 175 [(.t 13)]) (.op 15 [14, 10, 1] (some 18) none false (.app 18 1 1 (.t 15) (.t 17)) (.op 19 [18, 14, 10, 1] (some 22) none false (.app 22 1 8 (.t 19) (.t 21)) (.op 20 [] (some 23) none true (.build [(.n 1), (.i 0), (.i 0), (.i 0), (.n 1), (.n 1), (.n 1)] [(0, 1, (.t 5)), (1, 1, (.t 7)), (2, 1, (.t 9)), (3, 1, (.t 11)), (4, 1, (.t 14)), (5, 1, (.t 18)), (6, 1, (.t 22))]) (.op 21 [1, 4, 6, 8, 10, 14, 18] none none false (.store (some 7) (.t 2) (.t 23)) .done)))))))) (.o 12 15 (.lit 15 1 [(.v (.int .u8 0))] 0 []) (.op 2 [1] (some 5) none false (.call 5 175 [(.t 4)]) (.op 11 [10, 1] (some 14) none false (.call 14 175 [(.t 13)]) (.op 15 [14, 10, 1] (some 18) none false (.app 18 1 1 (.t 15) (.t 17)) (.op 19 [18, 14, 10, 1] (some 22) none false (.app 22 1 8 (.t 19) (.t 21)) (.op 20 [] (some 23) none true (.build [(.n 1), (.i 0), (.i 0), (.i 0), (.n 1), (.n 1), (.n 1)] [(0, 1, (.t 5)), (1, 1, (.t 7)), (2, 1, (.t 9)), (3, 1, (.t 11)), (4, 1, (.t 14)), (5, 1, (.t 18)), (6, 1, (.t 22))]) (.op 21 [1, 4, 6, 8, 10, 14, 18] none none false (.store (some 7) (.t 2) (.t 23)) .done)))))))))))))))))))))))))) .ret))
theorem dg_spec_l3own : Tryz.f232.body.bind (digC Tryz.prog Tryz.f232.ntmps []) = some c_spec_l3own := by kernel_rfl
theorem rs_spec_l3own : resSlots Tryz.prog Tryz.f232 = some [.m 2 (some 7)] := by kernel_rfl
theorem ok_spec_l3own (r : Rr) (hs : SmallR r) :
    FnOK Tryz.prog 232 [.agg (r.cells.map .d)] (fun ra _ => ra = [.agg [.own true (encBB r.name), .d (.sc (.int .i64 r.ty)), .d (.sc (.int .i64 r.ttl)), .d (.sc (.int .i64 r.addr)), .own true (encBB r.to), .own true (encB r.text), .own true (encI r.nums)]]) := by
  refine FnOK.ofK Tryz.func232 (by kernel_rfl) dg_spec_l3own rs_spec_l3own rfl rfl ?_
  delta c_spec_l3own T.o X.i C.g
  have n1 := hs.n.len
  have n2 := hs.n.mem
  have t1 := hs.t.len
  have t2 := hs.t.mem
  have x1 := hs.x
  have m1 := hs.m
  refine Kb (kCut ⟨tabSl [(1, .c (.ptr (rid 1 0) 1 0)), (2, .c (.ptr (rid 2 0) 1 0))], obTab 1 [(rid 1 0, ⟨1, 0, .box (r.cells.map .d)⟩), (rid 2 0, ⟨1, 0, .box [.nil 1, .d (.sc (.int .i64 0)), .d (.sc (.int .i64 0)), .d (.sc (.int .i64 0)), .nil 1, .nil 1, .nil 1]⟩)], []⟩ ?_ (fun x hc => ?_))
  case refine_2 => refine kReg (kBox rfl rfl rfl rfl rfl (kAlloc rfl rfl (kDone (hc _ .normA))))
  refine Kb (kCut ⟨tabSl [(2, .c (.ptr (rid 2 0) 1 0))], obTab 1 [(rid 2 0, ⟨1, 0, .box [.arr (rid 5 0) 1, .d (.sc (.int .i64 r.ty)), .d (.sc (.int .i64 r.ttl)), .d (.sc (.int .i64 r.addr)), .arr (rid 14 0) 1, .arr (rid 15 0) 1, .arr (rid 19 0) 1]⟩), (rid 5 0, ⟨1, 0, .arr true (encBB r.name)⟩), (rid 14 0, ⟨1, 0, .arr true (encBB r.to)⟩), (rid 15 0, ⟨1, 0, .arr true (encB r.text)⟩), (rid 19 0, ⟨1, 0, .arr true (encI r.nums)⟩)], []⟩ ?_ (fun x hc => ?_))
  case refine_2 => refine kRegD (kFadP rfl rfl (kLoadP rfl rfl rfl (kFadP rfl rfl (kLoadP rfl rfl rfl (kFadP rfl rfl (kLoadP rfl rfl rfl (kFadP rfl rfl (kLoadP rfl rfl rfl (kFadP rfl rfl (kLoadP rfl rfl rfl (kFadP rfl rfl (kLoadP rfl rfl rfl (kFadP rfl rfl (kLoadP rfl rfl rfl (kAlt (kRelK rfl rfl (kCall1 true (ok_spec_l2own _ pr pr) ⟨⟨⟨rfl, trivial⟩, leb⟩, trivial⟩ rfl rfl rfl (fun _ => (kAlt (kRelK rfl rfl (kCall1 true (ok_spec_l2own _ pr pr) ⟨⟨⟨rfl, trivial⟩, leb⟩, trivial⟩ rfl rfl rfl (fun _ => (kAlt (kLit rfl rfl rfl rfl (kAlt (kRelK rfl rfl (kAppN rfl rfl rfl (src_encB _ _) rfl rfl rfl rfl (by omega) (kLit rfl rfl rfl rfl (kRelK rfl rfl (kAppN rfl rfl rfl (src_encI _ _) rfl rfl rfl rfl (by omega) (kBuildG rfl (kRelF rfl rfl (kStoreP rfl rfl rfl rfl (kDone (kH (hc _ .normA))))))))))) (kLit rfl rfl rfl rfl (kRelK rfl rfl (kAppN rfl rfl rfl (src_encB _ _) rfl rfl rfl rfl (by omega) (kRelK rfl rfl (kAppN rfl rfl rfl (src_encI _ _) rfl rfl rfl rfl (by omega) (kBuildG rfl (kRelF rfl rfl (kStoreP rfl rfl rfl rfl (kDone (kH (hc _ .normA))))))))))))) (kLit rfl rfl rfl rfl (kLit rfl rfl rfl rfl (kRelK rfl rfl (kAppN rfl rfl rfl (src_encB _ _) rfl rfl rfl rfl (by omega) (kRelK rfl rfl (kAppN rfl rfl rfl (src_encI _ _) rfl rfl rfl rfl (by omega) (kBuildG rfl (kRelF rfl rfl (kStoreP rfl rfl rfl rfl (kDone (kH (hc _ .normA)))))))))))))))) (kAlt (kLit rfl rfl rfl rfl (kAlt (kRelK rfl rfl (kCall1 true (ok_spec_l2own _ pr pr) ⟨⟨⟨rfl, trivial⟩, leb⟩, trivial⟩ rfl rfl rfl (fun _ => (kAlt (kRelK rfl rfl (kAppN rfl rfl rfl (src_encB _ _) rfl rfl rfl rfl (by omega) (kLit rfl rfl rfl rfl (kRelK rfl rfl (kAppN rfl rfl rfl (src_encI _ _) rfl rfl rfl rfl (by omega) (kBuildG rfl (kRelF rfl rfl (kStoreP rfl rfl rfl rfl (kDone (kH (hc _ .normA))))))))))) (kLit rfl rfl rfl rfl (kRelK rfl rfl (kAppN rfl rfl rfl (src_encB _ _) rfl rfl rfl rfl (by omega) (kRelK rfl rfl (kAppN rfl rfl rfl (src_encI _ _) rfl rfl rfl rfl (by omega) (kBuildG rfl (kRelF rfl rfl (kStoreP rfl rfl rfl rfl (kDone (kH (hc _ .normA))))))))))))))) (kLit rfl rfl rfl rfl (kRelK rfl rfl (kCall1 true (ok_spec_l2own _ pr pr) ⟨⟨⟨rfl, trivial⟩, leb⟩, trivial⟩ rfl rfl rfl (fun _ => (kRelK rfl rfl (kAppN rfl rfl rfl (src_encB _ _) rfl rfl rfl rfl (by omega) (kRelK rfl rfl (kAppN rfl rfl rfl (src_encI _ _) rfl rfl rfl rfl (by omega) (kBuildG rfl (kRelF rfl rfl (kStoreP rfl rfl rfl rfl (kDone (kH (hc _ .normA)))))))))))))))) (kLit rfl rfl rfl rfl (kAlt (kRelK rfl rfl (kCall1 true (ok_spec_l2own _ pr pr) ⟨⟨⟨rfl, trivial⟩, leb⟩, trivial⟩ rfl rfl rfl (fun _ => (kLit rfl rfl rfl rfl (kRelK rfl rfl (kAppN rfl rfl rfl (src_encB _ _) rfl rfl rfl rfl (by omega) (kRelK rfl rfl (kAppN rfl rfl rfl (src_encI _ _) rfl rfl rfl rfl (by omega) (kBuildG rfl (kRelF rfl rfl (kStoreP rfl rfl rfl rfl (kDone (kH (hc _ .normA)))))))))))))) (kLit rfl rfl rfl rfl (kRelK rfl rfl (kCall1 true (ok_spec_l2own _ pr pr) ⟨⟨⟨rfl, trivial⟩, leb⟩, trivial⟩ rfl rfl rfl (fun _ => (kRelK rfl rfl (kAppN rfl rfl rfl (src_encB _ _) rfl rfl rfl rfl (by omega) (kRelK rfl rfl (kAppN rfl rfl rfl (src_encI _ _) rfl rfl rfl rfl (by omega) (kMem [(24576, ⟨2, 0, .arr true _⟩), (61440, ⟨2, 0, .arr true _⟩), (65536, ⟨3, 0, .arr true _⟩), (81920, ⟨3, 0, .arr true _⟩), (12288, ⟨1, 0, .box [.nil 1, .d _, .d _, .d _, .nil 1, .nil 1, .nil 1]⟩)] [(5, .g [.arr 24576 2]), (7, .c (.d _)), (9, .c (.d _)), (11, .c (.d _)), (14, .g [.arr 61440 2]), (18, .c (.arr 65536 3)), (22, .c (.arr 81920 3)), (2, .c (.ptr 12288 1 0))] [8192, 8192, 8192, 8192, 8192, 8192, 8192] ⟨rfl, rfl, rfl, rfl, rfl, trivial⟩ ⟨rfl, rfl, rfl, rfl, rfl, rfl, rfl, rfl, trivial⟩ rfl (kBuildG rfl (kMem [(12288, ⟨1, 0, .box [.nil 1, .d _, .d _, .d _, .nil 1, .nil 1, .nil 1]⟩), (24576, ⟨2, 0, .arr true _⟩), (61440, ⟨2, 0, .arr true _⟩), (65536, ⟨3, 0, .arr true _⟩), (81920, ⟨3, 0, .arr true _⟩)] [(2, .c (.ptr 12288 1 0)), (23, .g [.arr 24576 2, .d _, .d _, .d _, .arr 61440 2, .arr 65536 3, .arr 81920 3])] [8192, 8192, 8192, 8192, 8192, 8192, 8192] ⟨rfl, rfl, rfl, rfl, rfl, trivial⟩ ⟨rfl, rfl, trivial⟩ rfl (kRelF rfl rfl (kStoreP rfl rfl rfl rfl (kDone (kH (kMem [(12288, ⟨1, 0, .box [.arr 24576 2, .d _, .d _, .d _, .arr 61440 2, .arr 65536 3, .arr 81920 3]⟩), (24576, ⟨2, 0, .arr true _⟩), (61440, ⟨2, 0, .arr true _⟩), (65536, ⟨3, 0, .arr true _⟩), (81920, ⟨3, 0, .arr true _⟩)] [(2, .c (.ptr 12288 1 0))] [] ⟨rfl, rfl, rfl, rfl, rfl, trivial⟩ ⟨rfl, trivial⟩ rfl (hc _ .normA)))))))))))))))))))))))) (kAlt (kLit rfl rfl rfl rfl (kMem [(65536, ⟨2, 0, .arr true _⟩), (12288, ⟨1, 0, .box [.nil 1, .d _, .d _, .d _, .nil 1, .nil 1, .nil 1]⟩)] [(4, .g [.d _]), (13, .g [.d _]), (15, .c (.arr 65536 2)), (17, .c (.d _)), (21, .c (.d _)), (7, .c (.d _)), (9, .c (.d _)), (11, .c (.d _)), (2, .c (.ptr 12288 1 0))] [8192, 8192, 8192, 8192, 8192, 8192, 8192] ⟨rfl, rfl, trivial⟩ ⟨rfl, rfl, rfl, rfl, rfl, rfl, rfl, rfl, rfl, trivial⟩ rfl (kAlt (kRelK rfl rfl (kCall1 true (ok_spec_l2own _ pr pr) ⟨⟨⟨rfl, trivial⟩, leb⟩, trivial⟩ rfl rfl rfl (fun _ => (kAlt (kRelK rfl rfl (kCall1 true (ok_spec_l2own _ pr pr) ⟨⟨⟨rfl, trivial⟩, leb⟩, trivial⟩ rfl rfl rfl (fun _ => (kAlt (kRelK rfl rfl (kAppN rfl rfl rfl (src_encB _ _) rfl rfl rfl rfl (by omega) (kLit rfl rfl rfl rfl (kRelK rfl rfl (kAppN rfl rfl rfl (src_encI _ _) rfl rfl rfl rfl (by omega) (kBuildG rfl (kRelF rfl rfl (kStoreP rfl rfl rfl rfl (kDone (kH (hc _ .normA))))))))))) (kLit rfl rfl rfl rfl (kRelK rfl rfl (kAppN rfl rfl rfl (src_encB _ _) rfl rfl rfl rfl (by omega) (kRelK rfl rfl (kAppN rfl rfl rfl (src_encI _ _) rfl rfl rfl rfl (by omega) (kBuildG rfl (kRelF rfl rfl (kStoreP rfl rfl rfl rfl (kDone (kH (hc _ .normA))))))))))))))) (kLit rfl rfl rfl rfl (kRelK rfl rfl (kCall1 true (ok_spec_l2own _ pr pr) ⟨⟨⟨rfl, trivial⟩, leb⟩, trivial⟩ rfl rfl rfl (fun _ => (kRelK rfl rfl (kAppN rfl rfl rfl (src_encB _ _) rfl rfl rfl rfl (by omega) (kRelK rfl rfl (kAppN rfl rfl rfl (src_encI _ _) rfl rfl rfl rfl (by omega) (kBuildG rfl (kRelF rfl rfl (kStoreP rfl rfl rfl rfl (kDone (kH (hc _ .normA)))))))))))))))))) (kLit rfl rfl rfl rfl (kRelK rfl rfl (kCall1 true (ok_spec_l2own _ pr pr) ⟨⟨⟨rfl, trivial⟩, leb⟩, trivial⟩ rfl rfl rfl (fun _ => (kRelK rfl rfl (kCall1 true (ok_spec_l2own _ pr pr) ⟨⟨⟨rfl, trivial⟩, leb⟩, trivial⟩ rfl rfl rfl (fun _ => (kRelK rfl rfl (kAppN rfl rfl rfl (src_encB _ _) rfl rfl rfl rfl (by omega) (kRelK rfl rfl (kAppN rfl rfl rfl (src_encI _ _) rfl rfl rfl rfl (by omega) (kBuildG rfl (kRelF rfl rfl (kStoreP rfl rfl rfl rfl (kDone (kH (hc _ .normA)))))))))))))))))))) (kLit rfl rfl rfl rfl (kAlt (kRelK rfl rfl (kCall1 true (ok_spec_l2own _ pr pr) ⟨⟨⟨rfl, trivial⟩, leb⟩, trivial⟩ rfl rfl rfl (fun _ => (kAlt (kRelK rfl rfl (kCall1 true (ok_spec_l2own _ pr pr) ⟨⟨⟨rfl, trivial⟩, leb⟩, trivial⟩ rfl rfl rfl (fun _ => (kLit rfl rfl rfl rfl (kRelK rfl rfl (kAppN rfl rfl rfl (src_encB _ _) rfl rfl rfl rfl (by omega) (kRelK rfl rfl (kAppN rfl rfl rfl (src_encI _ _) rfl rfl rfl rfl (by omega) (kBuildG rfl (kRelF rfl rfl (kStoreP rfl rfl rfl rfl (kDone (kH (hc _ .normA)))))))))))))) (kLit rfl rfl rfl rfl (kRelK rfl rfl (kCall1 true (ok_spec_l2own _ pr pr) ⟨⟨⟨rfl, trivial⟩, leb⟩, trivial⟩ rfl rfl rfl (fun _ => (kRelK rfl rfl (kAppN rfl rfl rfl (src_encB _ _) rfl rfl rfl rfl (by omega) (kRelK rfl rfl (kAppN rfl rfl rfl (src_encI _ _) rfl rfl rfl rfl (by omega) (kBuildG rfl (kRelF rfl rfl (kStoreP rfl rfl rfl rfl (kDone (kH (hc _ .normA)))))))))))))))))) (kLit rfl rfl rfl rfl (kRelK rfl rfl (kCall1 true (ok_spec_l2own _ pr pr) ⟨⟨⟨rfl, trivial⟩, leb⟩, trivial⟩ rfl rfl rfl (fun _ => (kRelK rfl rfl (kCall1 true (ok_spec_l2own _ pr pr) ⟨⟨⟨rfl, trivial⟩, leb⟩, trivial⟩ rfl rfl rfl (fun _ => (kRelK rfl rfl (kAppN rfl rfl rfl (src_encB _ _) rfl rfl rfl rfl (by omega) (kRelK rfl rfl (kAppN rfl rfl rfl (src_encI _ _) rfl rfl rfl rfl (by omega) (kBuildG rfl (kRelF rfl rfl (kStoreP rfl rfl rfl rfl (kDone (kH (hc _ .normA)))))))))))))))))))))))))))))))))))
  refine (Kr (Er (ra := [.agg [(.own true _), (.d _), (.d _), (.d _), (.own true _), (.own true _), (.own true _)]]) rfl rfl))

def c_spec_l3ownAll : C := (.g (.o 0 2 (.mov (.n 7)) .done) (.g (.o 0 3 (.mov (.n 7)) .done) (.seq (.g (.o 0 4 (.mov (.i 0)) .done) (.block 0 (.loop (.seq (.g (.o 0 5 (.mov (.t 4)) (.o 1 6 (.mov (.t 0)) (.o 2 7 (.len (.t 6)) (.o 3 8 (.bin .lss (.t 5) (.t 7)) .done)))) (.cond (.t 8) .skip (.exit 0))) (.seq (.block 1 (.reg false (.o 0 11 (.mov (.t 3)) (.o 1 12 (.mov (.t 0)) (.o 2 13 (.mov (.t 4)) (.o 3 14 (.iad 7 (.t 12) (.t 13)) (.o 4 15 (.load (some 7) (.t 14)) (.o 5 16 (.call 16 232 [(.t 15)]) (.o 6 17 (.lit 17 7 [(.n 1), (.i 0), (.i 0), (.i 0), (.n 1), (.n 1), (.n 1)] 1 [(0, 7, (.t 16))]) (.o 7 18 (.app 18 7 120 (.t 11) (.t 17)) (.o 8 3 (.mov (.t 18)) .done))))))))))) (.reg false (.o 0 9 (.mov (.t 4)) (.o 1 10 (.bin .add (.t 9) (.i 1)) (.o 2 4 (.mov (.t 10)) .done))))))))) (.g (.o 0 19 (.mov (.t 3)) (.o 1 2 (.mov (.t 19)) .done)) .ret))))
theorem dg_spec_l3ownAll : Tryz.f176.body.bind (digC Tryz.prog Tryz.f176.ntmps []) = some c_spec_l3ownAll := by kernel_rfl
theorem rs_spec_l3ownAll : resSlots Tryz.prog Tryz.f176 = some [.s 2] := by kernel_rfl
theorem ok_spec_l3ownAll (l : List Rr) (hs : SmallRs l) :
    FnOK Tryz.prog 176 [.one (.d (encR l))] (fun ra _ => ra = [.one (.own true (encR l))]) := by
  refine FnOK.ofK Tryz.func176 (by kernel_rfl) dg_spec_l3ownAll rs_spec_l3ownAll rfl rfl ?_
  delta c_spec_l3ownAll T.o X.i C.g
  have h1 := hs.len
  refine Kbc (Ka Y (Kdb (Kc (Ka Y (Kdb (Kbc (Ka Y (Kd (Kt ?_)))))))))
  refine kSub (Sub.nilArr (j := 3) (id := rid 5000 0) (sz := 7) rfl (by decide)) ?_
  refine kLoop (α := { i : Nat // i ≤ l.length }) (fun y => ⟨tabSl [(0, .dv (encR l)), (3, .c (.arr (rid 5000 0) 1)), (4, .i y.1)], obTab 1 [(rid 5000 0, ⟨1, 0, .arr true (encR (l.take y.1))⟩)], []⟩) (fun y => l.length - y.1) ⟨0, by simp⟩ .normA ?_
  rintro ⟨i, hi⟩
  simp only
  have hlen : (l.take i).length = i := by simp; omega
  rcases Nat.lt_or_ge i l.length with hlt | hge
  · have hbi := hs.mem _ (List.getElem_mem hlt)
    refine Kb (Kbc (Ka Y (Ka Y (Kq Y Y (Kj Y Y Y (Kd (Km Y (fun g0 => Kn (Kb (Kt (Kc (Ka Y (Ka Y (Ka Y (kIadR Y Y Y om (Ky Y Y (Ku true (ok_spec_l3own _ pr) ⟨⟨⟨Y, Y, Y, Y, Y, Y, Y, trivial⟩, leb⟩, trivial⟩ Y Y Y (fun _ => (kLit Y Y Y Y (kAppRec Y Y Y Y Y Y Y om (Ka Y (Kd (Kv (Kc (Ka Y (kAdd Y Y om (Ka Y (Kd ?_))))))))))))))))))))) (fun g0 => om))))))))
    exact kInv ⟨⟨i + 1, by omega⟩, by simp only; omega, .normA⟩
  · refine Kb (Kbc (Ka Y (Ka Y (Kq Y Y (Kj Y Y Y (Kd (Km Y (fun g0 => om) (fun g0 => kExit (kExC (kExI (kExB (Kbc (Ka Y (Ka Y (Kd (Kr (Er (ra := [.one (.own true _)]) rfl ?_)))))))))))))))))
    rw [show i = l.length by omega, List.take_length]

def c_spec_l5own : C := (.g (.o 0 1 (.box 1 (.t 0)) (.o 1 2 (.alloc 2 [(.n 1), (.n 7)]) .done)) (.seq (.reg true (.op 0 [] (some 3) none true (.fad (.t 1) 0) (.op 1 [] (some 4) none true (.load (some 1) (.t 3)) (.op 3 [] (some 6) none true (.fad (.t 1) 1) (.op 4 [] (some 7) none true (.load none (.t 6)) (.op 2 [1] (some 5) none false (.call 5 175 [(.t 4)]) (.op 5 [4, 1] (some 8) none false (.call 8 176 [(.t 7)]) (.op 6 [] (some 9) none true (.build [(.n 1), (.n 7)] [(0, 1, (.t 5)), (1, 1, (.t 8))]) (.op 7 [1, 4] none none false (.store (some 2) (.t 2) (.t 9)) .done))))))))) .ret))
theorem dg_spec_l5own : Tryz.f157.body.bind (digC Tryz.prog Tryz.f157.ntmps []) = some c_spec_l5own := by kernel_rfl
theorem rs_spec_l5own : resSlots Tryz.prog Tryz.f157 = some [.m 2 (some 2)] := by kernel_rfl
theorem ok_spec_l5own (z : Zone) (hs : SmallZ z) :
    FnOK Tryz.prog 157 [.agg (z.cells.map .d)] (fun ra _ => ra = [.agg [.own true (encBB z.origin), .own true (encR z.rrs)]]) := by
  refine FnOK.ofK Tryz.func157 (by kernel_rfl) dg_spec_l5own rs_spec_l5own rfl rfl ?_
  delta c_spec_l5own T.o X.i C.g
  have o1 := hs.o.len
  have o2 := hs.o.mem
  have h1 := hs.r
  refine Kbc (kBox Y Y Y Y Y (kAlloc Y Y (Kdb (kRegD (Kf Y Y (Ke Y Y Y (Kf Y Y (Ke Y Y Y (Kx Y Y (Ku true (ok_spec_l2own _ pr pr) ⟨⟨⟨Y, trivial⟩, leb⟩, trivial⟩ Y Y Y (fun _ => (Ks Y Y (Ku true (ok_spec_l3ownAll _ pr) ⟨Y, trivial⟩ Y Y Y (fun _ => (kBuildG Y (Ks Y Y (Ko Y Y Y Y (Kd (kH (Kr (Er (ra := [.agg [(.own true _), (.own true _)]]) rfl rfl)))))))))))))))))))))

def c_spec_ZoneNew : C := (.g (.o 0 2 (.box 2 (.t 0)) (.o 1 4 (.alloc 4 [(.n 1), (.n 7)]) (.o 2 5 (.mov (.v (.bool false))) .done))) (.g (.o 0 7 (.load (some 1) (.t 2)) (.o 1 8 (.load (some 1) (.t 2)) (.o 2 9 (.load (some 1) (.t 2)) (.o 3 10 (.mov (.t 1)) (.o 4 11 (.lit 11 1 [(.i 0)] 2 [(0, 1, (.t 10)), (1, 1, (.i 60))]) (.o 5 12 (.build [(.n 1), (.i 0), (.i 0), (.i 0), (.n 1), (.n 1), (.n 1)] [(0, 1, (.t 8)), (1, 1, (.i 6)), (2, 1, (.i 60)), (4, 1, (.t 9)), (6, 1, (.t 11))]) (.o 6 13 (.lit 13 7 [(.n 1), (.i 0), (.i 0), (.i 0), (.n 1), (.n 1), (.n 1)] 1 [(0, 7, (.t 12))]) (.o 7 14 (.build [(.n 1), (.n 7)] [(0, 1, (.t 7)), (1, 1, (.t 13))]) (.o 8 6 (.alloc 6 [(.n 1), (.n 7)]) (.op 9 [] none none false (.store (some 2) (.t 6) (.t 14)) .done)))))))))) (.seq (.g (.o 0 15 (.load (some 2) (.t 6)) (.o 1 16 (.call 16 14 [(.t 15)]) (.o 2 17 (.un .not (.t 16)) .done))) (.cond (.t 17) (.g (.o 0 18 (.build [(.n 1), (.n 7)] []) (.op 1 [] none none false (.store (some 2) (.t 4) (.t 18)) (.o 2 5 (.mov (.v (.bool false))) .done))) .ret) .skip)) (.g (.o 0 19 (.load (some 2) (.t 6)) (.o 1 20 (.call 20 157 [(.t 19)]) (.op 2 [] none none false (.store (some 2) (.t 4) (.t 20)) (.o 3 5 (.mov (.v (.bool true))) .done)))) .ret))))
theorem dg_spec_ZoneNew : Tryz.f234.body.bind (digC Tryz.prog Tryz.f234.ntmps []) = some c_spec_ZoneNew := by kernel_rfl
theorem rs_spec_ZoneNew : resSlots Tryz.prog Tryz.f234 = some [.m 4 (some 2), .s 5] := by kernel_rfl
theorem ok_spec_ZoneNew (o : List (List UInt8)) (s : Int) (ho : SmallBB o) :
    FnOK Tryz.prog 234 [.agg [.d (encBB o)], .one (.d (.sc (.int .i64 s)))] (fun ra _ => ra = [.agg [.own true (encBB (zoneNewN o s).origin), .own true (encR (zoneNewN o s).rrs)], .one (.d (.sc (.bool (zoneOk (newZ o s)))))]) := by
  refine FnOK.ofK Tryz.func234 (by kernel_rfl) dg_spec_ZoneNew rs_spec_ZoneNew rfl rfl ?_
  delta c_spec_ZoneNew T.o X.i C.g
  have hs := SmallZ.top s ho
  refine Kb (kCut ⟨tabSl [(1, .i s), (2, .c (.ptr (rid 2 0) 1 0)), (4, .c (.ptr (rid 4 0) 1 0)), (5, .b false)], obTab 1 [(rid 2 0, ⟨1, 0, .box [.d (encBB o)]⟩), (rid 4 0, ⟨1, 0, .box [.nil 1, .nil 7]⟩)], []⟩ ?_ (fun x hc => ?_))
  case refine_2 => refine kReg (kBox rfl rfl rfl rfl rfl (kAlloc rfl rfl (kMovC rfl (kDone (hc _ .normA)))))
  refine Kb (kCut ⟨tabSl [(4, .c (.ptr (rid 4 0) 1 0)), (5, .b false), (6, .c (.ptr (rid 6 0) 1 0))], obTab 1 [(rid 4 0, ⟨1, 0, .box [.nil 1, .nil 7]⟩), (rid 6 0, ⟨1, 0, .box [.d (encBB o), .arr (rid 13 0) 1]⟩), (rid 13 0, ⟨1, 0, .arr false (encR [topR o s])⟩)], []⟩ ?_ (fun x hc => ?_))
  case refine_2 => refine kReg (kLoadP rfl rfl rfl (kLoadP rfl rfl rfl (kLoadP rfl rfl rfl (kMovC rfl (kLit rfl rfl rfl rfl (kBuildG rfl (kLit rfl rfl rfl rfl (kBuildG rfl (kAlloc rfl rfl (kStoreP rfl rfl rfl rfl (kDone (hc _ .normA))))))))))))
  refine Kb (Kbc (Ke Y Y Y ?_))
  refine Kp (ok_spec_ZoneOk (newZ o s) hs) ⟨⟨⟨Y, Y, trivial⟩, leb⟩, trivial⟩ Y Y Y Y Y ?_
  cases hok : zoneOk (newZ o s)
  · rw [show zoneNewN o s = zeroZ by unfold zoneNewN; rw [hok]; rfl]
    refine Kw Y Y (Kd (kCondT Y (Kbc (kBuildG Y (Ko Y Y Y Y (Ka Y (Kd (Kr (Er (ra := [.agg [(.own true _), (.own true _)], .one (.d _)]) rfl rfl)))))))))
  · rw [show zoneNewN o s = newZ o s by unfold zoneNewN; rw [hok]; rfl]
    refine Kw Y Y (Kd (kCondF Y (Kn (Kbc (Ke Y Y Y ?_)))))
    refine Ku true (ok_spec_l5own (newZ o s) hs) ⟨⟨⟨Y, Y, trivial⟩, leb⟩, trivial⟩ Y Y Y (fun _ => ?_)
    refine (Ko Y Y Y Y (Ka Y (Kd (Kr (Er (ra := [.agg [(.own true _), (.own true _)], .one (.d _)]) rfl rfl)))))

def c_spec_l2draw : C := (.g (.o 0 2 (.alloc 2 [(.n 1)]) .done) (.g (.o 0 3 (.lit 3 1 [(.v (.string ⟨#[]⟩))] 12 [(0, 1, (.v (.string ⟨#[46]⟩))), (1, 1, (.v (.string ⟨#[104, 111, 109, 101, 46]⟩))), (2, 1, (.v (.string ⟨#[112, 99, 46, 104, 111, 109, 101, 46]⟩))), (3, 1, (.v (.string ⟨#[116, 118, 46, 104, 111, 109, 101, 46]⟩))), (4, 1, (.v (.string ⟨#[97, 46, 112, 99, 46, 104, 111, 109, 101, 46]⟩))), (5, 1, (.v (.string ⟨#[99, 111, 109, 46]⟩))), (6, 1, (.v (.string ⟨#[120, 46, 99, 111, 109, 46]⟩))), (7, 1, (.v (.string ⟨#[119, 119, 119, 46, 120, 46, 99, 111, 109, 46]⟩))), (8, 1, (.v (.string ⟨#[110, 115, 46, 99, 111, 109, 46]⟩))), (9, 1, (.v (.string ⟨#[51, 46, 48, 46, 48, 46, 49, 48, 46, 105, 110, 45, 97, 100, 100, 114, 46, 97, 114, 112, 97, 46]⟩))), (10, 1, (.v (.string ⟨#[115, 117, 98, 46, 104, 111, 109, 101, 46]⟩))), (11, 1, (.v (.string ⟨#[121, 46, 115, 117, 98, 46, 104, 111, 109, 101, 46]⟩)))]) (.o 1 4 (.mov (.t 0)) (.o 2 5 (.call 5 117 [(.t 4), (.i 12)]) (.o 3 6 (.iad 1 (.t 3) (.t 5)) (.o 4 7 (.load none (.t 6)) (.o 5 8 (.call 8 153 [(.t 7)]) (.op 6 [] none none false (.store (some 1) (.t 2) (.t 8)) .done))))))) .ret))
theorem dg_spec_l2draw : Tryz.f217.body.bind (digC Tryz.prog Tryz.f217.ntmps []) = some c_spec_l2draw := by kernel_rfl
theorem rs_spec_l2draw : resSlots Tryz.prog Tryz.f217 = some [.m 2 (some 1)] := by kernel_rfl
theorem ok_spec_l2draw (c : Cu) :
    FnOK Tryz.prog 217 [.one (.box c.cells)] (fun ra os => ∃ x : List (List UInt8) × Cu, (nameOk x.1 = true) ∧ ra = [.agg [.own true (encBB x.1)]] ∧ os.b 0 = x.2.cells) := by
  refine FnOK.ofK Tryz.func217 (by kernel_rfl) dg_spec_l2draw rs_spec_l2draw rfl rfl ?_
  delta c_spec_l2draw T.o X.i C.g
  refine Kbc (kAlloc Y Y (Kdb (Kc (kLitG Y Y Y Y (Ka Y (Kz (ok_spec_l1Below _ _) ⟨⟨rfl, _, rfl, rfl⟩, rfl, trivial⟩ Y Y Y (fun _ => rfl) (fun x0 hx0 => (kIadStr Y Y Y Y (by simp only [List.length_cons, List.length_nil]; omega) (kLoadStr Y Y Y (by simp only [List.length_cons, List.length_nil]; omega) rfl (fun b1 hb1 => (Ku true (ok_spec_l2of _ pry) ⟨Y, trivial⟩ Y Y Y (fun _ => (Ko Y Y Y Y (Kd (Kr (Er (ra := [.agg [(.own true _)]]) rfl ?_))))))))))))))))
  exact ⟨(readN b1.toList, x0.2), readN_ok _, rfl, rfl⟩

def c_spec_l1some : C := (.g (.o 0 4 (.mov (.n 1)) .done) (.g (.o 0 5 (.mov (.n 1)) .done) (.g (.o 0 8 (.mov (.t 0)) (.o 1 9 (.mov (.t 1)) (.o 2 10 (.call 10 117 [(.t 8), (.t 9)]) (.o 3 6 (.mov (.t 10)) .done)))) (.seq (.g (.o 0 7 (.mov (.i 0)) .done) (.block 0 (.loop (.seq (.g (.o 0 11 (.mov (.t 7)) (.o 1 12 (.mov (.t 6)) (.o 2 13 (.bin .lss (.t 11) (.t 12)) .done))) (.cond (.t 13) .skip (.exit 0))) (.seq (.block 1 (.reg false (.o 0 16 (.mov (.t 5)) (.o 1 17 (.mov (.t 0)) (.o 2 18 (.call 18 200 [(.t 17)]) (.o 3 19 (.conv .u8 (.t 18)) (.o 4 20 (.lit 20 1 [(.v (.int .u8 0))] 1 [(0, 1, (.t 19))]) (.o 5 21 (.app 21 1 1 (.t 16) (.t 20)) (.o 6 5 (.mov (.t 21)) .done))))))))) (.reg false (.o 0 14 (.mov (.t 7)) (.o 1 15 (.bin .add (.t 14) (.i 1)) (.o 2 7 (.mov (.t 15)) .done))))))))) (.g (.o 0 22 (.mov (.t 5)) (.o 1 4 (.mov (.t 22)) .done)) .ret)))))
theorem dg_spec_l1some : Tryz.f272.body.bind (digC Tryz.prog Tryz.f272.ntmps []) = some c_spec_l1some := by kernel_rfl
theorem rs_spec_l1some : resSlots Tryz.prog Tryz.f272 = some [.s 4] := by kernel_rfl
theorem ok_spec_l1some (c : Cu) (n : Int) (hn : n ≤ 4194304) :
    FnOK Tryz.prog 272 [.one (.box c.cells), .one (.d (.sc (.int .i64 n)))] (fun ra os => ∃ x : List UInt8 × Cu, ((x.1.length : Int) < n ∨ x.1 = []) ∧ ra = [.one (.own true (encB x.1))] ∧ os.b 0 = x.2.cells) := by
  refine FnOK.ofK Tryz.func272 (by kernel_rfl) dg_spec_l1some rs_spec_l1some rfl rfl ?_
  delta c_spec_l1some T.o X.i C.g
  refine Kbc (Ka Y (Kdb (Kc (Ka Y (Kdb (Kc (Ka Y (Ka Y (Kz (ok_spec_l1Below _ _) ⟨⟨rfl, _, rfl, rfl⟩, rfl, trivial⟩ Y Y Y (fun _ => rfl) (fun x0 hx0 => (Ka Y (Kdb (Kbc (Ka Y (Kd (Kt ?_))))))))))))))))
  refine kSub (Sub.nilArr (j := 5) (id := rid 5000 0) (sz := 1) rfl (by decide)) ?_
  refine kLoop (α := { l : List UInt8 // (l.length : Int) ≤ x0.1 } × Cu) (fun y => ⟨tabSl [(0, .c (.ptr 0 0 0)), (5, .c (.arr (rid 5000 0) 1)), (6, .i x0.1), (7, .i y.1.1.length)], obTab 1 [(0, ⟨0, 0, .box (y.2.cells.map .d)⟩), (rid 5000 0, ⟨1, 0, .arr true (encB y.1.1)⟩)], []⟩) (fun y => x0.1.toNat - y.1.1.length) (⟨[], by simp; omega⟩, x0.2) .normA ?_
  rintro ⟨⟨l, hl⟩, c'⟩
  simp only
  rcases Int.lt_or_le (l.length : Int) x0.1 with hlt | hge
  · refine Kb (Kbc (Ka Y (Ka Y (Kj Y Y Y (Kd (Km Y (fun g0 => Kn (Kb (Kt (Kc (Ka Y (Ka Y (Kz (ok_spec_l1Byte _) ⟨⟨rfl, _, rfl, rfl⟩, trivial⟩ Y Y Y (fun _ => rfl) (fun x1 hx1 => (kConvU8 Y (kLit Y Y Y Y (kAppR1 Y Y Y Y Y Y Y Y om (Ka Y (Kd (Kv (Kc (Ka Y (kAdd Y Y om (Ka Y (Kd ?_))))))))))))))))))) (fun g0 => om)))))))
    refine kInv ⟨(⟨l ++ [u8 x1.1], by simp; omega⟩, x1.2), by simp; omega, .norm ?_ ?_⟩
    · refine ⟨⟨_, rfl, rfl, rfl, rfl⟩, ⟨_, rfl, rfl, rfl, rfl⟩, ⟨_, rfl, .inl rfl⟩, ⟨_, rfl, .inl ?_⟩, trivial⟩
      simp
    · repeat' first | exact trivial | exact rfl | exact .inl rfl | refine ⟨_, rfl, ?_⟩ | refine ⟨?_, ?_⟩ | fail
  · refine Kb (Kbc (Ka Y (Ka Y (Kj Y Y Y (Kd (Km Y (fun g0 => om) (fun g0 => kExit (kExC (kExI (kExB (Kbc (Ka Y (Ka Y (Kd (Kr (Er (ra := [.one (.own true _)]) rfl ?_))))))))))))))))
    exact ⟨(l, c'), by rcases hx0.2 with h | h; exact .inl (by simp only; omega); exact .inr (show l = [] from List.eq_nil_of_length_eq_zero (by omega)), rfl, rfl⟩

def c_spec_l3draw : C := (.g (.o 0 2 (.alloc 2 [(.n 1), (.i 0), (.i 0), (.i 0), (.n 1), (.n 1), (.n 1)]) .done) (.g (.o 0 4 (.mov (.t 0)) (.o 1 5 (.call 5 217 [(.t 4)]) (.o 2 6 (.mov (.t 0)) (.o 3 7 (.lit 7 1 [(.i 0)] 8 [(0, 1, (.i 1)), (1, 1, (.i 1)), (2, 1, (.i 2)), (3, 1, (.i 5)), (4, 1, (.i 6)), (5, 1, (.i 12)), (6, 1, (.i 16)), (7, 1, (.i 49))]) (.o 4 8 (.call 8 118 [(.t 6), (.t 7)]) (.o 5 9 (.mov (.t 0)) (.o 6 10 (.lit 10 1 [(.i 0)] 5 [(0, 1, (.i 0)), (1, 1, (.i 5)), (2, 1, (.i 60)), (3, 1, (.i 300)), (4, 1, (.i 100000))]) (.o 7 11 (.call 11 118 [(.t 9), (.t 10)]) (.o 8 12 (.build [(.n 1), (.i 0), (.i 0), (.i 0), (.n 1), (.n 1), (.n 1)] [(0, 1, (.t 5)), (1, 1, (.t 8)), (2, 1, (.t 11))]) (.o 9 3 (.alloc 3 [(.n 1), (.i 0), (.i 0), (.i 0), (.n 1), (.n 1), (.n 1)]) (.op 10 [] none none false (.store (some 7) (.t 3) (.t 12)) .done))))))))))) (.seq (.block 0 (.g (.o 0 17 (.fad (.t 3) 1) (.o 1 18 (.load none (.t 17)) (.o 2 19 (.bin .eql (.t 18) (.i 1)) (.o 3 16 (.mov (.t 19)) .done)))) (.cond (.t 16) (.reg false (.o 0 20 (.mov (.t 0)) (.o 1 21 (.lit 21 1 [(.i 0)] 4 [(0, 1, (.i 1)), (1, 1, (.i 167772163)), (2, 1, (.i 167772164)), (3, 1, (.i 4294967295))]) (.o 2 22 (.call 22 118 [(.t 20), (.t 21)]) (.o 3 23 (.fad (.t 3) 3) (.op 4 [] none none false (.store none (.t 23) (.t 22)) .done)))))) (.g (.o 0 25 (.fad (.t 3) 1) (.o 1 26 (.load none (.t 25)) (.o 2 27 (.call 27 245 [(.t 26)]) (.o 3 24 (.mov (.t 27)) .done)))) (.cond (.t 24) (.g (.o 0 28 (.mov (.t 0)) (.o 1 29 (.call 29 217 [(.t 28)]) (.o 2 30 (.fad (.t 3) 4) (.op 3 [] none none false (.store (some 1) (.t 30) (.t 29)) .done)))) (.g (.o 0 31 (.fad (.t 3) 1) (.o 1 32 (.load none (.t 31)) (.o 2 33 (.bin .eql (.t 32) (.i 6)) .done))) (.cond (.t 33) (.reg false (.o 0 34 (.mov (.t 0)) (.o 1 35 (.call 35 117 [(.t 34), (.i 9)]) (.o 2 36 (.mov (.t 0)) (.o 3 37 (.lit 37 1 [(.i 0)] 3 [(0, 1, (.i 0)), (1, 1, (.i 30)), (2, 1, (.i 100000))]) (.o 4 38 (.call 38 118 [(.t 36), (.t 37)]) (.o 5 39 (.lit 39 1 [(.i 0)] 2 [(0, 1, (.t 35)), (1, 1, (.t 38))]) (.o 6 40 (.fad (.t 3) 6) (.op 7 [] none none false (.store none (.t 40) (.t 39)) .done))))))))) .skip))) (.reg false (.o 0 13 (.mov (.t 0)) (.o 1 14 (.call 14 272 [(.t 13), (.i 5)]) (.o 2 15 (.fad (.t 3) 5) (.op 3 [] none none false (.store none (.t 15) (.t 14)) .done)))))))))) (.g (.o 0 41 (.load (some 7) (.t 3)) (.op 1 [] none none false (.store (some 7) (.t 2) (.t 41)) .done)) .ret))))
theorem dg_spec_l3draw : Tryz.f199.body.bind (digC Tryz.prog Tryz.f199.ntmps []) = some c_spec_l3draw := by kernel_rfl
theorem rs_spec_l3draw : resSlots Tryz.prog Tryz.f199 = some [.m 2 (some 7)] := by kernel_rfl
theorem ok_spec_l3draw (c : Cu) :
    FnOK Tryz.prog 199 [.one (.box c.cells)] (fun ra os => ∃ x : Rr × Cu, (rrOk x.1 = true) ∧ ra = [.agg [.own true (encBB x.1.name), .d (.sc (.int .i64 x.1.ty)), .d (.sc (.int .i64 x.1.ttl)), .d (.sc (.int .i64 x.1.addr)), .own true (encBB x.1.to), .own true (encB x.1.text), .own true (encI x.1.nums)]] ∧ os.b 0 = x.2.cells) := by
  refine FnOK.ofK Tryz.func199 (by kernel_rfl) dg_spec_l3draw rs_spec_l3draw rfl rfl ?_
  delta c_spec_l3draw T.o X.i C.g
  refine Kbc (kAlloc Y Y (Kdb (Kc (Ka Y (Kz (ok_spec_l2draw _) ⟨⟨rfl, _, rfl, rfl⟩, trivial⟩ Y Y Y (fun _ => rfl) (fun x0 hx0 => (Ka Y (kLitD Y Y Y Y (Kz (ok_spec_l1PickInt _ _ pry pry pry) ⟨⟨rfl, _, rfl, rfl⟩, rfl, trivial⟩ Y Y Y (fun _ => rfl) (fun x1 hx1 => (Ka Y (kLitD Y Y Y Y (Kz (ok_spec_l1PickInt _ _ pry pry pry) ⟨⟨rfl, _, rfl, rfl⟩, rfl, trivial⟩ Y Y Y (fun _ => rfl) (fun x2 hx2 => (kBuildG Y (kAlloc Y Y (Ko Y Y Y Y (Kdb (Kt (Kbc (Kf Y Y (Ke Y Y Y (Kj Y Y Y (Ka Y (Kd (Km Y (fun g3 => Kc (Ka Y (kLitD Y Y Y Y (Kz (ok_spec_l1PickInt _ _ pry pry pry) ⟨⟨rfl, _, rfl, rfl⟩, rfl, trivial⟩ Y Y Y (fun _ => rfl) (fun x4 hx4 => (Kf Y Y (Ko Y Y Y Y (Kd (Kv (Kbc (Ke Y Y Y (Ko Y Y Y Y (Kd (kMem [(12288, ⟨1, 0, .box [.arr 24576 1, .d _, .d _, .d _, .nil 1, .nil 1, .nil 1]⟩), (24576, ⟨1, 0, .arr true _⟩)] [(2, .c (.ptr 12288 1 0))] [] ⟨Y, Y, trivial⟩ ⟨Y, trivial⟩ Y (Kr (Er (ra := [.agg [(.own true _), (.d _), (.d _), (.d _), (.own true _), (.own true _), (.own true _)]]) rfl ?_)))))))))))))))) (fun g3 => Kbc (Kf Y Y (Ke Y Y Y (Kp (ok_spec_l3named _) ⟨Y, trivial⟩ Y Y Y Y Y (Ka Y (Kd (kCond Y (fun g5 => Kbc (Ka Y (Kz (ok_spec_l2draw _) ⟨⟨rfl, _, rfl, rfl⟩, trivial⟩ Y Y Y (fun _ => rfl) (fun x6 hx6 => (Kf Y Y (Ko Y Y Y Y (Kdb (Kc (Kf Y Y (Ke Y Y Y (Kj Y Y Y (Kd (Km Y (fun g7 => Kc (Ka Y (Kz (ok_spec_l1Below _ _) ⟨⟨rfl, _, rfl, rfl⟩, rfl, trivial⟩ Y Y Y (fun _ => rfl) (fun x8 hx8 => (Ka Y (kLitD Y Y Y Y (Kz (ok_spec_l1PickInt _ _ pry pry pry) ⟨⟨rfl, _, rfl, rfl⟩, rfl, trivial⟩ Y Y Y (fun _ => rfl) (fun x9 hx9 => (kLitG Y Y Y Y (Kf Y Y (Ko Y Y Y Y (Kd (Kv (Kbc (kMem [(16384, ⟨1, 0, .box [.arr 24576 1, .d _, .d _, .d _, .arr 122880 1, .nil 1, .arr 163840 1]⟩), (12288, ⟨1, 0, .box [.nil 1, .d _, .d _, .d _, .nil 1, .nil 1, .nil 1]⟩), (24576, ⟨1, 0, .arr true _⟩), (122880, ⟨1, 0, .arr true _⟩), (163840, ⟨1, 0, .arr true _⟩)] [(3, .c (.ptr 16384 1 0)), (2, .c (.ptr 12288 1 0)), (41, .c (.un))] [] ⟨Y, Y, Y, Y, Y, trivial⟩ ⟨Y, Y, Y, trivial⟩ Y (Ke Y Y Y (kMem [(12288, ⟨1, 0, .box [.nil 1, .d _, .d _, .d _, .nil 1, .nil 1, .nil 1]⟩), (24576, ⟨1, 0, .arr true _⟩), (122880, ⟨1, 0, .arr true _⟩), (163840, ⟨1, 0, .arr true _⟩)] [(2, .c (.ptr 12288 1 0)), (41, .g [.arr 24576 1, .d _, .d _, .d _, .arr 122880 1, .nil 1, .arr 163840 1])] [] ⟨Y, Y, Y, Y, trivial⟩ ⟨Y, Y, trivial⟩ Y (Ko Y Y Y Y (Kd (kMem [(12288, ⟨1, 0, .box [.arr 24576 1, .d _, .d _, .d _, .arr 122880 1, .nil 1, .arr 163840 1]⟩), (24576, ⟨1, 0, .arr true _⟩), (122880, ⟨1, 0, .arr true _⟩), (163840, ⟨1, 0, .arr true _⟩)] [(2, .c (.ptr 12288 1 0))] [] ⟨Y, Y, Y, Y, trivial⟩ ⟨Y, trivial⟩ Y (Kr (Er (ra := [.agg [(.own true _), (.d _), (.d _), (.d _), (.own true _), (.own true _), (.own true _)]]) rfl ?_)))))))))))))))))))))) (fun g7 => Kn (Kv (Kbc (Ke Y Y Y (kMem [(12288, ⟨1, 0, .box [.nil 1, .d _, .d _, .d _, .nil 1, .nil 1, .nil 1]⟩), (24576, ⟨1, 0, .arr true _⟩), (122880, ⟨1, 0, .arr true _⟩)] [(2, .c (.ptr 12288 1 0)), (41, .g [.arr 24576 1, .d _, .d _, .d _, .arr 122880 1, .nil 1, .nil 1])] [] ⟨Y, Y, Y, trivial⟩ ⟨Y, Y, trivial⟩ Y (Ko Y Y Y Y (Kd (kMem [(12288, ⟨1, 0, .box [.arr 24576 1, .d _, .d _, .d _, .arr 122880 1, .nil 1, .nil 1]⟩), (24576, ⟨1, 0, .arr true _⟩), (122880, ⟨1, 0, .arr true _⟩)] [(2, .c (.ptr 12288 1 0))] [] ⟨Y, Y, Y, trivial⟩ ⟨Y, trivial⟩ Y (Kr (Er (ra := [.agg [(.own true _), (.d _), (.d _), (.d _), (.own true _), (.own true _), (.own true _)]]) rfl ?_))))))))))))))))))))))) (fun g5 => Kc (kMem [(0, ⟨0, 3, .box [.d _, .d _, .d _]⟩), (16384, ⟨1, 0, .box [.arr 24576 1, .d _, .d _, .d _, .nil 1, .nil 1, .nil 1]⟩), (24576, ⟨1, 0, .arr true _⟩)] [(0, .c (.ptr 0 0 0)), (13, .c (.un)), (3, .c (.ptr 16384 1 0)), (15, .c (.un)), (14, .c (.un))] [] ⟨Y, Y, Y, trivial⟩ ⟨Y, Y, Y, Y, Y, trivial⟩ Y (Ka Y (Kz (ok_spec_l1some _ _ pry) ⟨⟨rfl, _, rfl, rfl⟩, rfl, trivial⟩ Y Y Y (fun _ => rfl) (fun x10 hx10 => (Kf Y Y (Ko Y Y Y Y (Kd (Kv (Kbc (Ke Y Y Y (kMem [(12288, ⟨1, 0, .box [.nil 1, .d _, .d _, .d _, .nil 1, .nil 1, .nil 1]⟩), (24576, ⟨1, 0, .arr true _⟩), (61440, ⟨1, 0, .arr true _⟩)] [(2, .c (.ptr 12288 1 0)), (41, .g [.arr 24576 1, .d _, .d _, .d _, .nil 1, .arr 61440 1, .nil 1])] [] ⟨Y, Y, Y, trivial⟩ ⟨Y, Y, trivial⟩ Y (Ko Y Y Y Y (Kd (kMem [(12288, ⟨1, 0, .box [.arr 24576 1, .d _, .d _, .d _, .nil 1, .arr 61440 1, .nil 1]⟩), (24576, ⟨1, 0, .arr true _⟩), (61440, ⟨1, 0, .arr true _⟩)] [(2, .c (.ptr 12288 1 0))] [] ⟨Y, Y, Y, trivial⟩ ⟨Y, trivial⟩ Y (Kr (Er (ra := [.agg [(.own true _), (.d _), (.d _), (.d _), (.own true _), (.own true _), (.own true _)]]) rfl ?_))))))))))))))))))))))))))))))))))))))))))))))))))
  · refine ⟨(⟨x0.1, x1.1, x2.1, x4.1, [], [], []⟩, x4.2), ?_, rfl, rfl⟩
    show rrOk ⟨x0.1, x1.1, x2.1, x4.1, [], [], []⟩ = true
    rw [show x1.1 = 1 by assumption]
    exact drawn_A hx0 hx2 hx4
  · refine ⟨(⟨x0.1, x1.1, x2.1, 0, x6.1, [], [x8.1, x9.1]⟩, x9.2), ?_, rfl, rfl⟩
    show rrOk ⟨x0.1, x1.1, x2.1, 0, x6.1, [], [x8.1, x9.1]⟩ = true
    rw [show x1.1 = 6 by assumption]
    exact drawn_soa hx0 hx6 hx2 hx8 hx9
  · exact ⟨(⟨x0.1, x1.1, x2.1, 0, x6.1, [], []⟩, x6.2), drawn_to hx0 hx6 hx1 (by assumption) (by assumption) hx2, rfl, rfl⟩
  · exact ⟨(⟨x0.1, x1.1, x2.1, 0, [], x10.1, []⟩, x10.2), drawn_text hx0 hx1 (by assumption) (by assumption) hx2 (by rcases hx10 with h | h; omega; rw [h]; simp), rfl, rfl⟩

def c_spec_l5owned : C := (.g (.o 0 2 (.alloc 2 [(.n 1)]) .done) (.g (.o 0 3 (.lit 3 1 [(.v (.string ⟨#[]⟩))] 7 [(0, 1, (.v (.string ⟨#[104, 111, 109, 101, 46]⟩))), (1, 1, (.v (.string ⟨#[112, 99, 46, 104, 111, 109, 101, 46]⟩))), (2, 1, (.v (.string ⟨#[116, 118, 46, 104, 111, 109, 101, 46]⟩))), (3, 1, (.v (.string ⟨#[97, 46, 112, 99, 46, 104, 111, 109, 101, 46]⟩))), (4, 1, (.v (.string ⟨#[115, 117, 98, 46, 104, 111, 109, 101, 46]⟩))), (5, 1, (.v (.string ⟨#[121, 46, 115, 117, 98, 46, 104, 111, 109, 101, 46]⟩))), (6, 1, (.v (.string ⟨#[110, 115, 46, 115, 117, 98, 46, 104, 111, 109, 101, 46]⟩)))]) (.o 1 4 (.mov (.t 0)) (.o 2 5 (.call 5 117 [(.t 4), (.i 7)]) (.o 3 6 (.iad 1 (.t 3) (.t 5)) (.o 4 7 (.load none (.t 6)) (.o 5 8 (.call 8 153 [(.t 7)]) (.op 6 [] none none false (.store (some 1) (.t 2) (.t 8)) .done))))))) .ret))
theorem dg_spec_l5owned : Tryz.f65.body.bind (digC Tryz.prog Tryz.f65.ntmps []) = some c_spec_l5owned := by kernel_rfl
theorem rs_spec_l5owned : resSlots Tryz.prog Tryz.f65 = some [.m 2 (some 1)] := by kernel_rfl
theorem ok_spec_l5owned (c : Cu) :
    FnOK Tryz.prog 65 [.one (.box c.cells)] (fun ra os => ∃ x : List (List UInt8) × Cu, (nameOk x.1 = true) ∧ ra = [.agg [.own true (encBB x.1)]] ∧ os.b 0 = x.2.cells) := by
  refine FnOK.ofK Tryz.func65 (by kernel_rfl) dg_spec_l5owned rs_spec_l5owned rfl rfl ?_
  delta c_spec_l5owned T.o X.i C.g
  refine Kbc (kAlloc Y Y (Kdb (Kc (kLitG Y Y Y Y (Ka Y (Kz (ok_spec_l1Below _ _) ⟨⟨rfl, _, rfl, rfl⟩, rfl, trivial⟩ Y Y Y (fun _ => rfl) (fun x0 hx0 => (kIadStr Y Y Y Y (by simp only [List.length_cons, List.length_nil]; omega) (kLoadStr Y Y Y (by simp only [List.length_cons, List.length_nil]; omega) rfl (fun b1 hb1 => (Ku true (ok_spec_l2of _ pry) ⟨Y, trivial⟩ Y Y Y (fun _ => (Ko Y Y Y Y (Kd (Kr (Er (ra := [.agg [(.own true _)]]) rfl ?_))))))))))))))))
  exact ⟨(readN b1.toList, x0.2), readN_ok _, rfl, rfl⟩

def c_spec_l1Once : C := (.g (.o 0 4 (.mov (.v (.bool false))) .done) (.g (.o 0 5 (.mov (.t 0)) (.o 1 6 (.mov (.t 1)) (.o 2 7 (.call 7 117 [(.t 5), (.t 6)]) (.o 3 8 (.bin .eql (.t 7) (.i 0)) (.o 4 4 (.mov (.t 8)) .done))))) .ret))
theorem dg_spec_l1Once : Tryz.f68.body.bind (digC Tryz.prog Tryz.f68.ntmps []) = some c_spec_l1Once := by kernel_rfl
theorem rs_spec_l1Once : resSlots Tryz.prog Tryz.f68 = some [.s 4] := by kernel_rfl
theorem ok_spec_l1Once (c : Cu) (n : Int) :
    FnOK Tryz.prog 68 [.one (.box c.cells), .one (.d (.sc (.int .i64 n)))] (fun ra os => ∃ x : Bool × Cu, True ∧ ra = [.one (.d (.sc (.bool x.1)))] ∧ os.b 0 = x.2.cells) := by
  refine FnOK.ofK Tryz.func68 (by kernel_rfl) dg_spec_l1Once rs_spec_l1Once rfl rfl ?_
  delta c_spec_l1Once T.o X.i C.g
  refine Kbc (Ka Y (Kdb (Kc (Ka Y (Ka Y (Kz (ok_spec_l1Below _ _) ⟨⟨rfl, _, rfl, rfl⟩, rfl, trivial⟩ Y Y Y (fun _ => rfl) (fun x0 hx0 => (Kj Y Y Y (Ka Y (Kd (Kr (Er (ra := [.one (.d _)]) rfl ?_))))))))))))
  exact ⟨(_, x0.2), trivial, rfl, rfl⟩

def c_spec_l5rr : C := (.g (.o 0 2 (.alloc 2 [(.n 1), (.i 0), (.i 0), (.i 0), (.n 1), (.n 1), (.n 1)]) .done) (.g (.o 0 4 (.mov (.t 0)) (.o 1 5 (.call 5 199 [(.t 4)]) (.o 2 3 (.alloc 3 [(.n 1), (.i 0), (.i 0), (.i 0), (.n 1), (.n 1), (.n 1)]) (.op 3 [] none none false (.store (some 7) (.t 3) (.t 5)) .done)))) (.g (.o 0 6 (.mov (.t 0)) (.o 1 7 (.call 7 65 [(.t 6)]) (.o 2 8 (.fad (.t 3) 0) (.op 3 [] none none false (.store (some 1) (.t 8) (.t 7)) .done)))) (.seq (.g (.o 0 9 (.mov (.t 0)) (.o 1 10 (.call 10 68 [(.t 9), (.i 3)]) .done)) (.cond (.t 10) (.g (.o 0 11 (.build [(.n 1)] []) (.o 1 12 (.fad (.t 3) 4) (.op 2 [] none none false (.store (some 1) (.t 12) (.t 11)) .done))) (.g (.o 0 13 (.fad (.t 3) 1) (.o 1 14 (.load none (.t 13)) (.o 2 15 (.call 15 245 [(.t 14)]) .done))) (.cond (.t 15) (.reg false (.o 0 16 (.mov (.t 0)) (.o 1 17 (.call 17 65 [(.t 16)]) (.o 2 18 (.fad (.t 3) 4) (.op 3 [] none none false (.store (some 1) (.t 18) (.t 17)) .done))))) .skip))) .skip)) (.g (.o 0 19 (.load (some 7) (.t 3)) (.op 1 [] none none false (.store (some 7) (.t 2) (.t 19)) .done)) .ret)))))
theorem dg_spec_l5rr : Tryz.f235.body.bind (digC Tryz.prog Tryz.f235.ntmps []) = some c_spec_l5rr := by kernel_rfl
theorem rs_spec_l5rr : resSlots Tryz.prog Tryz.f235 = some [.m 2 (some 7)] := by kernel_rfl
theorem ok_spec_l5rr (c : Cu) :
    FnOK Tryz.prog 235 [.one (.box c.cells)] (fun ra os => ∃ x : Rr × Cu, (rrOk x.1 = true) ∧ ra = [.agg [.own true (encBB x.1.name), .d (.sc (.int .i64 x.1.ty)), .d (.sc (.int .i64 x.1.ttl)), .d (.sc (.int .i64 x.1.addr)), .own true (encBB x.1.to), .own true (encB x.1.text), .own true (encI x.1.nums)]] ∧ os.b 0 = x.2.cells) := by
  refine FnOK.ofK Tryz.func235 (by kernel_rfl) dg_spec_l5rr rs_spec_l5rr rfl rfl ?_
  delta c_spec_l5rr T.o X.i C.g
  refine Kbc (kAlloc Y Y (Kdb (Kc (Ka Y (Kz (ok_spec_l3draw _) ⟨⟨rfl, _, rfl, rfl⟩, trivial⟩ Y Y Y (fun _ => rfl) (fun x0 hx0 => (kAlloc Y Y (Ko Y Y Y Y (Kdb (Kc (Ka Y (Kz (ok_spec_l5owned _) ⟨⟨rfl, _, rfl, rfl⟩, trivial⟩ Y Y Y (fun _ => rfl) (fun x1 hx1 => (Kf Y Y (Ko Y Y Y Y (Kdb (Kbc (Ka Y (Kz (ok_spec_l1Once _ _) ⟨⟨rfl, _, rfl, rfl⟩, rfl, trivial⟩ Y Y Y (fun _ => rfl) (fun x2 hx2 => (Kd (kCond Y (fun g3 => Kbc (kBuildG Y (Kf Y Y (Ko Y Y Y Y (Kdb (Kc (Kf Y Y (Ke Y Y Y (Kp (ok_spec_l3named _) ⟨Y, trivial⟩ Y Y Y Y Y (Kd (kCond Y (fun g4 => Kc (Ka Y (Kz (ok_spec_l5owned _) ⟨⟨rfl, _, rfl, rfl⟩, trivial⟩ Y Y Y (fun _ => rfl) (fun x5 hx5 => (Kf Y Y (Ko Y Y Y Y (Kdb (Kc (Ke Y Y Y (kMem [(12288, ⟨1, 0, .box [.nil 1, .d _, .d _, .d _, .nil 1, .nil 1, .nil 1]⟩), (32768, ⟨1, 0, .arr true _⟩), (73728, ⟨1, 0, .arr true _⟩), (24581, ⟨1, 0, .arr true _⟩), (24582, ⟨1, 0, .arr true _⟩)] [(2, .c (.ptr 12288 1 0)), (19, .g [.arr 32768 1, .d _, .d _, .d _, .arr 73728 1, .arr 24581 1, .arr 24582 1])] [] ⟨Y, Y, Y, Y, Y, trivial⟩ ⟨Y, Y, trivial⟩ Y (Ko Y Y Y Y (Kd (Kr (Er (ra := [.agg [(.own true _), (.d _), (.d _), (.d _), (.own true _), (.own true _), (.own true _)]]) rfl ?_)))))))))))))) (fun g4 => Kn (Kbc (Ke Y Y Y (Ko Y Y Y Y (Kd (kMem [(12288, ⟨1, 0, .box [.arr 32768 1, .d _, .d _, .d _, .nil 1, .arr 24581 1, .arr 24582 1]⟩), (32768, ⟨1, 0, .arr true _⟩), (24581, ⟨1, 0, .arr true _⟩), (24582, ⟨1, 0, .arr true _⟩)] [(2, .c (.ptr 12288 1 0))] [] ⟨Y, Y, Y, Y, trivial⟩ ⟨Y, trivial⟩ Y (Kr (Er (ra := [.agg [(.own true _), (.d _), (.d _), (.d _), (.own true _), (.own true _), (.own true _)]]) rfl ?_))))))))))))))))))) (fun g3 => Kn (Kbc (Ke Y Y Y (Ko Y Y Y Y (Kd (Kr (Er (ra := [.agg [(.own true _), (.d _), (.d _), (.d _), (.own true _), (.own true _), (.own true _)]]) rfl ?_)))))))))))))))))))))))))))))
  · exact ⟨(⟨x1.1, x0.1.ty, x0.1.ttl, x0.1.addr, x5.1, x0.1.text, x0.1.nums⟩, x5.2), rrOk_to hx0 hx1 (by rw [if_pos (by assumption)]; exact hx5), rfl, rfl⟩
  · exact ⟨(⟨x1.1, x0.1.ty, x0.1.ttl, x0.1.addr, [], x0.1.text, x0.1.nums⟩, x2.2), rrOk_to hx0 hx1 (by rw [if_neg (by simp [*])]; rfl), rfl, rfl⟩
  · exact ⟨(⟨x1.1, x0.1.ty, x0.1.ttl, x0.1.addr, x0.1.to, x0.1.text, x0.1.nums⟩, x2.2), rrOk_name2 hx0 hx1, rfl, rfl⟩

def c_spec_l5add : C := (.g (.o 0 2 (.box 2 (.t 0)) (.o 1 3 (.box 3 (.t 1)) (.o 2 4 (.alloc 4 [(.n 1), (.n 7)]) .done))) (.g (.o 0 10 (.fad (.t 2) 0) (.o 1 11 (.load (some 1) (.t 10)) (.o 2 12 (.build [(.n 1), (.n 7)] [(0, 1, (.t 11))]) (.o 3 5 (.alloc 5 [(.n 1), (.n 7)]) (.op 4 [] none none false (.store (some 2) (.t 5) (.t 12)) .done))))) (.g (.o 0 6 (.mov (.v (.bool false))) .done) (.seq (.g (.o 0 7 (.mov (.i 0)) .done) (.block 0 (.loop (.seq (.g (.o 0 13 (.mov (.t 7)) (.o 1 14 (.fad (.t 2) 1) (.o 2 15 (.load none (.t 14)) (.o 3 16 (.len (.t 15)) (.o 4 17 (.bin .lss (.t 13) (.t 16)) .done))))) (.cond (.t 17) .skip (.exit 0))) (.seq (.block 1 (.g (.o 0 20 (.fad (.t 2) 1) (.o 1 21 (.load none (.t 20)) (.o 2 22 (.mov (.t 7)) (.o 3 23 (.iad 7 (.t 21) (.t 22)) (.o 4 24 (.load (some 7) (.t 23)) (.o 5 8 (.alloc 8 [(.n 1), (.i 0), (.i 0), (.i 0), (.n 1), (.n 1), (.n 1)]) (.op 6 [] none none false (.store (some 7) (.t 8) (.t 24)) .done))))))) (.seq (.g (.o 0 25 (.fad (.t 8) 0) (.o 1 26 (.load (some 1) (.t 25)) (.o 2 27 (.fad (.t 3) 0) (.o 3 28 (.load (some 1) (.t 27)) (.o 4 29 (.call 29 77 [(.t 26), (.t 28)]) (.o 5 30 (.bin .eql (.t 29) (.i 0)) (.o 6 31 (.mov (.t 30)) (.op 7 [] (some 32) (some (31, true)) false (.fad (.t 8) 1) (.op 8 [] (some 33) (some (31, true)) false (.load none (.t 32)) (.op 9 [] (some 34) (some (31, true)) false (.fad (.t 3) 1) (.op 10 [] (some 35) (some (31, true)) false (.load none (.t 34)) (.op 11 [] (some 36) (some (31, true)) false (.bin .eql (.t 33) (.t 35)) (.o 12 37 (.pick (.t 31) (.t 36) (.v (.bool false))) .done))))))))))))) (.cond (.t 37) (.reg false (.o 0 38 (.fad (.t 3) 2) (.o 1 39 (.load none (.t 38)) (.o 2 40 (.fad (.t 8) 2) (.op 3 [] none none false (.store none (.t 40) (.t 39)) .done))))) .skip)) (.g (.o 0 41 (.load (some 7) (.t 3)) (.o 1 42 (.load (some 7) (.t 8)) (.o 2 43 (.call 43 75 [(.t 41), (.t 42)]) (.o 3 9 (.mov (.t 43)) .done)))) (.seq (.g (.o 0 44 (.mov (.t 6)) (.o 1 45 (.un .not (.t 44)) (.o 2 46 (.mov (.t 45)) (.op 3 [] (some 47) (some (46, true)) false (.mov (.t 9)) (.op 4 [] (some 48) (some (46, true)) false (.bin .leq (.t 47) (.i 0)) (.o 5 49 (.pick (.t 46) (.t 48) (.v (.bool false))) .done)))))) (.cond (.t 49) (.g (.o 0 50 (.fad (.t 5) 1) (.o 1 51 (.load none (.t 50)) (.o 2 52 (.load (some 7) (.t 3)) (.o 3 53 (.lit 53 7 [(.n 1), (.i 0), (.i 0), (.i 0), (.n 1), (.n 1), (.n 1)] 1 [(0, 7, (.t 52))]) (.o 4 54 (.app 54 7 120 (.t 51) (.t 53)) (.o 5 55 (.fad (.t 5) 1) (.op 6 [] none none false (.store none (.t 55) (.t 54)) .done))))))) (.reg false (.o 0 6 (.mov (.v (.bool true))) .done))) .skip)) (.g (.o 0 56 (.mov (.t 9)) (.o 1 57 (.bin .neq (.t 56) (.i 0)) .done)) (.cond (.t 57) (.reg false (.o 0 58 (.fad (.t 5) 1) (.o 1 59 (.load none (.t 58)) (.o 2 60 (.load (some 7) (.t 8)) (.o 3 61 (.lit 61 7 [(.n 1), (.i 0), (.i 0), (.i 0), (.n 1), (.n 1), (.n 1)] 1 [(0, 7, (.t 60))]) (.o 4 62 (.app 62 7 120 (.t 59) (.t 61)) (.o 5 63 (.fad (.t 5) 1) (.op 6 [] none none false (.store none (.t 63) (.t 62)) .done)))))))) .skip))))))) (.reg false (.o 0 18 (.mov (.t 7)) (.o 1 19 (.bin .add (.t 18) (.i 1)) (.o 2 7 (.mov (.t 19)) .done))))))))) (.seq (.g (.o 0 64 (.mov (.t 6)) (.o 1 65 (.un .not (.t 64)) .done)) (.cond (.t 65) (.reg false (.o 0 66 (.fad (.t 5) 1) (.o 1 67 (.load none (.t 66)) (.o 2 68 (.load (some 7) (.t 3)) (.o 3 69 (.lit 69 7 [(.n 1), (.i 0), (.i 0), (.i 0), (.n 1), (.n 1), (.n 1)] 1 [(0, 7, (.t 68))]) (.o 4 70 (.app 70 7 120 (.t 67) (.t 69)) (.o 5 71 (.fad (.t 5) 1) (.op 6 [] none none false (.store none (.t 71) (.t 70)) .done)))))))) .skip)) (.g (.o 0 72 (.load (some 2) (.t 5)) (.op 1 [] none none false (.store (some 2) (.t 4) (.t 72)) .done)) .ret))))))
theorem dg_spec_l5add : Tryz.f156.body.bind (digC Tryz.prog Tryz.f156.ntmps []) = some c_spec_l5add := by kernel_rfl
theorem rs_spec_l5add : resSlots Tryz.prog Tryz.f156 = some [.m 4 (some 2)] := by kernel_rfl
theorem ok_spec_l5add (z : Zone) (r : Rr) (hs : SmallZ z) (hr : SmallR r) (ho : rrOk r = true) (hm : ∀ x ∈ z.rrs, rrOk x = true) (hl : z.rrs.length ≤ 1000000) :
    FnOK Tryz.prog 156 [.agg (z.cells.map .d), .agg (r.cells.map .d)] (fun ra _ => ra = [.agg [.d (encBB z.origin), .d (encR (addL z.rrs r))]]) := by
  refine FnOK.ofK Tryz.func156 (by kernel_rfl) dg_spec_l5add rs_spec_l5add rfl rfl ?_
  delta c_spec_l5add T.o X.i C.g
  have r1 := hr.n.len
  refine Kbc (kBox Y Y Y Y Y (kBox Y Y Y Y Y (kAlloc Y Y (Kdb (Kc (Kf Y Y (Ke Y Y Y (kBuildG Y (kAlloc Y Y (Ko Y Y Y Y (Kdb (Kc (Ka Y (Kdb (Kbc (Ka Y (Kd (Kt ?_))))))))))))))))))
  refine kSub (Sub.nilBox (id := rid 5 0) (id2 := rid 5000 0) (j := 1) rfl rfl rfl (by decide) (by decide)) ?_
  refine kLoop (α := { i : Nat // i ≤ z.rrs.length }) (fun y => ⟨tabSl [(2, .c (.ptr (rid 2 0) 1 0)), (3, .c (.ptr (rid 3 0) 1 0)), (4, .c (.ptr (rid 4 0) 1 0)), (5, .c (.ptr (rid 5 0) 1 0)), (6, .b (addAt (z.rrs.take y.1) r).2), (7, .i y.1)], obTab 1 [(rid 2 0, ⟨1, 0, .box (z.cells.map .d)⟩), (rid 3 0, ⟨1, 0, .box (r.cells.map .d)⟩), (rid 4 0, ⟨1, 0, .box [.nil 1, .nil 7]⟩), (rid 5 0, ⟨1, 0, .box [.d (encBB z.origin), .arr (rid 5000 0) 1]⟩), (rid 5000 0, ⟨1, 0, .arr false (encR (addAt (z.rrs.take y.1) r).1)⟩)], []⟩) (fun y => z.rrs.length - y.1) ⟨0, by simp⟩ .normA ?_
  rintro ⟨i, hi⟩
  simp only
  have hle := addAt_len z.rrs r i
  rcases Nat.lt_or_ge i z.rrs.length with hlt | hge
  · have hbi := hs.r.mem _ (List.getElem_mem hlt)
    have hok := hm _ (List.getElem_mem hlt)
    have n1 := hbi.n.len
    have hst := addAt_succ z.rrs r i hlt
    have hsm := ttlR_small (r := r) hbi
    have hok2 := ttlR_ok ho hok
    have hct := cmpR_ttl r z.rrs[i]
    revert hst hle
    generalize addAt (z.rrs.take i) r = S
    obtain ⟨L, p⟩ := S
    intro hle hst
    simp only at hle hst ⊢
    generalize hrow : z.rrs[i] = x at *
    by_cases e1 : x.name = r.name ∧ x.ty = r.ty
    · have ht : ttlR r x = (⟨x.name, x.ty, r.ttl, x.addr, x.to, x.text, x.nums⟩ : Rr) := by unfold ttlR; rw [if_pos e1]
      obtain ⟨e2, e3⟩ := e1
      have e4 : cmpN x.name r.name = 0 := (cmpN_iff _ _).2 e2
      rw [ht] at hsm hok2 hct
      have ok3 := ok_spec_l3cmp r (⟨x.name, x.ty, r.ttl, x.addr, x.to, x.text, x.nums⟩ : Rr) hr hsm ho hok2
      rw [hct] at ok3
      cases p
      · rcases Int.lt_trichotomy (cmpR r x) 0 with hc | hc | hc
        · have hs2 : addAt (z.rrs.take (i + 1)) r = (L ++ [r] ++ [(⟨x.name, x.ty, r.ttl, x.addr, x.to, x.text, x.nums⟩ : Rr)], true) := by
            rw [hst]
            have c1 : decide (cmpR r x ≤ 0) = true := by exact decide_eq_true (by omega)
            unfold addSt
            simp only [ht, c1]
            rw [if_neg (by omega), if_pos ⟨trivial, by omega⟩]
            rfl
          refine Kb (Kbc (Ka Y (Kf Y Y (Ke Y Y Y (Kq Y Y (Kj Y Y Y (Kd (Km Y (fun g0 => Kn (Kb (Kt (Kbc (Kf Y Y (Ke Y Y Y (Ka Y (kIadRW Y Y Y prl hrow (Ky Y Y (kAlloc Y Y (Ko Y Y Y Y (Kdb (Kbc (Kf Y Y (Ke Y Y Y (Kf Y Y (Ke Y Y Y (Kp (ok_spec_l2cmp _ _ pry pry) ⟨⟨⟨Y, trivial⟩, leb⟩, ⟨⟨Y, trivial⟩, leb⟩, trivial⟩ Y Y Y Y Y (Kj Y Y Y (Ka Y (kGP Y (fun g1 => (Ki Y (Kf Y Y (Ki Y (Ke Y Y Y (Ki Y (Kf Y Y (Ki Y (Ke Y Y Y (Ki Y (Kj Y Y Y (Kk Y (Ka Y (Kd (Km Y (fun g2 => Kc (Kf Y Y (Ke Y Y Y (Kf Y Y (Ko Y Y Y Y (Kdb (Kc (Ke Y Y Y (Ke Y Y Y ?_))))))))) (fun g2 => om)))))))))))))))) (fun g1 => om)))))))))))))))))))))) (fun g0 => om)))))))))
          refine Kp ok3 ⟨⟨⟨Y, Y, Y, Y, Y, Y, Y, trivial⟩, leb⟩, ⟨⟨Y, Y, Y, Y, Y, Y, Y, trivial⟩, leb⟩, trivial⟩ Y Y Y Y Y ?_
          refine Ka Y (Kdb (Kbc (Ka Y (Kw Y Y (Ka Y (Ki Y (Ka Y (Ki Y (Kj Y Y Y (Kk Y (Ka Y (Kd (Km Y (fun g0 => Kbc (Kf Y Y (Ke Y Y Y (Ke Y Y Y (kLitG Y Y Y Y (kAppRec Y Y Y Y Y Y Y prl (Kf Y Y (Ko Y Y Y Y (Kd (Kc (Ka Y (Kdb (Kc (Ka Y (Kj Y Y Y (Kd (kCondIN Y (fun g1 => Kc (Kf Y Y (Ke Y Y Y (Ke Y Y Y (kLitG Y Y Y Y (kAppRec Y Y Y Y Y Y Y prl (Kf Y Y (Ko Y Y Y Y (Kd (Kv (Kc (Ka Y (kAdd Y Y om (Ka Y (Kd ?_))))))))))))))) (fun g1 => om)))))))))))))))))) (fun g0 => om))))))))))))))
          refine kInv ⟨⟨i + 1, by omega⟩, by simp only; omega, ?_⟩
          simp only [hs2]
          exact .normA
        · have hs2 : addAt (z.rrs.take (i + 1)) r = (L ++ [r], true) := by
            rw [hst]
            have c1 : decide (cmpR r x ≤ 0) = true := by exact decide_eq_true (by omega)
            unfold addSt
            simp only [ht, c1]
            rw [if_pos hc, if_pos ⟨trivial, by omega⟩]
            rfl
          refine Kb (Kbc (Ka Y (Kf Y Y (Ke Y Y Y (Kq Y Y (Kj Y Y Y (Kd (Km Y (fun g0 => Kn (Kb (Kt (Kbc (Kf Y Y (Ke Y Y Y (Ka Y (kIadRW Y Y Y prl hrow (Ky Y Y (kAlloc Y Y (Ko Y Y Y Y (Kdb (Kbc (Kf Y Y (Ke Y Y Y (Kf Y Y (Ke Y Y Y (Kp (ok_spec_l2cmp _ _ pry pry) ⟨⟨⟨Y, trivial⟩, leb⟩, ⟨⟨Y, trivial⟩, leb⟩, trivial⟩ Y Y Y Y Y (Kj Y Y Y (Ka Y (kGP Y (fun g1 => (Ki Y (Kf Y Y (Ki Y (Ke Y Y Y (Ki Y (Kf Y Y (Ki Y (Ke Y Y Y (Ki Y (Kj Y Y Y (Kk Y (Ka Y (Kd (Km Y (fun g2 => Kc (Kf Y Y (Ke Y Y Y (Kf Y Y (Ko Y Y Y Y (Kdb (Kc (Ke Y Y Y (Ke Y Y Y ?_))))))))) (fun g2 => om)))))))))))))))) (fun g1 => om)))))))))))))))))))))) (fun g0 => om)))))))))
          refine Kp ok3 ⟨⟨⟨Y, Y, Y, Y, Y, Y, Y, trivial⟩, leb⟩, ⟨⟨Y, Y, Y, Y, Y, Y, Y, trivial⟩, leb⟩, trivial⟩ Y Y Y Y Y ?_
          refine Ka Y (Kdb (Kbc (Ka Y (Kw Y Y (Ka Y (Ki Y (Ka Y (Ki Y (Kj Y Y Y (Kk Y (Ka Y (Kd (Km Y (fun g0 => Kbc (Kf Y Y (Ke Y Y Y (Ke Y Y Y (kLitG Y Y Y Y (kAppRec Y Y Y Y Y Y Y prl (Kf Y Y (Ko Y Y Y Y (Kd (Kc (Ka Y (Kdb (Kc (Ka Y (Kj Y Y Y (Kd (kCondIN Y (fun g1 => om) (fun g1 => Kn (Kv (Kc (Ka Y (kAdd Y Y om (Ka Y (Kd ?_)))))))))))))))))))))))) (fun g0 => om))))))))))))))
          refine kInv ⟨⟨i + 1, by omega⟩, by simp only; omega, ?_⟩
          simp only [hs2]
          exact .normA
        · have hs2 : addAt (z.rrs.take (i + 1)) r = (L ++ [(⟨x.name, x.ty, r.ttl, x.addr, x.to, x.text, x.nums⟩ : Rr)], false) := by
            rw [hst]
            have c1 : decide (cmpR r x ≤ 0) = false := by exact decide_eq_false (by omega)
            unfold addSt
            simp only [ht, c1]
            rw [if_neg (by omega), if_neg (fun h => by omega)]
            rfl
          refine Kb (Kbc (Ka Y (Kf Y Y (Ke Y Y Y (Kq Y Y (Kj Y Y Y (Kd (Km Y (fun g0 => Kn (Kb (Kt (Kbc (Kf Y Y (Ke Y Y Y (Ka Y (kIadRW Y Y Y prl hrow (Ky Y Y (kAlloc Y Y (Ko Y Y Y Y (Kdb (Kbc (Kf Y Y (Ke Y Y Y (Kf Y Y (Ke Y Y Y (Kp (ok_spec_l2cmp _ _ pry pry) ⟨⟨⟨Y, trivial⟩, leb⟩, ⟨⟨Y, trivial⟩, leb⟩, trivial⟩ Y Y Y Y Y (Kj Y Y Y (Ka Y (kGP Y (fun g1 => (Ki Y (Kf Y Y (Ki Y (Ke Y Y Y (Ki Y (Kf Y Y (Ki Y (Ke Y Y Y (Ki Y (Kj Y Y Y (Kk Y (Ka Y (Kd (Km Y (fun g2 => Kc (Kf Y Y (Ke Y Y Y (Kf Y Y (Ko Y Y Y Y (Kdb (Kc (Ke Y Y Y (Ke Y Y Y ?_))))))))) (fun g2 => om)))))))))))))))) (fun g1 => om)))))))))))))))))))))) (fun g0 => om)))))))))
          refine Kp ok3 ⟨⟨⟨Y, Y, Y, Y, Y, Y, Y, trivial⟩, leb⟩, ⟨⟨Y, Y, Y, Y, Y, Y, Y, trivial⟩, leb⟩, trivial⟩ Y Y Y Y Y ?_
          refine Ka Y (Kdb (Kbc (Ka Y (Kw Y Y (Ka Y (Ki Y (Ka Y (Ki Y (Kj Y Y Y (Kk Y (Ka Y (Kd (Km Y (fun g0 => om) (fun g0 => Kn (Kbc (Ka Y (Kj Y Y Y (Kd (kCondIN Y (fun g1 => Kc (Kf Y Y (Ke Y Y Y (Ke Y Y Y (kLitG Y Y Y Y (kAppRec Y Y Y Y Y Y Y prl (Kf Y Y (Ko Y Y Y Y (Kd (Kv (Kc (Ka Y (kAdd Y Y om (Ka Y (Kd ?_))))))))))))))) (fun g1 => om))))))))))))))))))))
          refine kInv ⟨⟨i + 1, by omega⟩, by simp only; omega, ?_⟩
          simp only [hs2]
          exact .normA
      · rcases Int.lt_trichotomy (cmpR r x) 0 with hc | hc | hc
        · have hs2 : addAt (z.rrs.take (i + 1)) r = (L ++ [(⟨x.name, x.ty, r.ttl, x.addr, x.to, x.text, x.nums⟩ : Rr)], true) := by
            rw [hst]
            have c1 : decide (cmpR r x ≤ 0) = true := by exact decide_eq_true (by omega)
            unfold addSt
            simp only [ht, c1]
            rw [if_neg (by omega), if_neg (fun h => by cases h.1)]
            rfl
          refine Kb (Kbc (Ka Y (Kf Y Y (Ke Y Y Y (Kq Y Y (Kj Y Y Y (Kd (Km Y (fun g0 => Kn (Kb (Kt (Kbc (Kf Y Y (Ke Y Y Y (Ka Y (kIadRW Y Y Y prl hrow (Ky Y Y (kAlloc Y Y (Ko Y Y Y Y (Kdb (Kbc (Kf Y Y (Ke Y Y Y (Kf Y Y (Ke Y Y Y (Kp (ok_spec_l2cmp _ _ pry pry) ⟨⟨⟨Y, trivial⟩, leb⟩, ⟨⟨Y, trivial⟩, leb⟩, trivial⟩ Y Y Y Y Y (Kj Y Y Y (Ka Y (kGP Y (fun g1 => (Ki Y (Kf Y Y (Ki Y (Ke Y Y Y (Ki Y (Kf Y Y (Ki Y (Ke Y Y Y (Ki Y (Kj Y Y Y (Kk Y (Ka Y (Kd (Km Y (fun g2 => Kc (Kf Y Y (Ke Y Y Y (Kf Y Y (Ko Y Y Y Y (Kdb (Kc (Ke Y Y Y (Ke Y Y Y ?_))))))))) (fun g2 => om)))))))))))))))) (fun g1 => om)))))))))))))))))))))) (fun g0 => om)))))))))
          refine Kp ok3 ⟨⟨⟨Y, Y, Y, Y, Y, Y, Y, trivial⟩, leb⟩, ⟨⟨Y, Y, Y, Y, Y, Y, Y, trivial⟩, leb⟩, trivial⟩ Y Y Y Y Y ?_
          refine Ka Y (Kdb (Kbc (Ka Y (Kw Y Y (Ka Y (Kg Y (Kg Y (Kl Y (Ka Y (Kd (kCondF Y (Kn (Kbc (Ka Y (Kj Y Y Y (Kd (kCondIN Y (fun g0 => Kc (Kf Y Y (Ke Y Y Y (Ke Y Y Y (kLitG Y Y Y Y (kAppRec Y Y Y Y Y Y Y prl (Kf Y Y (Ko Y Y Y Y (Kd (Kv (Kc (Ka Y (kAdd Y Y om (Ka Y (Kd ?_))))))))))))))) (fun g0 => om))))))))))))))))))
          refine kInv ⟨⟨i + 1, by omega⟩, by simp only; omega, ?_⟩
          simp only [hs2]
          exact .normA
        · have hs2 : addAt (z.rrs.take (i + 1)) r = (L, true) := by
            rw [hst]
            have c1 : decide (cmpR r x ≤ 0) = true := by exact decide_eq_true (by omega)
            unfold addSt
            simp only [ht, c1]
            rw [if_pos hc, if_neg (fun h => by cases h.1)]
            rfl
          refine Kb (Kbc (Ka Y (Kf Y Y (Ke Y Y Y (Kq Y Y (Kj Y Y Y (Kd (Km Y (fun g0 => Kn (Kb (Kt (Kbc (Kf Y Y (Ke Y Y Y (Ka Y (kIadRW Y Y Y prl hrow (Ky Y Y (kAlloc Y Y (Ko Y Y Y Y (Kdb (Kbc (Kf Y Y (Ke Y Y Y (Kf Y Y (Ke Y Y Y (Kp (ok_spec_l2cmp _ _ pry pry) ⟨⟨⟨Y, trivial⟩, leb⟩, ⟨⟨Y, trivial⟩, leb⟩, trivial⟩ Y Y Y Y Y (Kj Y Y Y (Ka Y (kGP Y (fun g1 => (Ki Y (Kf Y Y (Ki Y (Ke Y Y Y (Ki Y (Kf Y Y (Ki Y (Ke Y Y Y (Ki Y (Kj Y Y Y (Kk Y (Ka Y (Kd (Km Y (fun g2 => Kc (Kf Y Y (Ke Y Y Y (Kf Y Y (Ko Y Y Y Y (Kdb (Kc (Ke Y Y Y (Ke Y Y Y ?_))))))))) (fun g2 => om)))))))))))))))) (fun g1 => om)))))))))))))))))))))) (fun g0 => om)))))))))
          refine Kp ok3 ⟨⟨⟨Y, Y, Y, Y, Y, Y, Y, trivial⟩, leb⟩, ⟨⟨Y, Y, Y, Y, Y, Y, Y, trivial⟩, leb⟩, trivial⟩ Y Y Y Y Y ?_
          refine Ka Y (Kdb (Kbc (Ka Y (Kw Y Y (Ka Y (Kg Y (Kg Y (Kl Y (Ka Y (Kd (kCondF Y (Kn (Kbc (Ka Y (Kj Y Y Y (Kd (kCondIN Y (fun g0 => om) (fun g0 => Kn (Kv (Kc (Ka Y (kAdd Y Y om (Ka Y (Kd ?_))))))))))))))))))))))))
          refine kInv ⟨⟨i + 1, by omega⟩, by simp only; omega, ?_⟩
          simp only [hs2]
          exact .normA
        · have hs2 : addAt (z.rrs.take (i + 1)) r = (L ++ [(⟨x.name, x.ty, r.ttl, x.addr, x.to, x.text, x.nums⟩ : Rr)], true) := by
            rw [hst]
            have c1 : decide (cmpR r x ≤ 0) = false := by exact decide_eq_false (by omega)
            unfold addSt
            simp only [ht, c1]
            rw [if_neg (by omega), if_neg (fun h => by omega)]
            rfl
          refine Kb (Kbc (Ka Y (Kf Y Y (Ke Y Y Y (Kq Y Y (Kj Y Y Y (Kd (Km Y (fun g0 => Kn (Kb (Kt (Kbc (Kf Y Y (Ke Y Y Y (Ka Y (kIadRW Y Y Y prl hrow (Ky Y Y (kAlloc Y Y (Ko Y Y Y Y (Kdb (Kbc (Kf Y Y (Ke Y Y Y (Kf Y Y (Ke Y Y Y (Kp (ok_spec_l2cmp _ _ pry pry) ⟨⟨⟨Y, trivial⟩, leb⟩, ⟨⟨Y, trivial⟩, leb⟩, trivial⟩ Y Y Y Y Y (Kj Y Y Y (Ka Y (kGP Y (fun g1 => (Ki Y (Kf Y Y (Ki Y (Ke Y Y Y (Ki Y (Kf Y Y (Ki Y (Ke Y Y Y (Ki Y (Kj Y Y Y (Kk Y (Ka Y (Kd (Km Y (fun g2 => Kc (Kf Y Y (Ke Y Y Y (Kf Y Y (Ko Y Y Y Y (Kdb (Kc (Ke Y Y Y (Ke Y Y Y ?_))))))))) (fun g2 => om)))))))))))))))) (fun g1 => om)))))))))))))))))))))) (fun g0 => om)))))))))
          refine Kp ok3 ⟨⟨⟨Y, Y, Y, Y, Y, Y, Y, trivial⟩, leb⟩, ⟨⟨Y, Y, Y, Y, Y, Y, Y, trivial⟩, leb⟩, trivial⟩ Y Y Y Y Y ?_
          refine Ka Y (Kdb (Kbc (Ka Y (Kw Y Y (Ka Y (Kg Y (Kg Y (Kl Y (Ka Y (Kd (kCondF Y (Kn (Kbc (Ka Y (Kj Y Y Y (Kd (kCondIN Y (fun g0 => Kc (Kf Y Y (Ke Y Y Y (Ke Y Y Y (kLitG Y Y Y Y (kAppRec Y Y Y Y Y Y Y prl (Kf Y Y (Ko Y Y Y Y (Kd (Kv (Kc (Ka Y (kAdd Y Y om (Ka Y (Kd ?_))))))))))))))) (fun g0 => om))))))))))))))))))
          refine kInv ⟨⟨i + 1, by omega⟩, by simp only; omega, ?_⟩
          simp only [hs2]
          exact .normA
    · have ht : ttlR r x = x := by unfold ttlR; rw [if_neg e1]
      have e4 : ¬ (cmpN x.name r.name = 0 ∧ x.ty = r.ty) := fun h => e1 ⟨(cmpN_iff _ _).1 h.1, h.2⟩
      cases p
      · rcases Int.lt_trichotomy (cmpR r x) 0 with hc | hc | hc
        · have hs2 : addAt (z.rrs.take (i + 1)) r = (L ++ [r] ++ [x], true) := by
            rw [hst]
            have c1 : decide (cmpR r x ≤ 0) = true := by exact decide_eq_true (by omega)
            unfold addSt
            simp only [ht, c1]
            rw [if_neg (by omega), if_pos ⟨trivial, by omega⟩]
            rfl
          refine Kb (Kbc (Ka Y (Kf Y Y (Ke Y Y Y (Kq Y Y (Kj Y Y Y (Kd (Km Y (fun g0 => Kn (Kb (Kt (Kbc (Kf Y Y (Ke Y Y Y (Ka Y (kIadRW Y Y Y prl hrow (Ky Y Y (kAlloc Y Y (Ko Y Y Y Y (Kdb (Kbc (Kf Y Y (Ke Y Y Y (Kf Y Y (Ke Y Y Y (Kp (ok_spec_l2cmp _ _ pry pry) ⟨⟨⟨Y, trivial⟩, leb⟩, ⟨⟨Y, trivial⟩, leb⟩, trivial⟩ Y Y Y Y Y (Kj Y Y Y (Ka Y (kGP Y (fun g1 => (Ki Y (Kf Y Y (Ki Y (Ke Y Y Y (Ki Y (Kf Y Y (Ki Y (Ke Y Y Y (Ki Y (Kj Y Y Y (Kk Y (Ka Y (Kd (Km Y (fun g2 => om) (fun g2 => Kn (Kbc (Ke Y Y Y (Ke Y Y Y (Kp (ok_spec_l3cmp _ _ pry pry pry pry) ⟨⟨⟨Y, Y, Y, Y, Y, Y, Y, trivial⟩, leb⟩, ⟨⟨Y, Y, Y, Y, Y, Y, Y, trivial⟩, leb⟩, trivial⟩ Y Y Y Y Y (Ka Y (Kdb (Kbc (Ka Y (Kw Y Y (Ka Y (Ki Y (Ka Y (Ki Y (Kj Y Y Y (Kk Y (Ka Y (Kd (Km Y (fun g3 => Kbc (Kf Y Y (Ke Y Y Y (Ke Y Y Y (kLitG Y Y Y Y (kAppRec Y Y Y Y Y Y Y prl (Kf Y Y (Ko Y Y Y Y (Kd (Kc (Ka Y (Kdb (Kc (Ka Y (Kj Y Y Y (Kd (kCondIN Y (fun g4 => Kc (Kf Y Y (Ke Y Y Y (Ke Y Y Y (kLitG Y Y Y Y (kAppRec Y Y Y Y Y Y Y prl (Kf Y Y (Ko Y Y Y Y (Kd (Kv (Kc (Ka Y (kAdd Y Y om (Ka Y (Kd ?_))))))))))))))) (fun g4 => om)))))))))))))))))) (fun g3 => om))))))))))))))))))))))))))))))))))) (fun g1 => (Kg Y (Kg Y (Kg Y (Kg Y (Kg Y (Kl Y (Ka Y (Kd (kCondF Y (Kn (Kbc (Ke Y Y Y (Ke Y Y Y (Kp (ok_spec_l3cmp _ _ pry pry pry pry) ⟨⟨⟨Y, Y, Y, Y, Y, Y, Y, trivial⟩, leb⟩, ⟨⟨Y, Y, Y, Y, Y, Y, Y, trivial⟩, leb⟩, trivial⟩ Y Y Y Y Y (Ka Y (Kdb (Kbc (Ka Y (Kw Y Y (Ka Y (Ki Y (Ka Y (Ki Y (Kj Y Y Y (Kk Y (Ka Y (Kd (Km Y (fun g5 => Kbc (Kf Y Y (Ke Y Y Y (Ke Y Y Y (kLitG Y Y Y Y (kAppRec Y Y Y Y Y Y Y prl (Kf Y Y (Ko Y Y Y Y (Kd (Kc (Ka Y (Kdb (Kc (Ka Y (Kj Y Y Y (Kd (kCondIN Y (fun g6 => Kc (Kf Y Y (Ke Y Y Y (Ke Y Y Y (kLitG Y Y Y Y (kAppRec Y Y Y Y Y Y Y prl (Kf Y Y (Ko Y Y Y Y (Kd (Kv (Kc (Ka Y (kAdd Y Y om (Ka Y (Kd ?_))))))))))))))) (fun g6 => om)))))))))))))))))) (fun g5 => om))))))))))))))))))))))))))))))))))))))))))))))))))) (fun g0 => om)))))))))
          all_goals
            refine kInv ⟨⟨i + 1, by omega⟩, by simp only; omega, ?_⟩
            simp only [hs2]
            exact .normA
        · have hs2 : addAt (z.rrs.take (i + 1)) r = (L ++ [r], true) := by
            rw [hst]
            have c1 : decide (cmpR r x ≤ 0) = true := by exact decide_eq_true (by omega)
            unfold addSt
            simp only [ht, c1]
            rw [if_pos hc, if_pos ⟨trivial, by omega⟩]
            rfl
          refine Kb (Kbc (Ka Y (Kf Y Y (Ke Y Y Y (Kq Y Y (Kj Y Y Y (Kd (Km Y (fun g0 => Kn (Kb (Kt (Kbc (Kf Y Y (Ke Y Y Y (Ka Y (kIadRW Y Y Y prl hrow (Ky Y Y (kAlloc Y Y (Ko Y Y Y Y (Kdb (Kbc (Kf Y Y (Ke Y Y Y (Kf Y Y (Ke Y Y Y (Kp (ok_spec_l2cmp _ _ pry pry) ⟨⟨⟨Y, trivial⟩, leb⟩, ⟨⟨Y, trivial⟩, leb⟩, trivial⟩ Y Y Y Y Y (Kj Y Y Y (Ka Y (kGP Y (fun g1 => (Ki Y (Kf Y Y (Ki Y (Ke Y Y Y (Ki Y (Kf Y Y (Ki Y (Ke Y Y Y (Ki Y (Kj Y Y Y (Kk Y (Ka Y (Kd (Km Y (fun g2 => om) (fun g2 => Kn (Kbc (Ke Y Y Y (Ke Y Y Y (Kp (ok_spec_l3cmp _ _ pry pry pry pry) ⟨⟨⟨Y, Y, Y, Y, Y, Y, Y, trivial⟩, leb⟩, ⟨⟨Y, Y, Y, Y, Y, Y, Y, trivial⟩, leb⟩, trivial⟩ Y Y Y Y Y (Ka Y (Kdb (Kbc (Ka Y (Kw Y Y (Ka Y (Ki Y (Ka Y (Ki Y (Kj Y Y Y (Kk Y (Ka Y (Kd (Km Y (fun g3 => Kbc (Kf Y Y (Ke Y Y Y (Ke Y Y Y (kLitG Y Y Y Y (kAppRec Y Y Y Y Y Y Y prl (Kf Y Y (Ko Y Y Y Y (Kd (Kc (Ka Y (Kdb (Kc (Ka Y (Kj Y Y Y (Kd (kCondIN Y (fun g4 => om) (fun g4 => Kn (Kv (Kc (Ka Y (kAdd Y Y om (Ka Y (Kd ?_)))))))))))))))))))))))) (fun g3 => om))))))))))))))))))))))))))))))))))) (fun g1 => (Kg Y (Kg Y (Kg Y (Kg Y (Kg Y (Kl Y (Ka Y (Kd (kCondF Y (Kn (Kbc (Ke Y Y Y (Ke Y Y Y (Kp (ok_spec_l3cmp _ _ pry pry pry pry) ⟨⟨⟨Y, Y, Y, Y, Y, Y, Y, trivial⟩, leb⟩, ⟨⟨Y, Y, Y, Y, Y, Y, Y, trivial⟩, leb⟩, trivial⟩ Y Y Y Y Y (Ka Y (Kdb (Kbc (Ka Y (Kw Y Y (Ka Y (Ki Y (Ka Y (Ki Y (Kj Y Y Y (Kk Y (Ka Y (Kd (Km Y (fun g5 => Kbc (Kf Y Y (Ke Y Y Y (Ke Y Y Y (kLitG Y Y Y Y (kAppRec Y Y Y Y Y Y Y prl (Kf Y Y (Ko Y Y Y Y (Kd (Kc (Ka Y (Kdb (Kc (Ka Y (Kj Y Y Y (Kd (kCondIN Y (fun g6 => om) (fun g6 => Kn (Kv (Kc (Ka Y (kAdd Y Y om (Ka Y (Kd ?_)))))))))))))))))))))))) (fun g5 => om))))))))))))))))))))))))))))))))))))))))))))))))))) (fun g0 => om)))))))))
          all_goals
            refine kInv ⟨⟨i + 1, by omega⟩, by simp only; omega, ?_⟩
            simp only [hs2]
            exact .normA
        · have hs2 : addAt (z.rrs.take (i + 1)) r = (L ++ [x], false) := by
            rw [hst]
            have c1 : decide (cmpR r x ≤ 0) = false := by exact decide_eq_false (by omega)
            unfold addSt
            simp only [ht, c1]
            rw [if_neg (by omega), if_neg (fun h => by omega)]
            rfl
          refine Kb (Kbc (Ka Y (Kf Y Y (Ke Y Y Y (Kq Y Y (Kj Y Y Y (Kd (Km Y (fun g0 => Kn (Kb (Kt (Kbc (Kf Y Y (Ke Y Y Y (Ka Y (kIadRW Y Y Y prl hrow (Ky Y Y (kAlloc Y Y (Ko Y Y Y Y (Kdb (Kbc (Kf Y Y (Ke Y Y Y (Kf Y Y (Ke Y Y Y (Kp (ok_spec_l2cmp _ _ pry pry) ⟨⟨⟨Y, trivial⟩, leb⟩, ⟨⟨Y, trivial⟩, leb⟩, trivial⟩ Y Y Y Y Y (Kj Y Y Y (Ka Y (kGP Y (fun g1 => (Ki Y (Kf Y Y (Ki Y (Ke Y Y Y (Ki Y (Kf Y Y (Ki Y (Ke Y Y Y (Ki Y (Kj Y Y Y (Kk Y (Ka Y (Kd (Km Y (fun g2 => om) (fun g2 => Kn (Kbc (Ke Y Y Y (Ke Y Y Y (Kp (ok_spec_l3cmp _ _ pry pry pry pry) ⟨⟨⟨Y, Y, Y, Y, Y, Y, Y, trivial⟩, leb⟩, ⟨⟨Y, Y, Y, Y, Y, Y, Y, trivial⟩, leb⟩, trivial⟩ Y Y Y Y Y (Ka Y (Kdb (Kbc (Ka Y (Kw Y Y (Ka Y (Ki Y (Ka Y (Ki Y (Kj Y Y Y (Kk Y (Ka Y (Kd (Km Y (fun g3 => om) (fun g3 => Kn (Kbc (Ka Y (Kj Y Y Y (Kd (kCondIN Y (fun g4 => Kc (Kf Y Y (Ke Y Y Y (Ke Y Y Y (kLitG Y Y Y Y (kAppRec Y Y Y Y Y Y Y prl (Kf Y Y (Ko Y Y Y Y (Kd (Kv (Kc (Ka Y (kAdd Y Y om (Ka Y (Kd ?_))))))))))))))) (fun g4 => om))))))))))))))))))))))))))))))))))))))))) (fun g1 => (Kg Y (Kg Y (Kg Y (Kg Y (Kg Y (Kl Y (Ka Y (Kd (kCondF Y (Kn (Kbc (Ke Y Y Y (Ke Y Y Y (Kp (ok_spec_l3cmp _ _ pry pry pry pry) ⟨⟨⟨Y, Y, Y, Y, Y, Y, Y, trivial⟩, leb⟩, ⟨⟨Y, Y, Y, Y, Y, Y, Y, trivial⟩, leb⟩, trivial⟩ Y Y Y Y Y (Ka Y (Kdb (Kbc (Ka Y (Kw Y Y (Ka Y (Ki Y (Ka Y (Ki Y (Kj Y Y Y (Kk Y (Ka Y (Kd (Km Y (fun g5 => om) (fun g5 => Kn (Kbc (Ka Y (Kj Y Y Y (Kd (kCondIN Y (fun g6 => Kc (Kf Y Y (Ke Y Y Y (Ke Y Y Y (kLitG Y Y Y Y (kAppRec Y Y Y Y Y Y Y prl (Kf Y Y (Ko Y Y Y Y (Kd (Kv (Kc (Ka Y (kAdd Y Y om (Ka Y (Kd ?_))))))))))))))) (fun g6 => om))))))))))))))))))))))))))))))))))))))))))))))))))))))))) (fun g0 => om)))))))))
          all_goals
            refine kInv ⟨⟨i + 1, by omega⟩, by simp only; omega, ?_⟩
            simp only [hs2]
            exact .normA
      · rcases Int.lt_trichotomy (cmpR r x) 0 with hc | hc | hc
        · have hs2 : addAt (z.rrs.take (i + 1)) r = (L ++ [x], true) := by
            rw [hst]
            have c1 : decide (cmpR r x ≤ 0) = true := by exact decide_eq_true (by omega)
            unfold addSt
            simp only [ht, c1]
            rw [if_neg (by omega), if_neg (fun h => by cases h.1)]
            rfl
          refine Kb (Kbc (Ka Y (Kf Y Y (Ke Y Y Y (Kq Y Y (Kj Y Y Y (Kd (Km Y (fun g0 => Kn (Kb (Kt (Kbc (Kf Y Y (Ke Y Y Y (Ka Y (kIadRW Y Y Y prl hrow (Ky Y Y (kAlloc Y Y (Ko Y Y Y Y (Kdb (Kbc (Kf Y Y (Ke Y Y Y (Kf Y Y (Ke Y Y Y (Kp (ok_spec_l2cmp _ _ pry pry) ⟨⟨⟨Y, trivial⟩, leb⟩, ⟨⟨Y, trivial⟩, leb⟩, trivial⟩ Y Y Y Y Y (Kj Y Y Y (Ka Y (kGP Y (fun g1 => (Ki Y (Kf Y Y (Ki Y (Ke Y Y Y (Ki Y (Kf Y Y (Ki Y (Ke Y Y Y (Ki Y (Kj Y Y Y (Kk Y (Ka Y (Kd (Km Y (fun g2 => om) (fun g2 => Kn (Kbc (Ke Y Y Y (Ke Y Y Y (Kp (ok_spec_l3cmp _ _ pry pry pry pry) ⟨⟨⟨Y, Y, Y, Y, Y, Y, Y, trivial⟩, leb⟩, ⟨⟨Y, Y, Y, Y, Y, Y, Y, trivial⟩, leb⟩, trivial⟩ Y Y Y Y Y (Ka Y (Kdb (Kbc (Ka Y (Kw Y Y (Ka Y (Kg Y (Kg Y (Kl Y (Ka Y (Kd (kCondF Y (Kn (Kbc (Ka Y (Kj Y Y Y (Kd (kCondIN Y (fun g3 => Kc (Kf Y Y (Ke Y Y Y (Ke Y Y Y (kLitG Y Y Y Y (kAppRec Y Y Y Y Y Y Y prl (Kf Y Y (Ko Y Y Y Y (Kd (Kv (Kc (Ka Y (kAdd Y Y om (Ka Y (Kd ?_))))))))))))))) (fun g3 => om))))))))))))))))))))))))))))))))))))))) (fun g1 => (Kg Y (Kg Y (Kg Y (Kg Y (Kg Y (Kl Y (Ka Y (Kd (kCondF Y (Kn (Kbc (Ke Y Y Y (Ke Y Y Y (Kp (ok_spec_l3cmp _ _ pry pry pry pry) ⟨⟨⟨Y, Y, Y, Y, Y, Y, Y, trivial⟩, leb⟩, ⟨⟨Y, Y, Y, Y, Y, Y, Y, trivial⟩, leb⟩, trivial⟩ Y Y Y Y Y (Ka Y (Kdb (Kbc (Ka Y (Kw Y Y (Ka Y (Kg Y (Kg Y (Kl Y (Ka Y (Kd (kCondF Y (Kn (Kbc (Ka Y (Kj Y Y Y (Kd (kCondIN Y (fun g4 => Kc (Kf Y Y (Ke Y Y Y (Ke Y Y Y (kLitG Y Y Y Y (kAppRec Y Y Y Y Y Y Y prl (Kf Y Y (Ko Y Y Y Y (Kd (Kv (Kc (Ka Y (kAdd Y Y om (Ka Y (Kd ?_))))))))))))))) (fun g4 => om))))))))))))))))))))))))))))))))))))))))))))))))))))))) (fun g0 => om)))))))))
          all_goals
            refine kInv ⟨⟨i + 1, by omega⟩, by simp only; omega, ?_⟩
            simp only [hs2]
            exact .normA
        · have hs2 : addAt (z.rrs.take (i + 1)) r = (L, true) := by
            rw [hst]
            have c1 : decide (cmpR r x ≤ 0) = true := by exact decide_eq_true (by omega)
            unfold addSt
            simp only [ht, c1]
            rw [if_pos hc, if_neg (fun h => by cases h.1)]
            rfl
          refine Kb (Kbc (Ka Y (Kf Y Y (Ke Y Y Y (Kq Y Y (Kj Y Y Y (Kd (Km Y (fun g0 => Kn (Kb (Kt (Kbc (Kf Y Y (Ke Y Y Y (Ka Y (kIadRW Y Y Y prl hrow (Ky Y Y (kAlloc Y Y (Ko Y Y Y Y (Kdb (Kbc (Kf Y Y (Ke Y Y Y (Kf Y Y (Ke Y Y Y (Kp (ok_spec_l2cmp _ _ pry pry) ⟨⟨⟨Y, trivial⟩, leb⟩, ⟨⟨Y, trivial⟩, leb⟩, trivial⟩ Y Y Y Y Y (Kj Y Y Y (Ka Y (kGP Y (fun g1 => (Ki Y (Kf Y Y (Ki Y (Ke Y Y Y (Ki Y (Kf Y Y (Ki Y (Ke Y Y Y (Ki Y (Kj Y Y Y (Kk Y (Ka Y (Kd (Km Y (fun g2 => om) (fun g2 => Kn (Kbc (Ke Y Y Y (Ke Y Y Y (Kp (ok_spec_l3cmp _ _ pry pry pry pry) ⟨⟨⟨Y, Y, Y, Y, Y, Y, Y, trivial⟩, leb⟩, ⟨⟨Y, Y, Y, Y, Y, Y, Y, trivial⟩, leb⟩, trivial⟩ Y Y Y Y Y (Ka Y (Kdb (Kbc (Ka Y (Kw Y Y (Ka Y (Kg Y (Kg Y (Kl Y (Ka Y (Kd (kCondF Y (Kn (Kbc (Ka Y (Kj Y Y Y (Kd (kCondIN Y (fun g3 => om) (fun g3 => Kn (Kv (Kc (Ka Y (kAdd Y Y om (Ka Y (Kd ?_))))))))))))))))))))))))))))))))))))))))))))) (fun g1 => (Kg Y (Kg Y (Kg Y (Kg Y (Kg Y (Kl Y (Ka Y (Kd (kCondF Y (Kn (Kbc (Ke Y Y Y (Ke Y Y Y (Kp (ok_spec_l3cmp _ _ pry pry pry pry) ⟨⟨⟨Y, Y, Y, Y, Y, Y, Y, trivial⟩, leb⟩, ⟨⟨Y, Y, Y, Y, Y, Y, Y, trivial⟩, leb⟩, trivial⟩ Y Y Y Y Y (Ka Y (Kdb (Kbc (Ka Y (Kw Y Y (Ka Y (Kg Y (Kg Y (Kl Y (Ka Y (Kd (kCondF Y (Kn (Kbc (Ka Y (Kj Y Y Y (Kd (kCondIN Y (fun g4 => om) (fun g4 => Kn (Kv (Kc (Ka Y (kAdd Y Y om (Ka Y (Kd ?_))))))))))))))))))))))))))))))))))))))))))))))))))))))))))))) (fun g0 => om)))))))))
          all_goals
            refine kInv ⟨⟨i + 1, by omega⟩, by simp only; omega, ?_⟩
            simp only [hs2]
            exact .normA
        · have hs2 : addAt (z.rrs.take (i + 1)) r = (L ++ [x], true) := by
            rw [hst]
            have c1 : decide (cmpR r x ≤ 0) = false := by exact decide_eq_false (by omega)
            unfold addSt
            simp only [ht, c1]
            rw [if_neg (by omega), if_neg (fun h => by omega)]
            rfl
          refine Kb (Kbc (Ka Y (Kf Y Y (Ke Y Y Y (Kq Y Y (Kj Y Y Y (Kd (Km Y (fun g0 => Kn (Kb (Kt (Kbc (Kf Y Y (Ke Y Y Y (Ka Y (kIadRW Y Y Y prl hrow (Ky Y Y (kAlloc Y Y (Ko Y Y Y Y (Kdb (Kbc (Kf Y Y (Ke Y Y Y (Kf Y Y (Ke Y Y Y (Kp (ok_spec_l2cmp _ _ pry pry) ⟨⟨⟨Y, trivial⟩, leb⟩, ⟨⟨Y, trivial⟩, leb⟩, trivial⟩ Y Y Y Y Y (Kj Y Y Y (Ka Y (kGP Y (fun g1 => (Ki Y (Kf Y Y (Ki Y (Ke Y Y Y (Ki Y (Kf Y Y (Ki Y (Ke Y Y Y (Ki Y (Kj Y Y Y (Kk Y (Ka Y (Kd (Km Y (fun g2 => om) (fun g2 => Kn (Kbc (Ke Y Y Y (Ke Y Y Y (Kp (ok_spec_l3cmp _ _ pry pry pry pry) ⟨⟨⟨Y, Y, Y, Y, Y, Y, Y, trivial⟩, leb⟩, ⟨⟨Y, Y, Y, Y, Y, Y, Y, trivial⟩, leb⟩, trivial⟩ Y Y Y Y Y (Ka Y (Kdb (Kbc (Ka Y (Kw Y Y (Ka Y (Kg Y (Kg Y (Kl Y (Ka Y (Kd (kCondF Y (Kn (Kbc (Ka Y (Kj Y Y Y (Kd (kCondIN Y (fun g3 => Kc (Kf Y Y (Ke Y Y Y (Ke Y Y Y (kLitG Y Y Y Y (kAppRec Y Y Y Y Y Y Y prl (Kf Y Y (Ko Y Y Y Y (Kd (Kv (Kc (Ka Y (kAdd Y Y om (Ka Y (Kd ?_))))))))))))))) (fun g3 => om))))))))))))))))))))))))))))))))))))))) (fun g1 => (Kg Y (Kg Y (Kg Y (Kg Y (Kg Y (Kl Y (Ka Y (Kd (kCondF Y (Kn (Kbc (Ke Y Y Y (Ke Y Y Y (Kp (ok_spec_l3cmp _ _ pry pry pry pry) ⟨⟨⟨Y, Y, Y, Y, Y, Y, Y, trivial⟩, leb⟩, ⟨⟨Y, Y, Y, Y, Y, Y, Y, trivial⟩, leb⟩, trivial⟩ Y Y Y Y Y (Ka Y (Kdb (Kbc (Ka Y (Kw Y Y (Ka Y (Kg Y (Kg Y (Kl Y (Ka Y (Kd (kCondF Y (Kn (Kbc (Ka Y (Kj Y Y Y (Kd (kCondIN Y (fun g4 => Kc (Kf Y Y (Ke Y Y Y (Ke Y Y Y (kLitG Y Y Y Y (kAppRec Y Y Y Y Y Y Y prl (Kf Y Y (Ko Y Y Y Y (Kd (Kv (Kc (Ka Y (kAdd Y Y om (Ka Y (Kd ?_))))))))))))))) (fun g4 => om))))))))))))))))))))))))))))))))))))))))))))))))))))))) (fun g0 => om)))))))))
          all_goals
            refine kInv ⟨⟨i + 1, by omega⟩, by simp only; omega, ?_⟩
            simp only [hs2]
            exact .normA
  · rw [show i = z.rrs.length by omega, List.take_length]
    have hle2 := addAt_len z.rrs r z.rrs.length
    rw [List.take_length] at hle2
    cases hp : (addAt z.rrs r).2
    · rw [show addL z.rrs r = (addAt z.rrs r).1 ++ [r] by unfold addL; rw [hp]; rfl]
      refine Kb (Kbc (Ka Y (Kf Y Y (Ke Y Y Y (Kq Y Y (Kj Y Y Y (Kd (Km Y (fun g0 => om) (fun g0 => kExit (kExC (kExI (kExB (Kb (Kbc (Ka Y (Kw Y Y (Kd (kCondT Y (Kc (Kf Y Y (Ke Y Y Y (Ke Y Y Y (kLitG Y Y Y Y (kAppRec Y Y Y Y Y Y Y prl (Kf Y Y (Ko Y Y Y Y (Kdb (Kc (Ke Y Y Y (Ko Y Y Y Y (Kd (Kr (Er (ra := [.agg [(.d _), (.d _)]]) rfl rfl)))))))))))))))))))))))))))))))))
    · rw [show addL z.rrs r = (addAt z.rrs r).1 by unfold addL; rw [hp]; rfl]
      refine Kb (Kbc (Ka Y (Kf Y Y (Ke Y Y Y (Kq Y Y (Kj Y Y Y (Kd (Km Y (fun g0 => om) (fun g0 => kExit (kExC (kExI (kExB (Kb (Kbc (Ka Y (Kw Y Y (Kd (kCondF Y (Kn (Kbc (Ke Y Y Y (Ko Y Y Y Y (Kd (Kr (Er (ra := [.agg [(.d _), (.d _)]]) rfl rfl)))))))))))))))))))))))))

def c_spec_Add : C := (.g (.o 0 2 (.box 2 (.t 0)) (.o 1 3 (.box 3 (.t 1)) (.o 2 4 (.alloc 4 [(.n 1), (.n 7)]) (.o 3 5 (.mov (.v (.bool false))) .done)))) (.seq (.g (.o 0 7 (.load (some 2) (.t 2)) (.o 1 8 (.call 8 14 [(.t 7)]) (.o 2 9 (.un .not (.t 8)) (.o 3 10 (.mov (.t 9)) (.op 4 [] (some 11) (some (10, false)) false (.load (some 7) (.t 3)) (.op 5 [] (some 12) (some (10, false)) false (.call 12 73 [(.t 11)]) (.op 6 [] (some 13) (some (10, false)) false (.un .not (.t 12)) (.o 7 14 (.pick (.t 10) (.v (.bool true)) (.t 13)) .done)))))))) (.cond (.t 14) (.g (.o 0 15 (.build [(.n 1), (.n 7)] []) (.op 1 [] none none false (.store (some 2) (.t 4) (.t 15)) (.o 2 5 (.mov (.v (.bool false))) .done))) .ret) .skip)) (.g (.o 0 16 (.load (some 2) (.t 2)) (.o 1 17 (.load (some 7) (.t 3)) (.o 2 18 (.call 18 156 [(.t 16), (.t 17)]) (.o 3 6 (.alloc 6 [(.n 1), (.n 7)]) (.op 4 [] none none false (.store (some 2) (.t 6) (.t 18)) .done))))) (.seq (.g (.o 0 19 (.load (some 2) (.t 6)) (.o 1 20 (.call 20 14 [(.t 19)]) (.o 2 21 (.un .not (.t 20)) .done))) (.cond (.t 21) (.g (.o 0 22 (.load (some 2) (.t 2)) (.o 1 23 (.call 23 157 [(.t 22)]) (.op 2 [] none none false (.store (some 2) (.t 4) (.t 23)) (.o 3 5 (.mov (.v (.bool false))) .done)))) .ret) .skip)) (.g (.o 0 24 (.load (some 2) (.t 6)) (.o 1 25 (.call 25 157 [(.t 24)]) (.op 2 [] none none false (.store (some 2) (.t 4) (.t 25)) (.o 3 5 (.mov (.v (.bool true))) .done)))) .ret)))))
theorem dg_spec_Add : Tryz.f69.body.bind (digC Tryz.prog Tryz.f69.ntmps []) = some c_spec_Add := by kernel_rfl
theorem rs_spec_Add : resSlots Tryz.prog Tryz.f69 = some [.m 4 (some 2), .s 5] := by kernel_rfl
theorem ok_spec_Add (z : Zone) (r : Rr) (hs : SmallZ z) (hr : SmallR r) :
    FnOK Tryz.prog 69 [.agg (z.cells.map .d), .agg (r.cells.map .d)] (fun ra _ => ra = [.agg [.own true (encBB (addN z r).origin), .own true (encR (addN z r).rrs)], .one (.d (.sc (.bool (addOk z r))))]) := by
  refine FnOK.ofK Tryz.func69 (by kernel_rfl) dg_spec_Add rs_spec_Add rfl rfl ?_
  delta c_spec_Add T.o X.i C.g
  cases a1 : zoneOk z
  · rw [show addN z r = zeroZ by unfold addN; rw [a1]; rfl, show addOk z r = false by unfold addOk; rw [a1]; rfl]
    refine Kbc (kBox Y Y Y Y Y (kBox Y Y Y Y Y (kAlloc Y Y (Ka Y (Kdb (Kbc (Ke Y Y Y (Kp (ok_spec_ZoneOk _ pry) ⟨⟨⟨Y, Y, trivial⟩, leb⟩, trivial⟩ Y Y Y Y Y (Kw Y Y (Ka Y (kGN Y (fun g0 => Kg Y (Kg Y (Kg Y (Kk Y (Ka Y (Kd (kCondT Y (Kbc (kBuildG Y (Ko Y Y Y Y (Ka Y (Kd (Kr (Er (ra := [.agg [(.own true _), (.own true _)], .one (.d _)]) rfl rfl)))))))))))))) (fun g0 => (by (simp [*] at g0))))))))))))))
  cases a2 : rrOk r
  · rw [show addN z r = zeroZ by unfold addN; rw [a1, a2]; rfl, show addOk z r = false by unfold addOk; rw [a1, a2]; rfl]
    refine Kbc (kBox Y Y Y Y Y (kBox Y Y Y Y Y (kAlloc Y Y (Ka Y (Kdb (Kbc (Ke Y Y Y (Kp (ok_spec_ZoneOk _ pry) ⟨⟨⟨Y, Y, trivial⟩, leb⟩, trivial⟩ Y Y Y Y Y (Kw Y Y (Ka Y (kGN Y (fun g0 => (by (simp [*] at g0))) (fun g0 => Ki Y (Ke Y Y Y (Ki Y (Kp (ok_spec_RrOk _ pry) ⟨⟨⟨Y, Y, Y, Y, Y, Y, Y, trivial⟩, leb⟩, trivial⟩ Y Y Y Y Y (Ki Y (Kw Y Y (Kl Y (Ka Y (Kd (kCondN Y (fun g1 => Kbc (kBuildG Y (Ko Y Y Y Y (Ka Y (Kd (Kr (Er (ra := [.agg [(.own true _), (.own true _)], .one (.d _)]) rfl rfl))))))) (fun g1 => (by (simp [*] at g1))))))))))))))))))))))))
  have hm := zone_rrs a1
  have hp := zoneOk_pos a1
  have hl : z.rrs.length ≤ 1000000 := by omega
  have hz2 := addZ_small a1 a2
  have ok1 := ok_spec_ZoneOk (addZ z r) hz2
  have ok2 := ok_spec_l5own (addZ z r) hz2
  refine Kbc (kBox Y Y Y Y Y (kBox Y Y Y Y Y (kAlloc Y Y (Ka Y (Kdb (Kbc (Ke Y Y Y (Kp (ok_spec_ZoneOk _ pry) ⟨⟨⟨Y, Y, trivial⟩, leb⟩, trivial⟩ Y Y Y Y Y (Kw Y Y (Ka Y (kGN Y (fun g0 => (by (simp [*] at g0))) (fun g0 => Ki Y (Ke Y Y Y (Ki Y (Kp (ok_spec_RrOk _ pry) ⟨⟨⟨Y, Y, Y, Y, Y, Y, Y, trivial⟩, leb⟩, trivial⟩ Y Y Y Y Y (Ki Y (Kw Y Y (Kl Y (Ka Y (Kd (kCondN Y (fun g1 => (by (simp [*] at g1))) (fun g1 => Kn (Kbc (Ke Y Y Y (Ke Y Y Y (kCallD2 (ok_spec_l5add _ _ pry pry pry pry pry) ⟨⟨⟨Y, Y, trivial⟩, leb⟩, ⟨⟨Y, Y, Y, Y, Y, Y, Y, trivial⟩, leb⟩, trivial⟩ Y Y Y Y (kAlloc Y Y (Ko Y Y Y Y (Kdb (Kbc (Ke Y Y Y ?_)))))))))))))))))))))))))))))))
  refine Kp ok1 ⟨⟨⟨Y, Y, trivial⟩, leb⟩, trivial⟩ Y Y Y Y Y ?_
  cases a3 : zoneOk (addZ z r)
  · rw [show addN z r = z by unfold addN; rw [a1, a2, a3]; rfl, show addOk z r = false by unfold addOk; rw [a1, a2, a3]; rfl]
    refine Kw Y Y (Kd (kCondT Y (Kbc (Ke Y Y Y (Ku true (ok_spec_l5own _ pry) ⟨⟨⟨Y, Y, trivial⟩, leb⟩, trivial⟩ Y Y Y (fun _ => (Ko Y Y Y Y (Ka Y (Kd (Kr (Er (ra := [.agg [(.own true _), (.own true _)], .one (.d _)]) rfl rfl)))))))))))
  · rw [show addN z r = addZ z r by unfold addN; rw [a1, a2, a3]; rfl, show addOk z r = true by unfold addOk; rw [a1, a2, a3]; rfl]
    refine Kw Y Y (Kd (kCondF Y (Kn (Kbc (Ke Y Y Y ?_)))))
    refine Ku true ok2 ⟨⟨⟨Y, Y, trivial⟩, leb⟩, trivial⟩ Y Y Y (fun _ => ?_)
    refine (Ko Y Y Y Y (Ka Y (Kd (Kr (Er (ra := [.agg [(.own true _), (.own true _)], .one (.d _)]) rfl rfl)))))

def c_spec_l5draw : C := (.g (.o 0 2 (.alloc 2 [(.n 1), (.n 7)]) .done) (.g (.o 0 8 (.call 8 153 [(.v (.string ⟨#[104, 111, 109, 101, 46]⟩))]) (.o 1 9 (.mov (.t 0)) (.o 2 10 (.lit 10 1 [(.i 0)] 3 [(0, 1, (.i 1)), (1, 1, (.i 7)), (2, 1, (.i 4294967295))]) (.o 3 11 (.call 11 118 [(.t 9), (.t 10)]) (.o 4 12 (.call 12 234 [(.t 8), (.t 11)]) (.o 5 7 (.mov (.t 12)) (.o 6 13 (.ext (.t 7) 0) (.o 7 14 (.ext (.t 7) 1) (.o 8 3 (.alloc 3 [(.n 1), (.n 7)]) (.op 9 [] none none false (.store (some 2) (.t 3) (.t 13)) (.o 10 4 (.mov (.t 14)) .done))))))))))) (.g (.o 0 15 (.mov (.t 0)) (.o 1 16 (.call 16 117 [(.t 15), (.i 9)]) (.o 2 5 (.mov (.t 16)) .done))) (.seq (.g (.o 0 6 (.mov (.i 0)) .done) (.block 0 (.loop (.seq (.g (.o 0 17 (.mov (.t 6)) (.o 1 18 (.mov (.t 5)) (.o 2 19 (.bin .lss (.t 17) (.t 18)) .done))) (.cond (.t 19) .skip (.exit 0))) (.seq (.block 1 (.reg true (.op 0 [] (some 23) none true (.load (some 2) (.t 3)) (.op 1 [] (some 24) none true (.mov (.t 0)) (.o 2 25 (.call 25 235 [(.t 24)]) (.op 3 [0] (some 26) none false (.call 26 69 [(.t 23), (.t 25)]) (.op 4 [] (some 22) none true (.mov (.t 26)) (.op 5 [] (some 27) none true (.ext (.t 22) 0) (.op 6 [] (some 28) none true (.ext (.t 22) 1) (.op 7 [0] none none false (.store (some 2) (.t 3) (.t 27)) .done)))))))))) (.reg false (.o 0 20 (.mov (.t 6)) (.o 1 21 (.bin .add (.t 20) (.i 1)) (.o 2 6 (.mov (.t 21)) .done))))))))) (.seq (.g (.o 0 29 (.mov (.t 0)) (.o 1 30 (.call 30 68 [(.t 29), (.i 4)]) .done)) (.cond (.t 30) (.seq (.reg true (.op 0 [] (some 32) none true (.load (some 2) (.t 3)) (.o 1 33 (.call 33 153 [(.v (.string ⟨#[115, 117, 98, 46, 104, 111, 109, 101, 46]⟩))]) (.o 2 34 (.call 34 153 [(.v (.string ⟨#[110, 115, 46, 115, 117, 98, 46, 104, 111, 109, 101, 46]⟩))]) (.op 3 [] (some 35) none true (.build [(.n 1), (.i 0), (.i 0), (.i 0), (.n 1), (.n 1), (.n 1)] [(0, 1, (.t 33)), (1, 1, (.i 2)), (2, 1, (.i 60)), (4, 1, (.t 34))]) (.op 4 [0] (some 36) none false (.call 36 69 [(.t 32), (.t 35)]) (.op 5 [] (some 31) none true (.mov (.t 36)) (.op 6 [] (some 37) none true (.ext (.t 31) 0) (.op 7 [] (some 38) none true (.ext (.t 31) 1) (.op 8 [0] none none false (.store (some 2) (.t 3) (.t 37)) .done)))))))))) (.reg true (.op 0 [] (some 40) none true (.load (some 2) (.t 3)) (.o 1 41 (.call 41 153 [(.v (.string ⟨#[110, 115, 46, 115, 117, 98, 46, 104, 111, 109, 101, 46]⟩))]) (.op 2 [] (some 42) none true (.build [(.n 1), (.i 0), (.i 0), (.i 0), (.n 1), (.n 1), (.n 1)] [(0, 1, (.t 41)), (1, 1, (.i 1)), (2, 1, (.i 60)), (3, 1, (.i 167772169))]) (.op 3 [0] (some 43) none false (.call 43 69 [(.t 40), (.t 42)]) (.op 4 [] (some 39) none true (.mov (.t 43)) (.op 5 [] (some 44) none true (.ext (.t 39) 0) (.op 6 [] (some 45) none true (.ext (.t 39) 1) (.op 7 [0] none none false (.store (some 2) (.t 3) (.t 44)) .done)))))))))) .skip)) (.g (.o 0 46 (.load (some 2) (.t 3)) (.op 1 [] none none false (.store (some 2) (.t 2) (.t 46)) .done)) .ret))))))
theorem dg_spec_l5draw : Tryz.f152.body.bind (digC Tryz.prog Tryz.f152.ntmps []) = some c_spec_l5draw := by kernel_rfl
theorem rs_spec_l5draw : resSlots Tryz.prog Tryz.f152 = some [.m 2 (some 2)] := by kernel_rfl
theorem ok_spec_l5draw (c : Cu) :
    FnOK Tryz.prog 152 [.one (.box c.cells)] (fun ra os => ∃ x : Zone × Cu, (zoneOk x.1 = true) ∧ ra = [.agg [.own true (encBB x.1.origin), .own true (encR x.1.rrs)]] ∧ os.b 0 = x.2.cells) := by
  refine FnOK.ofK Tryz.func152 (by kernel_rfl) dg_spec_l5draw rs_spec_l5draw rfl rfl ?_
  delta c_spec_l5draw T.o X.i C.g
  have e : readN (ByteArray.mk #[104, 111, 109, 101, 46]).toList = [[104, 111, 109, 101]] := by rw [bt_list]; decide
  have sa : SmallBB [[104, 111, 109, 101]] := SmallBB.ok (by decide)
  have ok := ok_spec_l2of ⟨#[104, 111, 109, 101, 46]⟩ (by decide)
  rw [e] at ok
  refine Kbc (kAlloc Y Y (Kd ?_))
  refine Kbc (Ku true ok ⟨Y, trivial⟩ Y Y Y (fun _ => ?_))
  refine Ka Y (kLitD Y Y Y Y (Kz (ok_spec_l1PickInt _ _ prx prx prx) ⟨⟨rfl, _, rfl, rfl⟩, rfl, trivial⟩ Y Y Y (fun _ => rfl) (fun x0 hx0 => (Ku true (ok_spec_ZoneNew _ _ prx) ⟨⟨⟨Y, trivial⟩, leb⟩, rfl, trivial⟩ Y Y Y (fun _ => (kMovT Y (kExtC Y Y (kExtC Y Y (kAlloc Y Y (Ko Y Y Y Y (Ka Y (Kdb (Kc (Ka Y (Kz (ok_spec_l1Below _ _) ⟨⟨rfl, _, rfl, rfl⟩, rfl, trivial⟩ Y Y Y (fun _ => rfl) (fun x1 hx1 => (Ka Y (Kdb (Kbc (Ka Y (Kd (Kt ?_))))))))))))))))))))))
  have hz0 := home_ok _ hx0
  have hzn : zoneNewN [[104, 111, 109, 101]] x0.1 = newZ [[104, 111, 109, 101]] x0.1 := by unfold zoneNewN; rw [hz0]; rfl
  refine kSub (Sub.renBox (rid 3 0) (rid 12 0) (rid 5000 0) 0 rfl rfl rfl rfl rfl rfl) ?_
  refine kSub (Sub.renBox (rid 3 0) (rid 12 1) (rid 5000 1) 1 rfl rfl rfl rfl rfl rfl) ?_
  refine kLoop (α := { z : Zone // zoneOk z = true } × Cu × { i : Nat // (i : Int) ≤ x1.1 ∧ True }) (fun y => ⟨tabSl [(0, .c (.ptr 0 0 0)), (2, .c (.ptr (rid 2 0) 1 0)), (3, .c (.ptr (rid 3 0) 1 0)), (5, .i x1.1), (6, .i y.2.2.1)], obTab 1 [(0, ⟨0, 0, .box (y.2.1.cells.map .d)⟩), (rid 2 0, ⟨1, 0, .box [.nil 1, .nil 7]⟩), (rid 3 0, ⟨1, 0, .box [.arr (rid 5000 0) 1, .arr (rid 5000 1) 1]⟩), (rid 5000 0, ⟨1, 0, .arr true (encBB y.1.1.origin)⟩), (rid 5000 1, ⟨1, 0, .arr true (encR y.1.1.rrs)⟩)], []⟩) (fun y => x1.1.toNat - y.2.2.1) (⟨newZ [[104, 111, 109, 101]] x0.1, hz0⟩, x1.2, ⟨0, by simp; omega⟩) (by rw [hzn]; exact .normA) ?_
  rintro ⟨⟨z, hz⟩, c1, ⟨i, hi, _⟩⟩
  simp only
  rcases Int.lt_or_le (i : Int) x1.1 with hlt | hge
  · refine Kb (Kbc (Ka Y (Ka Y (Kj Y Y Y (Kd (Km Y (fun g2 => Kn (Kb (Kt (kRegD (Ke Y Y Y (Ka Y (Kz (ok_spec_l5rr _) ⟨⟨rfl, _, rfl, rfl⟩, trivial⟩ Y Y Y (fun _ => rfl) (fun x3 hx3 => (Ks Y Y (Ku true (ok_spec_Add _ _ prx prx) ⟨⟨⟨Y, Y, trivial⟩, leb⟩, ⟨⟨Y, Y, Y, Y, Y, Y, Y, trivial⟩, leb⟩, trivial⟩ Y Y Y (fun _ => (kMovT Y (kExtC Y Y (kExtC Y Y (Ks Y Y (Ko Y Y Y Y (Kd (kH (Kv (Kc (Ka Y (kAdd Y Y om (Ka Y (Kd ?_)))))))))))))))))))))))) (fun g2 => om)))))))
    exact kInv ⟨(⟨addN z x3.1, addN_ok hz hx3⟩, x3.2, ⟨i + 1, by omega, trivial⟩), by simp; omega, (Sub.renBox (rid 3 0) (rid 26 0) (rid 5000 0) 0 rfl rfl rfl rfl rfl rfl).trans ((Sub.renBox (rid 3 0) (rid 26 1) (rid 5000 1) 1 rfl rfl rfl rfl rfl rfl).trans .normA)⟩
  · have hs := zoneOk_small hz
    have e1 : readN (ByteArray.mk #[115, 117, 98, 46, 104, 111, 109, 101, 46]).toList = [[115, 117, 98], [104, 111, 109, 101]] := by rw [bt_list]; decide
    have e2 : readN (ByteArray.mk #[110, 115, 46, 115, 117, 98, 46, 104, 111, 109, 101, 46]).toList = [[110, 115], [115, 117, 98], [104, 111, 109, 101]] := by rw [bt_list]; decide
    have hr1 : rrOk ⟨readN (ByteArray.mk #[115, 117, 98, 46, 104, 111, 109, 101, 46]).toList, 2, 60, 0, readN (ByteArray.mk #[110, 115, 46, 115, 117, 98, 46, 104, 111, 109, 101, 46]).toList, [], []⟩ = true := by rw [e1, e2]; decide
    have hr2 : rrOk ⟨readN (ByteArray.mk #[110, 115, 46, 115, 117, 98, 46, 104, 111, 109, 101, 46]).toList, 1, 60, 167772169, [], [], []⟩ = true := by rw [e2]; decide
    have hz1 := addN_ok hz hr1
    have hz2 := addN_ok hz1 hr2
    refine Kb (Kbc (Ka Y (Ka Y (Kj Y Y Y (Kd (Km Y (fun g2 => om) (fun g2 => kExit (kExC (kExI (kExB (Kb (Kbc (Ka Y (Kz (ok_spec_l1Once _ _) ⟨⟨rfl, _, rfl, rfl⟩, rfl, trivial⟩ Y Y Y (fun _ => rfl) (fun x3 hx3 => (Kd (kCond Y (fun g4 => Kb (kRegD (Ke Y Y Y (Ku true (ok_spec_l2of _ prx) ⟨Y, trivial⟩ Y Y Y (fun _ => (Ku true (ok_spec_l2of _ prx) ⟨Y, trivial⟩ Y Y Y (fun _ => (kBuildG Y (Ks Y Y ?_))))))))) (fun g4 => Kn (Kbc (Ke Y Y Y (Ko Y Y Y Y (Kd (Kr (Er (ra := [.agg [(.own true _), (.own true _)]]) rfl ?_))))))))))))))))))))))))
    · refine Ku true (ok_spec_Add z ⟨readN (ByteArray.mk #[115, 117, 98, 46, 104, 111, 109, 101, 46]).toList, 2, 60, 0, readN (ByteArray.mk #[110, 115, 46, 115, 117, 98, 46, 104, 111, 109, 101, 46]).toList, [], []⟩ hs (rrOk_small hr1)) ⟨⟨⟨Y, Y, trivial⟩, leb⟩, ⟨⟨Y, Y, Y, Y, Y, Y, Y, trivial⟩, leb⟩, trivial⟩ Y Y Y (fun _ => ?_)
      refine kMovT Y (kExtC Y Y (kExtC Y Y (Ks Y Y (Ko Y Y Y Y (Kd (kH (kRegD (Ke Y Y Y (Ku true (ok_spec_l2of _ prx) ⟨Y, trivial⟩ Y Y Y (fun _ => (kBuildG Y (Ks Y Y ?_))))))))))))
      refine Ku true (ok_spec_Add _ ⟨readN (ByteArray.mk #[110, 115, 46, 115, 117, 98, 46, 104, 111, 109, 101, 46]).toList, 1, 60, 167772169, [], [], []⟩ (zoneOk_small hz1) (rrOk_small hr2)) ⟨⟨⟨Y, Y, trivial⟩, leb⟩, ⟨⟨Y, Y, Y, Y, Y, Y, Y, trivial⟩, leb⟩, trivial⟩ Y Y Y (fun _ => ?_)
      refine kMovT Y (kExtC Y Y (kExtC Y Y (Ks Y Y (Ko Y Y Y Y (Kd (kH (Kbc (Ke Y Y Y (Ko Y Y Y Y (Kd (Kr (Er (ra := [.agg [(.own true _), (.own true _)]]) rfl ?_))))))))))))
      exact ⟨(_, x3.2), hz2, rfl, rfl⟩
    · exact ⟨(z, x3.2), hz, rfl, rfl⟩

def c_spec_l2bent : C := (.g (.o 0 2 (.alloc 2 [(.n 1)]) .done) (.g (.o 0 4 (.mov (.t 0)) (.o 1 5 (.call 5 217 [(.t 4)]) (.o 2 3 (.alloc 3 [(.n 1)]) (.op 3 [] none none false (.store (some 1) (.t 3) (.t 5)) .done)))) (.seq (.g (.o 0 6 (.mov (.t 0)) (.o 1 7 (.call 7 68 [(.t 6), (.i 9)]) .done)) (.cond (.t 7) (.g (.o 0 8 (.mov (.t 0)) (.o 1 9 (.call 9 117 [(.t 8), (.i 4)]) .done)) (.block 0 (.g (.o 0 22 (.bin .eql (.t 9) (.i 0)) (.o 1 21 (.mov (.t 22)) .done)) (.cond (.t 21) (.reg false (.o 0 23 (.fad (.t 3) 0) (.o 1 24 (.load none (.t 23)) (.o 2 25 (.lit 25 1 [(.n 1)] 1 [(0, 1, (.n 1))]) (.o 3 26 (.app 26 1 24 (.t 24) (.t 25)) (.o 4 27 (.fad (.t 3) 0) (.op 5 [] none none false (.store none (.t 27) (.t 26)) .done))))))) (.g (.o 0 29 (.bin .eql (.t 9) (.i 1)) (.o 1 28 (.mov (.t 29)) .done)) (.cond (.t 28) (.reg false (.o 0 30 (.fad (.t 3) 0) (.o 1 31 (.load none (.t 30)) (.o 2 32 (.lit 32 1 [(.v (.int .u8 0))] 1 [(0, 1, (.v (.int .u8 81)))]) (.o 3 33 (.s2s (.t 32)) (.o 4 34 (.lit 34 1 [(.n 1)] 1 [(0, 1, (.t 33))]) (.o 5 35 (.app 35 1 24 (.t 31) (.t 34)) (.o 6 36 (.fad (.t 3) 0) (.op 7 [] none none false (.store none (.t 36) (.t 35)) .done))))))))) (.g (.o 0 38 (.bin .eql (.t 9) (.i 2)) (.o 1 37 (.mov (.t 38)) .done)) (.cond (.t 37) (.reg true (.op 0 [] (some 39) none true (.fad (.t 3) 0) (.op 1 [] (some 40) none true (.load none (.t 39)) (.op 3 [] (some 42) none true (.mov (.t 0)) (.alt (.o 2 41 (.lit 41 1 [(.v (.string ⟨#[]⟩))] 2 [(0, 1, (.v (.string ⟨#[97, 98, 99, 100, 101, 102, 103, 104, 105, 106, 107, 108, 109, 110, 111]⟩))), (1, 1, (.v (.string ⟨#[97, 98, 99, 100, 101, 102, 103, 104, 105, 106, 107, 108, 109, 110, 111, 112]⟩)))]) (.o 4 43 (.call 43 117 [(.t 42), (.i 2)]) (.op 5 [] (some 44) none true (.iad 1 (.t 41) (.t 43)) (.op 6 [] (some 45) none true (.load none (.t 44)) (.op 7 [6] (some 46) none false (.s2b (.t 45)) (.op 8 [6] (some 47) none false (.lit 47 1 [(.n 1)] 1 [(0, 1, (.t 46))]) (.op 9 [1, 6] (some 48) none false (.app 48 1 24 (.t 40) (.t 47)) (.op 10 [] (some 49) none true (.fad (.t 3) 0) (.op 11 [1, 6] none none false (.store none (.t 49) (.t 48)) .done))))))))) (.o 4 43 (.call 43 117 [(.t 42), (.i 2)]) (.o 2 41 (.lit 41 1 [(.v (.string ⟨#[]⟩))] 2 [(0, 1, (.v (.string ⟨#[97, 98, 99, 100, 101, 102, 103, 104, 105, 106, 107, 108, 109, 110, 111]⟩))), (1, 1, (.v (.string ⟨#[97, 98, 99, 100, 101, 102, 103, 104, 105, 106, 107, 108, 109, 110, 111, 112]⟩)))]) (.op 5 [] (some 44) none true (.iad 1 (.t 41) (.t 43)) (.op 6 [] (some 45) none true (.load none (.t 44)) (.op 7 [6] (some 46) none false (.s2b (.t 45)) (.op 8 [6] (some 47) none false (.lit 47 1 [(.n 1)] 1 [(0, 1, (.t 46))]) (.op 9 [1, 6] (some 48) none false (.app 48 1 24 (.t 40) (.t 47)) (.op 10 [] (some 49) none true (.fad (.t 3) 0) (.op 11 [1, 6] none none false (.store none (.t 49) (.t 48)) .done)))))))))))))) (.block 1 (.loop (.seq (.g (.o 0 10 (.fad (.t 3) 0) (.o 1 11 (.load none (.t 10)) (.o 2 12 (.len (.t 11)) (.o 3 13 (.bin .leq (.t 12) (.i 6)) .done)))) (.cond (.t 13) .skip (.exit 1))) (.block 2 (.reg false (.o 0 14 (.fad (.t 3) 0) (.o 1 15 (.load none (.t 14)) (.o 2 16 (.lit 16 1 [(.v (.int .u8 0))] 1 [(0, 1, (.v (.int .u8 122)))]) (.o 3 17 (.s2s (.t 16)) (.o 4 18 (.lit 18 1 [(.n 1)] 1 [(0, 1, (.t 17))]) (.o 5 19 (.app 19 1 24 (.t 15) (.t 18)) (.o 6 20 (.fad (.t 3) 0) (.op 7 [] none none false (.store none (.t 20) (.t 19)) .done))))))))))))))))))))) .skip)) (.g (.o 0 50 (.load (some 1) (.t 3)) (.op 1 [] none none false (.store (some 1) (.t 2) (.t 50)) .done)) .ret))))
theorem dg_spec_l2bent : Tryz.f126.body.bind (digC Tryz.prog Tryz.f126.ntmps []) = some c_spec_l2bent := by kernel_rfl
theorem rs_spec_l2bent : resSlots Tryz.prog Tryz.f126 = some [.m 2 (some 1)] := by kernel_rfl
theorem ok_spec_l2bent (c : Cu) :
    FnOK Tryz.prog 126 [.one (.box c.cells)] (fun ra os => ∃ x : List (List UInt8) × Cu, (x.1.length ≤ 7 ∧ ∀ b ∈ x.1, b.length ≤ 64) ∧ ra = [.agg [.d (encBB x.1)]] ∧ os.b 0 = x.2.cells) := by
  refine FnOK.ofK Tryz.func126 (by kernel_rfl) dg_spec_l2bent rs_spec_l2bent rfl rfl ?_
  delta c_spec_l2bent T.o X.i C.g
  refine Kbc (kAlloc Y Y (Kdb (Kc (Ka Y (Kz (ok_spec_l2draw _) ⟨⟨rfl, _, rfl, rfl⟩, trivial⟩ Y Y Y (fun _ => rfl) (fun x0 hx0 => (kAlloc Y Y (Ko Y Y Y Y (Kdb (Kbc (Ka Y (Kz (ok_spec_l1Once _ _) ⟨⟨rfl, _, rfl, rfl⟩, rfl, trivial⟩ Y Y Y (fun _ => rfl) (fun x1 hx1 => (Kd (kCond Y (fun g2 => Kbc (Ka Y (Kz (ok_spec_l1Below _ _) ⟨⟨rfl, _, rfl, rfl⟩, rfl, trivial⟩ Y Y Y (fun _ => rfl) (fun x3 hx3 => (Kd (Kt (Kbc (Kj Y Y Y (Ka Y (Kd (Km Y (fun g4 => Kc (Kf Y Y (Ke Y Y Y (kLitG Y Y Y Y ?_)))) (fun g4 => Kbc (Kj Y Y Y (Ka Y (Kd (Km Y (fun g5 => Kc (Kf Y Y (Ke Y Y Y (kLitG Y Y Y Y (kS2sB (y := 81) (ys := []) Y Y Y (kLitG Y Y Y Y ?_)))))) (fun g5 => Kbc (Kj Y Y Y (Ka Y (Kd (Km Y (fun g6 => kRegD (Kf Y Y (Ke Y Y Y (Ka Y (kAlt (kLitG Y Y Y Y (Kz (ok_spec_l1Below _ _) ⟨⟨rfl, _, rfl, rfl⟩, rfl, trivial⟩ Y Y Y (fun _ => rfl) (fun x8 hx8 => (kIadStr Y Y Y Y (by simp only [List.length_cons, List.length_nil]; omega) (kLoadStr Y Y Y (by simp only [List.length_cons, List.length_nil]; omega) rfl (fun b9 hb9 => (Kx Y Y (kS2b Y om (Kx Y Y (kLitG Y Y Y Y (Ks Y Y ?_))))))))))) (Kz (ok_spec_l1Below _ _) ⟨⟨rfl, _, rfl, rfl⟩, rfl, trivial⟩ Y Y Y (fun _ => rfl) (fun x10 hx10 => (kLitG Y Y Y Y (kIadStr Y Y Y Y (by simp only [List.length_cons, List.length_nil]; omega) (kLoadStr Y Y Y (by simp only [List.length_cons, List.length_nil]; omega) rfl (fun b11 hb11 => (Kx Y Y (kS2b Y om (Kx Y Y (kLitG Y Y Y Y (Ks Y Y ?_)))))))))))))))) (fun g6 => Kt ?_)))))))))))))))))))))) (fun g2 => Kn (Kbc (Ke Y Y Y (Ko Y Y Y Y (Kd (Kr (Er (ra := [.agg [(.d _)]]) rfl ?_))))))))))))))))))))))
  · have h6 := nameOk_len hx0
    refine kAppR1 (z := ([] : List UInt8)) rfl rfl rfl rfl rfl rfl rfl rfl om ?_
    refine (Kf Y Y (Ko Y Y Y Y (Kd (Kv (Kbc (Ke Y Y Y (Ko Y Y Y Y (Kd (Kr (Er (ra := [.agg [(.d _)]]) rfl ?_))))))))))
    exact ⟨(_, x3.2), bent_app hx0 (by decide), rfl, rfl⟩
  · have h6 := nameOk_len hx0
    refine kAppR1 (z := ([81] : List UInt8)) rfl rfl rfl rfl rfl rfl rfl rfl om ?_
    refine Kf Y Y (Ko Y Y Y Y (Kd (Kv (Kbc (Ke Y Y Y (Ko Y Y Y Y (Kd (Kr (Er (ra := [.agg [(.d _)]]) rfl ?_)))))))))
    exact ⟨(_, x3.2), bent_app hx0 (by decide), rfl, rfl⟩
  · have h6 := nameOk_len hx0
    refine kAppR1 (z := b9.toList) Y Y Y Y Y Y Y Y om ?_
    refine Kf Y Y (Ks Y Y (Ko Y Y Y Y (Kd (kH (Kv (Kbc (Ke Y Y Y (Ko Y Y Y Y (Kd (Kr (Er (ra := [.agg [(.d _)]]) rfl ?_)))))))))))
    exact ⟨(_, x8.2), bent_app hx0 (by rw [bt_len]; exact hb9), rfl, rfl⟩
  · have h6 := nameOk_len hx0
    refine kAppR1 (z := b11.toList) Y Y Y Y Y Y Y Y om ?_
    refine Kf Y Y (Ks Y Y (Ko Y Y Y Y (Kd (kH (Kv (Kbc (Ke Y Y Y (Ko Y Y Y Y (Kd (Kr (Er (ra := [.agg [(.d _)]]) rfl ?_)))))))))))
    exact ⟨(_, x10.2), bent_app hx0 (by rw [bt_len]; exact hb11), rfl, rfl⟩
  · refine kLoop (α := { L : List (List UInt8) // L.length ≤ 7 ∧ ∀ b ∈ L, b.length ≤ 64 }) (fun y => ⟨tabSl [(2, .c (.ptr (rid 2 0) 1 0)), (3, .c (.ptr (rid 3 0) 1 0))], obTab 1 [(0, ⟨0, 0, .box (x3.2.cells.map .d)⟩), (rid 2 0, ⟨1, 0, .box [.nil 1]⟩), (rid 3 0, ⟨1, 0, .box [.arr (rid 5 0) 1]⟩), (rid 5 0, ⟨1, 0, .arr false (encBB y.1)⟩)], []⟩) (fun y => 7 - y.1.length) ⟨x0.1, bent_ok hx0⟩ .normA ?_
    rintro ⟨L, h7, hL⟩
    simp only
    rcases Nat.lt_or_ge L.length 7 with hlt | hge
    · refine Kb (Kbc (Kf Y Y (Ke Y Y Y (Kq Y Y (Kj Y Y Y (Kd (Km Y (fun g0 => Kn (Kt (Kc (Kf Y Y (Ke Y Y Y (kLitG Y Y Y Y (kS2sB (y := 122) (ys := []) Y Y Y (kLitG Y Y Y Y (kAppR1 Y Y Y Y Y Y Y Y prl (Kf Y Y (Ko Y Y Y Y (Kd (Kv ?_))))))))))))) (fun g0 => om))))))))
      refine kInv ⟨⟨L ++ [[122]], by simp; omega, fun b hb => ?_⟩, by simp; omega, .normA⟩
      rcases List.mem_append.1 hb with hb | hb
      · exact hL b hb
      · simp only [List.mem_singleton] at hb; subst hb; decide
    · refine Kb (Kbc (Kf Y Y (Ke Y Y Y (Kq Y Y (Kj Y Y Y (Kd (Km Y (fun g0 => om) (fun g0 => kExit (kExC (kExI (kExB (Kv (Kbc (Ke Y Y Y (Ko Y Y Y Y (Kd (Kr (Er (ra := [.agg [(.d _)]]) rfl ?_))))))))))))))))))
      exact ⟨(L, x3.2), ⟨h7, hL⟩, rfl, rfl⟩
  · exact ⟨(x0.1, x1.2), bent_ok hx0, rfl, rfl⟩

def c_spec_l3bent : C := (.g (.o 0 2 (.alloc 2 [(.n 1), (.i 0), (.i 0), (.i 0), (.n 1), (.n 1), (.n 1)]) .done) (.g (.o 0 4 (.mov (.t 0)) (.o 1 5 (.call 5 199 [(.t 4)]) (.o 2 3 (.alloc 3 [(.n 1), (.i 0), (.i 0), (.i 0), (.n 1), (.n 1), (.n 1)]) (.op 3 [] none none false (.store (some 7) (.t 3) (.t 5)) .done)))) (.seq (.g (.o 0 6 (.mov (.t 0)) (.o 1 7 (.call 7 68 [(.t 6), (.i 7)]) .done)) (.cond (.t 7) (.g (.o 0 8 (.mov (.t 0)) (.o 1 9 (.call 9 117 [(.t 8), (.i 7)]) .done)) (.block 0 (.g (.o 0 18 (.bin .eql (.t 9) (.i 0)) (.o 1 17 (.mov (.t 18)) .done)) (.cond (.t 17) (.reg false (.o 0 19 (.mov (.t 0)) (.o 1 20 (.call 20 126 [(.t 19)]) (.o 2 21 (.fad (.t 3) 0) (.op 3 [] none none false (.store (some 1) (.t 21) (.t 20)) .done))))) (.g (.o 0 23 (.bin .eql (.t 9) (.i 1)) (.o 1 22 (.mov (.t 23)) .done)) (.cond (.t 22) (.reg false (.o 0 24 (.mov (.t 0)) (.o 1 25 (.lit 25 1 [(.i 0)] 7 [(0, 1, (.i 0)), (1, 1, (.i 3)), (2, 1, (.i 28)), (3, 1, (.i 255)), (4, 1, (.i (-1))), (5, 1, (.i 1)), (6, 1, (.i 5))]) (.o 2 26 (.call 26 118 [(.t 24), (.t 25)]) (.o 3 27 (.fad (.t 3) 1) (.op 4 [] none none false (.store none (.t 27) (.t 26)) .done)))))) (.g (.o 0 29 (.bin .eql (.t 9) (.i 2)) (.o 1 28 (.mov (.t 29)) .done)) (.cond (.t 28) (.reg false (.o 0 30 (.mov (.t 0)) (.o 1 31 (.lit 31 1 [(.i 0)] 2 [(0, 1, (.i (-1))), (1, 1, (.i 100001))]) (.o 2 32 (.call 32 118 [(.t 30), (.t 31)]) (.o 3 33 (.fad (.t 3) 2) (.op 4 [] none none false (.store none (.t 33) (.t 32)) .done)))))) (.g (.o 0 35 (.bin .eql (.t 9) (.i 3)) (.o 1 34 (.mov (.t 35)) .done)) (.cond (.t 34) (.reg false (.o 0 36 (.mov (.t 0)) (.o 1 37 (.lit 37 1 [(.i 0)] 3 [(0, 1, (.i (-1))), (1, 1, (.i 4294967296)), (2, 1, (.i 7))]) (.o 2 38 (.call 38 118 [(.t 36), (.t 37)]) (.o 3 39 (.fad (.t 3) 3) (.op 4 [] none none false (.store none (.t 39) (.t 38)) .done)))))) (.g (.o 0 41 (.bin .eql (.t 9) (.i 4)) (.o 1 40 (.mov (.t 41)) .done)) (.cond (.t 40) (.reg false (.o 0 42 (.mov (.t 0)) (.o 1 43 (.call 43 126 [(.t 42)]) (.o 2 44 (.fad (.t 3) 4) (.op 3 [] none none false (.store (some 1) (.t 44) (.t 43)) .done))))) (.g (.o 0 46 (.bin .eql (.t 9) (.i 5)) (.o 1 45 (.mov (.t 46)) .done)) (.cond (.t 45) (.reg false (.o 0 47 (.mov (.t 0)) (.o 1 48 (.call 48 117 [(.t 47), (.i 2)]) (.o 2 49 (.bin .add (.i 40) (.t 48)) (.o 3 50 (.mk 50 1 [(.v (.int .u8 0))] 1 (.t 49)) (.o 4 51 (.fad (.t 3) 5) (.op 5 [] none none false (.store none (.t 51) (.t 50)) .done))))))) (.reg true (.op 0 [] (some 10) none true (.fad (.t 3) 6) (.op 1 [] (some 11) none true (.load none (.t 10)) (.op 2 [] (some 12) none true (.mov (.t 0)) (.o 3 13 (.call 13 117 [(.t 12), (.i 5)]) (.o 4 14 (.lit 14 1 [(.i 0)] 1 [(0, 1, (.t 13))]) (.op 5 [1] (some 15) none false (.app 15 1 8 (.t 11) (.t 14)) (.op 6 [] (some 16) none true (.fad (.t 3) 6) (.op 7 [1] none none false (.store none (.t 16) (.t 15)) .done))))))))))))))))))))))) .skip)) (.g (.o 0 52 (.load (some 7) (.t 3)) (.op 1 [] none none false (.store (some 7) (.t 2) (.t 52)) .done)) .ret))))
theorem dg_spec_l3bent : Tryz.f148.body.bind (digC Tryz.prog Tryz.f148.ntmps []) = some c_spec_l3bent := by kernel_rfl
theorem rs_spec_l3bent : resSlots Tryz.prog Tryz.f148 = some [.m 2 (some 7)] := by kernel_rfl
theorem ok_spec_l3bent (c : Cu) :
    FnOK Tryz.prog 148 [.one (.box c.cells)] (fun ra os => ∃ x : Rr × Cu, (SmallR x.1) ∧ ra = [.agg [.d (encBB x.1.name), .d (.sc (.int .i64 x.1.ty)), .d (.sc (.int .i64 x.1.ttl)), .d (.sc (.int .i64 x.1.addr)), .d (encBB x.1.to), .d (encB x.1.text), .d (encI x.1.nums)]] ∧ os.b 0 = x.2.cells) := by
  refine FnOK.ofK Tryz.func148 (by kernel_rfl) dg_spec_l3bent rs_spec_l3bent rfl rfl ?_
  delta c_spec_l3bent T.o X.i C.g
  refine Kbc (kAlloc Y Y (Kdb (Kc (Ka Y (Kz (ok_spec_l3draw _) ⟨⟨rfl, _, rfl, rfl⟩, trivial⟩ Y Y Y (fun _ => rfl) (fun x0 hx0 => (kAlloc Y Y (Ko Y Y Y Y (Kdb (Kbc (Ka Y (Kz (ok_spec_l1Once _ _) ⟨⟨rfl, _, rfl, rfl⟩, rfl, trivial⟩ Y Y Y (fun _ => rfl) (fun x1 hx1 => (Kd (kCond Y (fun g2 => Kbc (Ka Y (Kz (ok_spec_l1Below _ _) ⟨⟨rfl, _, rfl, rfl⟩, rfl, trivial⟩ Y Y Y (fun _ => rfl) (fun x3 hx3 => (Kd (Kt (Kbc (Kj Y Y Y (Ka Y (Kd (Km Y (fun g4 => Kc (Ka Y (Kz (ok_spec_l2bent _) ⟨⟨rfl, _, rfl, rfl⟩, trivial⟩ Y Y Y (fun _ => rfl) (fun x5 hx5 => (Kf Y Y (Ko Y Y Y Y (Kd (Kv (Kbc (Ke Y Y Y (Ko Y Y Y Y (Kd (Kr (Er (ra := [.agg [(.d _), (.d _), (.d _), (.d _), (.d _), (.d _), (.d _)]]) rfl ?_)))))))))))))) (fun g4 => Kbc (Kj Y Y Y (Ka Y (Kd (Km Y (fun g6 => Kc (Ka Y (kLitD Y Y Y Y (Kz (ok_spec_l1PickInt _ _ pry pry pry) ⟨⟨rfl, _, rfl, rfl⟩, rfl, trivial⟩ Y Y Y (fun _ => rfl) (fun x7 hx7 => (Kf Y Y (Ko Y Y Y Y (Kd (Kv (Kbc (Ke Y Y Y (Ko Y Y Y Y (Kd (Kr (Er (ra := [.agg [(.d _), (.d _), (.d _), (.d _), (.d _), (.d _), (.d _)]]) rfl ?_))))))))))))))) (fun g6 => Kbc (Kj Y Y Y (Ka Y (Kd (Km Y (fun g8 => Kc (Ka Y (kLitD Y Y Y Y (Kz (ok_spec_l1PickInt _ _ pry pry pry) ⟨⟨rfl, _, rfl, rfl⟩, rfl, trivial⟩ Y Y Y (fun _ => rfl) (fun x9 hx9 => (Kf Y Y (Ko Y Y Y Y (Kd (Kv (Kbc (Ke Y Y Y (Ko Y Y Y Y (Kd (Kr (Er (ra := [.agg [(.d _), (.d _), (.d _), (.d _), (.d _), (.d _), (.d _)]]) rfl ?_))))))))))))))) (fun g8 => Kbc (Kj Y Y Y (Ka Y (Kd (Km Y (fun g10 => Kc (kMem [(0, ⟨0, 3, .box [.d _, .d _, .d _]⟩), (16384, ⟨1, 0, .box [.arr 24576 1, .d _, .d _, .d _, .arr 24580 1, .arr 24581 1, .arr 24582 1]⟩), (24576, ⟨1, 0, .arr true _⟩), (24580, ⟨1, 0, .arr true _⟩), (24581, ⟨1, 0, .arr true _⟩), (24582, ⟨1, 0, .arr true _⟩)] [(0, .c (.ptr 0 0 0)), (36, .c (.un)), (37, .c (.un)), (3, .c (.ptr 16384 1 0)), (39, .c (.un)), (38, .c (.un))] [] ⟨Y, Y, Y, Y, Y, Y, trivial⟩ ⟨Y, Y, Y, Y, Y, Y, trivial⟩ Y (Ka Y (kLitD Y Y Y Y (Kz (ok_spec_l1PickInt _ _ pry pry pry) ⟨⟨rfl, _, rfl, rfl⟩, rfl, trivial⟩ Y Y Y (fun _ => rfl) (fun x11 hx11 => (Kf Y Y (Ko Y Y Y Y (Kd (Kv (Kbc (Ke Y Y Y (kMem [(12288, ⟨1, 0, .box [.nil 1, .d _, .d _, .d _, .nil 1, .nil 1, .nil 1]⟩), (24576, ⟨1, 0, .arr true _⟩), (24580, ⟨1, 0, .arr true _⟩), (24581, ⟨1, 0, .arr true _⟩), (24582, ⟨1, 0, .arr true _⟩)] [(2, .c (.ptr 12288 1 0)), (52, .g [.arr 24576 1, .d _, .d _, .d _, .arr 24580 1, .arr 24581 1, .arr 24582 1])] [] ⟨Y, Y, Y, Y, Y, trivial⟩ ⟨Y, Y, trivial⟩ Y (Ko Y Y Y Y (Kd (kMem [(12288, ⟨1, 0, .box [.arr 24576 1, .d _, .d _, .d _, .arr 24580 1, .arr 24581 1, .arr 24582 1]⟩), (24576, ⟨1, 0, .arr true _⟩), (24580, ⟨1, 0, .arr true _⟩), (24581, ⟨1, 0, .arr true _⟩), (24582, ⟨1, 0, .arr true _⟩)] [(2, .c (.ptr 12288 1 0))] [] ⟨Y, Y, Y, Y, Y, trivial⟩ ⟨Y, trivial⟩ Y (Kr (Er (ra := [.agg [(.d _), (.d _), (.d _), (.d _), (.d _), (.d _), (.d _)]]) rfl ?_)))))))))))))))))) (fun g10 => Kbc (Kj Y Y Y (Ka Y (Kd (Km Y (fun g12 => Kc (Ka Y (Kz (ok_spec_l2bent _) ⟨⟨rfl, _, rfl, rfl⟩, trivial⟩ Y Y Y (fun _ => rfl) (fun x13 hx13 => (Kf Y Y (Ko Y Y Y Y (Kd (Kv (Kbc (Ke Y Y Y (kMem [(12288, ⟨1, 0, .box [.nil 1, .d _, .d _, .d _, .nil 1, .nil 1, .nil 1]⟩), (24576, ⟨1, 0, .arr true _⟩), (24581, ⟨1, 0, .arr true _⟩), (24582, ⟨1, 0, .arr true _⟩)] [(2, .c (.ptr 12288 1 0)), (52, .g [.arr 24576 1, .d _, .d _, .d _, .d _, .arr 24581 1, .arr 24582 1])] [] ⟨Y, Y, Y, Y, trivial⟩ ⟨Y, Y, trivial⟩ Y (Ko Y Y Y Y (Kd (Kr (Er (ra := [.agg [(.d _), (.d _), (.d _), (.d _), (.d _), (.d _), (.d _)]]) rfl ?_))))))))))))))) (fun g12 => Kbc (Kj Y Y Y (Ka Y (Kd (Km Y (fun g14 => Kc (Ka Y (Kz (ok_spec_l1Below _ _) ⟨⟨rfl, _, rfl, rfl⟩, rfl, trivial⟩ Y Y Y (fun _ => rfl) (fun x15 hx15 => (kAdd Y Y om ?_))))) (fun g14 => kRegD (Kf Y Y (Ke Y Y Y (Ka Y (Kz (ok_spec_l1Below _ _) ⟨⟨rfl, _, rfl, rfl⟩, rfl, trivial⟩ Y Y Y (fun _ => rfl) (fun x16 hx16 => (kLitG Y Y Y Y (Ks Y Y ?_)))))))))))))))))))))))))))))))))))))))))))) (fun g2 => Kn (Kbc (Ke Y Y Y (Ko Y Y Y Y (Kd (Kr (Er (ra := [.agg [(.d _), (.d _), (.d _), (.d _), (.d _), (.d _), (.d _)]]) rfl ?_))))))))))))))))))))))
  · exact ⟨({ x0.1 with name := x5.1 }, x5.2), ⟨.bent hx5, (rrOk_small hx0).t, (rrOk_small hx0).x, (rrOk_small hx0).m⟩, rfl, rfl⟩
  · exact ⟨({ x0.1 with ty := x7.1 }, x7.2), ⟨(rrOk_small hx0).n, (rrOk_small hx0).t, (rrOk_small hx0).x, (rrOk_small hx0).m⟩, rfl, rfl⟩
  · exact ⟨({ x0.1 with ttl := x9.1 }, x9.2), ⟨(rrOk_small hx0).n, (rrOk_small hx0).t, (rrOk_small hx0).x, (rrOk_small hx0).m⟩, rfl, rfl⟩
  · exact ⟨({ x0.1 with addr := x11.1 }, x11.2), ⟨(rrOk_small hx0).n, (rrOk_small hx0).t, (rrOk_small hx0).x, (rrOk_small hx0).m⟩, rfl, rfl⟩
  · exact ⟨({ x0.1 with to := x13.1 }, x13.2), ⟨(rrOk_small hx0).n, .bent hx13, (rrOk_small hx0).x, (rrOk_small hx0).m⟩, rfl, rfl⟩
  · refine kMk Y om rfl rfl rfl rfl rfl ?_
    rw [show DV.sl 1 (List.replicate (Int.toNat (40 + x15.1)) [.sc (.int .u8 0)]) = encB (List.replicate (Int.toNat (40 + x15.1)) 0) by simp [encB]]
    refine Kf Y Y (Ko Y Y Y Y (Kd (Kv (Kbc (Ke Y Y Y (Ko Y Y Y Y (Kd (Kr (Er (ra := [.agg [(.d _), (.d _), (.d _), (.d _), (.d _), (.d _), (.d _)]]) rfl ?_)))))))))
    exact ⟨({ x0.1 with text := List.replicate (Int.toNat (40 + x15.1)) 0 }, x15.2), ⟨(rrOk_small hx0).n, (rrOk_small hx0).t, show (List.replicate (Int.toNat (40 + x15.1)) (0 : UInt8)).length ≤ 4194304 from by rw [List.length_replicate]; omega, (rrOk_small hx0).m⟩, rfl, rfl⟩
  · have hm := (rrOk_lens hx0).1
    refine kAppR1 (z := x16.1) Y Y Y Y Y Y Y Y om ?_
    refine Kf Y Y (Ks Y Y (Ko Y Y Y Y (Kd (kH (Kv (Kbc (Ke Y Y Y (Ko Y Y Y Y (Kd (kMem [(12288, ⟨1, 0, .box [.arr 24576 1, .d _, .d _, .d _, .arr 24580 1, .arr 24581 1, .arr 24582 2]⟩), (24576, ⟨1, 0, .arr true _⟩), (24580, ⟨1, 0, .arr true _⟩), (24581, ⟨1, 0, .arr true _⟩), (24582, ⟨2, 0, .arr true _⟩)] [(2, .c (.ptr 12288 1 0))] [] ⟨Y, Y, Y, Y, Y, trivial⟩ ⟨Y, trivial⟩ Y (Kr (Er (ra := [.agg [(.d _), (.d _), (.d _), (.d _), (.d _), (.d _), (.d _)]]) rfl ?_))))))))))))
    exact ⟨({ x0.1 with nums := x0.1.nums ++ [x16.1] }, x16.2), ⟨(rrOk_small hx0).n, (rrOk_small hx0).t, (rrOk_small hx0).x, show (x0.1.nums ++ [x16.1]).length ≤ 4194304 from by rw [List.length_append]; simp; omega⟩, rfl, rfl⟩
  · exact ⟨(x0.1, x1.2), (rrOk_small hx0), rfl, rfl⟩

end Go.Proofs.YtmdmlncdjdphdaaGreat.FnOwnersFn
