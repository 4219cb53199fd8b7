/- What the functions that FnNameWire reaches compute, one contract each; each with the bounds that it states. -/
import Derived.Test.YtmdmlncdjdphdaaDoorHearth4
import Derived.Test.YtmdmlncdjdphdaaDoorProg
import Derived.KernelRfl
set_option maxRecDepth 100000
set_option maxHeartbeats 8000000
set_option linter.unusedVariables false
set_option linter.unusedSimpArgs false
namespace Go.Proofs.YtmdmlncdjdphdaaDoor.FnNameWireFn
open Go Hearth Go.Proofs

def c_spec_l1New : C := (.g (.o 0 2 (.mov (.v (.pointer none))) .done) (.g (.o 0 5 (.mov (.t 0)) (.o 1 6 (.len (.t 5)) (.o 2 7 (.bin .add (.i 42222) (.t 6)) (.o 3 3 (.mov (.t 7)) .done)))) (.seq (.g (.o 0 4 (.mov (.i 0)) .done) (.block 0 (.loop (.seq (.g (.o 0 8 (.mov (.t 4)) (.o 1 9 (.mov (.t 0)) (.o 2 10 (.len (.t 9)) (.o 3 11 (.bin .lss (.t 8) (.t 10)) (.o 4 12 (.mov (.t 11)) (.op 5 [] (some 13) (some (12, true)) false (.mov (.t 4)) (.op 6 [] (some 14) (some (12, true)) false (.bin .lss (.t 13) (.i 4000)) (.o 7 15 (.pick (.t 12) (.t 14) (.v (.bool false))) .done)))))))) (.cond (.t 15) .skip (.exit 0))) (.seq (.block 1 (.reg false (.o 0 18 (.mov (.t 3)) (.o 1 19 (.bin .mul (.t 18) (.i 131)) (.o 2 20 (.mov (.t 0)) (.o 3 21 (.mov (.t 4)) (.o 4 22 (.iad 1 (.t 20) (.t 21)) (.o 5 23 (.load none (.t 22)) (.o 6 24 (.conv .i64 (.t 23)) (.o 7 25 (.bin .add (.t 19) (.t 24)) (.o 8 26 (.bin .add (.t 25) (.i 7)) (.o 9 27 (.bin .and (.t 26) (.i 1073741823)) (.o 10 3 (.mov (.t 27)) .done))))))))))))) (.reg false (.o 0 16 (.mov (.t 4)) (.o 1 17 (.bin .add (.t 16) (.i 1)) (.o 2 4 (.mov (.t 17)) .done))))))))) (.g (.o 0 28 (.mov (.t 0)) (.o 1 29 (.mov (.t 3)) (.o 2 30 (.build [(.n 1), (.i 0), (.i 0)] [(0, 1, (.t 28)), (2, 1, (.t 29))]) (.o 3 31 (.box 31 (.t 30)) (.o 4 2 (.mov (.t 31)) .done))))) .ret))))
theorem dg_spec_l1New : Tryd.f17.body.bind (digC Tryd.prog Tryd.f17.ntmps []) = some c_spec_l1New := by kernel_rfl
theorem rs_spec_l1New : resSlots Tryd.prog Tryd.f17 = some [.s 2] := by kernel_rfl
theorem ok_spec_l1New (code : List UInt8) (hb : (code.length : Int) ≤ 9223372036854775807) :
    FnOK Tryd.prog 17 [.one (.d (encB code))] (fun ra _ => ∃ c : Cu, True ∧ ra = [.one (.box c.cells)]) := by
  refine FnOK.ofK Tryd.func17 (by kernel_rfl) dg_spec_l1New rs_spec_l1New rfl rfl ?_
  delta c_spec_l1New T.o X.i C.g
  refine Kbc (Ka Y (Kdb (Kc (Ka Y (Kq Y Y (Kj Y Y Y (Ka Y (Kdb (Kbc (Ka Y (Kd (Kt ?_))))))))))))
  refine kLoop (α := { i : Nat // i ≤ code.length } × Int) (fun y => ⟨tabSl [(0, .dv (encB code)), (3, .i y.2), (4, .i y.1.1)], obTab 1 [], []⟩) (fun y => code.length - y.1.1) (⟨0, by simp⟩, _) .normA ?_
  rintro ⟨⟨i, hi⟩, h⟩
  simp only
  rcases Nat.lt_or_ge i code.length with hlt | hge
  · refine Kb (Kbc (Ka Y (Ka Y (Kq Y Y (Kj Y Y Y (Ka Y (kGP Y (fun g0 => Ki Y (Ka Y (Ki Y (Kj Y Y Y (Kk Y (Ka Y (Kd (Km Y (fun g1 => Kn (Kb (Kt (Kc (Ka Y (Kj Y Y Y (Ka Y (Ka Y (kIadR Y Y Y om (Ky Y Y (kConv Y (Kj Y Y Y (Kj Y Y Y (Kj Y Y Y (Ka Y (Kd (Kv (Kc (Ka Y (kAdd Y Y om (Ka Y (Kd ?_)))))))))))))))))))))) (fun g1 => kExit (kExC (kExI (kExB (Kbc (Ka Y (Ka Y (kBuildG Y (kBox Y Y Y Y Y (Ka Y (Kd (Kr (Er (ra := [.one (.box [_, _, _])]) rfl ?_))))))))))))))))))))) (fun g0 => om))))))))
    · exact kInv ⟨(⟨i + 1, by omega⟩, _), by simp only; omega, .normA⟩
    · exact ⟨⟨code, 0, h, by omega, by omega, hb⟩, trivial, rfl⟩
  · refine Kb (Kbc (Ka Y (Ka Y (Kq Y Y (Kj Y Y Y (Ka Y (kGP Y (fun g0 => om) (fun g0 => Kg Y (Kg Y (Kl Y (Ka Y (Kd (kCondF Y (kExit (kExC (kExI (kExB (Kbc (Ka Y (Ka Y (kBuildG Y (kBox Y Y Y Y Y (Ka Y (Kd (Kr (Er (ra := [.one (.box [_, _, _])]) rfl ?_))))))))))))))))))))))))))
    exact ⟨⟨code, 0, h, by omega, by omega, hb⟩, trivial, rfl⟩

def c_spec_l1Byte : C := (.g (.o 0 2 (.mov (.i 0)) .done) (.g (.o 0 4 (.mov (.t 0)) (.o 1 5 (.mov (.t 0)) (.o 2 6 (.nck (.t 5)) (.o 3 7 (.fad (.t 6) 2) (.o 4 8 (.load none (.t 7)) (.o 5 9 (.bin .mul (.t 8) (.i 6364136223846793005)) (.o 6 10 (.bin .add (.t 9) (.i 1442695040888963407)) (.o 7 11 (.nck (.t 4)) (.o 8 12 (.fad (.t 11) 2) (.op 9 [] none none false (.store none (.t 12) (.t 10)) .done)))))))))) (.seq (.reg true (.op 0 [] (some 13) none true (.mov (.t 0)) (.op 1 [] (some 14) none true (.nck (.t 13)) (.op 2 [] (some 15) none true (.fad (.t 14) 2) (.op 3 [] (some 16) none true (.load none (.t 15)) (.op 4 [] (some 17) none true (.bin .shr (.t 16) (.v (.int .u64 33))) (.op 5 [] (some 18) none true (.mov (.t 0)) (.op 6 [] (some 19) none true (.nck (.t 18)) (.op 7 [] (some 20) none true (.fad (.t 19) 2) (.op 8 [] (some 21) none true (.load none (.t 20)) (.op 9 [] (some 22) none true (.bin .shr (.t 21) (.v (.int .u64 45))) (.op 10 [] (some 23) none true (.bin .xor (.t 17) (.t 22)) (.op 11 [] (some 24) none true (.bin .and (.t 23) (.i 255)) (.op 12 [] (some 3) none true (.mov (.t 24)) .done)))))))))))))) (.seq (.seq (.reg true (.op 0 [] (some 25) none true (.mov (.t 0)) (.op 1 [] (some 26) none true (.nck (.t 25)) (.op 2 [] (some 27) none true (.fad (.t 26) 1) (.op 3 [] (some 28) none true (.load none (.t 27)) (.op 4 [] (some 29) none true (.mov (.t 0)) (.op 5 [] (some 30) none true (.nck (.t 29)) (.op 6 [] (some 31) none true (.fad (.t 30) 0) (.op 7 [] (some 32) none true (.load none (.t 31)) (.op 8 [] (some 33) none true (.len (.t 32)) (.op 9 [] (some 34) none true (.bin .lss (.t 28) (.t 33)) .done))))))))))) (.cond (.t 34) (.seq (.reg true (.op 0 [] (some 35) none true (.mov (.t 3)) (.op 1 [] (some 36) none true (.mov (.t 0)) (.op 2 [] (some 37) none true (.nck (.t 36)) (.op 3 [] (some 38) none true (.fad (.t 37) 0) (.op 4 [] (some 39) none true (.load none (.t 38)) (.op 5 [] (some 40) none true (.mov (.t 0)) (.op 6 [] (some 41) none true (.nck (.t 40)) (.op 7 [] (some 42) none true (.fad (.t 41) 1) (.op 8 [] (some 43) none true (.load none (.t 42)) (.op 9 [] (some 44) none true (.iad 1 (.t 39) (.t 43)) (.op 10 [] (some 45) none true (.load none (.t 44)) (.op 11 [] (some 46) none true (.conv .i64 (.t 45)) (.op 12 [] (some 47) none true (.bin .add (.t 35) (.t 46)) (.op 13 [] (some 48) none true (.bin .and (.t 47) (.i 255)) (.op 14 [] (some 3) none true (.mov (.t 48)) .done)))))))))))))))) (.reg false (.o 0 49 (.mov (.t 0)) (.o 1 50 (.mov (.t 0)) (.o 2 51 (.nck (.t 50)) (.o 3 52 (.fad (.t 51) 1) (.o 4 53 (.load none (.t 52)) (.o 5 54 (.bin .add (.t 53) (.i 1)) (.o 6 55 (.nck (.t 49)) (.o 7 56 (.fad (.t 55) 1) (.op 8 [] none none false (.store none (.t 56) (.t 54)) .done))))))))))) .skip)) (.g (.o 0 57 (.mov (.t 3)) (.o 1 2 (.mov (.t 57)) .done)) .ret)))))
theorem dg_spec_l1Byte : Tryd.f43.body.bind (digC Tryd.prog Tryd.f43.ntmps []) = some c_spec_l1Byte := by kernel_rfl
theorem rs_spec_l1Byte : resSlots Tryd.prog Tryd.f43 = some [.s 2] := by kernel_rfl
theorem ok_spec_l1Byte (c : Cu) :
    FnOK Tryd.prog 43 [.one (.box c.cells)] (fun ra os => ∃ x : Int × Cu, (0 ≤ x.1 ∧ x.1 ≤ 255) ∧ ra = [.one (.d (.sc (.int .i64 x.1)))] ∧ os.b 0 = x.2.cells) := by
  refine FnOK.ofK Tryd.func43 (by kernel_rfl) dg_spec_l1Byte rs_spec_l1Byte rfl rfl ?_
  delta c_spec_l1Byte T.o X.i C.g
  have c0 := c.i0
  have c1 := c.i1
  have c2 := c.b
  refine Kbc (Ka Y (Kdb (Kc (Ka Y (Ka Y (kNck Y Y (Kf Y Y (Ke Y Y Y (Kj Y Y Y (Kj Y Y Y (kNck Y Y (Kf Y Y (Ko Y Y Y Y (Kdb (kRegD (Ka Y (kNck Y Y (Kf Y Y (Ke Y Y Y (kShr (m := 33) Y Y Y (Ka Y (kNck Y Y (Kf Y Y (Ke Y Y Y (kShr (m := 45) Y Y Y (Kj Y Y Y (Kj Y Y Y (Ka Y (Kd (kH (Kb (Kb (kRegD (Ka Y (kNck Y Y (Kf Y Y (Ke Y Y Y (Ka Y (kNck Y Y (Kf Y Y (Ke Y Y Y (Kq Y Y (Kj Y Y Y (Kd (kH (Km Y (fun g0 => Kb (kRegD (Ka Y (Ka Y (kNck Y Y (Kf Y Y (Ke Y Y Y (Ka Y (kNck Y Y (Kf Y Y (Ke Y Y Y (kIadT Y Y om (Ky Y Y (kConv Y (Kj Y Y Y (Kj Y Y Y (Ka Y (Kd (kH (Kc (Ka Y (Ka Y (kNck Y Y (Kf Y Y (Ke Y Y Y (kAdd Y Y om (kNck Y Y (Kf Y Y (Ko Y Y Y Y (Kdb (Kc (Ka Y (Ka Y (Kd (Kr (Er (ra := [.one (.d _)]) rfl ?_)))))))))))))))))))))))))))))))))))) (fun g0 => Kn (Kbc (Ka Y (Ka Y (Kd (Kr (Er (ra := [.one (.d _)]) rfl ?_)))))))))))))))))))))))))))))))))))))))))))))))))))))
  · refine ⟨(IntKind.i64.wrap ((_ &&& BitVec.ofInt 64 255).toNat : Int), ⟨c.code, c.i + 1, IntKind.i64.wrap _, by omega, by omega, c.b⟩), and255 _, rfl, rfl⟩
  · refine ⟨(IntKind.i64.wrap ((_ &&& BitVec.ofInt 64 255).toNat : Int), ⟨c.code, c.i, IntKind.i64.wrap _, c.i0, c.i1, c.b⟩), and255 _, rfl, rfl⟩

def c_spec_l1Below : C := (.g (.o 0 4 (.mov (.i 0)) .done) (.seq (.g (.o 0 9 (.mov (.t 1)) (.o 1 10 (.bin .leq (.t 9) (.i 0)) .done)) (.cond (.t 10) (.g (.o 0 4 (.mov (.i 0)) .done) .ret) .skip)) (.seq (.g (.o 0 11 (.mov (.t 1)) (.o 1 12 (.bin .leq (.t 11) (.i 256)) .done)) (.cond (.t 12) (.g (.o 0 13 (.mov (.t 0)) (.o 1 14 (.call 14 43 [(.t 13)]) (.o 2 15 (.mov (.t 1)) (.o 3 16 (.bin .rem (.t 14) (.t 15)) (.o 4 4 (.mov (.t 16)) .done))))) .ret) .skip)) (.g (.o 0 17 (.mov (.t 0)) (.o 1 18 (.call 18 43 [(.t 17)]) (.o 2 5 (.mov (.t 18)) .done))) (.g (.o 0 19 (.mov (.t 0)) (.o 1 20 (.call 20 43 [(.t 19)]) (.o 2 6 (.mov (.t 20)) .done))) (.g (.o 0 21 (.mov (.t 0)) (.o 1 22 (.call 22 43 [(.t 21)]) (.o 2 7 (.mov (.t 22)) .done))) (.g (.o 0 23 (.mov (.t 0)) (.o 1 24 (.call 24 43 [(.t 23)]) (.o 2 8 (.mov (.t 24)) .done))) (.g (.o 0 25 (.mov (.t 5)) (.o 1 26 (.bin .mul (.t 25) (.i 16777216)) (.o 2 27 (.mov (.t 6)) (.o 3 28 (.bin .mul (.t 27) (.i 65536)) (.o 4 29 (.bin .add (.t 26) (.t 28)) (.o 5 30 (.mov (.t 7)) (.o 6 31 (.bin .mul (.t 30) (.i 256)) (.o 7 32 (.bin .add (.t 29) (.t 31)) (.o 8 33 (.mov (.t 8)) (.o 9 34 (.bin .add (.t 32) (.t 33)) (.o 10 35 (.mov (.t 1)) (.o 11 36 (.bin .rem (.t 34) (.t 35)) (.o 12 4 (.mov (.t 36)) .done))))))))))))) .ret))))))))
theorem dg_spec_l1Below : Tryd.f42.body.bind (digC Tryd.prog Tryd.f42.ntmps []) = some c_spec_l1Below := by kernel_rfl
theorem rs_spec_l1Below : resSlots Tryd.prog Tryd.f42 = some [.s 4] := by kernel_rfl
theorem ok_spec_l1Below (c : Cu) (n : Int) :
    FnOK Tryd.prog 42 [.one (.box c.cells), .one (.d (.sc (.int .i64 n)))] (fun ra os => ∃ x : Int × Cu, (0 ≤ x.1 ∧ (x.1 < n ∨ x.1 = 0)) ∧ ra = [.one (.d (.sc (.int .i64 x.1)))] ∧ os.b 0 = x.2.cells) := by
  refine FnOK.ofK Tryd.func42 (by kernel_rfl) dg_spec_l1Below rs_spec_l1Below rfl rfl ?_
  delta c_spec_l1Below T.o X.i C.g
  refine Kbc (Ka Y (Kdb (Kbc (Ka Y (Kj Y Y Y (Kd (Km Y (fun g0 => Kbc (Ka Y (Kd (Kr (Er (ra := [.one (.d _)]) rfl ?_))))) (fun g0 => Kn (Kb (Kbc (Ka Y (Kj Y Y Y (Kd (Km Y (fun g1 => Kbc (Ka Y (Kz (ok_spec_l1Byte _) ⟨⟨rfl, _, rfl, rfl⟩, trivial⟩ Y Y Y (fun _ => rfl) (fun x2 hx2 => (Ka Y (kRem Y Y om (Ka Y (Kd (Kr (Er (ra := [.one (.d _)]) rfl ?_)))))))))) (fun g1 => Kn (Kbc (Ka Y (Kz (ok_spec_l1Byte _) ⟨⟨rfl, _, rfl, rfl⟩, trivial⟩ Y Y Y (fun _ => rfl) (fun x3 hx3 => (Ka Y (Kdb (Kc (Ka Y (Kz (ok_spec_l1Byte _) ⟨⟨rfl, _, rfl, rfl⟩, trivial⟩ Y Y Y (fun _ => rfl) (fun x4 hx4 => (Ka Y (Kdb (Kc (Ka Y (Kz (ok_spec_l1Byte _) ⟨⟨rfl, _, rfl, rfl⟩, trivial⟩ Y Y Y (fun _ => rfl) (fun x5 hx5 => (Ka Y (Kdb (Kc (Ka Y (Kz (ok_spec_l1Byte _) ⟨⟨rfl, _, rfl, rfl⟩, trivial⟩ Y Y Y (fun _ => rfl) (fun x6 hx6 => (Ka Y (Kdb (Kc (Ka Y (kMul Y Y om (Ka Y (kMul Y Y om (kAdd Y Y om (Ka Y (kMul Y Y om (kAdd Y Y om (Ka Y (kAdd Y Y om (Ka Y (kRem Y Y om (Ka Y (Kd (Kr (Er (ra := [.one (.d _)]) rfl ?_))))))))))))))))))))))))))))))))))))))))))))))))))))))))
  · exact ⟨(0, c), ⟨Int.le_refl _, .inr rfl⟩, rfl, rfl⟩
  · have := tmod_in (a := x2.1) (n := n) hx2.1 (by omega)
    exact ⟨(x2.1.tmod n, x2.2), ⟨this.1, .inl this.2⟩, rfl, rfl⟩
  · have := tmod_in (a := x3.1 * 16777216 + x4.1 * 65536 + x5.1 * 256 + x6.1) (n := n) (by omega) (by omega)
    exact ⟨(_, x6.2), ⟨this.1, .inl this.2⟩, rfl, rfl⟩

def c_spec_l1some : C := (.g (.o 0 4 (.mov (.n 1)) .done) (.g (.o 0 5 (.mov (.n 1)) .done) (.g (.o 0 8 (.mov (.t 0)) (.o 1 9 (.mov (.t 1)) (.o 2 10 (.call 10 42 [(.t 8), (.t 9)]) (.o 3 6 (.mov (.t 10)) .done)))) (.seq (.g (.o 0 7 (.mov (.i 0)) .done) (.block 0 (.loop (.seq (.g (.o 0 11 (.mov (.t 7)) (.o 1 12 (.mov (.t 6)) (.o 2 13 (.bin .lss (.t 11) (.t 12)) .done))) (.cond (.t 13) .skip (.exit 0))) (.seq (.block 1 (.reg false (.o 0 16 (.mov (.t 5)) (.o 1 17 (.mov (.t 0)) (.o 2 18 (.call 18 43 [(.t 17)]) (.o 3 19 (.conv .u8 (.t 18)) (.o 4 20 (.lit 20 1 [(.v (.int .u8 0))] 1 [(0, 1, (.t 19))]) (.o 5 21 (.app 21 1 1 (.t 16) (.t 20)) (.o 6 5 (.mov (.t 21)) .done))))))))) (.reg false (.o 0 14 (.mov (.t 7)) (.o 1 15 (.bin .add (.t 14) (.i 1)) (.o 2 7 (.mov (.t 15)) .done))))))))) (.g (.o 0 22 (.mov (.t 5)) (.o 1 4 (.mov (.t 22)) .done)) .ret)))))
theorem dg_spec_l1some : Tryd.f18.body.bind (digC Tryd.prog Tryd.f18.ntmps []) = some c_spec_l1some := by kernel_rfl
theorem rs_spec_l1some : resSlots Tryd.prog Tryd.f18 = some [.s 4] := by kernel_rfl
theorem ok_spec_l1some (c : Cu) (n : Int) (hn : n ≤ 4194304) :
    FnOK Tryd.prog 18 [.one (.box c.cells), .one (.d (.sc (.int .i64 n)))] (fun ra os => ∃ x : List UInt8 × Cu, ((x.1.length : Int) < n ∨ x.1 = []) ∧ ra = [.one (.own true (encB x.1))] ∧ os.b 0 = x.2.cells) := by
  refine FnOK.ofK Tryd.func18 (by kernel_rfl) dg_spec_l1some rs_spec_l1some rfl rfl ?_
  delta c_spec_l1some T.o X.i C.g
  refine Kbc (Ka Y (Kdb (Kc (Ka Y (Kdb (Kc (Ka Y (Ka Y (Kz (ok_spec_l1Below _ _) ⟨⟨rfl, _, rfl, rfl⟩, rfl, trivial⟩ Y Y Y (fun _ => rfl) (fun x0 hx0 => (Ka Y (Kdb (Kbc (Ka Y (Kd (Kt ?_))))))))))))))))
  refine kSub (Sub.nilArr (j := 5) (id := rid 5000 0) (sz := 1) rfl (by decide)) ?_
  refine kLoop (α := { l : List UInt8 // (l.length : Int) ≤ x0.1 } × Cu) (fun y => ⟨tabSl [(0, .c (.ptr 0 0 0)), (5, .c (.arr (rid 5000 0) 1)), (6, .i x0.1), (7, .i y.1.1.length)], obTab 1 [(0, ⟨0, 0, .box (y.2.cells.map .d)⟩), (rid 5000 0, ⟨1, 0, .arr true (encB y.1.1)⟩)], []⟩) (fun y => x0.1.toNat - y.1.1.length) (⟨[], by simp; omega⟩, x0.2) .normA ?_
  rintro ⟨⟨l, hl⟩, c'⟩
  simp only
  rcases Int.lt_or_le (l.length : Int) x0.1 with hlt | hge
  · refine Kb (Kbc (Ka Y (Ka Y (Kj Y Y Y (Kd (Km Y (fun g0 => Kn (Kb (Kt (Kc (Ka Y (Ka Y (Kz (ok_spec_l1Byte _) ⟨⟨rfl, _, rfl, rfl⟩, trivial⟩ Y Y Y (fun _ => rfl) (fun x1 hx1 => (kConvU8 Y (kLit Y Y Y Y (kAppR1 Y Y Y Y Y Y Y Y om (Ka Y (Kd (Kv (Kc (Ka Y (kAdd Y Y om (Ka Y (Kd ?_))))))))))))))))))) (fun g0 => om)))))))
    refine kInv ⟨(⟨l ++ [u8 x1.1], by simp; omega⟩, x1.2), by simp; omega, .norm ?_ ?_⟩
    · refine ⟨⟨_, rfl, rfl, rfl, rfl⟩, ⟨_, rfl, rfl, rfl, rfl⟩, ⟨_, rfl, .inl rfl⟩, ⟨_, rfl, .inl ?_⟩, trivial⟩
      simp
    · repeat' first | exact trivial | exact rfl | exact .inl rfl | refine ⟨_, rfl, ?_⟩ | refine ⟨?_, ?_⟩ | fail
  · refine Kb (Kbc (Ka Y (Ka Y (Kj Y Y Y (Kd (Km Y (fun g0 => om) (fun g0 => kExit (kExC (kExI (kExB (Kbc (Ka Y (Ka Y (Kd (Kr (Er (ra := [.one (.own true _)]) rfl ?_))))))))))))))))
    exact ⟨(l, c'), by rcases hx0.2 with h | h; exact .inl (by simp only; omega); exact .inr (show l = [] from List.eq_nil_of_length_eq_zero (by omega)), rfl, rfl⟩

def c_spec_Lower : C := (.g (.o 0 2 (.mov (.n 1)) .done) (.g (.o 0 5 (.lit 5 1 [(.v (.int .u8 0))] 0 []) (.o 1 6 (.mov (.t 0)) (.o 2 7 (.app 7 1 1 (.t 5) (.t 6)) (.o 3 3 (.mov (.t 7)) .done)))) (.seq (.g (.o 0 4 (.mov (.i 0)) .done) (.block 0 (.loop (.seq (.g (.o 0 8 (.mov (.t 4)) (.o 1 9 (.mov (.t 3)) (.o 2 10 (.len (.t 9)) (.o 3 11 (.bin .lss (.t 8) (.t 10)) .done)))) (.cond (.t 11) .skip (.exit 0))) (.seq (.block 1 (.g (.o 0 14 (.mov (.t 3)) (.o 1 15 (.mov (.t 4)) (.o 2 16 (.iad 1 (.t 14) (.t 15)) (.o 3 17 (.load none (.t 16)) (.o 4 18 (.bin .geq (.t 17) (.v (.int .u8 65))) (.o 5 19 (.mov (.t 18)) (.op 6 [] (some 20) (some (19, true)) false (.mov (.t 3)) (.op 7 [] (some 21) (some (19, true)) false (.mov (.t 4)) (.op 8 [] (some 22) (some (19, true)) false (.iad 1 (.t 20) (.t 21)) (.op 9 [] (some 23) (some (19, true)) false (.load none (.t 22)) (.op 10 [] (some 24) (some (19, true)) false (.bin .leq (.t 23) (.v (.int .u8 90))) (.o 11 25 (.pick (.t 19) (.t 24) (.v (.bool false))) .done)))))))))))) (.cond (.t 25) (.reg false (.o 0 26 (.mov (.t 3)) (.o 1 27 (.mov (.t 4)) (.o 2 28 (.mov (.t 3)) (.o 3 29 (.mov (.t 4)) (.o 4 30 (.iad 1 (.t 28) (.t 29)) (.o 5 31 (.load none (.t 30)) (.o 6 32 (.bin .add (.t 31) (.v (.int .u8 32))) (.o 7 33 (.iad 1 (.t 26) (.t 27)) (.op 8 [] none none false (.store none (.t 33) (.t 32)) .done)))))))))) .skip))) (.reg false (.o 0 12 (.mov (.t 4)) (.o 1 13 (.bin .add (.t 12) (.i 1)) (.o 2 4 (.mov (.t 13)) .done))))))))) (.g (.o 0 34 (.mov (.t 3)) (.o 1 2 (.mov (.t 34)) .done)) .ret))))
theorem dg_spec_Lower : Tryd.f61.body.bind (digC Tryd.prog Tryd.f61.ntmps []) = some c_spec_Lower := by kernel_rfl
theorem rs_spec_Lower : resSlots Tryd.prog Tryd.f61 = some [.s 2] := by kernel_rfl
theorem ok_spec_Lower (b : List UInt8) (hb : b.length ≤ 4194304) :
    FnOK Tryd.prog 61 [.one (.d (encB b))] (fun ra _ => ra = [.one (.own true (encB (lowerB b)))]) := by
  refine FnOK.ofK Tryd.func61 (by kernel_rfl) dg_spec_Lower rs_spec_Lower rfl rfl ?_
  delta c_spec_Lower T.o X.i C.g
  refine Kbc (Ka Y (Kdb (Kc (kLit Y Y Y Y (Ka Y (kAppN Y Y Y (src_encB _ _) rfl rfl rfl rfl om (Ka Y (Kdb (Kbc (Ka Y (Kd (Kt ?_))))))))))))
  refine kLoop (α := { i : Nat // i ≤ b.length }) (fun y => ⟨tabSl [(3, .c (.arr (rid 5 0) 1)), (4, .i y.1)], obTab 1 [(rid 5 0, ⟨1, 0, .arr true (encB (lowerB (b.take y.1) ++ b.drop y.1))⟩)], []⟩) (fun y => b.length - y.1) ⟨0, by simp⟩ .normA ?_
  rintro ⟨i, hi⟩
  simp only
  have hlen : (lowerB (b.take i) ++ b.drop i).length = b.length := by simp [lowerB]; omega
  rcases Nat.lt_or_ge i b.length with hlt | hge
  · have hget : (lowerB (b.take i) ++ b.drop i)[i]? = some b[i] := by
      rw [List.getElem?_append_right (by simp [lowerB]; omega)]; simp [lowerB, Nat.min_eq_left hi]
    have hst : ∀ c, c = lowC b[i] → (lowerB (b.take i) ++ b.drop i).set i c = lowerB (b.take (i + 1)) ++ b.drop (i + 1) := by
      rintro c rfl
      rw [take_set_succ _ _ _ _ hlt (by simp [lowerB]; omega)]
      unfold lowerB
      rw [← List.take_append_getElem hlt, List.map_append]
      rfl
    revert hget hst hlen
    generalize lowerB (b.take i) ++ b.drop i = L
    intro hlen hget hst
    have hiL : i < L.length := by omega
    have hg : L[i] = b[i] := by rw [List.getElem?_eq_getElem hiL] at hget; simpa using hget
    have hw : IntKind.u8.wrap (((L[i]).toNat : Int) + 32) = ((L[i] + 32 : UInt8).toNat : Int) := by
      have := (L[i]).toNat_lt
      simp [IntKind.wrap, IntKind.bits, IntKind.signed, UInt8.toNat_add]
    have hno : (¬ ((L[i]).toNat : Int) ≥ 65 ∨ ¬ ((L[i]).toNat : Int) ≤ 90) → L = lowerB (b.take (i + 1)) ++ b.drop (i + 1) := by
      intro h
      rw [← hst L[i] (by
        rw [hg] at h ⊢
        unfold lowC
        rw [if_neg]
        rintro ⟨h1, h2⟩
        have h1 := UInt8.le_iff_toNat_le.1 h1
        have h2 := UInt8.le_iff_toNat_le.1 h2
        simp at h1 h2
        omega)]
      simp
    refine Kb (Kbc (Ka Y (Ka Y (Kq Y Y (Kj Y Y Y (Kd (Km Y (fun g0 => Kn (Kb (Kt (Kbc (Ka Y (Ka Y (kIadAR Y Y Y Y om (kLoadER Y Y om rfl (Kj Y Y Y (Ka Y (kGP Y (fun g1 => (Ki Y (Ka Y (Ki Y (Ka Y (Ki Y (kIadAR Y Y Y Y om (Ki Y (kLoadER Y Y om rfl (Ki Y (Kj Y Y Y (Kk Y (Ka Y (Kd (Km Y (fun g2 => Kc (Ka Y (Ka Y (Ka Y (Ka Y (kIadAR Y Y Y Y om (kLoadER Y Y om rfl (Kj Y Y Y (kIadAR Y Y Y Y om ?_))))))))) (fun g2 => Kn (Kv (Kc (Ka Y (kAdd Y Y om (Ka Y (Kd ?_)))))))))))))))))))))) (fun g1 => (Kg Y (Kg Y (Kg Y (Kg Y (Kg Y (Kl Y (Ka Y (Kd (kCondF Y (Kn (Kv (Kc (Ka Y (kAdd Y Y om (Ka Y (Kd ?_)))))))))))))))))))))))))))) (fun g0 => om))))))))
    · refine kStoreER (z := L[i] + 32) Y Y Y Y Y Y Y hiL (by rw [← hw]; rfl) ?_
      refine Kd (Kv (Kc (Ka Y (kAdd Y Y om (Ka Y (Kd ?_))))))
      refine kInv ⟨⟨i + 1, by omega⟩, by simp only; omega, ?_⟩
      simp only
      rw [← hst (L[i] + 32) (by
        rw [hg] at *
        unfold lowC
        rw [if_pos]
        simp only [UInt8.le_iff_toNat_le]
        exact ⟨by simp; omega, by simp; omega⟩)]
      exact .normA
    all_goals
      refine kInv ⟨⟨i + 1, by omega⟩, by simp only; omega, ?_⟩
      simp only
      rw [← hno (by omega)]
      exact .normA
  · refine Kb (Kbc (Ka Y (Ka Y (Kq Y Y (Kj Y Y Y (Kd (Km Y (fun g0 => om) (fun g0 => kExit (kExC (kExI (kExB (Kbc (Ka Y (Ka Y (Kd (Kr (Er (ra := [.one (.own true _)]) rfl ?_)))))))))))))))))
    rw [show i = b.length by omega]
    simp

def c_spec_LabelOk : C := (.g (.o 0 2 (.mov (.v (.bool false))) .done) (.seq (.g (.o 0 4 (.mov (.t 0)) (.o 1 5 (.len (.t 4)) (.o 2 6 (.bin .lss (.t 5) (.i 1)) (.o 3 7 (.mov (.t 6)) (.op 4 [] (some 8) (some (7, false)) false (.mov (.t 0)) (.op 5 [] (some 9) (some (7, false)) false (.len (.t 8)) (.op 6 [] (some 10) (some (7, false)) false (.bin .gtr (.t 9) (.i 15)) (.o 7 11 (.pick (.t 7) (.v (.bool true)) (.t 10)) .done)))))))) (.cond (.t 11) (.g (.o 0 2 (.mov (.v (.bool false))) .done) .ret) .skip)) (.seq (.g (.o 0 3 (.mov (.i 0)) .done) (.block 0 (.loop (.seq (.g (.o 0 12 (.mov (.t 3)) (.o 1 13 (.mov (.t 0)) (.o 2 14 (.len (.t 13)) (.o 3 15 (.bin .lss (.t 12) (.t 14)) .done)))) (.cond (.t 15) .skip (.exit 0))) (.seq (.block 1 (.g (.o 0 18 (.mov (.t 0)) (.o 1 19 (.mov (.t 3)) (.o 2 20 (.iad 1 (.t 18) (.t 19)) (.o 3 21 (.load none (.t 20)) (.o 4 22 (.bin .geq (.t 21) (.v (.int .u8 97))) (.o 5 23 (.mov (.t 22)) (.op 6 [] (some 24) (some (23, true)) false (.mov (.t 0)) (.op 7 [] (some 25) (some (23, true)) false (.mov (.t 3)) (.op 8 [] (some 26) (some (23, true)) false (.iad 1 (.t 24) (.t 25)) (.op 9 [] (some 27) (some (23, true)) false (.load none (.t 26)) (.op 10 [] (some 28) (some (23, true)) false (.bin .leq (.t 27) (.v (.int .u8 122))) (.o 11 29 (.pick (.t 23) (.t 28) (.v (.bool false))) (.o 12 30 (.un .not (.t 29)) (.o 13 31 (.mov (.t 30)) (.op 14 [] (some 32) (some (31, true)) false (.mov (.t 0)) (.op 15 [] (some 33) (some (31, true)) false (.mov (.t 3)) (.op 16 [] (some 34) (some (31, true)) false (.iad 1 (.t 32) (.t 33)) (.op 17 [] (some 35) (some (31, true)) false (.load none (.t 34)) (.op 18 [] (some 36) (some (31, true)) false (.bin .geq (.t 35) (.v (.int .u8 48))) (.op 19 [] (some 37) (some (31, true)) false (.mov (.t 36)) (.op 20 [] (some 38) (some (37, true)) false (.mov (.t 0)) (.op 21 [] (some 39) (some (37, true)) false (.mov (.t 3)) (.op 22 [] (some 40) (some (37, true)) false (.iad 1 (.t 38) (.t 39)) (.op 23 [] (some 41) (some (37, true)) false (.load none (.t 40)) (.op 24 [] (some 42) (some (37, true)) false (.bin .leq (.t 41) (.v (.int .u8 57))) (.op 25 [] (some 43) (some (31, true)) false (.pick (.t 37) (.t 42) (.v (.bool false))) (.op 26 [] (some 44) (some (31, true)) false (.un .not (.t 43)) (.o 27 45 (.pick (.t 31) (.t 44) (.v (.bool false))) (.o 28 46 (.mov (.t 45)) (.op 29 [] (some 47) (some (46, true)) false (.mov (.t 0)) (.op 30 [] (some 48) (some (46, true)) false (.mov (.t 3)) (.op 31 [] (some 49) (some (46, true)) false (.iad 1 (.t 47) (.t 48)) (.op 32 [] (some 50) (some (46, true)) false (.load none (.t 49)) (.op 33 [] (some 51) (some (46, true)) false (.bin .neq (.t 50) (.v (.int .u8 45))) (.o 34 52 (.pick (.t 46) (.t 51) (.v (.bool false))) .done))))))))))))))))))))))))))))))))))) (.cond (.t 52) (.g (.o 0 2 (.mov (.v (.bool false))) .done) .ret) .skip))) (.reg false (.o 0 16 (.mov (.t 3)) (.o 1 17 (.bin .add (.t 16) (.i 1)) (.o 2 3 (.mov (.t 17)) .done))))))))) (.g (.o 0 2 (.mov (.v (.bool true))) .done) .ret))))
theorem dg_spec_LabelOk : Tryd.f22.body.bind (digC Tryd.prog Tryd.f22.ntmps []) = some c_spec_LabelOk := by kernel_rfl
theorem rs_spec_LabelOk : resSlots Tryd.prog Tryd.f22 = some [.s 2] := by kernel_rfl
theorem ok_spec_LabelOk (b : List UInt8) (hb : b.length ≤ 4194304) :
    FnOK Tryd.prog 22 [.one (.d (encB b))] (fun ra _ => ra = [.one (.d (.sc (.bool (labelOk b))))]) := by
  refine FnOK.ofK Tryd.func22 (by kernel_rfl) dg_spec_LabelOk rs_spec_LabelOk rfl rfl ?_
  delta c_spec_LabelOk T.o X.i C.g
  refine Kbc (Ka Y (Kdb (Kbc (Ka Y (Kq Y Y (Kj Y Y Y (Ka Y (kGP Y (fun g0 => Kg Y (Kg Y (Kg Y (Kk Y (Ka Y (Kd (kCondT Y (Kbc (Ka Y (Kd (Kr (Er (ra := [.one (.d _)]) rfl ?_)))))))))))) (fun g0 => Ki Y (Ka Y (Ki Y (Kq Y Y (Ki Y (Kj Y Y Y (Kl Y (Ka Y (Kd (Km Y (fun g1 => Kbc (Ka Y (Kd (Kr (Er (ra := [.one (.d _)]) rfl ?_))))) (fun g1 => Kn (Kb (Kbc (Ka Y (Kd (Kt ?_))))))))))))))))))))))))
  · rw [show labelOk b = false by simp only [labelOk]; rw [decide_eq_false (by omega)]; rfl]
  · rw [show labelOk b = false by simp only [labelOk]; rw [decide_eq_false (p := b.length ≤ 15) (by omega)]; simp]
  refine kLoop (α := { i : Nat // i ≤ b.length ∧ (b.take i).all okLetter = true })
    (fun y => ⟨tabSl [(0, .dv (encB b)), (3, .i y.1)], (St.init [.one (.d (encB b))]).ob, []⟩) (fun y => b.length - y.1) ⟨0, by simp⟩
    (.tab rfl ⟨.refl _, .refl _, trivial⟩) ?_
  rintro ⟨i, hi, hl⟩
  simp only
  refine Kb (Kbc (Ka Y (Ka Y (Kq Y Y (Kj Y Y Y (Kd (Km Y (fun g0 => Kn (Kb (Kt (Kbc (Ka Y (Ka Y (kIadR Y Y Y om (Ky Y Y (Kj Y Y Y (Ka Y (kGP Y (fun g1 => Ki Y (Ka Y (Ki Y (Ka Y (Ki Y (kIadR Y Y Y om (Ki Y (Ky Y Y (Ki Y (Kj Y Y Y (Kk Y (Ka Y (Kw Y Y (Ka Y (kGN Y (fun g2 => Ki Y (Ka Y (Ki Y (Ka Y (Ki Y (kIadR Y Y Y om (Ki Y (Ky Y Y (Ki Y (Kj Y Y Y (Ki Y (Ka Y (kGP Y (fun g3 => Ki Y (Ka Y (Ki Y (Ka Y (Ki Y (kIadR Y Y Y om (Ki Y (Ky Y Y (Ki Y (Kj Y Y Y (Ki Y (Kk Y (Ka Y (Ki Y (Kw Y Y (Kk Y (Ka Y (Ka Y (kGN Y (fun g4 => Ki Y (Ka Y (Ki Y (Ka Y (Ki Y (kIadR Y Y Y om (Ki Y (Ky Y Y (Ki Y (Kj Y Y Y (Kk Y (Ka Y (Kd (kCondN Y (fun g5 => Kbc (Ka Y (Kd (Kr (Er (ra := [.one (.d _)]) rfl ?_))))) (fun g5 => Kn (Kv (Kc (Ka Y (kAdd Y Y om (Ka Y (Kd ?_))))))))))))))))))))) (fun g4 => Kg Y (Kg Y (Kg Y (Kg Y (Kg Y (Kl Y (Ka Y (Kd (kCondF Y (Kn (Kv (Kc (Ka Y (kAdd Y Y om (Ka Y (Kd ?_))))))))))))))))))))))))))))))))))) (fun g3 => om)))))))))))))) (fun g2 => Kg Y (Kg Y (Kg Y (Kg Y (Kg Y (Kg Y (kGU Y (kGU Y (kGU Y (kGU Y (kGU Y (Kg Y (Kg Y (Kl Y (Ka Y (Ka Y (Kg Y (Kg Y (Kg Y (Kg Y (Kg Y (Kl Y (Ka Y (Kd (kCondF Y (Kn (Kv (Kc (Ka Y (kAdd Y Y om (Ka Y (Kd ?_))))))))))))))))))))))))))))))))))))))))))))))) (fun g1 => Kg Y (Kg Y (Kg Y (Kg Y (Kg Y (Kl Y (Ka Y (Kw Y Y (Ka Y (Ki Y (Ka Y (Ki Y (Ka Y (Ki Y (kIadR Y Y Y om (Ki Y (Ky Y Y (Ki Y (Kj Y Y Y (Ki Y (Ka Y (kGP Y (fun g6 => Ki Y (Ka Y (Ki Y (Ka Y (Ki Y (kIadR Y Y Y om (Ki Y (Ky Y Y (Ki Y (Kj Y Y Y (Ki Y (Kk Y (Ka Y (Ki Y (Kw Y Y (Kk Y (Ka Y (Ka Y (kGN Y (fun g7 => Ki Y (Ka Y (Ki Y (Ka Y (Ki Y (kIadR Y Y Y om (Ki Y (Ky Y Y (Ki Y (Kj Y Y Y (Kk Y (Ka Y (Kd (kCondN Y (fun g8 => Kbc (Ka Y (Kd (Kr (Er (ra := [.one (.d _)]) rfl ?_))))) (fun g8 => Kn (Kv (Kc (Ka Y (kAdd Y Y om (Ka Y (Kd ?_))))))))))))))))))))) (fun g7 => Kg Y (Kg Y (Kg Y (Kg Y (Kg Y (Kl Y (Ka Y (Kd (kCondF Y (Kn (Kv (Kc (Ka Y (kAdd Y Y om (Ka Y (Kd ?_))))))))))))))))))))))))))))))))))) (fun g6 => Kg Y (Kg Y (Kg Y (Kg Y (Kg Y (Ki Y (Kl Y (Ka Y (Ki Y (Kw Y Y (Kk Y (Ka Y (Ka Y (Ki Y (Ka Y (Ki Y (Ka Y (Ki Y (kIadR Y Y Y om (Ki Y (Ky Y Y (Ki Y (Kj Y Y Y (Kk Y (Ka Y (Kd (kCondN Y (fun g9 => Kbc (Ka Y (Kd (Kr (Er (ra := [.one (.d _)]) rfl ?_))))) (fun g9 => Kn (Kv (Kc (Ka Y (kAdd Y Y om (Ka Y (Kd ?_))))))))))))))))))))))))))))))))))))))))))))))))))))))))))))))))))) (fun g0 => kExit (kExC (kExI (kExB (Kbc (Ka Y (Kd (Kr (Er (ra := [.one (.d _)]) rfl ?_))))))))))))))))
  all_goals try simp only [decide_eq_true_eq, decide_eq_false_iff_not, beq_iff_eq, beq_eq_false_iff_ne] at *
  all_goals first
    | exact kInv ⟨⟨i + 1, by omega, labelOk_step (by omega) hl (by rw [okLetter_iff]; omega)⟩, by simp only; omega, .tab rfl ⟨.refl _, .refl _, trivial⟩⟩
    | rw [labelOk_no (b := b) (i := i) (by omega) (by rw [okLetter_iff]; omega)]
    | skip
  have hge : i = b.length := by omega
  subst hge
  rw [List.take_length] at hl
  rw [show labelOk b = true by simp only [labelOk]; rw [decide_eq_true (by omega), decide_eq_true (by omega), hl]; rfl]

def c_spec_NameOk : C := (.g (.o 0 1 (.box 1 (.t 0)) (.o 1 2 (.mov (.v (.bool false))) .done)) (.seq (.g (.o 0 4 (.fad (.t 1) 0) (.o 1 5 (.load none (.t 4)) (.o 2 6 (.len (.t 5)) (.o 3 7 (.bin .gtr (.t 6) (.i 6)) .done)))) (.cond (.t 7) (.g (.o 0 2 (.mov (.v (.bool false))) .done) .ret) .skip)) (.seq (.g (.o 0 3 (.mov (.i 0)) .done) (.block 0 (.loop (.seq (.g (.o 0 8 (.mov (.t 3)) (.o 1 9 (.fad (.t 1) 0) (.o 2 10 (.load none (.t 9)) (.o 3 11 (.len (.t 10)) (.o 4 12 (.bin .lss (.t 8) (.t 11)) .done))))) (.cond (.t 12) .skip (.exit 0))) (.seq (.block 1 (.g (.o 0 15 (.fad (.t 1) 0) (.o 1 16 (.load none (.t 15)) (.o 2 17 (.mov (.t 3)) (.o 3 18 (.iad 1 (.t 16) (.t 17)) (.o 4 19 (.load none (.t 18)) (.o 5 20 (.call 20 22 [(.t 19)]) (.o 6 21 (.un .not (.t 20)) .done))))))) (.cond (.t 21) (.g (.o 0 2 (.mov (.v (.bool false))) .done) .ret) .skip))) (.reg false (.o 0 13 (.mov (.t 3)) (.o 1 14 (.bin .add (.t 13) (.i 1)) (.o 2 3 (.mov (.t 14)) .done))))))))) (.g (.o 0 2 (.mov (.v (.bool true))) .done) .ret))))
theorem dg_spec_NameOk : Tryd.f7.body.bind (digC Tryd.prog Tryd.f7.ntmps []) = some c_spec_NameOk := by kernel_rfl
theorem rs_spec_NameOk : resSlots Tryd.prog Tryd.f7 = some [.s 2] := by kernel_rfl
theorem ok_spec_NameOk (a : List (List UInt8)) (ha : a.length ≤ 4194304) (hb : ∀ b ∈ a, b.length ≤ 4194304) :
    FnOK Tryd.prog 7 [.agg [.d (encBB a)]] (fun ra _ => ra = [.one (.d (.sc (.bool (nameOk a))))]) := by
  refine FnOK.ofK Tryd.func7 (by kernel_rfl) dg_spec_NameOk rs_spec_NameOk rfl rfl ?_
  delta c_spec_NameOk T.o X.i C.g
  refine Kbc (kBox Y Y Y Y Y (Ka Y (Kdb (Kbc (Kf Y Y (Ke Y Y Y (Kq Y Y (Kj Y Y Y (Kd (Km Y (fun g0 => Kbc (Ka Y (Kd (Kr (Er (ra := [.one (.d _)]) rfl ?_))))) (fun g0 => Kn (Kb (Kbc (Ka Y (Kd (Kt ?_))))))))))))))))
  · rw [show nameOk a = false by simp only [nameOk]; rw [decide_eq_false (by omega)]; rfl]
  refine kLoop (α := { i : Nat // i ≤ a.length ∧ (a.take i).all labelOk = true })
    (fun y => ⟨tabSl [(1, .c (.ptr (rid 1 0) 1 0)), (3, .i y.1)], obTab 1 [(rid 1 0, ⟨1, 0, .box [.d (encBB a)]⟩)], []⟩) (fun y => a.length - y.1) ⟨0, by simp⟩
    .normA ?_
  rintro ⟨i, hi, hl⟩
  simp only
  refine Kb (Kbc (Ka Y (Kf Y Y (Ke Y Y Y (Kq Y Y (Kj Y Y Y (Kd (Km Y (fun g0 => Kn (Kb (Kt (Kbc (Kf Y Y (Ke Y Y Y (Ka Y (kIadR Y Y Y om (Ky Y Y (Kp (ok_spec_LabelOk _ (by first | assumption | omega | solve_by_elim [List.getElem_mem])) ⟨Y, trivial⟩ Y Y Y Y Y (Kw Y Y (Kd (kCondN Y (fun g1 => Kbc (Ka Y (Kd (Kr (Er (ra := [.one (.d _)]) rfl ?_))))) (fun g1 => Kn (Kv (Kc (Ka Y (kAdd Y Y om (Ka Y (Kd ?_)))))))))))))))))))) (fun g0 => kExit (kExC (kExI (kExB (Kbc (Ka Y (Kd (Kr (Er (ra := [.one (.d _)]) rfl ?_)))))))))))))))))
  · rename_i h
    rw [show nameOk a = false by simp only [nameOk]; rw [all_no (i := i) (by omega) (by assumption), Bool.and_false]]
  · exact kInv ⟨⟨i + 1, by omega, all_step om hl (by assumption)⟩, by simp only; omega, .normA⟩
  · have hge : i = a.length := by omega
    subst hge
    rw [List.take_length] at hl
    rw [show nameOk a = true by simp only [nameOk]; rw [decide_eq_true (by omega), hl]; rfl]

def c_spec_NameRead : C := (.g (.o 0 2 (.alloc 2 [(.n 1)]) (.o 1 3 (.mov (.v (.bool false))) .done)) (.seq (.g (.o 0 7 (.mov (.t 0)) (.o 1 8 (.b2s (.t 7)) (.o 2 9 (.bin .eql (.t 8) (.v (.string ⟨#[46]⟩))) .done))) (.cond (.t 9) (.g (.o 0 10 (.build [(.n 1)] []) (.op 1 [] none none false (.store (some 1) (.t 2) (.t 10)) (.o 2 3 (.mov (.v (.bool true))) .done))) .ret) .skip)) (.g (.o 0 4 (.alloc 4 [(.n 1)]) .done) (.g (.o 0 5 (.mov (.n 1)) .done) (.seq (.g (.o 0 6 (.mov (.i 0)) .done) (.block 0 (.loop (.seq (.g (.o 0 11 (.mov (.t 6)) (.o 1 12 (.mov (.t 0)) (.o 2 13 (.len (.t 12)) (.o 3 14 (.bin .leq (.t 11) (.t 13)) .done)))) (.cond (.t 14) .skip (.exit 0))) (.seq (.block 1 (.seq (.g (.o 0 17 (.mov (.t 6)) (.o 1 18 (.mov (.t 0)) (.o 2 19 (.len (.t 18)) (.o 3 20 (.bin .lss (.t 17) (.t 19)) (.o 4 21 (.mov (.t 20)) (.op 5 [] (some 22) (some (21, true)) false (.mov (.t 0)) (.op 6 [] (some 23) (some (21, true)) false (.mov (.t 6)) (.op 7 [] (some 24) (some (21, true)) false (.iad 1 (.t 22) (.t 23)) (.op 8 [] (some 25) (some (21, true)) false (.load none (.t 24)) (.op 9 [] (some 26) (some (21, true)) false (.bin .neq (.t 25) (.v (.int .u8 46))) (.o 10 27 (.pick (.t 21) (.t 26) (.v (.bool false))) .done))))))))))) (.cond (.t 27) (.g (.o 0 28 (.mov (.t 5)) (.o 1 29 (.mov (.t 0)) (.o 2 30 (.mov (.t 6)) (.o 3 31 (.iad 1 (.t 29) (.t 30)) (.o 4 32 (.load none (.t 31)) (.o 5 33 (.lit 33 1 [(.v (.int .u8 0))] 1 [(0, 1, (.t 32))]) (.o 6 34 (.app 34 1 1 (.t 28) (.t 33)) (.o 7 5 (.mov (.t 34)) .done)))))))) (.exit 1)) .skip)) (.seq (.g (.o 0 35 (.mov (.t 6)) (.o 1 36 (.mov (.t 0)) (.o 2 37 (.len (.t 36)) (.o 3 38 (.bin .eql (.t 35) (.t 37)) (.o 4 39 (.mov (.t 38)) (.op 5 [] (some 40) (some (39, true)) false (.mov (.t 5)) (.op 6 [] (some 41) (some (39, true)) false (.len (.t 40)) (.op 7 [] (some 42) (some (39, true)) false (.bin .eql (.t 41) (.i 0)) (.o 8 43 (.pick (.t 39) (.t 42) (.v (.bool false))) (.o 9 44 (.mov (.t 43)) (.op 10 [] (some 45) (some (44, true)) false (.mov (.t 6)) (.op 11 [] (some 46) (some (44, true)) false (.bin .gtr (.t 45) (.i 0)) (.o 12 47 (.pick (.t 44) (.t 46) (.v (.bool false))) .done))))))))))))) (.cond (.t 47) (.exit 0) .skip)) (.seq (.reg true (.op 0 [] (some 48) none true (.fad (.t 4) 0) (.op 1 [] (some 49) none true (.load none (.t 48)) (.op 2 [] (some 50) none true (.mov (.t 5)) (.o 3 51 (.call 51 61 [(.t 50)]) (.o 4 52 (.lit 52 1 [(.n 1)] 1 [(0, 1, (.t 51))]) (.op 5 [1] (some 53) none false (.app 53 1 24 (.t 49) (.t 52)) (.op 6 [] (some 54) none true (.fad (.t 4) 0) (.op 7 [1] none none false (.store none (.t 54) (.t 53)) .done))))))))) (.reg false (.o 0 5 (.mov (.n 1)) .done)))))) (.reg false (.o 0 15 (.mov (.t 6)) (.o 1 16 (.bin .add (.t 15) (.i 1)) (.o 2 6 (.mov (.t 16)) .done))))))))) (.seq (.g (.o 0 55 (.load (some 1) (.t 4)) (.o 1 56 (.call 56 7 [(.t 55)]) (.o 2 57 (.un .not (.t 56)) .done))) (.cond (.t 57) (.g (.o 0 58 (.build [(.n 1)] []) (.op 1 [] none none false (.store (some 1) (.t 2) (.t 58)) (.o 2 3 (.mov (.v (.bool false))) .done))) .ret) .skip)) (.g (.o 0 59 (.load (some 1) (.t 4)) (.op 1 [] none none false (.store (some 1) (.t 2) (.t 59)) (.o 2 3 (.mov (.v (.bool true))) .done))) .ret)))))))
theorem dg_spec_NameRead : Tryd.f41.body.bind (digC Tryd.prog Tryd.f41.ntmps []) = some c_spec_NameRead := by kernel_rfl
theorem rs_spec_NameRead : resSlots Tryd.prog Tryd.f41 = some [.m 2 (some 1), .s 3] := by kernel_rfl
theorem ok_spec_NameRead (b : List UInt8) (hb : b.length ≤ 4194303) :
    FnOK Tryd.prog 41 [.one (.d (encB b))] (fun ra _ => ra = [.agg [.own true (encBB (readN b))], .one (.d (.sc (.bool (readOk b))))]) := by
  refine FnOK.ofK Tryd.func41 (by kernel_rfl) dg_spec_NameRead rs_spec_NameRead rfl rfl ?_
  delta c_spec_NameRead T.o X.i C.g
  obtain ⟨rl1, rl2⟩ := readL_small hb
  refine Kbc (kAlloc Y Y (Ka Y (Kdb (Kbc (Ka Y (kB2s Y Y (Kj Y Y Y (Kd (kCond Y (fun g0 => Kbc (kBuildG Y (Ko Y Y Y Y (Ka Y (Kd (Kr (Er (ra := [.agg [(.own true _)], .one (.d _)]) rfl ?_))))))) (fun g0 => Kn (Kbc (kAlloc Y Y (Kdb (Kc (Ka Y (Kdb (Kbc (Ka Y (Kd (Kt ?_))))))))))))))))))))
  · rw [eq46] at g0
    have e : b = [46] := of_decide_eq_true g0
    subst e
    rfl
  rw [eq46] at g0
  have hne : b ≠ [46] := of_decide_eq_false g0
  have hrn : readN b = if nameOk (readL b) then readL b else [] := by unfold readN; rw [if_neg hne]
  have hro : readOk b = nameOk (readL b) := by unfold readOk; rw [decide_eq_false hne]; rfl
  rw [hrn, hro]
  refine kSub (Sub.nilBox (id := rid 4 0) (id2 := rid 5001 0) (j := 0) rfl rfl rfl (by decide) (by decide)) ?_
  refine kSub (Sub.nilArr (j := 5) (id := rid 5000 0) (sz := 1) rfl (by decide)) ?_
  refine kLoop (α := { i : Nat // i ≤ b.length + 1 }) (fun y => ⟨tabSl [(0, .dv (encB b)), (2, .c (.ptr (rid 2 0) 1 0)), (4, .c (.ptr (rid 4 0) 1 0)), (5, .c (.arr (rid 5000 0) 1)), (6, .i y.1)], obTab 1 [(rid 2 0, ⟨1, 0, .box [.nil 1]⟩), (rid 4 0, ⟨1, 0, .box [.arr (rid 5001 0) 1]⟩), (rid 5000 0, ⟨1, 0, .arr true (encB (rdW b y.1))⟩), (rid 5001 0, ⟨1, 0, .arr true (encBB (rdL b y.1))⟩)], []⟩) (fun y => b.length + 1 - y.1) ⟨0, by simp⟩ .normA ?_
  rintro ⟨i, hi⟩
  simp only
  have hmem := rdW_mem b i
  rcases Nat.lt_or_ge i b.length with hlt | hge
  · have hlens := rd_lens b i (by omega)
    by_cases hc : b[i] = 46
    · obtain ⟨s1, s2⟩ := rd_dot hlt hc
      have hcn : ((b[i]).toNat : Int) = 46 := by rw [hc]; rfl
      revert s1 s2
      generalize rdL b i = L at *
      generalize rdW b i = W at *
      intro s1 s2
      refine Kb (Kbc (Ka Y (Ka Y (Kq Y Y (Kj Y Y Y (Kd (Km Y (fun g0 => Kn (Kb (Kt (Kb (Kbc (Ka Y (Ka Y (Kq Y Y (Kj Y Y Y (Ka Y (kGP Y (fun g1 => Ki Y (Ka Y (Ki Y (Ka Y (Ki Y (kIadR Y Y Y om (Ki Y (Ky Y Y (Ki Y (Kj Y Y Y (Kk Y (Ka Y (Kd (kCondIN Y (fun g2 => om) (fun g2 => Kn (Kb (Kbc (Ka Y (Ka Y (Kq Y Y (Kj Y Y Y (Ka Y (kGP Y (fun g3 => om) (fun g3 => Kg Y (Kg Y (Kg Y (Kl Y (Ka Y (Ka Y (Kg Y (Kg Y (Kl Y (Ka Y (Kd (kCondF Y (Kn (Kb (kRegD (Kf Y Y (Ke Y Y Y (Ka Y (Ku true (ok_spec_Lower _ pry) ⟨Y, trivial⟩ Y Y Y (fun _ => (kLit Y Y Y Y (Ks Y Y (kAppR1 Y Y Y Y Y Y Y Y om (Kf Y Y (Ks Y Y (Ko Y Y Y Y (Kd (kH (Kc (Ka Y (Kd (Kv (Kc (Ka Y (kAdd Y Y om (Ka Y (Kd ?_)))))))))))))))))))))))))))))))))))))))))))))))))))))))))))) (fun g1 => om)))))))))))) (fun g0 => om))))))))
      refine kInv ⟨⟨i + 1, by omega⟩, by simp only; omega, ?_⟩
      simp only [s1, s2]
      exact (Sub.nilArr (j := 5) (id := rid 5000 0) (sz := 1) rfl (by decide)).trans .normA
    · obtain ⟨s1, s2⟩ := rd_char hlt hc
      have hcn : ((b[i]).toNat : Int) ≠ 46 := fun h => hc (UInt8.toNat_inj.1 (by have : b[i].toNat = 46 := by omega
                                                                                 rw [this]; rfl))
      revert s1 s2
      generalize rdL b i = L at *
      generalize rdW b i = W at *
      intro s1 s2
      refine Kb (Kbc (Ka Y (Ka Y (Kq Y Y (Kj Y Y Y (Kd (Km Y (fun g0 => Kn (Kb (Kt (Kb (Kbc (Ka Y (Ka Y (Kq Y Y (Kj Y Y Y (Ka Y (kGP Y (fun g1 => Ki Y (Ka Y (Ki Y (Ka Y (Ki Y (kIadR Y Y Y om (Ki Y (Ky Y Y (Ki Y (Kj Y Y Y (Kk Y (Ka Y (Kd (kCondIN Y (fun g2 => Kbc (Ka Y (Ka Y (Ka Y (kIadR Y Y Y om (Ky Y Y (kLit Y Y Y Y (kAppR1 Y Y Y Y Y Y Y Y om (Ka Y (Kd (kExit (kExC (kExB (Kc (Ka Y (kAdd Y Y om (Ka Y (Kd ?_)))))))))))))))))) (fun g2 => om))))))))))))))) (fun g1 => om)))))))))))) (fun g0 => om))))))))
      refine kInv ⟨⟨i + 1, by omega⟩, by simp only; omega, ?_⟩
      simp only [s1, s2]
      exact .normA
  · rcases Nat.lt_or_ge b.length i with hgt | hle
    · have e : i = b.length + 1 := by omega
      subst e
      rw [rd_last.1, rd_last.2]
      cases hno : nameOk (readL b)
      · refine Kb (Kbc (Ka Y (Ka Y (Kq Y Y (Kj Y Y Y (Kd (Km Y (fun g0 => om) (fun g0 => kExit (kExC (kExI (kExB (Kb (Kbc (Ke Y Y Y (Kp (ok_spec_NameOk _ pry pry) ⟨⟨⟨Y, trivial⟩, leb⟩, trivial⟩ Y Y Y Y Y (Kw Y Y (Kd (kCondN Y (fun g1 => Kbc (kBuildG Y (Ko Y Y Y Y (Ka Y (Kd (Kr (Er (ra := [.agg [(.own true _)], .one (.d _)]) rfl rfl))))))) (fun g1 => (by (simp [*] at g1)))))))))))))))))))))
      · refine Kb (Kbc (Ka Y (Ka Y (Kq Y Y (Kj Y Y Y (Kd (Km Y (fun g0 => om) (fun g0 => kExit (kExC (kExI (kExB (Kb (Kbc (Ke Y Y Y (Kp (ok_spec_NameOk _ pry pry) ⟨⟨⟨Y, trivial⟩, leb⟩, trivial⟩ Y Y Y Y Y (Kw Y Y (Kd (kCondN Y (fun g1 => (by (simp [*] at g1))) (fun g1 => Kn (Kbc (Ke Y Y Y (Ko Y Y Y Y (Ka Y (Kd (Kr (Er (ra := [.agg [(.own true _)], .one (.d _)]) rfl rfl))))))))))))))))))))))))))
    · have e : i = b.length := by omega
      subst e
      have hlens := rd_lens b b.length (Nat.le_refl _)
      have s1 := (rd_last (b := b)).1
      have s2 := (rd_last (b := b)).2
      by_cases hw : rdW b b.length = [] ∧ 0 < b.length
      · rw [rd_end, if_pos hw] at *
        rw [hw.1]
        obtain ⟨hw1, hw2⟩ := hw
        cases hno : nameOk (rdL b b.length)
        · refine Kb (Kbc (Ka Y (Ka Y (Kq Y Y (Kj Y Y Y (Kd (Km Y (fun g0 => Kn (Kb (Kt (Kb (Kbc (Ka Y (Ka Y (Kq Y Y (Kj Y Y Y (Ka Y (kGP Y (fun g1 => om) (fun g1 => Kg Y (Kg Y (Kg Y (Kg Y (Kg Y (Kl Y (Ka Y (Kd (kCondF Y (Kn (Kb (Kbc (Ka Y (Ka Y (Kq Y Y (Kj Y Y Y (Ka Y (kGP Y (fun g2 => Ki Y (Ka Y (Ki Y (Kq Y Y (Ki Y (Kj Y Y Y (Kk Y (Ka Y (Ka Y (Ki Y (Ka Y (Ki Y (Kj Y Y Y (Kk Y (Ka Y (Kd (Km Y (fun g3 => kExit (kExC (kExB' rfl (kExC (kExI (kExB (Kb (Kbc (Ke Y Y Y (Kp (ok_spec_NameOk _ pry pry) ⟨⟨⟨Y, trivial⟩, leb⟩, trivial⟩ Y Y Y Y Y (Kw Y Y (Kd (kCondN Y (fun g4 => Kbc (kBuildG Y (Ko Y Y Y Y (Ka Y (Kd (Kr (Er (ra := [.agg [(.own true _)], .one (.d _)]) rfl rfl))))))) (fun g4 => (by (simp [*] at g4)))))))))))))))) (fun g3 => om)))))))))))))))))) (fun g2 => om)))))))))))))))))))))))))))))) (fun g0 => om))))))))
        · refine Kb (Kbc (Ka Y (Ka Y (Kq Y Y (Kj Y Y Y (Kd (Km Y (fun g0 => Kn (Kb (Kt (Kb (Kbc (Ka Y (Ka Y (Kq Y Y (Kj Y Y Y (Ka Y (kGP Y (fun g1 => om) (fun g1 => Kg Y (Kg Y (Kg Y (Kg Y (Kg Y (Kl Y (Ka Y (Kd (kCondF Y (Kn (Kb (Kbc (Ka Y (Ka Y (Kq Y Y (Kj Y Y Y (Ka Y (kGP Y (fun g2 => Ki Y (Ka Y (Ki Y (Kq Y Y (Ki Y (Kj Y Y Y (Kk Y (Ka Y (Ka Y (Ki Y (Ka Y (Ki Y (Kj Y Y Y (Kk Y (Ka Y (Kd (Km Y (fun g3 => kExit (kExC (kExB' rfl (kExC (kExI (kExB (Kb (Kbc (Ke Y Y Y (Kp (ok_spec_NameOk _ pry pry) ⟨⟨⟨Y, trivial⟩, leb⟩, trivial⟩ Y Y Y Y Y (Kw Y Y (Kd (kCondN Y (fun g4 => (by (simp [*] at g4))) (fun g4 => Kn (Kbc (Ke Y Y Y (Ko Y Y Y Y (Ka Y (Kd (Kr (Er (ra := [.agg [(.own true _)], .one (.d _)]) rfl rfl))))))))))))))))))))) (fun g3 => om)))))))))))))))))) (fun g2 => om)))))))))))))))))))))))))))))) (fun g0 => om))))))))
      · rw [rd_end, if_neg hw] at *
        have hw' : (rdW b b.length).length ≠ 0 ∨ b.length = 0 := by
          rcases Nat.eq_zero_or_pos b.length with h | h
          · exact .inr h
          · exact .inl fun h0 => hw ⟨List.eq_nil_of_length_eq_zero h0, h⟩
        revert s1 s2
        generalize rdL b b.length = L at *
        generalize rdW b b.length = W at *
        intro s1 s2
        refine Kb (Kbc (Ka Y (Ka Y (Kq Y Y (Kj Y Y Y (Kd (Km Y (fun g0 => Kn (Kb (Kt (Kb (Kbc (Ka Y (Ka Y (Kq Y Y (Kj Y Y Y (Ka Y (kGP Y (fun g1 => om) (fun g1 => Kg Y (Kg Y (Kg Y (Kg Y (Kg Y (Kl Y (Ka Y (Kd (kCondF Y (Kn (Kb (Kbc (Ka Y (Ka Y (Kq Y Y (Kj Y Y Y (Ka Y (kGP Y (fun g2 => Ki Y (Ka Y (Ki Y (Kq Y Y (Ki Y (Kj Y Y Y (Kk Y (Ka Y (Ka Y (kGP Y (fun g3 => Ki Y (Ka Y (Ki Y (Kj Y Y Y (Kk Y (Ka Y (Kd (Km Y (fun g4 => om) (fun g4 => Kn (Kb (kRegD (Kf Y Y (Ke Y Y Y (Ka Y (Ku true (ok_spec_Lower _ pry) ⟨Y, trivial⟩ Y Y Y (fun _ => (kLit Y Y Y Y (Ks Y Y (kAppR1 Y Y Y Y Y Y Y Y om (Kf Y Y (Ks Y Y (Ko Y Y Y Y (Kd (kH (Kc (Ka Y (Kd (Kv (Kc (Ka Y (kAdd Y Y om (Ka Y (Kd ?_))))))))))))))))))))))))))))))))) (fun g3 => Kg Y (Kg Y (Kl Y (Ka Y (Kd (kCondF Y (Kn (Kb (kRegD (Kf Y Y (Ke Y Y Y (Ka Y (Ku true (ok_spec_Lower _ pry) ⟨Y, trivial⟩ Y Y Y (fun _ => (kLit Y Y Y Y (Ks Y Y (kAppR1 Y Y Y Y Y Y Y Y om (Kf Y Y (Ks Y Y (Ko Y Y Y Y (Kd (kH (Kc (Ka Y (Kd (Kv (Kc (Ka Y (kAdd Y Y om (Ka Y (Kd ?_))))))))))))))))))))))))))))))))))))))))) (fun g2 => om)))))))))))))))))))))))))))))) (fun g0 => om))))))))
        all_goals
          refine kInv ⟨⟨b.length + 1, by omega⟩, by simp only; omega, ?_⟩
          simp only [s1, s2]
          exact (Sub.nilArr (j := 5) (id := rid 5000 0) (sz := 1) rfl (by decide)).trans .normA

def c_spec_l2of : C := (.g (.o 0 2 (.alloc 2 [(.n 1)]) .done) (.g (.o 0 6 (.mov (.t 0)) (.o 1 7 (.s2b (.t 6)) (.o 2 8 (.call 8 41 [(.t 7)]) (.o 3 5 (.mov (.t 8)) (.o 4 9 (.ext (.t 5) 0) (.o 5 10 (.ext (.t 5) 1) (.o 6 3 (.alloc 3 [(.n 1)]) (.op 7 [] none none false (.store (some 1) (.t 3) (.t 9)) (.o 8 4 (.mov (.t 10)) .done))))))))) (.g (.o 0 11 (.load (some 1) (.t 3)) (.op 1 [] none none false (.store (some 1) (.t 2) (.t 11)) .done)) .ret)))
theorem dg_spec_l2of : Tryd.f50.body.bind (digC Tryd.prog Tryd.f50.ntmps []) = some c_spec_l2of := by kernel_rfl
theorem rs_spec_l2of : resSlots Tryd.prog Tryd.f50 = some [.m 2 (some 1)] := by kernel_rfl
theorem ok_spec_l2of (b : ByteArray) (hb : b.size ≤ 4194303) :
    FnOK Tryd.prog 50 [.one (.d (.sc (.string b)))] (fun ra _ => ra = [.agg [.own true (encBB (readN b.toList))]]) := by
  refine FnOK.ofK Tryd.func50 (by kernel_rfl) dg_spec_l2of rs_spec_l2of rfl rfl ?_
  delta c_spec_l2of T.o X.i C.g
  have h : b.toList.length ≤ 4194303 := by rw [bt_len]; exact hb
  refine Kbc (kAlloc Y Y (Kdb (Kc (Ka Y (kS2b Y om (Ku true (ok_spec_NameRead _ pry) ⟨Y, trivial⟩ Y Y Y (fun _ => (kMovT Y (kExtC Y Y (kExtC Y Y (kAlloc Y Y (Ko Y Y Y Y (Ka Y (Kdb (Kc (Ke Y Y Y (Ko Y Y Y Y (Kd (Kr (Er (ra := [.agg [(.own true _)]]) rfl rfl))))))))))))))))))))

def c_spec_l2draw : C := (.g (.o 0 2 (.alloc 2 [(.n 1)]) .done) (.g (.o 0 3 (.lit 3 1 [(.v (.string ⟨#[]⟩))] 12 [(0, 1, (.v (.string ⟨#[46]⟩))), (1, 1, (.v (.string ⟨#[104, 111, 109, 101, 46]⟩))), (2, 1, (.v (.string ⟨#[112, 99, 46, 104, 111, 109, 101, 46]⟩))), (3, 1, (.v (.string ⟨#[116, 118, 46, 104, 111, 109, 101, 46]⟩))), (4, 1, (.v (.string ⟨#[97, 46, 112, 99, 46, 104, 111, 109, 101, 46]⟩))), (5, 1, (.v (.string ⟨#[99, 111, 109, 46]⟩))), (6, 1, (.v (.string ⟨#[120, 46, 99, 111, 109, 46]⟩))), (7, 1, (.v (.string ⟨#[119, 119, 119, 46, 120, 46, 99, 111, 109, 46]⟩))), (8, 1, (.v (.string ⟨#[110, 115, 46, 99, 111, 109, 46]⟩))), (9, 1, (.v (.string ⟨#[51, 46, 48, 46, 48, 46, 49, 48, 46, 105, 110, 45, 97, 100, 100, 114, 46, 97, 114, 112, 97, 46]⟩))), (10, 1, (.v (.string ⟨#[115, 117, 98, 46, 104, 111, 109, 101, 46]⟩))), (11, 1, (.v (.string ⟨#[121, 46, 115, 117, 98, 46, 104, 111, 109, 101, 46]⟩)))]) (.o 1 4 (.mov (.t 0)) (.o 2 5 (.call 5 42 [(.t 4), (.i 12)]) (.o 3 6 (.iad 1 (.t 3) (.t 5)) (.o 4 7 (.load none (.t 6)) (.o 5 8 (.call 8 50 [(.t 7)]) (.op 6 [] none none false (.store (some 1) (.t 2) (.t 8)) .done))))))) .ret))
theorem dg_spec_l2draw : Tryd.f31.body.bind (digC Tryd.prog Tryd.f31.ntmps []) = some c_spec_l2draw := by kernel_rfl
theorem rs_spec_l2draw : resSlots Tryd.prog Tryd.f31 = some [.m 2 (some 1)] := by kernel_rfl
theorem ok_spec_l2draw (c : Cu) :
    FnOK Tryd.prog 31 [.one (.box c.cells)] (fun ra os => ∃ x : List (List UInt8) × Cu, (nameOk x.1 = true) ∧ ra = [.agg [.own true (encBB x.1)]] ∧ os.b 0 = x.2.cells) := by
  refine FnOK.ofK Tryd.func31 (by kernel_rfl) dg_spec_l2draw rs_spec_l2draw rfl rfl ?_
  delta c_spec_l2draw T.o X.i C.g
  refine Kbc (kAlloc Y Y (Kdb (Kc (kLitG Y Y Y Y (Ka Y (Kz (ok_spec_l1Below _ _) ⟨⟨rfl, _, rfl, rfl⟩, rfl, trivial⟩ Y Y Y (fun _ => rfl) (fun x0 hx0 => (kIadStr Y Y Y Y (by simp only [List.length_cons, List.length_nil]; omega) (kLoadStr Y Y Y (by simp only [List.length_cons, List.length_nil]; omega) rfl (fun b1 hb1 => (Ku true (ok_spec_l2of _ pry) ⟨Y, trivial⟩ Y Y Y (fun _ => (Ko Y Y Y Y (Kd (Kr (Er (ra := [.agg [(.own true _)]]) rfl ?_))))))))))))))))
  exact ⟨(readN b1.toList, x0.2), readN_ok _, rfl, rfl⟩

def c_spec_l1Once : C := (.g (.o 0 4 (.mov (.v (.bool false))) .done) (.g (.o 0 5 (.mov (.t 0)) (.o 1 6 (.mov (.t 1)) (.o 2 7 (.call 7 42 [(.t 5), (.t 6)]) (.o 3 8 (.bin .eql (.t 7) (.i 0)) (.o 4 4 (.mov (.t 8)) .done))))) .ret))
theorem dg_spec_l1Once : Tryd.f32.body.bind (digC Tryd.prog Tryd.f32.ntmps []) = some c_spec_l1Once := by kernel_rfl
theorem rs_spec_l1Once : resSlots Tryd.prog Tryd.f32 = some [.s 4] := by kernel_rfl
theorem ok_spec_l1Once (c : Cu) (n : Int) :
    FnOK Tryd.prog 32 [.one (.box c.cells), .one (.d (.sc (.int .i64 n)))] (fun ra os => ∃ x : Bool × Cu, True ∧ ra = [.one (.d (.sc (.bool x.1)))] ∧ os.b 0 = x.2.cells) := by
  refine FnOK.ofK Tryd.func32 (by kernel_rfl) dg_spec_l1Once rs_spec_l1Once rfl rfl ?_
  delta c_spec_l1Once T.o X.i C.g
  refine Kbc (Ka Y (Kdb (Kc (Ka Y (Ka Y (Kz (ok_spec_l1Below _ _) ⟨⟨rfl, _, rfl, rfl⟩, rfl, trivial⟩ Y Y Y (fun _ => rfl) (fun x0 hx0 => (Kj Y Y Y (Ka Y (Kd (Kr (Er (ra := [.one (.d _)]) rfl ?_))))))))))))
  exact ⟨(_, x0.2), trivial, rfl, rfl⟩

def c_spec_l2bent : C := (.g (.o 0 2 (.alloc 2 [(.n 1)]) .done) (.g (.o 0 4 (.mov (.t 0)) (.o 1 5 (.call 5 31 [(.t 4)]) (.o 2 3 (.alloc 3 [(.n 1)]) (.op 3 [] none none false (.store (some 1) (.t 3) (.t 5)) .done)))) (.seq (.g (.o 0 6 (.mov (.t 0)) (.o 1 7 (.call 7 32 [(.t 6), (.i 9)]) .done)) (.cond (.t 7) (.g (.o 0 8 (.mov (.t 0)) (.o 1 9 (.call 9 42 [(.t 8), (.i 4)]) .done)) (.block 0 (.g (.o 0 22 (.bin .eql (.t 9) (.i 0)) (.o 1 21 (.mov (.t 22)) .done)) (.cond (.t 21) (.reg false (.o 0 23 (.fad (.t 3) 0) (.o 1 24 (.load none (.t 23)) (.o 2 25 (.lit 25 1 [(.n 1)] 1 [(0, 1, (.n 1))]) (.o 3 26 (.app 26 1 24 (.t 24) (.t 25)) (.o 4 27 (.fad (.t 3) 0) (.op 5 [] none none false (.store none (.t 27) (.t 26)) .done))))))) (.g (.o 0 29 (.bin .eql (.t 9) (.i 1)) (.o 1 28 (.mov (.t 29)) .done)) (.cond (.t 28) (.reg false (.o 0 30 (.fad (.t 3) 0) (.o 1 31 (.load none (.t 30)) (.o 2 32 (.lit 32 1 [(.v (.int .u8 0))] 1 [(0, 1, (.v (.int .u8 81)))]) (.o 3 33 (.s2s (.t 32)) (.o 4 34 (.lit 34 1 [(.n 1)] 1 [(0, 1, (.t 33))]) (.o 5 35 (.app 35 1 24 (.t 31) (.t 34)) (.o 6 36 (.fad (.t 3) 0) (.op 7 [] none none false (.store none (.t 36) (.t 35)) .done))))))))) (.g (.o 0 38 (.bin .eql (.t 9) (.i 2)) (.o 1 37 (.mov (.t 38)) .done)) (.cond (.t 37) (.reg true (.op 0 [] (some 39) none true (.fad (.t 3) 0) (.op 1 [] (some 40) none true (.load none (.t 39)) (.op 3 [] (some 42) none true (.mov (.t 0)) (.alt (.o 2 41 (.lit 41 1 [(.v (.string ⟨#[]⟩))] 2 [(0, 1, (.v (.string ⟨#[97, 98, 99, 100, 101, 102, 103, 104, 105, 106, 107, 108, 109, 110, 111]⟩))), (1, 1, (.v (.string ⟨#[97, 98, 99, 100, 101, 102, 103, 104, 105, 106, 107, 108, 109, 110, 111, 112]⟩)))]) (.o 4 43 (.call 43 42 [(.t 42), (.i 2)]) (.op 5 [] (some 44) none true (.iad 1 (.t 41) (.t 43)) (.op 6 [] (some 45) none true (.load none (.t 44)) (.op 7 [6] (some 46) none false (.s2b (.t 45)) (.op 8 [6] (some 47) none false (.lit 47 1 [(.n 1)] 1 [(0, 1, (.t 46))]) (.op 9 [1, 6] (some 48) none false (.app 48 1 24 (.t 40) (.t 47)) (.op 10 [] (some 49) none true (.fad (.t 3) 0) (.op 11 [1, 6] none none false (.store none (.t 49) (.t 48)) .done))))))))) (.o 4 43 (.call 43 42 [(.t 42), (.i 2)]) (.o 2 41 (.lit 41 1 [(.v (.string ⟨#[]⟩))] 2 [(0, 1, (.v (.string ⟨#[97, 98, 99, 100, 101, 102, 103, 104, 105, 106, 107, 108, 109, 110, 111]⟩))), (1, 1, (.v (.string ⟨#[97, 98, 99, 100, 101, 102, 103, 104, 105, 106, 107, 108, 109, 110, 111, 112]⟩)))]) (.op 5 [] (some 44) none true (.iad 1 (.t 41) (.t 43)) (.op 6 [] (some 45) none true (.load none (.t 44)) (.op 7 [6] (some 46) none false (.s2b (.t 45)) (.op 8 [6] (some 47) none false (.lit 47 1 [(.n 1)] 1 [(0, 1, (.t 46))]) (.op 9 [1, 6] (some 48) none false (.app 48 1 24 (.t 40) (.t 47)) (.op 10 [] (some 49) none true (.fad (.t 3) 0) (.op 11 [1, 6] none none false (.store none (.t 49) (.t 48)) .done)))))))))))))) (.block 1 (.loop (.seq (.g (.o 0 10 (.fad (.t 3) 0) (.o 1 11 (.load none (.t 10)) (.o 2 12 (.len (.t 11)) (.o 3 13 (.bin .leq (.t 12) (.i 6)) .done)))) (.cond (.t 13) .skip (.exit 1))) (.block 2 (.reg false (.o 0 14 (.fad (.t 3) 0) (.o 1 15 (.load none (.t 14)) (.o 2 16 (.lit 16 1 [(.v (.int .u8 0))] 1 [(0, 1, (.v (.int .u8 122)))]) (.o 3 17 (.s2s (.t 16)) (.o 4 18 (.lit 18 1 [(.n 1)] 1 [(0, 1, (.t 17))]) (.o 5 19 (.app 19 1 24 (.t 15) (.t 18)) (.o 6 20 (.fad (.t 3) 0) (.op 7 [] none none false (.store none (.t 20) (.t 19)) .done))))))))))))))))))))) .skip)) (.g (.o 0 50 (.load (some 1) (.t 3)) (.op 1 [] none none false (.store (some 1) (.t 2) (.t 50)) .done)) .ret))))
theorem dg_spec_l2bent : Tryd.f19.body.bind (digC Tryd.prog Tryd.f19.ntmps []) = some c_spec_l2bent := by kernel_rfl
theorem rs_spec_l2bent : resSlots Tryd.prog Tryd.f19 = some [.m 2 (some 1)] := by kernel_rfl
theorem ok_spec_l2bent (c : Cu) :
    FnOK Tryd.prog 19 [.one (.box c.cells)] (fun ra os => ∃ x : List (List UInt8) × Cu, (x.1.length ≤ 7 ∧ ∀ b ∈ x.1, b.length ≤ 64) ∧ ra = [.agg [.d (encBB x.1)]] ∧ os.b 0 = x.2.cells) := by
  refine FnOK.ofK Tryd.func19 (by kernel_rfl) dg_spec_l2bent rs_spec_l2bent rfl rfl ?_
  delta c_spec_l2bent T.o X.i C.g
  refine Kbc (kAlloc Y Y (Kdb (Kc (Ka Y (Kz (ok_spec_l2draw _) ⟨⟨rfl, _, rfl, rfl⟩, trivial⟩ Y Y Y (fun _ => rfl) (fun x0 hx0 => (kAlloc Y Y (Ko Y Y Y Y (Kdb (Kbc (Ka Y (Kz (ok_spec_l1Once _ _) ⟨⟨rfl, _, rfl, rfl⟩, rfl, trivial⟩ Y Y Y (fun _ => rfl) (fun x1 hx1 => (Kd (kCond Y (fun g2 => Kbc (Ka Y (Kz (ok_spec_l1Below _ _) ⟨⟨rfl, _, rfl, rfl⟩, rfl, trivial⟩ Y Y Y (fun _ => rfl) (fun x3 hx3 => (Kd (Kt (Kbc (Kj Y Y Y (Ka Y (Kd (Km Y (fun g4 => Kc (Kf Y Y (Ke Y Y Y (kLitG Y Y Y Y ?_)))) (fun g4 => Kbc (Kj Y Y Y (Ka Y (Kd (Km Y (fun g5 => Kc (Kf Y Y (Ke Y Y Y (kLitG Y Y Y Y (kS2sB (y := 81) (ys := []) Y Y Y (kLitG Y Y Y Y ?_)))))) (fun g5 => Kbc (Kj Y Y Y (Ka Y (Kd (Km Y (fun g6 => kRegD (Kf Y Y (Ke Y Y Y (Ka Y (kAlt (kLitG Y Y Y Y (Kz (ok_spec_l1Below _ _) ⟨⟨rfl, _, rfl, rfl⟩, rfl, trivial⟩ Y Y Y (fun _ => rfl) (fun x8 hx8 => (kIadStr Y Y Y Y (by simp only [List.length_cons, List.length_nil]; omega) (kLoadStr Y Y Y (by simp only [List.length_cons, List.length_nil]; omega) rfl (fun b9 hb9 => (Kx Y Y (kS2b Y om (Kx Y Y (kLitG Y Y Y Y (Ks Y Y ?_))))))))))) (Kz (ok_spec_l1Below _ _) ⟨⟨rfl, _, rfl, rfl⟩, rfl, trivial⟩ Y Y Y (fun _ => rfl) (fun x10 hx10 => (kLitG Y Y Y Y (kIadStr Y Y Y Y (by simp only [List.length_cons, List.length_nil]; omega) (kLoadStr Y Y Y (by simp only [List.length_cons, List.length_nil]; omega) rfl (fun b11 hb11 => (Kx Y Y (kS2b Y om (Kx Y Y (kLitG Y Y Y Y (Ks Y Y ?_)))))))))))))))) (fun g6 => Kt ?_)))))))))))))))))))))) (fun g2 => Kn (Kbc (Ke Y Y Y (Ko Y Y Y Y (Kd (Kr (Er (ra := [.agg [(.d _)]]) rfl ?_))))))))))))))))))))))
  · have h6 := nameOk_len hx0
    refine kAppR1 (z := ([] : List UInt8)) rfl rfl rfl rfl rfl rfl rfl rfl om ?_
    refine (Kf Y Y (Ko Y Y Y Y (Kd (Kv (Kbc (Ke Y Y Y (Ko Y Y Y Y (Kd (Kr (Er (ra := [.agg [(.d _)]]) rfl ?_))))))))))
    exact ⟨(_, x3.2), bent_app hx0 (by decide), rfl, rfl⟩
  · have h6 := nameOk_len hx0
    refine kAppR1 (z := ([81] : List UInt8)) rfl rfl rfl rfl rfl rfl rfl rfl om ?_
    refine Kf Y Y (Ko Y Y Y Y (Kd (Kv (Kbc (Ke Y Y Y (Ko Y Y Y Y (Kd (Kr (Er (ra := [.agg [(.d _)]]) rfl ?_)))))))))
    exact ⟨(_, x3.2), bent_app hx0 (by decide), rfl, rfl⟩
  · have h6 := nameOk_len hx0
    refine kAppR1 (z := b9.toList) Y Y Y Y Y Y Y Y om ?_
    refine Kf Y Y (Ks Y Y (Ko Y Y Y Y (Kd (kH (Kv (Kbc (Ke Y Y Y (Ko Y Y Y Y (Kd (Kr (Er (ra := [.agg [(.d _)]]) rfl ?_)))))))))))
    exact ⟨(_, x8.2), bent_app hx0 (by rw [bt_len]; exact hb9), rfl, rfl⟩
  · have h6 := nameOk_len hx0
    refine kAppR1 (z := b11.toList) Y Y Y Y Y Y Y Y om ?_
    refine Kf Y Y (Ks Y Y (Ko Y Y Y Y (Kd (kH (Kv (Kbc (Ke Y Y Y (Ko Y Y Y Y (Kd (Kr (Er (ra := [.agg [(.d _)]]) rfl ?_)))))))))))
    exact ⟨(_, x10.2), bent_app hx0 (by rw [bt_len]; exact hb11), rfl, rfl⟩
  · refine kLoop (α := { L : List (List UInt8) // L.length ≤ 7 ∧ ∀ b ∈ L, b.length ≤ 64 }) (fun y => ⟨tabSl [(2, .c (.ptr (rid 2 0) 1 0)), (3, .c (.ptr (rid 3 0) 1 0))], obTab 1 [(0, ⟨0, 0, .box (x3.2.cells.map .d)⟩), (rid 2 0, ⟨1, 0, .box [.nil 1]⟩), (rid 3 0, ⟨1, 0, .box [.arr (rid 5 0) 1]⟩), (rid 5 0, ⟨1, 0, .arr false (encBB y.1)⟩)], []⟩) (fun y => 7 - y.1.length) ⟨x0.1, bent_ok hx0⟩ .normA ?_
    rintro ⟨L, h7, hL⟩
    simp only
    rcases Nat.lt_or_ge L.length 7 with hlt | hge
    · refine Kb (Kbc (Kf Y Y (Ke Y Y Y (Kq Y Y (Kj Y Y Y (Kd (Km Y (fun g0 => Kn (Kt (Kc (Kf Y Y (Ke Y Y Y (kLitG Y Y Y Y (kS2sB (y := 122) (ys := []) Y Y Y (kLitG Y Y Y Y (kAppR1 Y Y Y Y Y Y Y Y prl (Kf Y Y (Ko Y Y Y Y (Kd (Kv ?_))))))))))))) (fun g0 => om))))))))
      refine kInv ⟨⟨L ++ [[122]], by simp; omega, fun b hb => ?_⟩, by simp; omega, .normA⟩
      rcases List.mem_append.1 hb with hb | hb
      · exact hL b hb
      · simp only [List.mem_singleton] at hb; subst hb; decide
    · refine Kb (Kbc (Kf Y Y (Ke Y Y Y (Kq Y Y (Kj Y Y Y (Kd (Km Y (fun g0 => om) (fun g0 => kExit (kExC (kExI (kExB (Kv (Kbc (Ke Y Y Y (Ko Y Y Y Y (Kd (Kr (Er (ra := [.agg [(.d _)]]) rfl ?_))))))))))))))))))
      exact ⟨(L, x3.2), ⟨h7, hL⟩, rfl, rfl⟩
  · exact ⟨(x0.1, x1.2), bent_ok hx0, rfl, rfl⟩

def c_spec_DrawNamePut : C := (.g (.o 0 2 (.mov (.n 1)) (.o 1 3 (.alloc 3 [(.n 1)]) .done)) (.g (.o 0 5 (.mov (.t 0)) (.o 1 6 (.call 6 17 [(.t 5)]) (.o 2 4 (.mov (.t 6)) .done))) (.g (.o 0 7 (.mov (.t 4)) (.o 1 8 (.call 8 18 [(.t 7), (.i 3)]) (.o 2 9 (.mov (.t 4)) (.o 3 10 (.call 10 19 [(.t 9)]) (.o 4 2 (.mov (.t 8)) (.op 5 [] none none false (.store (some 1) (.t 3) (.t 10)) .done)))))) .ret)))
theorem dg_spec_DrawNamePut : Tryd.f5.body.bind (digC Tryd.prog Tryd.f5.ntmps []) = some c_spec_DrawNamePut := by kernel_rfl
theorem rs_spec_DrawNamePut : resSlots Tryd.prog Tryd.f5 = some [.s 2, .m 3 (some 1)] := by kernel_rfl
theorem ok_spec_DrawNamePut (code : List UInt8) (hb : (code.length : Int) ≤ 9223372036854775807) :
    FnOK Tryd.prog 5 [.one (.d (encB code))] (fun ra _ => ∃ x : List UInt8 × List (List UInt8), (x.1.length ≤ 2 ∧ SmallBB x.2) ∧ ra = [.one (.own true (encB x.1)), .agg [.d (encBB x.2)]]) := by
  refine FnOK.ofK Tryd.func5 (by kernel_rfl) dg_spec_DrawNamePut rs_spec_DrawNamePut rfl rfl ?_
  delta c_spec_DrawNamePut T.o X.i C.g
  refine Kbc (Ka Y (kAlloc Y Y (Kdb (Kc (Ka Y (kCallX false (ok_spec_l1New _ prx) ⟨Y, trivial⟩ Y (fun _ => rfl) (fun _ => rfl) (fun x0 _ hx0 => (Ka Y (Kdb (Kc (Ka Y (Kz (ok_spec_l1some _ _ prx) ⟨⟨rfl, _, rfl, rfl⟩, rfl, trivial⟩ Y Y Y (fun _ => rfl) (fun x1 hx1 => (Ka Y (Kz (ok_spec_l2bent _) ⟨⟨rfl, _, rfl, rfl⟩, trivial⟩ Y Y Y (fun _ => rfl) (fun x2 hx2 => (Ka Y (Ko Y Y Y Y (Kd (Kr (Er (ra := [.one (.own true _), .agg [(.d _)]]) rfl ?_)))))))))))))))))))))
  have q1 : x1.1.length ≤ 2 := by rcases hx1 with h | h
                                  · omega
                                  · rw [h]; simp
  have q2 : SmallBB x2.1 := .of (by have := flat_mul hx2.2; have := Nat.mul_le_mul_right 64 hx2.1; omega)
  exact ⟨(x1.1, x2.1), ⟨q1, q2⟩, rfl⟩

def c_impl_within : C := (.g (.o 0 6 (.mov (.v (.bool false))) .done) (.g (.o 0 7 (.mov (.t 1)) (.o 1 8 (.mov (.t 0)) (.o 2 9 (.bin .leq (.t 7) (.t 8)) (.o 3 10 (.mov (.t 9)) (.op 4 [] (some 11) (some (10, true)) false (.mov (.t 0)) (.op 5 [] (some 12) (some (10, true)) false (.mov (.t 2)) (.op 6 [] (some 13) (some (10, true)) false (.bin .leq (.t 11) (.t 12)) (.o 7 14 (.pick (.t 10) (.t 13) (.v (.bool false))) (.o 8 6 (.mov (.t 14)) .done))))))))) .ret))
theorem dg_impl_within : Tryd.f53.body.bind (digC Tryd.prog Tryd.f53.ntmps []) = some c_impl_within := by kernel_rfl
theorem rs_impl_within : resSlots Tryd.prog Tryd.f53 = some [.s 6] := by kernel_rfl
theorem ok_impl_within (n lo hi : Int) : FnOK Tryd.prog 53 [.one (.d (.sc (.int .i64 n))), .one (.d (.sc (.int .i64 lo))), .one (.d (.sc (.int .i64 hi)))] (fun ra _ => ra = [.one (.d (.sc (.bool (decide (lo ≤ n ∧ n ≤ hi)))))]) := by
  refine FnOK.ofK Tryd.func53 (by kernel_rfl) dg_impl_within rs_impl_within rfl rfl ?_
  delta c_impl_within T.o X.i C.g
  repeat' first
    | refine kSeq ?_ | refine kReg ?_ | refine kDone ?_ | refine kMovC rfl ?_ | refine kBin rfl rfl rfl ?_
    | refine kGT rfl ?_ | refine kGF rfl ?_ | refine kGU rfl ?_ | refine kG rfl (fun h => ?_) (fun h => ?_)
    | refine kPickT rfl ?_ | refine kPickF rfl ?_ | refine kPick rfl (fun h => ?_) (fun h => ?_) | refine kRet ?_
  all_goals refine endRet (ra := [.one (.d _)]) rfl ⟨⟨⟨rfl, .inl rfl⟩, trivial⟩, .nil, trivial, trivial, trivial, trivial⟩ ?_
  all_goals simp_all
  all_goals omega

def c_impl_all_byte_1 : C := (.g (.o 0 3 (.mov (.v (.bool false))) .done) (.g (.o 0 4 (.load none (.t 1)) (.o 1 5 (.mov (.t 0)) (.o 2 6 (.callv 6 (.t 4) [(.t 5)]) (.o 3 7 (.un .not (.t 6)) (.o 4 3 (.mov (.t 7)) .done))))) .ret))
theorem dg_impl_all_byte_1 : Tryd.f66.body.bind (digC Tryd.prog Tryd.f66.ntmps []) = some c_impl_all_byte_1 := by kernel_rfl
theorem rs_impl_all_byte_1 : resSlots Tryd.prog Tryd.f66 = some [.s 3] := by kernel_rfl
theorem ok_impl_all_byte_1 (x : DV) (D : DV → Prop) (g : DV → Bool) (hx : D x) :
    FnOK Tryd.prog 66 [.one (.d x), .one (.ptr [.fv false (fcPred D g)])] (fun ra _ => ra = [.one (.d (.sc (.bool (!g x))))]) := by
  refine FnOK.ofK Tryd.func66 (by kernel_rfl) dg_impl_all_byte_1 rs_impl_all_byte_1 rfl rfl ?_
  delta c_impl_all_byte_1 T.o X.i C.g
  refine Kbc (Ka Y (Kd ?_))
  refine Kbc (kLoadC Y Y (Ka Y (kCallv Y ⟨x, hx, rfl, rfl⟩ ⟨Y, trivial⟩ (.inr ?_) rfl ?_ rfl ?_)))
  · rintro _ rfl; rfl
  · rintro _ rfl; exact leb
  rintro _ rfl
  refine Kw Y Y (Ka Y (Kd (Kr ?_)))
  exact endRet (ra := [.one (.d _)]) rfl ⟨⟨⟨rfl, .inl rfl⟩, trivial⟩, .nil, trivial, trivial, trivial⟩ rfl

def c_slices_IndexFunc_Lbyte_byte : C := (.g (.o 0 4 (.mov (.i 0)) .done) (.seq (.g (.o 0 6 (.mov (.t 0)) (.o 1 7 (.len (.t 6)) (.o 2 8 (.mov (.i 0)) .done))) (.block 0 (.loop (.g (.o 0 9 (.bin .lss (.t 8) (.t 7)) .done) (.seq (.cond (.t 9) .skip (.exit 0)) (.seq (.block 1 (.g (.o 0 10 (.mov (.t 8)) (.o 1 5 (.mov (.t 10)) .done)) (.g (.o 0 11 (.mov (.t 1)) (.o 1 12 (.mov (.t 0)) (.o 2 13 (.mov (.t 5)) (.o 3 14 (.iad 1 (.t 12) (.t 13)) (.o 4 15 (.load none (.t 14)) (.o 5 16 (.callv 16 (.t 11) [(.t 15)]) .done)))))) (.cond (.t 16) (.g (.o 0 17 (.mov (.t 5)) (.o 1 4 (.mov (.t 17)) .done)) .ret) .skip)))) (.reg false (.o 0 18 (.bin .add (.t 8) (.i 1)) (.o 1 8 (.mov (.t 18)) .done))))))))) (.g (.o 0 4 (.mov (.i (-1))) .done) .ret)))
theorem dg_slices_IndexFunc_Lbyte_byte : Tryd.f72.body.bind (digC Tryd.prog Tryd.f72.ntmps []) = some c_slices_IndexFunc_Lbyte_byte := by kernel_rfl
theorem rs_slices_IndexFunc_Lbyte_byte : resSlots Tryd.prog Tryd.f72 = some [.s 4] := by kernel_rfl
theorem ok_slices_IndexFunc_Lbyte_byte (l : List DV) (D : DV → Prop) (g : DV → Bool) (hl : (l.length : Int) ≤ 9223372036854775807) (hD : ∀ x ∈ l, D x) :
    FnOK Tryd.prog 72 [.one (.d (lst l)), .one (.fv false (fcPred D g))] (fun ra _ => ra = [.one (.d (.sc (.int .i64 (idxF g l))))]) := by
  refine FnOK.ofK Tryd.func72 (by kernel_rfl) dg_slices_IndexFunc_Lbyte_byte rs_slices_IndexFunc_Lbyte_byte rfl rfl ?_
  delta c_slices_IndexFunc_Lbyte_byte T.o X.i C.g
  refine Kbc (Ka Y (Kd ?_))
  refine Kb (Kbc (Ka Y (kLen Y Y Y (Ka Y (Kd (Kt ?_))))))
  rw [len_lst]
  refine kLoop (α := { i : Nat // i ≤ l.length ∧ ∀ x ∈ l.take i, g x = false })
    (fun y => ⟨tabSl [(0, .dv (lst l)), (1, .c (.fv false (fcPred D g))), (7, .i l.length), (8, .i y.1)], (St.init [.one (.d (lst l)), .one (.fv false (fcPred D g))]).ob, []⟩) (fun y => l.length - y.1) ⟨0, by simp⟩
    (.tab rfl ⟨.refl _, .refl _, .refl _, .refl _, trivial⟩) ?_
  rintro ⟨i, hi, hg⟩
  simp only
  refine Kbc (Kj Y Y Y (Kd ?_))
  refine Kb (kCond Y (fun h1 => ?_) (fun h1 => ?_))
  · have hlt : i < l.length := by simp at h1; omega
    refine Kn (Kb (Kt (Kbc (Ka Y (Ka Y (Kd ?_))))))
    refine Kbc (Ka Y (Ka Y (Ka Y (kIadD Y Y Y Y ?_ ?_))))
    · rw [len_lst]; omega
    rw [show (lst l).row (i : Int).toNat = [l[i]] from row_lst l i hlt]
    refine Ky Y Y (kCallv Y ⟨l[i], hD _ (List.getElem_mem hlt), rfl, rfl⟩ ⟨Y, trivial⟩ (.inr ?_) rfl ?_ rfl ?_)
    · rintro _ rfl; rfl
    · rintro _ rfl; exact leb
    rintro _ rfl
    refine Kd (kCond Y (fun h2 => ?_) (fun h2 => ?_))
    · refine Kbc (Ka Y (Ka Y (Kd (Kr ?_))))
      refine endRet (ra := [.one (.d _)]) rfl ⟨⟨⟨rfl, .inl rfl⟩, trivial⟩, .nil, trivial, trivial, trivial⟩ ?_
      have : l.findIdx? g = some i := by
        rw [List.findIdx?_eq_some_iff_getElem]
        refine ⟨hlt, h2, fun j hj => ?_⟩
        simpa using hg _ (by rw [List.mem_take_iff_getElem]; exact ⟨j, by omega, rfl⟩)
      simp [idxF, this]
    · refine Kn (Kv (Kc (kAdd Y Y ?_ (Ka Y (Kd (kInv ?_))))))
      · omega
      refine ⟨⟨i + 1, hlt, ?_⟩, by simp only; omega, .tab rfl ⟨.refl _, .refl _, .refl _, .refl _, trivial⟩⟩
      intro x hx
      rw [← List.take_append_getElem hlt, List.mem_append] at hx
      rcases hx with hx | hx
      · exact hg x hx
      · simp at hx; rw [hx]; exact h2
  · refine kExit (kExC (kExI (kExB ?_)))
    have hge : i = l.length := by simp at h1; omega
    refine Kbc (Ka Y (Kd (Kr ?_)))
    refine endRet (ra := [.one (.d _)]) rfl ⟨⟨⟨rfl, .inl rfl⟩, trivial⟩, .nil, trivial, trivial, trivial⟩ ?_
    have : l.findIdx? g = none := by
      rw [List.findIdx?_eq_none_iff]
      intro x hx
      rw [hge, List.take_length] at hg
      exact hg x hx
    simp [idxF, this]

def c_slices_ContainsFunc_Lbyte_byte : C := (.g (.o 0 4 (.mov (.v (.bool false))) .done) (.g (.o 0 5 (.mov (.t 0)) (.o 1 6 (.mov (.t 1)) (.o 2 7 (.call 7 72 [(.t 5), (.t 6)]) (.o 3 8 (.bin .geq (.t 7) (.i 0)) (.o 4 4 (.mov (.t 8)) .done))))) .ret))
theorem dg_slices_ContainsFunc_Lbyte_byte : Tryd.f65.body.bind (digC Tryd.prog Tryd.f65.ntmps []) = some c_slices_ContainsFunc_Lbyte_byte := by kernel_rfl
theorem rs_slices_ContainsFunc_Lbyte_byte : resSlots Tryd.prog Tryd.f65 = some [.s 4] := by kernel_rfl
theorem ok_slices_ContainsFunc_Lbyte_byte (l : List DV) (D : DV → Prop) (g : DV → Bool) (hl : (l.length : Int) ≤ 9223372036854775807) (hD : ∀ x ∈ l, D x) :
    FnOK Tryd.prog 65 [.one (.d (lst l)), .one (.fv false (fcPred D g))] (fun ra _ => ra = [.one (.d (.sc (.bool (l.any g))))]) := by
  refine FnOK.ofK Tryd.func65 (by kernel_rfl) dg_slices_ContainsFunc_Lbyte_byte rs_slices_ContainsFunc_Lbyte_byte rfl rfl ?_
  delta c_slices_ContainsFunc_Lbyte_byte T.o X.i C.g
  refine Kbc (Ka Y (Kd ?_))
  refine Kbc (Ka Y (Ka Y ?_))
  refine Ku true (ok_slices_IndexFunc_Lbyte_byte l D g hl hD) ⟨rfl, ⟨fun h => h, fun _ _ h => h⟩, trivial⟩ rfl rfl rfl fun os => ?_
  refine Kj Y Y Y (Ka Y (Kd (Kr ?_)))
  refine endRet (ra := [.one (.d _)]) rfl ⟨⟨⟨rfl, .inl rfl⟩, trivial⟩, .nil, trivial, trivial, trivial⟩ ?_
  have : decide (idxF g l ≥ 0) = l.any g := by
    unfold idxF
    cases h : l.findIdx? g with
    | none =>
      rw [List.findIdx?_eq_none_iff] at h
      have : l.any g = false := by rw [List.any_eq_false]; intro x hx; simp [h x hx]
      rw [this]; rfl
    | some i =>
      rw [List.findIdx?_eq_some_iff_getElem] at h
      obtain ⟨h1, h2, _⟩ := h
      have : l.any g = true := by rw [List.any_eq_true]; exact ⟨_, List.getElem_mem h1, h2⟩
      rw [this]; simp
  rw [this]

def c_impl_all_byte : C := (.g (.o 0 3 (.box 3 (.t 1)) (.o 1 4 (.mov (.v (.bool false))) .done)) (.g (.o 0 5 (.mov (.t 0)) (.o 1 6 (.clo 66 [] [(.t 3)]) (.o 2 7 (.call 7 65 [(.t 5), (.t 6)]) (.o 3 8 (.un .not (.t 7)) (.o 4 4 (.mov (.t 8)) .done))))) .ret))
theorem dg_impl_all_byte : Tryd.f54.body.bind (digC Tryd.prog Tryd.f54.ntmps []) = some c_impl_all_byte := by kernel_rfl
theorem rs_impl_all_byte : resSlots Tryd.prog Tryd.f54 = some [.s 4] := by kernel_rfl
theorem ok_impl_all_byte (l : List DV) (D : DV → Prop) (g : DV → Bool) (hl : (l.length : Int) ≤ 9223372036854775807) (hD : ∀ x ∈ l, D x) :
    FnOK Tryd.prog 54 [.one (.d (lst l)), .one (.fv false (fcPred D g))] (fun ra _ => ra = [.one (.d (.sc (.bool (l.all g))))]) := by
  refine FnOK.ofK Tryd.func54 (by kernel_rfl) dg_impl_all_byte rs_impl_all_byte rfl rfl ?_
  delta c_impl_all_byte T.o X.i C.g
  refine Kbc (kBox Y Y Y Y Y (Ka Y (Kd ?_)))
  refine Kbc (Ka Y (kClo Y Y ?_))
  refine Ku true (ok_slices_ContainsFunc_Lbyte_byte l D (fun x => !g x) hl hD) ⟨rfl, ⟨rfl, ⟨_, Tryd.func66, rfl, by kernel_rfl⟩, _, rfl, ?_⟩, trivial⟩ rfl rfl rfl fun os => ?_
  · rintro l R ⟨x, hx, rfl, rfl⟩
    exact ⟨by rintro _ rfl; rfl, ok_impl_all_byte_1 x D g hx⟩
  refine Kw Y Y (Ka Y (Kd (Kr ?_)))
  refine endRet (ra := [.one (.d _)]) rfl ⟨⟨⟨rfl, .inl rfl⟩, trivial⟩, .nil, trivial, trivial, trivial⟩ ?_
  simp [List.all_eq_not_any_not]

def c_impl_LabelOk_1 : C := (.g (.o 0 2 (.mov (.v (.bool false))) .done) (.g (.o 0 3 (.mov (.t 0)) (.o 1 4 (.bin .geq (.t 3) (.v (.int .u8 97))) (.o 2 5 (.mov (.t 4)) (.op 3 [] (some 6) (some (5, true)) false (.mov (.t 0)) (.op 4 [] (some 7) (some (5, true)) false (.bin .leq (.t 6) (.v (.int .u8 122))) (.o 5 8 (.pick (.t 5) (.t 7) (.v (.bool false))) (.o 6 9 (.mov (.t 8)) (.op 7 [] (some 10) (some (9, false)) false (.mov (.t 0)) (.op 8 [] (some 11) (some (9, false)) false (.bin .geq (.t 10) (.v (.int .u8 48))) (.op 9 [] (some 12) (some (9, false)) false (.mov (.t 11)) (.op 10 [] (some 13) (some (12, true)) false (.mov (.t 0)) (.op 11 [] (some 14) (some (12, true)) false (.bin .leq (.t 13) (.v (.int .u8 57))) (.op 12 [] (some 15) (some (9, false)) false (.pick (.t 12) (.t 14) (.v (.bool false))) (.o 13 16 (.pick (.t 9) (.v (.bool true)) (.t 15)) (.o 14 17 (.mov (.t 16)) (.op 15 [] (some 18) (some (17, false)) false (.mov (.t 0)) (.op 16 [] (some 19) (some (17, false)) false (.bin .eql (.t 18) (.v (.int .u8 45))) (.o 17 20 (.pick (.t 17) (.v (.bool true)) (.t 19)) (.o 18 2 (.mov (.t 20)) .done))))))))))))))))))) .ret))
theorem dg_impl_LabelOk_1 : Tryd.f55.body.bind (digC Tryd.prog Tryd.f55.ntmps []) = some c_impl_LabelOk_1 := by kernel_rfl
theorem rs_impl_LabelOk_1 : resSlots Tryd.prog Tryd.f55 = some [.s 2] := by kernel_rfl
theorem ok_impl_LabelOk_1 (b : UInt8) : FnOK Tryd.prog 55 [.one (.d (.sc (.int .u8 b.toNat)))] (fun ra _ => ra = [.one (.d (.sc (.bool (okLetter b))))]) := by
  refine FnOK.ofK Tryd.func55 (by kernel_rfl) dg_impl_LabelOk_1 rs_impl_LabelOk_1 rfl rfl ?_
  delta c_impl_LabelOk_1 T.o X.i C.g
  repeat' first
    | refine kSeq ?_ | refine kReg ?_ | refine kDone ?_ | refine kMovC rfl ?_ | refine kBin rfl rfl rfl ?_
    | refine kGT rfl ?_ | refine kGF rfl ?_ | refine kGU rfl ?_ | refine kG rfl (fun h => ?_) (fun h => ?_)
    | refine kPickT rfl ?_ | refine kPickF rfl ?_ | refine kPick rfl (fun h => ?_) (fun h => ?_) | refine kRet ?_
  all_goals refine endRet (ra := [.one (.d _)]) rfl ⟨⟨⟨rfl, .inl rfl⟩, trivial⟩, .nil, trivial, trivial⟩ ?_
  all_goals simp_all [okLetter]
  all_goals first | omega | (rw [Bool.eq_iff_iff]; simp; omega)

def c_impl_LabelOk : C := (.g (.o 0 2 (.mov (.v (.bool false))) .done) (.g (.o 0 3 (.mov (.t 0)) (.o 1 4 (.len (.t 3)) (.o 2 5 (.call 5 53 [(.t 4), (.i 1), (.i 15)]) (.o 3 6 (.mov (.t 5)) (.op 4 [] (some 7) (some (6, true)) false (.mov (.t 0)) (.op 5 [] (some 8) (some (6, true)) false (.call 8 54 [(.t 7), (.fn 55)]) (.o 6 9 (.pick (.t 6) (.t 8) (.v (.bool false))) (.o 7 2 (.mov (.t 9)) .done)))))))) .ret))
theorem dg_impl_LabelOk : Tryd.f36.body.bind (digC Tryd.prog Tryd.f36.ntmps []) = some c_impl_LabelOk := by kernel_rfl
theorem rs_impl_LabelOk : resSlots Tryd.prog Tryd.f36 = some [.s 2] := by kernel_rfl
theorem ok_impl_LabelOk (b : List UInt8) (hb : b.length ≤ 4194304) :
    FnOK Tryd.prog 36 [.one (.d (encB b))] (fun ra _ => ra = [.one (.d (.sc (.bool (labelOk b))))]) := by
  refine FnOK.ofK Tryd.func36 (by kernel_rfl) dg_impl_LabelOk rs_impl_LabelOk rfl rfl ?_
  delta c_impl_LabelOk T.o X.i C.g
  refine Kbc (Ka Y (Kdb (Kc (Ka Y (Kq Y Y (Kp (ok_impl_within _ _ _) ⟨Y, Y, Y, trivial⟩ Y Y Y Y Y (Ka Y (kGP Y (fun g0 => Ki Y (Ka Y (Ki Y ?_))) (fun g0 => Kg Y (Kg Y (Kl Y (Ka Y (Ka Y (Kd (Kr (Er (ra := [.one (.d _)]) rfl ?_))))))))))))))))
  · refine Ku true (ok_impl_all_byte (b.map fun b : UInt8 => .sc (.int .u8 b.toNat)) is8 (fun x => okLetter (dec8 x)) (by simp; omega) (fun x hx => by obtain ⟨c, _, rfl⟩ := List.mem_map.1 hx; exact ⟨c, rfl⟩)) ⟨congrArg some (encB_lst b), ⟨rfl, rfl, ⟨_, Tryd.func55, rfl, by kernel_rfl⟩, ?_⟩, trivial⟩ Y Y Y (fun _ => ?_)
    · rintro _ R ⟨x, ⟨c, rfl⟩, rfl, rfl⟩
      have := ok_impl_LabelOk_1 c
      simp only [dec8_enc]
      exact this
    refine Kk Y (Ka Y (Ka Y (Kd (Kr (Er (ra := [.one (.d _)]) rfl ?_)))))
    rw [all_dec8, show labelOk b = b.all okLetter by simp only [labelOk]; rw [decide_eq_true (by omega), decide_eq_true (by omega)]; rfl]
  · rw [show labelOk b = false by simp only [labelOk]; rw [show (decide (1 ≤ b.length) && decide (b.length ≤ 15)) = false by simp; omega]; rfl]

def c_impl_all_Lbyte_1 : C := (.g (.o 0 3 (.mov (.v (.bool false))) .done) (.g (.o 0 4 (.load none (.t 1)) (.o 1 5 (.mov (.t 0)) (.o 2 6 (.callv 6 (.t 4) [(.t 5)]) (.o 3 7 (.un .not (.t 6)) (.o 4 3 (.mov (.t 7)) .done))))) .ret))
theorem dg_impl_all_Lbyte_1 : Tryd.f52.body.bind (digC Tryd.prog Tryd.f52.ntmps []) = some c_impl_all_Lbyte_1 := by kernel_rfl
theorem rs_impl_all_Lbyte_1 : resSlots Tryd.prog Tryd.f52 = some [.s 3] := by kernel_rfl
theorem ok_impl_all_Lbyte_1 (x : DV) (D : DV → Prop) (g : DV → Bool) (hx : D x) :
    FnOK Tryd.prog 52 [.one (.d x), .one (.ptr [.fv false (fcPred D g)])] (fun ra _ => ra = [.one (.d (.sc (.bool (!g x))))]) := by
  refine FnOK.ofK Tryd.func52 (by kernel_rfl) dg_impl_all_Lbyte_1 rs_impl_all_Lbyte_1 rfl rfl ?_
  delta c_impl_all_Lbyte_1 T.o X.i C.g
  refine Kbc (Ka Y (Kd ?_))
  refine Kbc (kLoadC Y Y (Ka Y (kCallv Y ⟨x, hx, rfl, rfl⟩ ⟨Y, trivial⟩ (.inr ?_) rfl ?_ rfl ?_)))
  · rintro _ rfl; rfl
  · rintro _ rfl; exact leb
  rintro _ rfl
  refine Kw Y Y (Ka Y (Kd (Kr ?_)))
  exact endRet (ra := [.one (.d _)]) rfl ⟨⟨⟨rfl, .inl rfl⟩, trivial⟩, .nil, trivial, trivial, trivial⟩ rfl

def c_slices_IndexFunc_LLbyte_Lbyte : C := (.g (.o 0 4 (.mov (.i 0)) .done) (.seq (.g (.o 0 6 (.mov (.t 0)) (.o 1 7 (.len (.t 6)) (.o 2 8 (.mov (.i 0)) .done))) (.block 0 (.loop (.g (.o 0 9 (.bin .lss (.t 8) (.t 7)) .done) (.seq (.cond (.t 9) .skip (.exit 0)) (.seq (.block 1 (.g (.o 0 10 (.mov (.t 8)) (.o 1 5 (.mov (.t 10)) .done)) (.g (.o 0 11 (.mov (.t 1)) (.o 1 12 (.mov (.t 0)) (.o 2 13 (.mov (.t 5)) (.o 3 14 (.iad 1 (.t 12) (.t 13)) (.o 4 15 (.load none (.t 14)) (.o 5 16 (.callv 16 (.t 11) [(.t 15)]) .done)))))) (.cond (.t 16) (.g (.o 0 17 (.mov (.t 5)) (.o 1 4 (.mov (.t 17)) .done)) .ret) .skip)))) (.reg false (.o 0 18 (.bin .add (.t 8) (.i 1)) (.o 1 8 (.mov (.t 18)) .done))))))))) (.g (.o 0 4 (.mov (.i (-1))) .done) .ret)))
theorem dg_slices_IndexFunc_LLbyte_Lbyte : Tryd.f64.body.bind (digC Tryd.prog Tryd.f64.ntmps []) = some c_slices_IndexFunc_LLbyte_Lbyte := by kernel_rfl
theorem rs_slices_IndexFunc_LLbyte_Lbyte : resSlots Tryd.prog Tryd.f64 = some [.s 4] := by kernel_rfl
theorem ok_slices_IndexFunc_LLbyte_Lbyte (l : List DV) (D : DV → Prop) (g : DV → Bool) (hl : (l.length : Int) ≤ 9223372036854775807) (hD : ∀ x ∈ l, D x) :
    FnOK Tryd.prog 64 [.one (.d (lst l)), .one (.fv false (fcPred D g))] (fun ra _ => ra = [.one (.d (.sc (.int .i64 (idxF g l))))]) := by
  refine FnOK.ofK Tryd.func64 (by kernel_rfl) dg_slices_IndexFunc_LLbyte_Lbyte rs_slices_IndexFunc_LLbyte_Lbyte rfl rfl ?_
  delta c_slices_IndexFunc_LLbyte_Lbyte T.o X.i C.g
  refine Kbc (Ka Y (Kd ?_))
  refine Kb (Kbc (Ka Y (kLen Y Y Y (Ka Y (Kd (Kt ?_))))))
  rw [len_lst]
  refine kLoop (α := { i : Nat // i ≤ l.length ∧ ∀ x ∈ l.take i, g x = false })
    (fun y => ⟨tabSl [(0, .dv (lst l)), (1, .c (.fv false (fcPred D g))), (7, .i l.length), (8, .i y.1)], (St.init [.one (.d (lst l)), .one (.fv false (fcPred D g))]).ob, []⟩) (fun y => l.length - y.1) ⟨0, by simp⟩
    (.tab rfl ⟨.refl _, .refl _, .refl _, .refl _, trivial⟩) ?_
  rintro ⟨i, hi, hg⟩
  simp only
  refine Kbc (Kj Y Y Y (Kd ?_))
  refine Kb (kCond Y (fun h1 => ?_) (fun h1 => ?_))
  · have hlt : i < l.length := by simp at h1; omega
    refine Kn (Kb (Kt (Kbc (Ka Y (Ka Y (Kd ?_))))))
    refine Kbc (Ka Y (Ka Y (Ka Y (kIadD Y Y Y Y ?_ ?_))))
    · rw [len_lst]; omega
    rw [show (lst l).row (i : Int).toNat = [l[i]] from row_lst l i hlt]
    refine Ky Y Y (kCallv Y ⟨l[i], hD _ (List.getElem_mem hlt), rfl, rfl⟩ ⟨Y, trivial⟩ (.inr ?_) rfl ?_ rfl ?_)
    · rintro _ rfl; rfl
    · rintro _ rfl; exact leb
    rintro _ rfl
    refine Kd (kCond Y (fun h2 => ?_) (fun h2 => ?_))
    · refine Kbc (Ka Y (Ka Y (Kd (Kr ?_))))
      refine endRet (ra := [.one (.d _)]) rfl ⟨⟨⟨rfl, .inl rfl⟩, trivial⟩, .nil, trivial, trivial, trivial⟩ ?_
      have : l.findIdx? g = some i := by
        rw [List.findIdx?_eq_some_iff_getElem]
        refine ⟨hlt, h2, fun j hj => ?_⟩
        simpa using hg _ (by rw [List.mem_take_iff_getElem]; exact ⟨j, by omega, rfl⟩)
      simp [idxF, this]
    · refine Kn (Kv (Kc (kAdd Y Y ?_ (Ka Y (Kd (kInv ?_))))))
      · omega
      refine ⟨⟨i + 1, hlt, ?_⟩, by simp only; omega, .tab rfl ⟨.refl _, .refl _, .refl _, .refl _, trivial⟩⟩
      intro x hx
      rw [← List.take_append_getElem hlt, List.mem_append] at hx
      rcases hx with hx | hx
      · exact hg x hx
      · simp at hx; rw [hx]; exact h2
  · refine kExit (kExC (kExI (kExB ?_)))
    have hge : i = l.length := by simp at h1; omega
    refine Kbc (Ka Y (Kd (Kr ?_)))
    refine endRet (ra := [.one (.d _)]) rfl ⟨⟨⟨rfl, .inl rfl⟩, trivial⟩, .nil, trivial, trivial, trivial⟩ ?_
    have : l.findIdx? g = none := by
      rw [List.findIdx?_eq_none_iff]
      intro x hx
      rw [hge, List.take_length] at hg
      exact hg x hx
    simp [idxF, this]

def c_slices_ContainsFunc_LLbyte_Lbyte : C := (.g (.o 0 4 (.mov (.v (.bool false))) .done) (.g (.o 0 5 (.mov (.t 0)) (.o 1 6 (.mov (.t 1)) (.o 2 7 (.call 7 64 [(.t 5), (.t 6)]) (.o 3 8 (.bin .geq (.t 7) (.i 0)) (.o 4 4 (.mov (.t 8)) .done))))) .ret))
theorem dg_slices_ContainsFunc_LLbyte_Lbyte : Tryd.f51.body.bind (digC Tryd.prog Tryd.f51.ntmps []) = some c_slices_ContainsFunc_LLbyte_Lbyte := by kernel_rfl
theorem rs_slices_ContainsFunc_LLbyte_Lbyte : resSlots Tryd.prog Tryd.f51 = some [.s 4] := by kernel_rfl
theorem ok_slices_ContainsFunc_LLbyte_Lbyte (l : List DV) (D : DV → Prop) (g : DV → Bool) (hl : (l.length : Int) ≤ 9223372036854775807) (hD : ∀ x ∈ l, D x) :
    FnOK Tryd.prog 51 [.one (.d (lst l)), .one (.fv false (fcPred D g))] (fun ra _ => ra = [.one (.d (.sc (.bool (l.any g))))]) := by
  refine FnOK.ofK Tryd.func51 (by kernel_rfl) dg_slices_ContainsFunc_LLbyte_Lbyte rs_slices_ContainsFunc_LLbyte_Lbyte rfl rfl ?_
  delta c_slices_ContainsFunc_LLbyte_Lbyte T.o X.i C.g
  refine Kbc (Ka Y (Kd ?_))
  refine Kbc (Ka Y (Ka Y ?_))
  refine Ku true (ok_slices_IndexFunc_LLbyte_Lbyte l D g hl hD) ⟨rfl, ⟨fun h => h, fun _ _ h => h⟩, trivial⟩ rfl rfl rfl fun os => ?_
  refine Kj Y Y Y (Ka Y (Kd (Kr ?_)))
  refine endRet (ra := [.one (.d _)]) rfl ⟨⟨⟨rfl, .inl rfl⟩, trivial⟩, .nil, trivial, trivial, trivial⟩ ?_
  have : decide (idxF g l ≥ 0) = l.any g := by
    unfold idxF
    cases h : l.findIdx? g with
    | none =>
      rw [List.findIdx?_eq_none_iff] at h
      have : l.any g = false := by rw [List.any_eq_false]; intro x hx; simp [h x hx]
      rw [this]; rfl
    | some i =>
      rw [List.findIdx?_eq_some_iff_getElem] at h
      obtain ⟨h1, h2, _⟩ := h
      have : l.any g = true := by rw [List.any_eq_true]; exact ⟨_, List.getElem_mem h1, h2⟩
      rw [this]; simp
  rw [this]

def c_impl_all_Lbyte : C := (.g (.o 0 3 (.box 3 (.t 1)) (.o 1 4 (.mov (.v (.bool false))) .done)) (.g (.o 0 5 (.mov (.t 0)) (.o 1 6 (.clo 52 [] [(.t 3)]) (.o 2 7 (.call 7 51 [(.t 5), (.t 6)]) (.o 3 8 (.un .not (.t 7)) (.o 4 4 (.mov (.t 8)) .done))))) .ret))
theorem dg_impl_all_Lbyte : Tryd.f35.body.bind (digC Tryd.prog Tryd.f35.ntmps []) = some c_impl_all_Lbyte := by kernel_rfl
theorem rs_impl_all_Lbyte : resSlots Tryd.prog Tryd.f35 = some [.s 4] := by kernel_rfl
theorem ok_impl_all_Lbyte (l : List DV) (D : DV → Prop) (g : DV → Bool) (hl : (l.length : Int) ≤ 9223372036854775807) (hD : ∀ x ∈ l, D x) :
    FnOK Tryd.prog 35 [.one (.d (lst l)), .one (.fv false (fcPred D g))] (fun ra _ => ra = [.one (.d (.sc (.bool (l.all g))))]) := by
  refine FnOK.ofK Tryd.func35 (by kernel_rfl) dg_impl_all_Lbyte rs_impl_all_Lbyte rfl rfl ?_
  delta c_impl_all_Lbyte T.o X.i C.g
  refine Kbc (kBox Y Y Y Y Y (Ka Y (Kd ?_)))
  refine Kbc (Ka Y (kClo Y Y ?_))
  refine Ku true (ok_slices_ContainsFunc_LLbyte_Lbyte l D (fun x => !g x) hl hD) ⟨rfl, ⟨rfl, ⟨_, Tryd.func52, rfl, by kernel_rfl⟩, _, rfl, ?_⟩, trivial⟩ rfl rfl rfl fun os => ?_
  · rintro l R ⟨x, hx, rfl, rfl⟩
    exact ⟨by rintro _ rfl; rfl, ok_impl_all_Lbyte_1 x D g hx⟩
  refine Kw Y Y (Ka Y (Kd (Kr ?_)))
  refine endRet (ra := [.one (.d _)]) rfl ⟨⟨⟨rfl, .inl rfl⟩, trivial⟩, .nil, trivial, trivial, trivial⟩ ?_
  simp [List.all_eq_not_any_not]

def c_impl_NameOk : C := (.g (.o 0 1 (.box 1 (.t 0)) (.o 1 2 (.mov (.v (.bool false))) .done)) (.g (.o 0 3 (.fad (.t 1) 0) (.o 1 4 (.load none (.t 3)) (.o 2 5 (.len (.t 4)) (.o 3 6 (.bin .leq (.t 5) (.i 6)) (.o 4 7 (.mov (.t 6)) (.op 5 [] (some 8) (some (7, true)) false (.fad (.t 1) 0) (.op 6 [] (some 9) (some (7, true)) false (.load none (.t 8)) (.op 7 [] (some 10) (some (7, true)) false (.call 10 35 [(.t 9), (.fn 36)]) (.o 8 11 (.pick (.t 7) (.t 10) (.v (.bool false))) (.o 9 2 (.mov (.t 11)) .done)))))))))) .ret))
theorem dg_impl_NameOk : Tryd.f12.body.bind (digC Tryd.prog Tryd.f12.ntmps []) = some c_impl_NameOk := by kernel_rfl
theorem rs_impl_NameOk : resSlots Tryd.prog Tryd.f12 = some [.s 2] := by kernel_rfl
theorem ok_impl_NameOk (a : List (List UInt8)) (ha : a.length ≤ 4194304) (hb : ∀ b ∈ a, b.length ≤ 4194304) :
    FnOK Tryd.prog 12 [.agg [.d (encBB a)]] (fun ra _ => ra = [.one (.d (.sc (.bool (nameOk a))))]) := by
  refine FnOK.ofK Tryd.func12 (by kernel_rfl) dg_impl_NameOk rs_impl_NameOk rfl rfl ?_
  delta c_impl_NameOk T.o X.i C.g
  refine Kbc (kBox Y Y Y Y Y (Ka Y (Kdb (Kc (Kf Y Y (Ke Y Y Y (Kq Y Y (Kj Y Y Y (Ka Y (kGP Y (fun g0 => Ki Y (Kf Y Y (Ki Y (Ke Y Y Y (Ki Y ?_))))) (fun g0 => Kg Y (Kg Y (Kg Y (Kl Y (Ka Y (Ka Y (Kd (Kr (Er (ra := [.one (.d _)]) rfl ?_)))))))))))))))))))
  · refine Ku true (ok_impl_all_Lbyte (a.map encB) (fun x => ∃ b : List UInt8, x = encB b ∧ b.length ≤ 4194304) (fun x => labelOk (decB x)) (by simp; omega) (fun x hx => by obtain ⟨c, h, rfl⟩ := List.mem_map.1 hx; exact ⟨c, rfl, hb c h⟩)) ⟨congrArg some (encBB_lst a), ⟨rfl, rfl, ⟨_, Tryd.func36, rfl, by kernel_rfl⟩, ?_⟩, trivial⟩ Y Y Y (fun _ => ?_)
    · rintro _ R ⟨x, ⟨c, rfl, h⟩, rfl, rfl⟩
      have := ok_impl_LabelOk c h
      simp only [decB_enc]
      exact this
    refine Kk Y (Ka Y (Ka Y (Kd (Kr (Er (ra := [.one (.d _)]) rfl ?_)))))
    rw [all_decB, show nameOk a = a.all labelOk by simp only [nameOk]; rw [decide_eq_true (by omega)]; rfl]
  · rw [show nameOk a = false by simp only [nameOk]; rw [decide_eq_false (by omega)]; rfl]

def c_impl_Name_wire : C := (.g (.o 0 1 (.box 1 (.t 0)) (.o 1 2 (.mov (.n 1)) .done)) (.g (.o 0 6 (.lit 6 1 [(.v (.int .u8 0))] 0 []) (.o 1 3 (.mov (.t 6)) .done)) (.seq (.g (.o 0 7 (.fad (.t 1) 0) (.o 1 8 (.load none (.t 7)) (.o 2 9 (.len (.t 8)) (.o 3 10 (.mov (.i 0)) .done)))) (.block 0 (.loop (.g (.o 0 11 (.bin .lss (.t 10) (.t 9)) .done) (.seq (.cond (.t 11) .skip (.exit 0)) (.seq (.block 1 (.g (.o 0 12 (.iad 1 (.t 8) (.t 10)) (.o 1 13 (.load none (.t 12)) (.o 2 5 (.mov (.t 13)) .done))) (.reg false (.o 0 14 (.mov (.t 3)) (.o 1 15 (.mov (.t 5)) (.o 2 16 (.len (.t 15)) (.o 3 17 (.conv .u8 (.t 16)) (.o 4 18 (.lit 18 1 [(.v (.int .u8 0))] 1 [(0, 1, (.t 17))]) (.o 5 19 (.app 19 1 1 (.t 14) (.t 18)) (.o 6 20 (.mov (.t 5)) (.o 7 21 (.app 21 1 1 (.t 19) (.t 20)) (.o 8 3 (.mov (.t 21)) .done)))))))))))) (.reg false (.o 0 22 (.bin .add (.t 10) (.i 1)) (.o 1 10 (.mov (.t 22)) .done))))))))) (.g (.o 0 23 (.mov (.t 3)) (.o 1 24 (.lit 24 1 [(.v (.int .u8 0))] 1 [(0, 1, (.v (.int .u8 0)))]) (.o 2 25 (.app 25 1 1 (.t 23) (.t 24)) (.o 3 2 (.mov (.t 25)) .done)))) .ret))))
theorem dg_impl_Name_wire : Tryd.f21.body.bind (digC Tryd.prog Tryd.f21.ntmps []) = some c_impl_Name_wire := by kernel_rfl
theorem rs_impl_Name_wire : resSlots Tryd.prog Tryd.f21 = some [.s 2] := by kernel_rfl
theorem ok_impl_Name_wire (a : List (List UInt8)) (hs : SmallBB a) :
    FnOK Tryd.prog 21 [.agg [.d (encBB a)]] (fun ra _ => ra = [.one (.own true (encB (wireN a)))]) := by
  refine FnOK.ofK Tryd.func21 (by kernel_rfl) dg_impl_Name_wire rs_impl_Name_wire rfl rfl ?_
  delta c_impl_Name_wire T.o X.i C.g
  have h1 := hs.len
  have h2 := hs.flat
  refine Kbc (kBox Y Y Y Y Y (Ka Y (Kdb (Kc (kLit Y Y Y Y (Ka Y (Kdb (Kbc (Kf Y Y (Ke Y Y Y (Kq Y Y (Ka Y (Kd (Kt ?_))))))))))))))
  refine kLoop (α := { i : Nat // i ≤ a.length }) (fun y => ⟨tabSl [(3, .c (.arr (rid 6 0) 1)), (8, .dv (encBB a)), (9, .i a.length), (10, .i y.1)], obTab 1 [(rid 6 0, ⟨1, 0, .arr true (encB (wireL (a.take y.1)))⟩)], []⟩) (fun y => a.length - y.1) ⟨0, by simp⟩ .normA ?_
  rintro ⟨i, hi⟩
  simp only
  have hl := wireL_le a i
  rcases Nat.lt_or_ge i a.length with hlt | hge
  · have hst := wireL_take a i hlt
    have hm := hs.mem _ (List.getElem_mem hlt)
    have hlen : (wireL (a.take i) ++ [u8 a[i].length]).length = (wireL (a.take i)).length + 1 := by simp
    refine Kbc (Kj Y Y Y (Kdb (Km Y (fun g0 => Kn (Kb (Kt (Kbc (kIadR Y Y Y om (Ky Y Y (Ka Y (Kd (Kc (Ka Y (Ka Y (Kq Y Y (kConvU8 Y (kLit Y Y Y Y (kAppR1 Y Y Y Y Y Y Y Y om (Ka Y (kAppR Y Y Y (src_encB _ _) rfl rfl rfl rfl om (Ka Y (Kd (Kv (Kc (kAdd Y Y om (Ka Y (Kd ?_)))))))))))))))))))))))) (fun g0 => om))))
    refine kInv ⟨⟨i + 1, by omega⟩, by simp only; omega, ?_⟩
    simp only [hst]
    exact .normA
  · have he : wireN a = wireL (a.take i) ++ [0] := by rw [show i = a.length by omega, List.take_length]; rfl
    rw [he]
    refine Kbc (Kj Y Y Y (Kdb (Km Y (fun g0 => om) (fun g0 => kExit (kExC (kExI (kExB (Kbc (Ka Y (kLit Y Y Y Y (kAppR1 (z := (0 : UInt8)) rfl rfl rfl rfl rfl rfl rfl rfl om (Ka Y (Kd (Kr (Er (ra := [.one (.own true _)]) rfl rfl)))))))))))))))

theorem ok_slices_Grow_Lbyte_byte (n : Nat) (hn : n ≤ 1099511627776) : FnOK Tryd.prog 44 [.one (.arr true true (.sl 1 [])), .one (.d (.sc (.int .i64 n)))] (fun ra _ => ra = [.one (.own true (.sl 1 []))]) := by
  refine FnOK.ofWalkGrow Tryd.func44 rfl (by kernel_rfl) fun w v hv => ?_
  have hs : (Tryd.prog.info? 5).map (fun i => (i.size, i.bytes, i.zero)) = some (1, 1, some (.int .u8 0)) := by kernel_rfl
  obtain ⟨i0, hi0⟩ : ∃ i0, Tryd.prog.info? 5 = some i0 := by
    cases h : Tryd.prog.info? 5 with
    | none => rw [h] at hs; cases hs
    | some i => exact ⟨i, rfl⟩
  rw [hi0] at hs
  simp only [Option.map_some, Option.some.injEq, Prod.mk.injEq] at hs
  obtain ⟨s1, s2, s3⟩ := hs
  have t22 : Tryd.prog.underlying 22 = some (.slice 5) := by kernel_rfl
  have t3 : Tryd.prog.underlying 3 = some (.int .i64) := by kernel_rfl
  obtain ⟨base, c, cs, rfl, hnil, hcl, hmax, hcs⟩ : ∃ (base : Option Addr) (c : Nat) (cs : List Value), v = .slice base 0 c ∧ (base = none → c = 0) ∧ cs.length = c ∧ c ≤ maxLen ∧ (∀ a, base = some a → ∀ j v, cs[j]? = some v → w.cell? (a.add j) = some v) := by
    rcases hv with rfl | ⟨b, c, cur, e0, rfl, hb, hmax, hcur⟩
    · exact ⟨none, 0, [], rfl, fun _ => rfl, rfl, Nat.zero_le _, fun a ha => by cases ha⟩
    · refine ⟨some ⟨b, 0, none⟩, c, cur.toList, rfl, fun h => (by cases h), by simpa using hcur, hmax, fun a ha j v hj => ?_⟩
      cases ha
      rw [addr_add, Nat.zero_add]
      simp only [World.cell?, hb]
      simpa using hj
  have hc63 : c ≤ 9223372036854775807 := by simpa [maxLen] using hmax
  have h1 : ¬ ((n : Int) < 0) := by omega
  have h2 : Go.RowKit.wrap64 ((c : Int) - ((0 : Nat) : Int)) = (c : Int) - ((0 : Nat) : Int) := by unfold Go.RowKit.wrap64; omega
  have h3 : Go.RowKit.wrap64 ((n : Int) - ((c : Int) - ((0 : Nat) : Int))) = (n : Int) - ((c : Int) - ((0 : Nat) : Int)) := by unfold Go.RowKit.wrap64; omega
  by_cases hroom : n ≤ c
  · have h4 : ¬ ((n : Int) - ((c : Int) - ((0 : Nat) : Int)) > 0) := by omega
    have fin : Calls Tryd.prog 44 #[.slice base 0 c, .int .i64 n] w fun e w' => e = .returned (.slice base 0 c) ∧ w' = w := by
      go_enter Tryd.func44, Tryd.ntmps44
      go_wp2
      go_ret
      exact ⟨rfl, rfl⟩
    exact fin.mono fun e w' h => .inl h
  · have h4 : (n : Int) - ((c : Int) - ((0 : Nat) : Int)) > 0 := by omega
    have hold : (Builtin.firstCells i0.size c (.slice base c c)).run Tryd.prog w.drew = .ok cs.toArray w.drew := by
      cases base with
      | none =>
        have h0 := hnil rfl
        subst h0
        have hc0 : cs = [] := List.length_eq_zero_iff.1 (by simpa using hcl)
        rw [hc0]
        exact run_firstCells_none w.drew i0.size 0 0 0
      | some a => exact run_firstCells_some w.drew i0.size c a c c cs (by rw [s1, Nat.mul_one]; exact hcl) (fun j v hj => hcs a rfl j v hj)
    have hrz : ∀ ty, (Builtin.append_ #[22, 3] ty #[.slice base c c, .int .i64 ((n : Int) - ((c : Int) - ((0 : Nat) : Int)))]).run Tryd.prog w =
        .ok (.slice (some ⟨w.heap.size, 0, none⟩) n (grownCap w n c 5)) (w.drew.alloc (.cells (cs.toArray ++ Builtin.zeroCells (Value.int .u8 0).cells (n - c) ++ Builtin.zeroCells (Value.int .u8 0).cells (grownCap w n c 5 - n)) 5)) := fun ty => by
      have h := Lib.run_append_grow_zeros w 22 3 ty 5 i0 (.int .u8 0) .i64 .i64 t22 t3 hi0 s3 base c c cs hold (n - c) (by omega) (by omega) (by omega) (by omega) (by rw [s2]; omega) (by rw [show c + (n - c) = n by omega]; exact growslice_fits (by omega) (by rw [s2]; omega))
      rw [show c + (n - c) = n by omega] at h
      rw [show (n : Int) - ((c : Int) - ((0 : Nat) : Int)) = ((n - c : Nat) : Int) by omega]
      exact h
    have hGn : n ≤ grownCap w n c 5 := grownCap_ge w _ _ _
    have hGm : grownCap w n c 5 ≤ maxLen := grownCap_le_maxLen w n c 5 (by unfold maxLen; omega)
    obtain ⟨G, hG⟩ : ∃ G, G = grownCap w n c 5 := ⟨_, rfl⟩
    rw [← hG] at hrz hGn hGm
    have hG63 : G ≤ 9223372036854775807 := by unfold maxLen at hGm; omega
    have fin : Calls Tryd.prog 44 #[.slice base 0 c, .int .i64 n] w fun e w' => e = .returned (.slice (some ⟨w.heap.size, 0, none⟩) 0 G) ∧ w' = w.drew.alloc (.cells (cs.toArray ++ Builtin.zeroCells (Value.int .u8 0).cells (n - c) ++ Builtin.zeroCells (Value.int .u8 0).cells (G - n)) 5) := by
      clear hold hG hcs hGm
      go_enter Tryd.func44, Tryd.ntmps44
      cases base with
      | none =>
        have h0 := hnil rfl
        subst h0
        go_wp2_with (at_builtin; refine Lib.wpList_append_run _ rfl _ _ _ _ rfl _ _ rfl rfl _ _ (hrz _) ?_)
        all_goals (go_ret; exact ⟨rfl, rfl⟩)
      | some a =>
        obtain ⟨ab, ao, asp⟩ := a
        go_wp2_with (at_builtin; refine Lib.wpList_append_run _ rfl _ _ _ _ rfl _ _ rfl rfl _ _ (hrz _) ?_)
        all_goals (go_ret; exact ⟨rfl, rfl⟩)
    refine fin.mono fun e w' h => .inr ?_
    obtain ⟨rfl, rfl⟩ := h
    refine ⟨G, cs.toArray ++ Builtin.zeroCells (Value.int .u8 0).cells (n - c) ++ Builtin.zeroCells (Value.int .u8 0).cells (G - n), 5, rfl, (Go.RowKit.Below.refl _ w).drew.alloc (Nat.le_refl _) _, (by show (w.heap.push _)[w.heap.size]? = _; exact Array.getElem?_push_size), hGm, ?_⟩
    have hz : ∀ n, (Builtin.zeroCells (Value.int .u8 0).cells n).size = n := fun n => by rw [size_zeroCells]; exact Nat.mul_one n
    simp only [Array.size_append, List.size_toArray, hz, hcl]
    omega

def c_slices_Concat_Lbyte_byte : C := (.g (.o 0 2 (.mov (.n 1)) .done) (.g (.o 0 3 (.mov (.i 0)) .done) (.seq (.g (.o 0 9 (.mov (.t 0)) (.o 1 10 (.len (.t 9)) (.o 2 11 (.mov (.i 0)) .done))) (.block 0 (.loop (.g (.o 0 12 (.bin .lss (.t 11) (.t 10)) .done) (.seq (.cond (.t 12) .skip (.exit 0)) (.seq (.block 1 (.g (.o 0 13 (.iad 1 (.t 9) (.t 11)) (.o 1 14 (.load none (.t 13)) (.o 2 5 (.mov (.t 14)) .done))) (.g (.o 0 15 (.mov (.t 3)) (.o 1 16 (.mov (.t 5)) (.o 2 17 (.len (.t 16)) (.o 3 18 (.bin .add (.t 15) (.t 17)) (.o 4 3 (.mov (.t 18)) .done))))) (.g (.o 0 19 (.mov (.t 3)) (.o 1 20 (.bin .lss (.t 19) (.i 0)) .done)) (.cond (.t 20) (.reg false (.op 0 [] (some 21) none false .bad (.op 1 [] none none false .bad .done))) .skip))))) (.reg false (.o 0 22 (.bin .add (.t 11) (.i 1)) (.o 1 11 (.mov (.t 22)) .done))))))))) (.g (.o 0 23 (.mov (.t 3)) (.o 1 24 (.call 24 44 [(.n 1), (.t 23)]) (.o 2 6 (.mov (.t 24)) .done))) (.seq (.g (.o 0 25 (.mov (.t 0)) (.o 1 26 (.len (.t 25)) (.o 2 27 (.mov (.i 0)) .done))) (.block 2 (.loop (.g (.o 0 28 (.bin .lss (.t 27) (.t 26)) .done) (.seq (.cond (.t 28) .skip (.exit 2)) (.seq (.block 3 (.g (.o 0 29 (.iad 1 (.t 25) (.t 27)) (.o 1 30 (.load none (.t 29)) (.o 2 8 (.mov (.t 30)) .done))) (.reg false (.o 0 31 (.mov (.t 6)) (.o 1 32 (.mov (.t 8)) (.o 2 33 (.app 33 1 1 (.t 31) (.t 32)) (.o 3 6 (.mov (.t 33)) .done))))))) (.reg false (.o 0 34 (.bin .add (.t 27) (.i 1)) (.o 1 27 (.mov (.t 34)) .done))))))))) (.g (.o 0 35 (.mov (.t 6)) (.o 1 2 (.mov (.t 35)) .done)) .ret))))))
theorem dg_slices_Concat_Lbyte_byte : Tryd.f20.body.bind (digC Tryd.prog Tryd.f20.ntmps []) = some c_slices_Concat_Lbyte_byte := by kernel_rfl
theorem rs_slices_Concat_Lbyte_byte : resSlots Tryd.prog Tryd.f20 = some [.s 2] := by kernel_rfl
theorem ok_slices_Concat_Lbyte_byte (a : List (List UInt8)) (ha : a.length ≤ 4194304) (hf : a.flatten.length ≤ 1099511627776) :
    FnOK Tryd.prog 20 [.one (.d (encBB a))] (fun ra _ => ra = [.one (.own true (encB a.flatten))]) := by
  refine FnOK.ofK Tryd.func20 (by kernel_rfl) dg_slices_Concat_Lbyte_byte rs_slices_Concat_Lbyte_byte rfl rfl ?_
  delta c_slices_Concat_Lbyte_byte T.o X.i C.g
  refine Kbc (Ka Y (Kdb (Kc (Ka Y (Kdb (Kbc (Ka Y (Kq Y Y (Ka Y (Kd (Kt ?_)))))))))))
  refine kLoop (α := { i : Nat // i ≤ a.length }) (fun y => ⟨tabSl [(0, .dv (encBB a)), (3, .i (a.take y.1).flatten.length), (9, .dv (encBB a)), (10, .i a.length), (11, .i y.1)], obTab 1 [], []⟩) (fun y => a.length - y.1) ⟨0, by simp⟩ .normA ?_
  rintro ⟨i, hi⟩
  simp only
  have hle := flat_le a i
  rcases Nat.lt_or_ge i a.length with hlt | hge
  · have hst : (a.take (i + 1)).flatten = (a.take i).flatten ++ a[i] := by rw [← List.take_append_getElem hlt, List.flatten_append]; simp
    have hle2 := flat_le a (i + 1)
    have hle3 : (a.take (i + 1)).flatten.length = (a.take i).flatten.length + a[i].length := by rw [hst, List.length_append]
    refine Kbc (Kj Y Y Y (Kdb (Km Y (fun g0 => Kn (Kb (Kt (Kbc (kIadR Y Y Y prl (Ky Y Y (Ka Y (Kdb (Kc (Ka Y (Ka Y (Kq Y Y (kAdd Y Y om (Ka Y (Kdb (Kc (Ka Y (Kj Y Y Y (Kd (kCondF Y (Kn (Kv (Kc (kAdd Y Y om (Ka Y (Kd ?_)))))))))))))))))))))))))) (fun g0 => om))))
    refine kInv ⟨⟨i + 1, hlt⟩, by simp only; omega, ?_⟩
    simp only [hle3]
    exact .normA
  · have e : i = a.length := by omega
    subst e
    rw [List.take_length]
    refine Kbc (Kj Y Y Y (Kdb (Km Y (fun g0 => om) (fun g0 => kExit (kExC (kExI (kExB (Kbc (Ka Y (Ku true (ok_slices_Grow_Lbyte_byte _ prx) ⟨⟨rfl, rfl⟩, rfl, trivial⟩ Y Y Y (fun _ => (Ka Y (Kdb (Kbc (Ka Y (Kq Y Y (Ka Y (Kd (Kt ?_)))))))))))))))))))
    refine kLoop (α := { i : Nat // i ≤ a.length }) (fun y => ⟨tabSl [(6, .c (.arr (rid 24 0) 1)), (25, .dv (encBB a)), (26, .i a.length), (27, .i y.1)], obTab 1 [(rid 24 0, ⟨1, 0, .arr true (encB (a.take y.1).flatten)⟩)], []⟩) (fun y => a.length - y.1) ⟨0, by simp⟩ .normA ?_
    rintro ⟨i, hi⟩
    simp only
    have hle := flat_le a i
    rcases Nat.lt_or_ge i a.length with hlt | hge
    · have hst : (a.take (i + 1)).flatten = (a.take i).flatten ++ a[i] := by rw [← List.take_append_getElem hlt, List.flatten_append]; simp
      have hle2 := flat_le a (i + 1)
      have hle3 : (a.take (i + 1)).flatten.length = (a.take i).flatten.length + a[i].length := by rw [hst, List.length_append]
      refine Kbc (Kj Y Y Y (Kdb (Km Y (fun g0 => Kn (Kb (Kt (Kbc (kIadR Y Y Y prl (Ky Y Y (Ka Y (Kd (Kc (Ka Y (Ka Y (kAppR Y Y Y (src_encB _ _) rfl rfl rfl rfl prl (Ka Y (Kd (Kv (Kc (kAdd Y Y om (Ka Y (Kd ?_))))))))))))))))))) (fun g0 => om))))
      refine kInv ⟨⟨i + 1, hlt⟩, by simp only; omega, ?_⟩
      simp only [hst]
      exact .normA
    · refine Kbc (Kj Y Y Y (Kdb (Km Y (fun g0 => om) (fun g0 => kExit (kExC (kExI (kExB (Kbc (Ka Y (Ka Y (Kd (kMem [(102400, ⟨1, 0, .arr true _⟩)] [(2, .c (.arr 102400 1))] [] ⟨Y, trivial⟩ ⟨Y, trivial⟩ Y (Kr (Er (ra := [.one (.own true _)]) rfl ?_))))))))))))))
      rw [show i = a.length by omega, List.take_length]

def c_impl_NamePut : C := (.g (.o 0 3 (.box 3 (.t 1)) (.o 1 4 (.mov (.n 1)) (.o 2 5 (.mov (.v (.bool false))) .done))) (.seq (.g (.o 0 6 (.load (some 1) (.t 3)) (.o 1 7 (.call 7 12 [(.t 6)]) (.o 2 8 (.un .not (.t 7)) .done))) (.cond (.t 8) (.g (.o 0 4 (.mov (.n 1)) (.o 1 5 (.mov (.v (.bool false))) .done)) .ret) .skip)) (.g (.o 0 9 (.mov (.t 0)) (.o 1 10 (.load (some 1) (.t 3)) (.o 2 11 (.call 11 21 [(.t 10)]) (.o 3 12 (.lit 12 1 [(.n 1)] 2 [(0, 1, (.t 9)), (1, 1, (.t 11))]) (.o 4 13 (.call 13 20 [(.t 12)]) (.o 5 4 (.mov (.t 13)) (.o 6 5 (.mov (.v (.bool true))) .done))))))) .ret)))
theorem dg_impl_NamePut : Tryd.f6.body.bind (digC Tryd.prog Tryd.f6.ntmps []) = some c_impl_NamePut := by kernel_rfl
theorem rs_impl_NamePut : resSlots Tryd.prog Tryd.f6 = some [.s 4, .s 5] := by kernel_rfl
theorem ok_impl_NamePut (b : List UInt8) (n : List (List UInt8)) (hb : b.length ≤ 4194304) (hn : SmallBB n) :
    FnOK Tryd.prog 6 [.one (.d (encB b)), .agg [.d (encBB n)]] (fun ra _ => ra = [.one (.own true (encB (if nameOk n then b ++ wireN n else []))), .one (.d (.sc (.bool (nameOk n))))]) := by
  refine FnOK.ofK Tryd.func6 (by kernel_rfl) dg_impl_NamePut rs_impl_NamePut rfl rfl ?_
  delta c_impl_NamePut T.o X.i C.g
  have h1 := hn.len
  have h2 := hn.mem
  have h3 := fun h : nameOk n = true => wireN_small h
  cases hk : nameOk n
  · refine Kbc (kBox Y Y Y Y Y (Ka Y (Ka Y (Kdb (Kbc (Ke Y Y Y (Kp (ok_impl_NameOk _ prx prx) ⟨⟨⟨Y, trivial⟩, leb⟩, trivial⟩ Y Y Y Y Y (Kw Y Y (Kd (kCondN Y (fun g0 => Kbc (Ka Y (Ka Y (Kd (Kr (Er (ra := [.one (.own true _), .one (.d _)]) rfl rfl)))))) (fun g0 => (by (simp [*] at g0)))))))))))))
  · have h4 := h3 hk
    have e : [b, wireN n].flatten = b ++ wireN n := by simp
    refine Kbc (kBox Y Y Y Y Y (Ka Y (Ka Y (Kdb (Kbc (Ke Y Y Y (Kp (ok_impl_NameOk _ prx prx) ⟨⟨⟨Y, trivial⟩, leb⟩, trivial⟩ Y Y Y Y Y (Kw Y Y (Kd (kCondN Y (fun g0 => (by (simp [*] at g0))) (fun g0 => Kn (Kbc (Ka Y (Ke Y Y Y (Ku true (ok_impl_Name_wire _ prx) ⟨⟨⟨Y, trivial⟩, leb⟩, trivial⟩ Y Y Y (fun _ => (kLitD Y Y Y Y ?_)))))))))))))))))
    refine Ku true (ok_slices_Concat_Lbyte_byte [b, wireN n] (by simp) (by simp; omega)) ⟨Y, trivial⟩ Y Y Y (fun _ => ?_)
    rw [e]
    refine Ka Y (Ka Y (Kd (Kr (Er (ra := [.one (.own true _), .one (.d _)]) rfl rfl))))

def c_bytes_Clone : C := (.g (.o 0 2 (.mov (.n 1)) .done) (.seq (.g (.o 0 3 (.mov (.t 0)) (.o 1 4 (.eqn false (.t 3)) .done)) (.cond (.t 4) (.g (.o 0 2 (.mov (.n 1)) .done) .ret) .skip)) (.g (.o 0 5 (.lit 5 1 [(.v (.int .u8 0))] 0 []) (.o 1 6 (.mov (.t 0)) (.o 2 7 (.app 7 1 1 (.t 5) (.t 6)) (.o 3 2 (.mov (.t 7)) .done)))) .ret)))
theorem dg_bytes_Clone : Tryd.f48.body.bind (digC Tryd.prog Tryd.f48.ntmps []) = some c_bytes_Clone := by kernel_rfl
theorem rs_bytes_Clone : resSlots Tryd.prog Tryd.f48 = some [.s 2] := by kernel_rfl
theorem ok_bytes_Clone (b : List UInt8) (hb : b.length ≤ 140737488355328) :
    FnOK Tryd.prog 48 [.one (.d (encB b))] (fun ra _ => ra = [.one (.own true (encB b))]) := by
  refine FnOK.ofK Tryd.func48 (by kernel_rfl) dg_bytes_Clone rs_bytes_Clone rfl rfl ?_
  delta c_bytes_Clone T.o X.i C.g
  refine Kbc (Ka Y (Kd ?_))
  refine Kb (Kbc (Ka Y (kEqn Y Y Y fun n hn => Kd ?_)))
  refine kCond Y (fun h => ?_) (fun h => ?_)
  · refine Kbc (Ka Y (Kd (Kr ?_)))
    refine endRet (ra := [.one (.own true (.sl 1 []))]) rfl ⟨⟨rfl, trivial⟩, nodupB_sound rfl, trivial, trivial⟩ ?_
    have : b = [] := by
      rw [len_encB] at hn
      cases b with
      | nil => rfl
      | cons x l => have := hn (by simp); simp [this] at h
    rw [this]; rfl
  · refine Kn (Kbc ?_)
    refine kLit Y Y Y Y (Ka Y ?_)
    refine kApp (cy := .d (encB b)) rfl rfl rfl (src_encB _ b) rfl rfl ⟨rfl, rfl, Nat.zero_lt_one⟩ Y ?_ (Ka Y (Kd (Kr ?_)))
    · show ((DV.sl 1 (chunk 1 0 [])).len + (encB b).len) * 1 ≤ _ ∧ _
      rw [len_encB]; simp [DV.len, chunk]; omega
    refine endRet (ra := [.one (.own true _)]) rfl ⟨⟨⟨⟨_, rfl, fun _ => rfl⟩, .inl (Nat.zero_lt_succ _)⟩, trivial⟩, nodupB_sound rfl, trivial, trivial⟩ ?_
    exact congrArg (fun x => [RA.one (RV.own true x)]) (app_nil_encB b)

def c_impl_Lower : C := (.g (.o 0 2 (.mov (.n 1)) .done) (.g (.o 0 6 (.mov (.t 0)) (.o 1 7 (.call 7 48 [(.t 6)]) (.o 2 3 (.mov (.t 7)) .done))) (.seq (.g (.o 0 8 (.mov (.t 3)) (.o 1 9 (.len (.t 8)) (.o 2 10 (.mov (.i 0)) .done))) (.block 0 (.loop (.g (.o 0 11 (.bin .lss (.t 10) (.t 9)) .done) (.seq (.cond (.t 11) .skip (.exit 0)) (.seq (.block 1 (.g (.o 0 12 (.mov (.t 10)) (.o 1 13 (.iad 1 (.t 8) (.t 10)) (.o 2 14 (.load none (.t 13)) (.o 3 4 (.mov (.t 12)) (.o 4 5 (.mov (.t 14)) .done))))) (.g (.o 0 15 (.mov (.t 5)) (.o 1 16 (.bin .geq (.t 15) (.v (.int .u8 65))) (.o 2 17 (.mov (.t 16)) (.op 3 [] (some 18) (some (17, true)) false (.mov (.t 5)) (.op 4 [] (some 19) (some (17, true)) false (.bin .leq (.t 18) (.v (.int .u8 90))) (.o 5 20 (.pick (.t 17) (.t 19) (.v (.bool false))) .done)))))) (.cond (.t 20) (.reg false (.o 0 21 (.mov (.t 3)) (.o 1 22 (.mov (.t 4)) (.o 2 23 (.mov (.t 5)) (.o 3 24 (.bin .add (.t 23) (.v (.int .u8 97))) (.o 4 25 (.bin .sub (.t 24) (.v (.int .u8 65))) (.o 5 26 (.iad 1 (.t 21) (.t 22)) (.op 6 [] none none false (.store none (.t 26) (.t 25)) .done)))))))) .skip)))) (.reg false (.o 0 27 (.bin .add (.t 10) (.i 1)) (.o 1 10 (.mov (.t 27)) .done))))))))) (.g (.o 0 28 (.mov (.t 3)) (.o 1 2 (.mov (.t 28)) .done)) .ret))))
theorem dg_impl_Lower : Tryd.f28.body.bind (digC Tryd.prog Tryd.f28.ntmps []) = some c_impl_Lower := by kernel_rfl
theorem rs_impl_Lower : resSlots Tryd.prog Tryd.f28 = some [.s 2] := by kernel_rfl
theorem ok_impl_Lower (a : List UInt8) (ha : a.length ≤ 4194304) :
    FnOK Tryd.prog 28 [.one (.d (encB a))] (fun ra _ => ra = [.one (.own true (encB (lowerB a)))]) := by
  refine FnOK.ofK Tryd.func28 (by kernel_rfl) dg_impl_Lower rs_impl_Lower rfl rfl ?_
  delta c_impl_Lower T.o X.i C.g
  refine Kbc (Ka Y (Kdb (Kc (Ka Y (Ku true (ok_bytes_Clone _ prx) ⟨Y, trivial⟩ Y Y Y (fun _ => (Ka Y (Kdb (Kbc (Ka Y (Kq Y Y (Ka Y (Kd (Kt ?_))))))))))))))
  refine kLoop (α := { i : Nat // i ≤ a.length }) (fun y => ⟨tabSl [(3, .c (.arr (rid 7 0) 1)), (8, .c (.arr (rid 7 0) 1)), (9, .i a.length), (10, .i y.1)], obTab 1 [(rid 7 0, ⟨1, 0, .arr true (encB (lowerB (a.take y.1) ++ a.drop y.1))⟩)], []⟩) (fun y => a.length - y.1) ⟨0, by simp⟩ .normA ?_
  rintro ⟨i, hi⟩
  simp only
  have hlen : (lowerB (a.take i) ++ a.drop i).length = a.length := by simp [lowerB]; omega
  rcases Nat.lt_or_ge i a.length with hlt | hge
  · have hget : (lowerB (a.take i) ++ a.drop i)[i]? = some a[i] := by
      rw [List.getElem?_append_right (by simp [lowerB]; omega)]; simp [lowerB, Nat.min_eq_left hi]
    have hst : ∀ c, c = lowC a[i] → (lowerB (a.take i) ++ a.drop i).set i c = lowerB (a.take (i + 1)) ++ a.drop (i + 1) := by
      rintro c rfl
      rw [take_set_succ _ _ _ _ hlt (by simp [lowerB]; omega)]
      unfold lowerB
      rw [← List.take_append_getElem hlt, List.map_append]
      rfl
    revert hget hst hlen
    generalize lowerB (a.take i) ++ a.drop i = L
    intro hlen hget hst
    have hiL : i < L.length := by omega
    have hg : L[i] = a[i] := by rw [List.getElem?_eq_getElem hiL] at hget; simpa using hget
    have hw : IntKind.u8.wrap (IntKind.u8.wrap (((L[i]).toNat : Int) + 97) - 65) = ((L[i] + 32 : UInt8).toNat : Int) := by
      have := (L[i]).toNat_lt
      simp [IntKind.wrap, IntKind.bits, IntKind.signed, UInt8.toNat_add]
      omega
    have hno : (¬ ((L[i]).toNat : Int) ≥ 65 ∨ ¬ ((L[i]).toNat : Int) ≤ 90) → L = lowerB (a.take (i + 1)) ++ a.drop (i + 1) := by
      intro h
      rw [← hst L[i] (by
        rw [hg] at h ⊢
        unfold lowC
        rw [if_neg]
        rintro ⟨h1, h2⟩
        have h1 := UInt8.le_iff_toNat_le.1 h1
        have h2 := UInt8.le_iff_toNat_le.1 h2
        simp at h1 h2
        omega)]
      simp
    refine Kbc (Kj Y Y Y (Kdb (Km Y (fun g0 => Kn (Kb (Kt (Kbc (Ka Y (kIadAR Y Y Y Y prl (kLoadER Y Y prl rfl (Ka Y (Ka Y (Kdb (Kc (Ka Y (Kj Y Y Y (Ka Y (kGP Y (fun g1 => Ki Y (Ka Y (Ki Y (Kj Y Y Y (Kk Y (Ka Y (Kd (Km Y (fun g2 => Kc (kMem [(32768, ⟨1, 0, .arr true _⟩)] [(3, .c (.arr 32768 1)), (4, .c (.d _)), (5, .c (.d _))] [] ⟨Y, trivial⟩ ⟨Y, Y, Y, trivial⟩ Y (Ka Y (Ka Y (Ka Y (Kj Y Y Y (Kj Y Y Y (kIadAR Y Y Y Y prl ?_)))))))) (fun g2 => Kn (Kv (Kc (kAdd Y Y om (Ka Y (Kd ?_)))))))))))))) (fun g1 => Kg Y (Kg Y (Kl Y (Ka Y (Kd (kCondF Y (Kn (Kv (Kc (kAdd Y Y om (Ka Y (Kd ?_))))))))))))))))))))))))))) (fun g0 => om))))
    · refine kStoreER (z := L[i] + 32) Y Y Y Y Y Y Y hiL (by rw [← hw]; rfl) ?_
      refine Kd (Kv (Kc (kAdd Y Y om (Ka Y (Kd ?_)))))
      refine kInv ⟨⟨i + 1, by omega⟩, by simp only; omega, ?_⟩
      simp only
      rw [← hst (L[i] + 32) (by
        rw [hg] at *
        unfold lowC
        rw [if_pos]
        simp only [UInt8.le_iff_toNat_le]
        exact ⟨by simp; omega, by simp; omega⟩)]
      exact .normA
    all_goals
      refine kInv ⟨⟨i + 1, by omega⟩, by simp only; omega, ?_⟩
      simp only
      rw [← hno (by omega)]
      exact .normA
  · refine Kbc (Kj Y Y Y (Kdb (Km Y (fun g0 => om) (fun g0 => kExit (kExC (kExI (kExB (Kbc (Ka Y (Ka Y (Kd (kMem [(32768, ⟨1, 0, .arr true _⟩)] [(2, .c (.arr 32768 1))] [] ⟨Y, trivial⟩ ⟨Y, trivial⟩ Y (Kr (Er (ra := [.one (.own true _)]) rfl ?_))))))))))))))
    rw [show i = a.length by omega]
    simp

def c_bytes_Equal : C := (.g (.o 0 4 (.mov (.v (.bool false))) .done) (.g (.o 0 5 (.mov (.t 0)) (.o 1 6 (.b2s (.t 5)) (.o 2 7 (.mov (.t 1)) (.o 3 8 (.b2s (.t 7)) (.o 4 9 (.bin .eql (.t 6) (.t 8)) (.o 5 4 (.mov (.t 9)) .done)))))) .ret))
theorem dg_bytes_Equal : Tryd.f60.body.bind (digC Tryd.prog Tryd.f60.ntmps []) = some c_bytes_Equal := by kernel_rfl
theorem rs_bytes_Equal : resSlots Tryd.prog Tryd.f60 = some [.s 4] := by kernel_rfl
theorem ok_bytes_Equal (a b : List UInt8) :
    FnOK Tryd.prog 60 [.one (.d (encB a)), .one (.d (encB b))] (fun ra _ => ra = [.one (.d (.sc (.bool (a == b))))]) := by
  refine FnOK.ofK Tryd.func60 (by kernel_rfl) dg_bytes_Equal rs_bytes_Equal rfl rfl ?_
  delta c_bytes_Equal T.o X.i C.g
  refine Kbc (Ka Y (Kdb (Kc (Ka Y (kB2s Y Y (Ka Y (kB2s Y Y (Kj Y Y Y (Ka Y (Kd (Kr (Er (ra := [.one (.d _)]) rfl ?_))))))))))))
  simp only [bt_list]

def c_bytes_HasSuffix : C := (.g (.o 0 4 (.mov (.v (.bool false))) .done) (.g (.o 0 5 (.mov (.t 0)) (.o 1 6 (.len (.t 5)) (.o 2 7 (.mov (.t 1)) (.o 3 8 (.len (.t 7)) (.o 4 9 (.bin .geq (.t 6) (.t 8)) (.o 5 10 (.mov (.t 9)) (.op 6 [] (some 11) (some (10, true)) false (.mov (.t 0)) (.op 7 [] (some 12) (some (10, true)) false (.mov (.t 0)) (.op 8 [] (some 13) (some (10, true)) false (.len (.t 12)) (.op 9 [] (some 14) (some (10, true)) false (.mov (.t 1)) (.op 10 [] (some 15) (some (10, true)) false (.len (.t 14)) (.op 11 [] (some 16) (some (10, true)) false (.bin .sub (.t 13) (.t 15)) (.op 12 [] (some 17) (some (10, true)) false (.cut 1 (.t 11) (some (.t 16)) none) (.op 13 [] (some 18) (some (10, true)) false (.mov (.t 1)) (.op 14 [] (some 19) (some (10, true)) false (.call 19 60 [(.t 17), (.t 18)]) (.o 15 20 (.pick (.t 10) (.t 19) (.v (.bool false))) (.o 16 4 (.mov (.t 20)) .done))))))))))))))))) .ret))
theorem dg_bytes_HasSuffix : Tryd.f63.body.bind (digC Tryd.prog Tryd.f63.ntmps []) = some c_bytes_HasSuffix := by kernel_rfl
theorem rs_bytes_HasSuffix : resSlots Tryd.prog Tryd.f63 = some [.s 4] := by kernel_rfl
theorem ok_bytes_HasSuffix (a b : List UInt8) (ha : a.length ≤ 9223372036854775807) (hb : b.length ≤ 9223372036854775807) :
    FnOK Tryd.prog 63 [.one (.d (encB a)), .one (.d (encB b))] (fun ra _ => ra = [.one (.d (.sc (.bool (decide (b.length ≤ a.length ∧ a.drop (a.length - b.length) = b)))))]) := by
  refine FnOK.ofK Tryd.func63 (by kernel_rfl) dg_bytes_HasSuffix rs_bytes_HasSuffix rfl rfl ?_
  delta c_bytes_HasSuffix T.o X.i C.g
  refine Kbc (Ka Y (Kdb (Kc (Ka Y (Kq Y Y (Ka Y (Kq Y Y (Kj Y Y Y (Ka Y (kGP Y (fun g0 => Ki Y (Ka Y (Ki Y (Ka Y (Ki Y (Kq Y Y (Ki Y (Ka Y (Ki Y (Kq Y Y (Ki Y (kDif Y Y om (Ki Y (kCutLT Y Y om (Ki Y (Ka Y (Ki Y (Kp (ok_bytes_Equal _ _) ⟨Y, Y, trivial⟩ Y Y Y Y Y (Kk Y (Ka Y (Ka Y (Kd (Kr (Er (ra := [.one (.d _)]) rfl ?_)))))))))))))))))))))))) (fun g0 => Kg Y (Kg Y (Kg Y (Kg Y (Kg Y (Kg Y (Kg Y (Kg Y (Kg Y (Kl Y (Ka Y (Ka Y (Kd (Kr (Er (ra := [.one (.d _)]) rfl ?_)))))))))))))))))))))))))
  · have e : ((a.length : Int) - b.length).toNat = a.length - b.length := by omega
    refine congrArg (fun z : Bool => [RA.one (RV.d (DV.sc (Value.bool z)))]) ?_
    rw [e, Bool.eq_iff_iff]
    simp
    intro _
    omega
  · rw [decide_eq_false (by omega)]

def c_bytes_TrimSuffix : C := (.g (.o 0 4 (.mov (.n 1)) .done) (.seq (.g (.o 0 5 (.mov (.t 0)) (.o 1 6 (.mov (.t 1)) (.o 2 7 (.call 7 63 [(.t 5), (.t 6)]) .done))) (.cond (.t 7) (.g (.o 0 8 (.mov (.t 0)) (.o 1 9 (.mov (.t 0)) (.o 2 10 (.len (.t 9)) (.o 3 11 (.mov (.t 1)) (.o 4 12 (.len (.t 11)) (.o 5 13 (.bin .sub (.t 10) (.t 12)) (.o 6 14 (.cut 1 (.t 8) none (some (.t 13))) (.o 7 4 (.mov (.t 14)) .done)))))))) .ret) .skip)) (.g (.o 0 15 (.mov (.t 0)) (.o 1 4 (.mov (.t 15)) .done)) .ret)))
theorem dg_bytes_TrimSuffix : Tryd.f46.body.bind (digC Tryd.prog Tryd.f46.ntmps []) = some c_bytes_TrimSuffix := by kernel_rfl
theorem rs_bytes_TrimSuffix : resSlots Tryd.prog Tryd.f46 = some [.s 4] := by kernel_rfl
theorem ok_bytes_TrimSuffix (a b : List UInt8) (ha : a.length ≤ 9223372036854775807) (hb : b.length ≤ 9223372036854775807) :
    FnOK Tryd.prog 46 [.one (.d (encB a)), .one (.d (encB b))] (fun ra _ => ra = [.one (.d (encB (trimB a b)))]) := by
  refine FnOK.ofK Tryd.func46 (by kernel_rfl) dg_bytes_TrimSuffix rs_bytes_TrimSuffix rfl rfl ?_
  delta c_bytes_TrimSuffix T.o X.i C.g
  refine Kbc (Ka Y (Kdb (Kbc (Ka Y (Ka Y (Kp (ok_bytes_HasSuffix _ _ prx prx) ⟨Y, Y, trivial⟩ Y Y Y Y Y (Kd (Km Y (fun g0 => Kbc (Ka Y (Ka Y (Kq Y Y (Ka Y (Kq Y Y (kDif Y Y om (kCutHT Y Y om (Ka Y (Kd (Kr (Er (ra := [.one (.d _)]) rfl ?_)))))))))))) (fun g0 => Kn (Kbc (Ka Y (Ka Y (Kd (Kr (Er (ra := [.one (.d _)]) rfl ?_)))))))))))))))
  · rw [trimB, if_pos g0, show ((a.length : Int) - b.length).toNat = a.length - b.length by omega]
    rfl
  · rw [trimB, if_neg g0]

theorem ok_bytes_Count (a : List UInt8) (c : UInt8) : FnOK Tryd.prog 70 [.one (.d (encB a)), .one (.d (encB [c]))] (fun ra _ => ra = [.one (.d (.sc (.int .i64 (a.count c))))]) := by
  refine FnOK.ofWalk2 Tryd.func70 rfl (by kernel_rfl) fun w va vb S h1 h2 => ?_
  obtain ⟨b, o, k, rfl, hcell⟩ := h2.one_byte
  have hc := run_cntb (P := Tryd.prog) (w := w) (va := va) (c := c) Tryd.func77 (by kernel_rfl) rfl (by kernel_rfl) (by kernel_rfl) (Rd.of h1)
  go_enter Tryd.func70, Tryd.ntmps70
  go_wp2
  all_goals go_ret
  exact ⟨rfl, Go.RowKit.Below.refl _ _⟩

theorem ok_bytes_IndexByte (a : List UInt8) (c : UInt8) : FnOK Tryd.prog 78 [.one (.d (encB a)), .one (.d (.sc (.int .u8 c.toNat)))] (fun ra _ => ra = [.one (.d (.sc (.int .i64 (Go.Lib.indexByte a c))))]) := by
  refine FnOK.ofWalk2 Tryd.func78 rfl (by kernel_rfl) fun w va vb S h1 h2 => ?_
  obtain rfl := h2.sc_eq
  have hc := run_ixb (P := Tryd.prog) (w := w) (va := va) (c := c) Tryd.func85 (by kernel_rfl) rfl (by kernel_rfl) (by kernel_rfl) (Rd.of h1)
  go_enter Tryd.func78, Tryd.ntmps78
  go_wp2
  all_goals go_ret
  exact ⟨rfl, Go.RowKit.Below.refl _ _⟩

def c_bytes_Index : C := (.g (.o 0 4 (.mov (.i 0)) .done) (.g (.o 0 20 (.mov (.t 1)) (.o 1 21 (.len (.t 20)) (.o 2 5 (.mov (.t 21)) .done))) (.seq (.block 0 (.g (.o 0 23 (.mov (.t 5)) (.o 1 24 (.bin .eql (.t 23) (.i 0)) (.o 2 22 (.mov (.t 24)) .done))) (.cond (.t 22) (.g (.o 0 4 (.mov (.i 0)) .done) .ret) (.g (.o 0 26 (.mov (.t 5)) (.o 1 27 (.bin .eql (.t 26) (.i 1)) (.o 2 25 (.mov (.t 27)) .done))) (.cond (.t 25) (.g (.o 0 28 (.mov (.t 0)) (.o 1 29 (.mov (.t 1)) (.o 2 30 (.iad 1 (.t 29) (.i 0)) (.o 3 31 (.load none (.t 30)) (.o 4 32 (.call 32 78 [(.t 28), (.t 31)]) (.o 5 4 (.mov (.t 32)) .done)))))) .ret) (.g (.o 0 34 (.mov (.t 5)) (.o 1 35 (.mov (.t 0)) (.o 2 36 (.len (.t 35)) (.o 3 37 (.bin .eql (.t 34) (.t 36)) (.o 4 33 (.mov (.t 37)) .done))))) (.cond (.t 33) (.seq (.g (.o 0 38 (.mov (.t 1)) (.o 1 39 (.mov (.t 0)) (.o 2 40 (.call 40 60 [(.t 38), (.t 39)]) .done))) (.cond (.t 40) (.g (.o 0 4 (.mov (.i 0)) .done) .ret) .skip)) (.g (.o 0 4 (.mov (.i (-1))) .done) .ret)) (.g (.o 0 42 (.mov (.t 5)) (.o 1 43 (.mov (.t 0)) (.o 2 44 (.len (.t 43)) (.o 3 45 (.bin .gtr (.t 42) (.t 44)) (.o 4 41 (.mov (.t 45)) .done))))) (.cond (.t 41) (.g (.o 0 4 (.mov (.i (-1))) .done) .ret) (.g (.o 0 47 (.mov (.t 5)) (.op 1 [] (some 48) none false .bad (.o 2 49 (.bin .leq (.t 47) (.t 48)) (.o 3 46 (.mov (.t 49)) .done)))) (.cond (.t 46) (.seq (.g (.o 0 50 (.mov (.t 0)) (.o 1 51 (.len (.t 50)) (.o 2 52 (.bin .leq (.t 51) (.i 64)) .done))) (.cond (.t 52) (.g (.o 0 53 (.mov (.t 0)) (.o 1 54 (.mov (.t 1)) (.o 2 55 (.call 55 79 [(.t 53), (.t 54)]) (.o 3 4 (.mov (.t 55)) .done)))) .ret) .skip)) (.g (.o 0 56 (.mov (.t 1)) (.o 1 57 (.iad 1 (.t 56) (.i 0)) (.o 2 58 (.load none (.t 57)) (.o 3 6 (.mov (.t 58)) .done)))) (.g (.o 0 59 (.mov (.t 1)) (.o 1 60 (.iad 1 (.t 59) (.i 1)) (.o 2 61 (.load none (.t 60)) (.o 3 7 (.mov (.t 61)) .done)))) (.g (.o 0 8 (.mov (.i 0)) .done) (.g (.o 0 62 (.mov (.t 0)) (.o 1 63 (.len (.t 62)) (.o 2 64 (.mov (.t 5)) (.o 3 65 (.bin .sub (.t 63) (.t 64)) (.o 4 66 (.bin .add (.t 65) (.i 1)) (.o 5 9 (.mov (.t 66)) .done)))))) (.g (.o 0 10 (.mov (.i 0)) .done) (.seq (.block 1 (.loop (.seq (.g (.o 0 67 (.mov (.t 8)) (.o 1 68 (.mov (.t 9)) (.o 2 69 (.bin .lss (.t 67) (.t 68)) .done))) (.cond (.t 69) .skip (.exit 1))) (.block 2 (.seq (.g (.o 0 70 (.mov (.t 0)) (.o 1 71 (.mov (.t 8)) (.o 2 72 (.iad 1 (.t 70) (.t 71)) (.o 3 73 (.load none (.t 72)) (.o 4 74 (.mov (.t 6)) (.o 5 75 (.bin .neq (.t 73) (.t 74)) .done)))))) (.cond (.t 75) (.g (.o 0 76 (.mov (.t 0)) (.o 1 77 (.mov (.t 8)) (.o 2 78 (.bin .add (.t 77) (.i 1)) (.o 3 79 (.mov (.t 9)) (.o 4 80 (.cut 1 (.t 76) (some (.t 78)) (some (.t 79))) (.o 5 81 (.mov (.t 6)) (.o 6 82 (.call 82 78 [(.t 80), (.t 81)]) (.o 7 11 (.mov (.t 82)) .done)))))))) (.seq (.g (.o 0 83 (.mov (.t 11)) (.o 1 84 (.bin .lss (.t 83) (.i 0)) .done)) (.cond (.t 84) (.g (.o 0 4 (.mov (.i (-1))) .done) .ret) .skip)) (.reg false (.o 0 85 (.mov (.t 8)) (.o 1 86 (.mov (.t 11)) (.o 2 87 (.bin .add (.t 86) (.i 1)) (.o 3 88 (.bin .add (.t 85) (.t 87)) (.o 4 8 (.mov (.t 88)) .done)))))))) .skip)) (.seq (.g (.o 0 89 (.mov (.t 0)) (.o 1 90 (.mov (.t 8)) (.o 2 91 (.bin .add (.t 90) (.i 1)) (.o 3 92 (.iad 1 (.t 89) (.t 91)) (.o 4 93 (.load none (.t 92)) (.o 5 94 (.mov (.t 7)) (.o 6 95 (.bin .eql (.t 93) (.t 94)) (.o 7 96 (.mov (.t 95)) (.op 8 [] (some 97) (some (96, true)) false (.mov (.t 0)) (.op 9 [] (some 98) (some (96, true)) false (.mov (.t 8)) (.op 10 [] (some 99) (some (96, true)) false (.mov (.t 8)) (.op 11 [] (some 100) (some (96, true)) false (.mov (.t 5)) (.op 12 [] (some 101) (some (96, true)) false (.bin .add (.t 99) (.t 100)) (.op 13 [] (some 102) (some (96, true)) false (.cut 1 (.t 97) (some (.t 98)) (some (.t 101))) (.op 14 [] (some 103) (some (96, true)) false (.mov (.t 1)) (.op 15 [] (some 104) (some (96, true)) false (.call 104 60 [(.t 102), (.t 103)]) (.o 16 105 (.pick (.t 96) (.t 104) (.v (.bool false))) .done))))))))))))))))) (.cond (.t 105) (.g (.o 0 106 (.mov (.t 8)) (.o 1 4 (.mov (.t 106)) .done)) .ret) .skip)) (.g (.o 0 107 (.mov (.t 10)) (.o 1 108 (.bin .add (.t 107) (.i 1)) (.o 2 10 (.mov (.t 108)) .done))) (.g (.o 0 109 (.mov (.t 8)) (.o 1 110 (.bin .add (.t 109) (.i 1)) (.o 2 8 (.mov (.t 110)) .done))) (.g (.o 0 111 (.mov (.t 10)) (.o 1 112 (.mov (.t 8)) (.o 2 113 (.call 113 80 [(.t 112)]) (.o 3 114 (.bin .gtr (.t 111) (.t 113)) .done)))) (.cond (.t 114) (.g (.o 0 115 (.mov (.t 0)) (.o 1 116 (.mov (.t 8)) (.o 2 117 (.cut 1 (.t 115) (some (.t 116)) none) (.o 3 118 (.mov (.t 1)) (.o 4 119 (.call 119 79 [(.t 117), (.t 118)]) (.o 5 12 (.mov (.t 119)) .done)))))) (.seq (.g (.o 0 120 (.mov (.t 12)) (.o 1 121 (.bin .geq (.t 120) (.i 0)) .done)) (.cond (.t 121) (.g (.o 0 122 (.mov (.t 12)) (.o 1 123 (.mov (.t 8)) (.o 2 124 (.bin .add (.t 122) (.t 123)) (.o 3 4 (.mov (.t 124)) .done)))) .ret) .skip)) (.g (.o 0 4 (.mov (.i (-1))) .done) .ret))) .skip)))))))))) (.g (.o 0 4 (.mov (.i (-1))) .done) .ret)))))))) .skip))))))))))) (.g (.o 0 125 (.mov (.t 1)) (.o 1 126 (.iad 1 (.t 125) (.i 0)) (.o 2 127 (.load none (.t 126)) (.o 3 13 (.mov (.t 127)) .done)))) (.g (.o 0 128 (.mov (.t 1)) (.o 1 129 (.iad 1 (.t 128) (.i 1)) (.o 2 130 (.load none (.t 129)) (.o 3 14 (.mov (.t 130)) .done)))) (.g (.o 0 15 (.mov (.i 0)) .done) (.g (.o 0 16 (.mov (.i 0)) .done) (.g (.o 0 131 (.mov (.t 0)) (.o 1 132 (.len (.t 131)) (.o 2 133 (.mov (.t 5)) (.o 3 134 (.bin .sub (.t 132) (.t 133)) (.o 4 135 (.bin .add (.t 134) (.i 1)) (.o 5 17 (.mov (.t 135)) .done)))))) (.seq (.block 3 (.loop (.seq (.g (.o 0 136 (.mov (.t 15)) (.o 1 137 (.mov (.t 17)) (.o 2 138 (.bin .lss (.t 136) (.t 137)) .done))) (.cond (.t 138) .skip (.exit 3))) (.block 4 (.seq (.g (.o 0 139 (.mov (.t 0)) (.o 1 140 (.mov (.t 15)) (.o 2 141 (.iad 1 (.t 139) (.t 140)) (.o 3 142 (.load none (.t 141)) (.o 4 143 (.mov (.t 13)) (.o 5 144 (.bin .neq (.t 142) (.t 143)) .done)))))) (.cond (.t 144) (.g (.o 0 145 (.mov (.t 0)) (.o 1 146 (.mov (.t 15)) (.o 2 147 (.bin .add (.t 146) (.i 1)) (.o 3 148 (.mov (.t 17)) (.o 4 149 (.cut 1 (.t 145) (some (.t 147)) (some (.t 148))) (.o 5 150 (.mov (.t 13)) (.o 6 151 (.call 151 78 [(.t 149), (.t 150)]) (.o 7 18 (.mov (.t 151)) .done)))))))) (.seq (.g (.o 0 152 (.mov (.t 18)) (.o 1 153 (.bin .lss (.t 152) (.i 0)) .done)) (.cond (.t 153) (.exit 3) .skip)) (.reg false (.o 0 154 (.mov (.t 15)) (.o 1 155 (.mov (.t 18)) (.o 2 156 (.bin .add (.t 155) (.i 1)) (.o 3 157 (.bin .add (.t 154) (.t 156)) (.o 4 15 (.mov (.t 157)) .done)))))))) .skip)) (.seq (.g (.o 0 158 (.mov (.t 0)) (.o 1 159 (.mov (.t 15)) (.o 2 160 (.bin .add (.t 159) (.i 1)) (.o 3 161 (.iad 1 (.t 158) (.t 160)) (.o 4 162 (.load none (.t 161)) (.o 5 163 (.mov (.t 14)) (.o 6 164 (.bin .eql (.t 162) (.t 163)) (.o 7 165 (.mov (.t 164)) (.op 8 [] (some 166) (some (165, true)) false (.mov (.t 0)) (.op 9 [] (some 167) (some (165, true)) false (.mov (.t 15)) (.op 10 [] (some 168) (some (165, true)) false (.mov (.t 15)) (.op 11 [] (some 169) (some (165, true)) false (.mov (.t 5)) (.op 12 [] (some 170) (some (165, true)) false (.bin .add (.t 168) (.t 169)) (.op 13 [] (some 171) (some (165, true)) false (.cut 1 (.t 166) (some (.t 167)) (some (.t 170))) (.op 14 [] (some 172) (some (165, true)) false (.mov (.t 1)) (.op 15 [] (some 173) (some (165, true)) false (.call 173 60 [(.t 171), (.t 172)]) (.o 16 174 (.pick (.t 165) (.t 173) (.v (.bool false))) .done))))))))))))))))) (.cond (.t 174) (.g (.o 0 175 (.mov (.t 15)) (.o 1 4 (.mov (.t 175)) .done)) .ret) .skip)) (.g (.o 0 176 (.mov (.t 15)) (.o 1 177 (.bin .add (.t 176) (.i 1)) (.o 2 15 (.mov (.t 177)) .done))) (.g (.o 0 178 (.mov (.t 16)) (.o 1 179 (.bin .add (.t 178) (.i 1)) (.o 2 16 (.mov (.t 179)) .done))) (.g (.o 0 180 (.mov (.t 16)) (.o 1 181 (.mov (.t 15)) (.o 2 182 (.bin .shr (.t 181) (.v (.int .u64 4))) (.o 3 183 (.bin .add (.i 4) (.t 182)) (.o 4 184 (.bin .geq (.t 180) (.t 183)) (.o 5 185 (.mov (.t 184)) (.op 6 [] (some 186) (some (185, true)) false (.mov (.t 15)) (.op 7 [] (some 187) (some (185, true)) false (.mov (.t 17)) (.op 8 [] (some 188) (some (185, true)) false (.bin .lss (.t 186) (.t 187)) (.o 9 189 (.pick (.t 185) (.t 188) (.v (.bool false))) .done)))))))))) (.cond (.t 189) (.g (.o 0 190 (.mov (.t 0)) (.o 1 191 (.mov (.t 15)) (.o 2 192 (.cut 1 (.t 190) (some (.t 191)) none) (.o 3 193 (.mov (.t 1)) (.o 4 194 (.call 194 81 [(.t 192), (.t 193)]) (.o 5 19 (.mov (.t 194)) .done)))))) (.seq (.g (.o 0 195 (.mov (.t 19)) (.o 1 196 (.bin .lss (.t 195) (.i 0)) .done)) (.cond (.t 196) (.g (.o 0 4 (.mov (.i (-1))) .done) .ret) .skip)) (.g (.o 0 197 (.mov (.t 15)) (.o 1 198 (.mov (.t 19)) (.o 2 199 (.bin .add (.t 197) (.t 198)) (.o 3 4 (.mov (.t 199)) .done)))) .ret))) .skip)))))))))) (.g (.o 0 4 (.mov (.i (-1))) .done) .ret))))))))))
theorem dg_bytes_Index : Tryd.f71.body.bind (digC Tryd.prog Tryd.f71.ntmps []) = some c_bytes_Index := by kernel_rfl
theorem rs_bytes_Index : resSlots Tryd.prog Tryd.f71 = some [.s 4] := by kernel_rfl
theorem ok_bytes_Index (a : List UInt8) (c : UInt8) (ha : a.length ≤ 9223372036854775807) :
    FnOK Tryd.prog 71 [.one (.d (encB a)), .one (.d (encB [c]))] (fun ra _ => ra = [.one (.d (.sc (.int .i64 (Go.Lib.indexByte a c))))]) := by
  refine FnOK.ofK Tryd.func71 (by kernel_rfl) dg_bytes_Index rs_bytes_Index rfl rfl ?_
  delta c_bytes_Index T.o X.i C.g
  refine Kbc (Ka Y (Kdb (Kc (Ka Y (Kq Y Y (Ka Y (Kdb (Kt (Kbc (Ka Y (Kj Y Y Y (Ka Y (Kd (kCondF Y (Kbc (Ka Y (Kj Y Y Y (Ka Y (Kd (kCondT Y (Kbc (Ka Y (Ka Y (kIadR (m := 0) Y Y Y prl (Ky Y Y (Kp (ok_bytes_IndexByte _ _) ⟨Y, Y, trivial⟩ Y Y Y Y Y (Ka Y (Kd (Kr (Er (ra := [.one (.d _)]) rfl rfl))))))))))))))))))))))))))))))

def c_bytes_genSplit : C := (.g (.o 0 8 (.mov (.n 1)) .done) (.seq (.g (.o 0 12 (.mov (.t 3)) (.o 1 13 (.bin .eql (.t 12) (.i 0)) .done)) (.cond (.t 13) (.g (.o 0 8 (.mov (.n 1)) .done) .ret) .skip)) (.seq (.g (.o 0 14 (.mov (.t 1)) (.o 1 15 (.len (.t 14)) (.o 2 16 (.bin .eql (.t 15) (.i 0)) .done))) (.cond (.t 16) (.g (.o 0 17 (.mov (.t 0)) (.o 1 18 (.mov (.t 3)) (.o 2 19 (.call 19 69 [(.t 17), (.t 18)]) (.o 3 8 (.mov (.t 19)) .done)))) .ret) .skip)) (.seq (.g (.o 0 20 (.mov (.t 3)) (.o 1 21 (.bin .lss (.t 20) (.i 0)) .done)) (.cond (.t 21) (.reg false (.o 0 22 (.mov (.t 0)) (.o 1 23 (.mov (.t 1)) (.o 2 24 (.call 24 70 [(.t 22), (.t 23)]) (.o 3 25 (.bin .add (.t 24) (.i 1)) (.o 4 3 (.mov (.t 25)) .done)))))) .skip)) (.g (.o 0 26 (.mov (.t 3)) (.o 1 27 (.mov (.t 0)) (.o 2 28 (.len (.t 27)) (.o 3 29 (.bin .add (.t 28) (.i 1)) (.o 4 30 (.mm false (.t 26) (.t 29)) (.o 5 3 (.mov (.t 30)) .done)))))) (.g (.o 0 31 (.mov (.t 3)) (.o 1 32 (.mk 32 1 [(.n 1)] 24 (.t 31)) (.o 2 9 (.mov (.t 32)) .done))) (.g (.o 0 33 (.mov (.t 3)) (.o 1 34 (.bin .sub (.t 33) (.i 1)) (.o 2 3 (.mov (.t 34)) .done))) (.g (.o 0 10 (.mov (.i 0)) .done) (.seq (.block 0 (.loop (.seq (.g (.o 0 35 (.mov (.t 10)) (.o 1 36 (.mov (.t 3)) (.o 2 37 (.bin .lss (.t 35) (.t 36)) .done))) (.cond (.t 37) .skip (.exit 0))) (.block 1 (.g (.o 0 38 (.mov (.t 0)) (.o 1 39 (.mov (.t 1)) (.o 2 40 (.call 40 71 [(.t 38), (.t 39)]) (.o 3 11 (.mov (.t 40)) .done)))) (.seq (.g (.o 0 41 (.mov (.t 11)) (.o 1 42 (.bin .lss (.t 41) (.i 0)) .done)) (.cond (.t 42) (.exit 0) .skip)) (.g (.o 0 43 (.mov (.t 9)) (.o 1 44 (.mov (.t 10)) (.o 2 45 (.mov (.t 0)) (.o 3 46 (.mov (.t 11)) (.o 4 47 (.mov (.t 2)) (.o 5 48 (.bin .add (.t 46) (.t 47)) (.o 6 49 (.mov (.t 11)) (.o 7 50 (.mov (.t 2)) (.o 8 51 (.bin .add (.t 49) (.t 50)) (.o 9 52 (.cut3 1 (.t 45) none (.t 48) (.t 51)) (.o 10 53 (.iad 1 (.t 43) (.t 44)) (.op 11 [] none none false (.store none (.t 53) (.t 52)) .done)))))))))))) (.g (.o 0 54 (.mov (.t 0)) (.o 1 55 (.mov (.t 11)) (.o 2 56 (.mov (.t 1)) (.o 3 57 (.len (.t 56)) (.o 4 58 (.bin .add (.t 55) (.t 57)) (.o 5 59 (.cut 1 (.t 54) (some (.t 58)) none) (.o 6 0 (.mov (.t 59)) .done))))))) (.reg false (.o 0 60 (.mov (.t 10)) (.o 1 61 (.bin .add (.t 60) (.i 1)) (.o 2 10 (.mov (.t 61)) .done)))))))))))) (.g (.o 0 62 (.mov (.t 9)) (.o 1 63 (.mov (.t 10)) (.o 2 64 (.mov (.t 0)) (.o 3 65 (.iad 1 (.t 62) (.t 63)) (.op 4 [] none none false (.store none (.t 65) (.t 64)) .done))))) (.g (.o 0 66 (.mov (.t 9)) (.o 1 67 (.mov (.t 10)) (.o 2 68 (.bin .add (.t 67) (.i 1)) (.o 3 69 (.cut 1 (.t 66) none (some (.t 68))) (.o 4 8 (.mov (.t 69)) .done))))) .ret)))))))))))
theorem dg_bytes_genSplit : Tryd.f62.body.bind (digC Tryd.prog Tryd.f62.ntmps []) = some c_bytes_genSplit := by kernel_rfl
theorem rs_bytes_genSplit : resSlots Tryd.prog Tryd.f62 = some [.s 8] := by kernel_rfl
theorem ok_bytes_genSplit (a : List UInt8) (c : UInt8) (ha : a.length ≤ 4194304) :
    FnOK Tryd.prog 62 [.one (.d (encB a)), .one (.d (encB [c])), .one (.d (.sc (.int .i64 0))), .one (.d (.sc (.int .i64 (-1))))] (fun ra _ => ra = [.one (.d (encBB (splitB a c)))]) := by
  refine FnOK.ofK Tryd.func62 (by kernel_rfl) dg_bytes_genSplit rs_bytes_genSplit rfl rfl ?_
  delta c_bytes_genSplit T.o X.i C.g
  have hcn : a.count c ≤ a.length := List.count_le_length
  have hc1 : ([c] : List UInt8).length = 1 := rfl
  refine Kbc (Ka Y (Kdb (Kbc (Ka Y (Kj Y Y Y (Kd (kCondF Y (Kn (Kb (Kbc (Ka Y (Kq Y Y (Kj Y Y Y (Kd (kCondF Y (Kn (Kb (Kbc (Ka Y (Kj Y Y Y (Kd (kCondT Y (Kc (Ka Y (Ka Y (Kp (ok_bytes_Count _ _) ⟨Y, Y, trivial⟩ Y Y Y Y Y (kAdd Y Y om (Ka Y (Kdb (Kc (Ka Y (Ka Y (Kq Y Y (kAdd Y Y om (kMmMin Y Y (Ka Y (Kdb (Kc (Ka Y ?_)))))))))))))))))))))))))))))))))))))))
  rw [show min ((a.count c : Int) + 1) ((a.length : Int) + 1) = ((a.count c + 1 : Nat) : Int) by omega]
  refine kMk Y om rfl rfl rfl rfl rfl ?_
  rw [show DV.sl 1 (List.replicate (Int.toNat ((a.count c + 1 : Nat) : Int)) [.sl 1 []]) = encBB (List.replicate (a.count c + 1) []) by simp [encBB, encB]]
  refine kMem [(135168, ⟨1, 0, .arr true _⟩)] [(32, .c (.arr 135168 1))] [] ⟨Y, trivial⟩ ⟨Y, trivial⟩ Y (Ka Y (Kdb (Kc (Ka Y (kDif Y Y om (Ka Y (Kdb (Kc (Ka Y (Kdb (Kt ?_)))))))))))
  refine kLoop (α := { y : List (List UInt8) × List UInt8 // splitB a c = y.1 ++ splitB y.2 c ∧ y.2.length ≤ a.length ∧ y.1.length + y.2.count c = a.count c })
    (fun y => ⟨tabSl [(0, .dv (encB y.1.2)), (1, .dv (encB [c])), (2, .i 0), (3, .i (a.count c)), (9, .c (.arr (rid 32 0) 1)), (10, .i y.1.1.length)], obTab 1 [(rid 32 0, ⟨1, 0, .arr false (encBB (y.1.1 ++ List.replicate (y.1.2.count c + 1) []))⟩)], []⟩) (fun y => y.1.2.count c) ⟨([], a), rfl, Nat.le_refl _, by simp⟩ ?_ ?_
  · exact .normA
  rintro ⟨⟨p, l⟩, h1, h2, h3⟩
  simp only at h1 h2 h3 ⊢
  have hL : (p ++ List.replicate (l.count c + 1) ([] : List UInt8)).length = a.count c + 1 := by simp; omega
  rcases splitB_idx l c with ⟨e1, e2⟩ | ⟨m, e1, e2, e3, e4⟩
  · have e3 : l.count c = 0 := List.count_eq_zero.2 e2
    refine Kb (Kbc (Ka Y (Ka Y (Kj Y Y Y (Kd (Km Y (fun g0 => om) (fun g0 => kExit (kExC (kExI (kExB (Kbc (Ka Y (Ka Y (Ka Y (kIadAR Y Y Y Y prl (kStoreER Y Y Y Y Y Y Y om rfl (Kdb (Kc (Ka Y (Ka Y (kMem [(135168, ⟨1, 1, .arr false _⟩)] [(67, .c (.d _)), (66, .c (.arr 135168 1))] [] ⟨Y, trivial⟩ ⟨Y, Y, trivial⟩ Y (kAdd Y Y om ?_))))))))))))))))))))))
    refine kCutAH Y Y Y Y Y (by simp; omega) ?_
    refine Ka Y (Kd (Kr (Er (ra := [.one (.d _)]) rfl ?_)))
    refine congrArg (fun z : List (List UInt8) => [RA.one (RV.d (encBB z))]) ?_
    rw [h1, splitB_no _ _ e2, e3]
    simp
    exact List.take_of_length_le (by simp)
  · refine Kb (Kbc (Ka Y (Ka Y (Kj Y Y Y (Kd (Km Y (fun g0 => Kn (Kt (Kbc (Ka Y (Ka Y (Kp (ok_bytes_Index _ _ prx) ⟨Y, Y, trivial⟩ Y Y Y Y Y (Ka Y (Kdb (Kbc (Ka Y (Kj Y Y Y (Kd (Km Y (fun g1 => om) (fun g1 => Kn (Kbc (Ka Y (Ka Y (Ka Y (kMem [(135168, ⟨1, 0, .arr false _⟩)] [(11, .c (.d _)), (2, .c (.d _)), (45, .c (.d _)), (43, .c (.arr 135168 1)), (44, .c (.d _))] [] ⟨Y, trivial⟩ ⟨Y, Y, Y, Y, Y, trivial⟩ Y (Ka Y (Ka Y (kAdd Y Y om (Ka Y (Ka Y (kAdd Y Y om ?_))))))))))))))))))))))))) (fun g0 => om)))))))
    rw [e1]
    refine kCut3H Y Y Y om ?_
    refine kIadAR Y Y Y Y prl (kStoreER Y Y Y Y Y Y Y om rfl (Kdb (Kc (Ka Y (Ka Y (Ka Y (Kq Y Y (kAdd Y Y om (kCutL Y Y Y om (Ka Y (Kd (Kc (Ka Y (kAdd Y Y om (Ka Y (Kd (Kv ?_)))))))))))))))))
    refine kInv ⟨⟨(p ++ [l.take m], l.drop (m + 1)), by rw [h1, e3]; simp, by simp; omega, by simp; omega⟩, by simp only; omega, ?_⟩
    simp only
    rw [show ((m : Int) + 0).toNat = m by omega, show (p ++ List.replicate (l.count c + 1) ([] : List UInt8)).set p.length (l.take m) = p ++ [l.take m] ++ List.replicate ((l.drop (m + 1)).count c + 1) [] by rw [e4]; simp [List.replicate_succ]]
    exact .normA

def c_bytes_Split : C := (.g (.o 0 4 (.mov (.n 1)) .done) (.g (.o 0 5 (.mov (.t 0)) (.o 1 6 (.mov (.t 1)) (.o 2 7 (.call 7 62 [(.t 5), (.t 6), (.i 0), (.i (-1))]) (.o 3 4 (.mov (.t 7)) .done)))) .ret))
theorem dg_bytes_Split : Tryd.f45.body.bind (digC Tryd.prog Tryd.f45.ntmps []) = some c_bytes_Split := by kernel_rfl
theorem rs_bytes_Split : resSlots Tryd.prog Tryd.f45 = some [.s 4] := by kernel_rfl
theorem ok_bytes_Split (a : List UInt8) (c : UInt8) (ha : a.length ≤ 4194304) :
    FnOK Tryd.prog 45 [.one (.d (encB a)), .one (.d (encB [c]))] (fun ra _ => ra = [.one (.d (encBB (splitB a c)))]) := by
  refine FnOK.ofK Tryd.func45 (by kernel_rfl) dg_bytes_Split rs_bytes_Split rfl rfl ?_
  delta c_bytes_Split T.o X.i C.g
  refine Kbc (Ka Y (Kdb (Kc (Ka Y (Ka Y (kCallD2 (ok_bytes_genSplit _ _ prx) ⟨Y, Y, Y, Y, trivial⟩ Y Y Y Y (Ka Y (Kd (Kr (Er (ra := [.one (.d _)]) rfl rfl))))))))))

def c_impl_Name_copied : C := (.g (.o 0 1 (.box 1 (.t 0)) (.o 1 2 (.alloc 2 [(.n 1)]) .done)) (.g (.o 0 6 (.build [(.n 1)] []) (.o 1 3 (.alloc 3 [(.n 1)]) (.op 2 [] none none false (.store (some 1) (.t 3) (.t 6)) .done))) (.seq (.g (.o 0 7 (.fad (.t 1) 0) (.o 1 8 (.load none (.t 7)) (.o 2 9 (.len (.t 8)) (.o 3 10 (.mov (.i 0)) .done)))) (.block 0 (.loop (.g (.o 0 11 (.bin .lss (.t 10) (.t 9)) .done) (.seq (.cond (.t 11) .skip (.exit 0)) (.seq (.block 1 (.g (.o 0 12 (.iad 1 (.t 8) (.t 10)) (.o 1 13 (.load none (.t 12)) (.o 2 5 (.mov (.t 13)) .done))) (.reg true (.op 0 [] (some 14) none true (.fad (.t 3) 0) (.op 1 [] (some 15) none true (.load none (.t 14)) (.op 2 [] (some 16) none true (.mov (.t 5)) (.o 3 17 (.call 17 48 [(.t 16)]) (.o 4 18 (.lit 18 1 [(.n 1)] 1 [(0, 1, (.t 17))]) (.op 5 [1] (some 19) none false (.app 19 1 24 (.t 15) (.t 18)) (.op 6 [] (some 20) none true (.fad (.t 3) 0) (.op 7 [1] none none false (.store none (.t 20) (.t 19)) .done))))))))))) (.reg false (.o 0 21 (.bin .add (.t 10) (.i 1)) (.o 1 10 (.mov (.t 21)) .done))))))))) (.g (.o 0 22 (.load (some 1) (.t 3)) (.op 1 [] none none false (.store (some 1) (.t 2) (.t 22)) .done)) .ret))))
theorem dg_impl_Name_copied : Tryd.f47.body.bind (digC Tryd.prog Tryd.f47.ntmps []) = some c_impl_Name_copied := by kernel_rfl
theorem rs_impl_Name_copied : resSlots Tryd.prog Tryd.f47 = some [.m 2 (some 1)] := by kernel_rfl
theorem ok_impl_Name_copied (a : List (List UInt8)) (ha : a.length ≤ 4194304) (hb : ∀ b ∈ a, b.length ≤ 4194304) :
    FnOK Tryd.prog 47 [.agg [.d (encBB a)]] (fun ra _ => ra = [.agg [.own true (encBB a)]]) := by
  refine FnOK.ofK Tryd.func47 (by kernel_rfl) dg_impl_Name_copied rs_impl_Name_copied rfl rfl ?_
  delta c_impl_Name_copied T.o X.i C.g
  refine Kbc (kBox Y Y Y Y Y (kAlloc Y Y (Kd ?_)))
  refine Kbc (kBuild Y (kAlloc Y Y (Ko Y Y Y Y (Kd ?_))))
  refine Kb (Kbc (Kf Y Y (Ke Y Y Y (kLen Y Y Y (Ka Y (Kd (Kt ?_)))))))
  rw [len_encBB]
  refine kSub (Sub.nilBox (id := rid 3 0) (id2 := rid 5000 0) (j := 0) rfl rfl rfl (by decide) (by decide)) ?_
  refine kLoop (α := { i : Nat // i ≤ a.length })
    (fun y => ⟨tabSl [(1, .c (.ptr (rid 1 0) 1 0)), (2, .c (.ptr (rid 2 0) 1 0)), (3, .c (.ptr (rid 3 0) 1 0)), (8, .dv (encBB a)), (9, .i a.length), (10, .i y.1)],
      obTab 1 [(rid 1 0, ⟨1, 0, .box [.d (encBB a)]⟩), (rid 2 0, ⟨1, 0, .box [.nil 1]⟩), (rid 3 0, ⟨1, 0, .box [.arr (rid 5000 0) 1]⟩), (rid 5000 0, ⟨1, 0, .arr true (encBB (a.take y.1))⟩)], []⟩) (fun y => a.length - y.1) ⟨0, by simp⟩
    (.norm ?_ ?_) ?_
  · repeat' first | exact trivial | exact rfl | exact .inl rfl | refine ⟨_, rfl, ?_⟩ | refine ⟨?_, ?_⟩ | fail
  · repeat' first | exact trivial | exact rfl | exact .inl rfl | refine ⟨_, rfl, ?_⟩ | refine ⟨?_, ?_⟩ | fail
  rintro ⟨i, hi⟩
  simp only at hi ⊢
  refine Kbc (Kj Y Y Y (Kdb ?_))
  refine kCond Y (fun h1 => ?_) (fun h1 => ?_)
  · have hlt : i < a.length := by simp at h1; omega
    refine Kn (Kb (Kt (Kbc ?_)))
    refine kIadD Y Y Y Y ?_ ?_
    · rw [len_encBB]; omega
    rw [show (encBB a).row (i : Int).toNat = [encB a[i]] from row_encBB a i hlt]
    refine Ky Y Y (Ka Y (Kd (kRegD (Kf Y Y (Ke Y Y Y (Ka Y ?_))))))
    refine Ku false (ok_bytes_Clone a[i] (Nat.le_trans (hb _ (List.getElem_mem hlt)) om)) ⟨Y, trivial⟩ rfl rfl rfl fun os => ?_
    refine kLit Y Y Y Y (Ks Y Y ?_)
    refine kApp Y Y Y Y Y Y ⟨rfl, rfl, Nat.zero_lt_one⟩ Y ?_ ?_
    · show ((encBB (a.take i)).len + (DV.sl 1 [[encB a[i]]]).len) * 24 ≤ _ ∧ (encBB (a.take i)).len + (DV.sl 1 [[encB a[i]]]).len ≤ _
      rw [len_encBB, List.length_take]; simp [DV.len, DV.rows]; omega
    refine Kf Y Y (Ks Y Y (Ko Y Y Y Y (Kd (kH (Kv (Kc (kAdd Y Y om (Ka Y (Kd ?_)))))))))
    refine kInv ⟨⟨i + 1, hlt⟩, by simp only; omega, .norm ?_ ?_⟩
    · repeat' first | exact trivial | exact rfl | exact .inl rfl | refine ⟨_, rfl, ?_⟩ | refine ⟨?_, ?_⟩ | fail
    · repeat' first | exact trivial | exact rfl | exact .inl rfl | refine ⟨_, rfl, ?_⟩ | refine ⟨?_, ?_⟩ | fail
      rw [← List.take_append_getElem hlt, ← app_encBB]
      rfl
  · refine kExit (kExC (kExI (kExB (Kbc (Ke Y Y Y (Ko Y Y Y Y (Kd ?_)))))))
    have hge : i = a.length := by simp at h1; omega
    subst hge
    refine Kr (endRet (ra := [.agg [.own true _]]) rfl ⟨⟨⟨⟨⟨⟨_, rfl, fun _ => rfl⟩, .inl Nat.zero_lt_one⟩, trivial⟩, leb⟩, trivial⟩, nodupB_sound rfl, ⟨trivial, trivial⟩, trivial⟩ ?_)
    rw [List.take_length]

def c_impl_NameRead : C := (.g (.o 0 2 (.alloc 2 [(.n 1)]) (.o 1 3 (.mov (.v (.bool false))) .done)) (.seq (.g (.o 0 5 (.mov (.t 0)) (.o 1 6 (.b2s (.t 5)) (.o 2 7 (.bin .eql (.t 6) (.v (.string ⟨#[46]⟩))) .done))) (.cond (.t 7) (.g (.o 0 8 (.build [(.n 1)] []) (.op 1 [] none none false (.store (some 1) (.t 2) (.t 8)) (.o 2 3 (.mov (.v (.bool true))) .done))) .ret) .skip)) (.seq (.g (.o 0 9 (.mov (.t 0)) (.o 1 10 (.len (.t 9)) (.o 2 11 (.bin .gtr (.t 10) (.i 96)) .done))) (.cond (.t 11) (.g (.o 0 12 (.build [(.n 1)] []) (.op 1 [] none none false (.store (some 1) (.t 2) (.t 12)) (.o 2 3 (.mov (.v (.bool false))) .done))) .ret) .skip)) (.g (.o 0 13 (.mov (.t 0)) (.o 1 14 (.call 14 28 [(.t 13)]) (.o 2 15 (.lit 15 1 [(.v (.int .u8 0))] 1 [(0, 1, (.v (.int .u8 46)))]) (.o 3 16 (.s2s (.t 15)) (.o 4 17 (.call 17 46 [(.t 14), (.t 16)]) (.o 5 18 (.lit 18 1 [(.v (.int .u8 0))] 1 [(0, 1, (.v (.int .u8 46)))]) (.o 6 19 (.s2s (.t 18)) (.o 7 20 (.call 20 45 [(.t 17), (.t 19)]) (.o 8 21 (.build [(.n 1)] [(0, 1, (.t 20))]) (.o 9 4 (.alloc 4 [(.n 1)]) (.op 10 [] none none false (.store (some 1) (.t 4) (.t 21)) .done))))))))))) (.seq (.g (.o 0 22 (.load (some 1) (.t 4)) (.o 1 23 (.call 23 12 [(.t 22)]) (.o 2 24 (.un .not (.t 23)) .done))) (.cond (.t 24) (.g (.o 0 25 (.build [(.n 1)] []) (.op 1 [] none none false (.store (some 1) (.t 2) (.t 25)) (.o 2 3 (.mov (.v (.bool false))) .done))) .ret) .skip)) (.g (.o 0 26 (.load (some 1) (.t 4)) (.o 1 27 (.call 27 47 [(.t 26)]) (.op 2 [] none none false (.store (some 1) (.t 2) (.t 27)) (.o 3 3 (.mov (.v (.bool true))) .done)))) .ret))))))
theorem dg_impl_NameRead : Tryd.f23.body.bind (digC Tryd.prog Tryd.f23.ntmps []) = some c_impl_NameRead := by kernel_rfl
theorem rs_impl_NameRead : resSlots Tryd.prog Tryd.f23 = some [.m 2 (some 1), .s 3] := by kernel_rfl
theorem ok_impl_NameRead (b : List UInt8) (hb : b.length ≤ 4194304) :
    FnOK Tryd.prog 23 [.one (.d (encB b))] (fun ra _ => ra = [.agg [.own true (encBB (readN b))], .one (.d (.sc (.bool (readOk b))))]) := by
  refine FnOK.ofK Tryd.func23 (by kernel_rfl) dg_impl_NameRead rs_impl_NameRead rfl rfl ?_
  delta c_impl_NameRead T.o X.i C.g
  refine Kbc (kAlloc Y Y (Ka Y (Kdb (Kbc (Ka Y (kB2s Y Y (Kj Y Y Y (Kd (kCond Y (fun g0 => Kbc (kMem [(12288, ⟨1, 0, .box [.nil 1]⟩)] [(2, .c (.ptr 12288 1 0)), (8, .c (.un))] [] ⟨Y, trivial⟩ ⟨Y, Y, trivial⟩ Y (kBuildG Y (Ko Y Y Y Y (Ka Y (Kd (kMem [(12288, ⟨1, 0, .box [.nil 1]⟩)] [(2, .c (.ptr 12288 1 0)), (3, .c (.d _))] [] ⟨Y, trivial⟩ ⟨Y, Y, trivial⟩ Y (Kr (Er (ra := [.agg [(.own true _)], .one (.d _)]) rfl ?_))))))))) (fun g0 => Kn (Kb (Kbc (Ka Y (Kq Y Y (Kj Y Y Y (Kd (Km Y (fun g1 => Kbc (kMem [(12288, ⟨1, 0, .box [.nil 1]⟩)] [(2, .c (.ptr 12288 1 0)), (12, .c (.un))] [] ⟨Y, trivial⟩ ⟨Y, Y, trivial⟩ Y (kBuildG Y (Ko Y Y Y Y (Ka Y (Kd (kMem [(12288, ⟨1, 0, .box [.nil 1]⟩)] [(2, .c (.ptr 12288 1 0)), (3, .c (.d _))] [] ⟨Y, trivial⟩ ⟨Y, Y, trivial⟩ Y (Kr (Er (ra := [.agg [(.own true _)], .one (.d _)]) rfl ?_))))))))) (fun g1 => Kn (Kbc (Ka Y (Ku true (ok_impl_Lower _ prx) ⟨Y, trivial⟩ Y Y Y (fun _ => (kMem [(61440, ⟨1, 0, .arr true _⟩)] [(15, .c (.un)), (14, .c (.arr 61440 1)), (16, .c (.un)), (18, .c (.un)), (17, .c (.un)), (19, .c (.un)), (20, .c (.un)), (4, .c (.un)), (21, .c (.un))] [] ⟨Y, trivial⟩ ⟨Y, Y, Y, Y, Y, Y, Y, Y, Y, trivial⟩ Y (kLitG Y Y Y Y (kS2sB (y := 46) (ys := []) Y Y Y ?_)))))))))))))))))))))))))
  · rw [eq46] at g0
    have e : b = [46] := of_decide_eq_true g0
    subst e
    rfl
  all_goals
    rw [eq46] at g0
    have hne : b ≠ [46] := of_decide_eq_false g0
    have hrn : readN b = if nameOk (readL b) then readL b else [] := by unfold readN; rw [if_neg hne]
    have hro : readOk b = nameOk (readL b) := by unfold readOk; rw [decide_eq_false hne]; rfl
    rw [hrn, hro]
  · rw [readL_long (by omega)]
    rfl
  have hl : (lowerB b).length ≤ 96 := by simp [lowerB]; omega
  have ht := (trimB_len (lowerB b) [46]).2
  refine kCallF [rid 14 0] false (ok_bytes_TrimSuffix (lowerB b) [46] om (by simp)) rfl ⟨Y, Y, trivial⟩ Y Y Y (fun _ => ?_)
  refine kLitG Y Y Y Y (kS2sB (y := 46) (ys := []) Y Y Y (kCallD2 (ok_bytes_Split _ _ prx) ⟨Y, Y, trivial⟩ Y Y Y Y (kBuildG Y (kAlloc Y Y (kMem [(20480, ⟨1, 0, .box [.nil 1]⟩)] [(4, .c (.ptr 20480 1 0)), (21, .g [.d _])] [] ⟨Y, trivial⟩ ⟨Y, Y, trivial⟩ Y (Ko Y Y Y Y (Kdb (Kbc (Ke Y Y Y ?_)))))))))
  rw [readL_split]
  obtain ⟨rl1, rl2⟩ := readL_small (b := b) (by omega)
  cases hno : nameOk (readL b)
  · refine Kp (ok_impl_NameOk _ prx prx) ⟨⟨⟨Y, trivial⟩, leb⟩, trivial⟩ Y Y Y Y Y (Kw Y Y (Kd (kCondN Y (fun g0 => Kbc (kMem [(12288, ⟨1, 0, .box [.nil 1]⟩)] [(2, .c (.ptr 12288 1 0)), (25, .c (.un))] [] ⟨Y, trivial⟩ ⟨Y, Y, trivial⟩ Y (kBuildG Y (Ko Y Y Y Y (Ka Y (Kd (kMem [(12288, ⟨1, 0, .box [.nil 1]⟩)] [(2, .c (.ptr 12288 1 0)), (3, .c (.d _))] [] ⟨Y, trivial⟩ ⟨Y, Y, trivial⟩ Y (Kr (Er (ra := [.agg [(.own true _)], .one (.d _)]) rfl rfl))))))))) (fun g0 => (by (simp [*] at g0))))))
  · refine Kp (ok_impl_NameOk _ prx prx) ⟨⟨⟨Y, trivial⟩, leb⟩, trivial⟩ Y Y Y Y Y (Kw Y Y (Kd (kCondN Y (fun g0 => (by (simp [*] at g0))) (fun g0 => Kn (Kbc (Ke Y Y Y (Ku true (ok_impl_Name_copied _ prx prx) ⟨⟨⟨Y, trivial⟩, leb⟩, trivial⟩ Y Y Y (fun _ => (Ko Y Y Y Y (Ka Y (Kd (kMem [(12288, ⟨1, 0, .box [.arr 114688 1]⟩), (114688, ⟨1, 0, .arr true _⟩)] [(2, .c (.ptr 12288 1 0)), (3, .c (.d _))] [] ⟨Y, Y, trivial⟩ ⟨Y, Y, trivial⟩ Y (Kr (Er (ra := [.agg [(.own true _)], .one (.d _)]) rfl rfl))))))))))))))

def c_impl_NameText : C := (.g (.o 0 1 (.box 1 (.t 0)) (.o 1 2 (.mov (.n 1)) .done)) (.seq (.block 0 (.g (.o 0 7 (.load (some 1) (.t 1)) (.o 1 8 (.call 8 12 [(.t 7)]) (.o 2 9 (.un .not (.t 8)) (.o 3 6 (.mov (.t 9)) .done)))) (.cond (.t 6) (.g (.o 0 2 (.mov (.n 1)) .done) .ret) (.g (.o 0 11 (.fad (.t 1) 0) (.o 1 12 (.load none (.t 11)) (.o 2 13 (.len (.t 12)) (.o 3 14 (.bin .eql (.t 13) (.i 0)) (.o 4 10 (.mov (.t 14)) .done))))) (.cond (.t 10) (.g (.o 0 15 (.lit 15 1 [(.v (.int .u8 0))] 1 [(0, 1, (.v (.int .u8 46)))]) (.o 1 16 (.s2s (.t 15)) (.o 2 2 (.mov (.t 16)) .done))) .ret) .skip))))) (.g (.o 0 17 (.lit 17 1 [(.v (.int .u8 0))] 0 []) (.o 1 3 (.mov (.t 17)) .done)) (.seq (.g (.o 0 18 (.fad (.t 1) 0) (.o 1 19 (.load none (.t 18)) (.o 2 20 (.len (.t 19)) (.o 3 21 (.mov (.i 0)) .done)))) (.block 1 (.loop (.g (.o 0 22 (.bin .lss (.t 21) (.t 20)) .done) (.seq (.cond (.t 22) .skip (.exit 1)) (.seq (.block 2 (.g (.o 0 23 (.iad 1 (.t 19) (.t 21)) (.o 1 24 (.load none (.t 23)) (.o 2 5 (.mov (.t 24)) .done))) (.reg false (.o 0 25 (.mov (.t 3)) (.o 1 26 (.mov (.t 5)) (.o 2 27 (.app 27 1 1 (.t 25) (.t 26)) (.o 3 28 (.lit 28 1 [(.v (.int .u8 0))] 1 [(0, 1, (.v (.int .u8 46)))]) (.o 4 29 (.app 29 1 1 (.t 27) (.t 28)) (.o 5 3 (.mov (.t 29)) .done))))))))) (.reg false (.o 0 30 (.bin .add (.t 21) (.i 1)) (.o 1 21 (.mov (.t 30)) .done))))))))) (.g (.o 0 31 (.mov (.t 3)) (.o 1 2 (.mov (.t 31)) .done)) .ret)))))
theorem dg_impl_NameText : Tryd.f25.body.bind (digC Tryd.prog Tryd.f25.ntmps []) = some c_impl_NameText := by kernel_rfl
theorem rs_impl_NameText : resSlots Tryd.prog Tryd.f25 = some [.s 2] := by kernel_rfl
theorem ok_impl_NameText (a : List (List UInt8)) (ha : SmallBB a) :
    FnOK Tryd.prog 25 [.agg [.d (encBB a)]] (fun ra _ => ra = [.one (.d (encB (if nameOk a then textN a else [])))]) := by
  refine FnOK.ofK Tryd.func25 (by kernel_rfl) dg_impl_NameText rs_impl_NameText rfl rfl ?_
  delta c_impl_NameText T.o X.i C.g
  have a1 := ha.len
  have a2 := ha.flat
  have a3 := ha.mem
  refine Kbc (kBox Y Y Y Y Y (Ka Y (Kdb (Kt (Kbc (Ke Y Y Y (Kp (ok_impl_NameOk _ prx prx) ⟨⟨⟨Y, trivial⟩, leb⟩, trivial⟩ Y Y Y Y Y (Kw Y Y (Ka Y (Kd (kCondN Y (fun g0 => Kbc (Ka Y (Kd (Kr (Er (ra := [.one (.d _)]) rfl ?_))))) (fun g0 => Kbc (Kf Y Y (Ke Y Y Y (Kq Y Y (Kj Y Y Y (Ka Y (Kd (Km Y (fun g1 => Kbc (kLitG Y Y Y Y (kMem [(65536, ⟨1, 0, .arr true _⟩)] [(15, .c (.arr 65536 1)), (16, .c (.un))] [] ⟨Y, trivial⟩ ⟨Y, Y, trivial⟩ Y (kS2sB (y := 46) (ys := []) Y Y Y (Ka Y (Kd (Kr (Er (ra := [.one (.d _)]) rfl ?_)))))))) (fun g1 => Kn (Kv (Kbc (kLitG Y Y Y Y (kMem [(73728, ⟨1, 0, .arr true _⟩)] [(17, .c (.arr 73728 1))] [] ⟨Y, trivial⟩ ⟨Y, trivial⟩ Y (Ka Y (Kdb (Kbc (Kf Y Y (Ke Y Y Y (Kq Y Y (Ka Y (Kd (Kt ?_)))))))))))))))))))))))))))))))))
  · rw [g0]; rfl
  · have : a = [] := List.eq_nil_of_length_eq_zero (by omega)
    subst this; rfl
  rw [g0]
  have hne : a ≠ [] := fun h => g1 (by rw [h]; rfl)
  rw [show (if true = true then textN a else []) = textL a by rw [if_pos rfl]; unfold textN; rw [if_neg hne]]
  refine kLoop (α := { i : Nat // i ≤ a.length }) (fun y => ⟨tabSl [(3, .c (.arr (rid 17 0) 1)), (19, .dv (encBB a)), (20, .i a.length), (21, .i y.1)], obTab 1 [(rid 17 0, ⟨1, 0, .arr true (encB (textL (a.take y.1)))⟩)], []⟩) (fun y => a.length - y.1) ⟨0, by simp⟩ .normA ?_
  rintro ⟨i, hi⟩
  simp only
  have hle := textL_le a i
  rcases Nat.lt_or_ge i a.length with hlt | hge
  · have hst := textL_take a i hlt
    have hle2 := textL_le a (i + 1)
    have hle3 : (textL (a.take (i + 1))).length = (textL (a.take i)).length + a[i].length + 1 := by rw [hst]; simp only [List.length_append, List.length_cons, List.length_nil]
    refine Kbc (Kj Y Y Y (Kdb (Km Y (fun g0 => Kn (Kb (Kt (Kbc (kIadR Y Y Y prl (Ky Y Y (Ka Y (Kd (Kc (Ka Y (Ka Y (kAppR Y Y Y (src_encB _ _) rfl rfl rfl rfl prl (kLitG Y Y Y Y (kMem [(73728, ⟨2, 0, .arr true _⟩), (118784, ⟨2, 0, .arr true _⟩)] [(27, .c (.arr 73728 2)), (28, .c (.arr 118784 2))] [] ⟨Y, Y, trivial⟩ ⟨Y, Y, trivial⟩ Y (kAppR1 (z := (46 : UInt8)) rfl rfl rfl rfl rfl rfl rfl rfl prl (Ka Y (Kd (Kv (Kc (kAdd Y Y om (Ka Y (Kd ?_)))))))))))))))))))))) (fun g0 => om))))
    refine kInv ⟨⟨i + 1, by omega⟩, by simp only; omega, ?_⟩
    simp only [hst]
    exact .normA
  · refine Kbc (Kj Y Y Y (Kdb (Km Y (fun g0 => om) (fun g0 => kExit (kExC (kExI (kExB (Kbc (Ka Y (Ka Y (Kd (kMem [(73728, ⟨1, 0, .arr true _⟩)] [(2, .c (.arr 73728 1))] [] ⟨Y, trivial⟩ ⟨Y, trivial⟩ Y (Kr (Er (ra := [.one (.d _)]) rfl ?_))))))))))))))
    rw [show i = a.length by omega, List.take_length]

def c_laws_same : C := (.g (.o 0 4 (.mov (.v (.bool false))) .done) (.g (.o 0 5 (.mov (.t 0)) (.o 1 6 (.b2s (.t 5)) (.o 2 7 (.mov (.t 1)) (.o 3 8 (.b2s (.t 7)) (.o 4 9 (.bin .eql (.t 6) (.t 8)) (.o 5 4 (.mov (.t 9)) .done)))))) .ret))
theorem dg_laws_same : Tryd.f24.body.bind (digC Tryd.prog Tryd.f24.ntmps []) = some c_laws_same := by kernel_rfl
theorem rs_laws_same : resSlots Tryd.prog Tryd.f24 = some [.s 4] := by kernel_rfl
theorem ok_laws_same (a b : List UInt8) :
    FnOK Tryd.prog 24 [.one (.d (encB a)), .one (.d (encB b))] (fun ra _ => ra = [.one (.d (.sc (.bool (decide (a = b)))))]) := by
  refine FnOK.ofK Tryd.func24 (by kernel_rfl) dg_laws_same rs_laws_same rfl rfl ?_
  delta c_laws_same T.o X.i C.g
  refine Kbc (Ka Y (Kdb (Kc (Ka Y (kB2s Y Y (Ka Y (kB2s Y Y (Kj Y Y Y (Ka Y (Kd (Kr (Er (ra := [.one (.d _)]) rfl ?_))))))))))))
  refine congrArg (fun z : Bool => [RA.one (RV.d (DV.sc (Value.bool z)))]) ?_
  rw [ByteArray.toList_eq, ByteArray.toList_eq, Bool.eq_iff_iff]
  simp

def c_laws_names : C := (.g (.o 0 0 (.mov (.v (.bool false))) .done) (.g (.o 0 4 (.lit 4 1 [(.v (.int .u8 0))] 3 [(0, 1, (.v (.int .u8 65))), (1, 1, (.v (.int .u8 46))), (2, 1, (.v (.int .u8 98)))]) (.o 1 5 (.s2s (.t 4)) (.o 2 6 (.call 6 23 [(.t 5)]) (.o 3 3 (.mov (.t 6)) (.o 4 7 (.ext (.t 3) 0) (.o 5 8 (.ext (.t 3) 1) (.o 6 1 (.alloc 1 [(.n 1)]) (.op 7 [] none none false (.store (some 1) (.t 1) (.t 7)) (.o 8 2 (.mov (.t 8)) .done))))))))) (.g (.o 0 9 (.mov (.t 2)) (.o 1 10 (.mov (.t 9)) (.op 2 [] (some 11) (some (10, true)) false (.fad (.t 1) 0) (.op 3 [] (some 12) (some (10, true)) false (.load none (.t 11)) (.op 4 [] (some 13) (some (10, true)) false (.len (.t 12)) (.op 5 [] (some 14) (some (10, true)) false (.bin .eql (.t 13) (.i 2)) (.o 6 15 (.pick (.t 10) (.t 14) (.v (.bool false))) (.o 7 16 (.mov (.t 15)) (.op 8 [] (some 17) (some (16, true)) false (.load (some 1) (.t 1)) (.op 9 [] (some 18) (some (16, true)) false (.call 18 25 [(.t 17)]) (.op 10 [] (some 19) (some (16, true)) false (.lit 19 1 [(.v (.int .u8 0))] 4 [(0, 1, (.v (.int .u8 97))), (1, 1, (.v (.int .u8 46))), (2, 1, (.v (.int .u8 98))), (3, 1, (.v (.int .u8 46)))]) (.op 11 [] (some 20) (some (16, true)) false (.s2s (.t 19)) (.op 12 [] (some 21) (some (16, true)) false (.call 21 24 [(.t 18), (.t 20)]) (.o 13 22 (.pick (.t 16) (.t 21) (.v (.bool false))) (.o 14 0 (.mov (.t 22)) .done))))))))))))))) .ret)))
theorem dg_laws_names : Tryd.f8.body.bind (digC Tryd.prog Tryd.f8.ntmps []) = some c_laws_names := by kernel_rfl
theorem rs_laws_names : resSlots Tryd.prog Tryd.f8 = some [.s 0] := by kernel_rfl
theorem ok_laws_names :
    FnOK Tryd.prog 8 [] (fun ra _ => ra = [.one (.d (.sc (.bool true)))]) := by
  refine FnOK.ofK Tryd.func8 (by kernel_rfl) dg_laws_names rs_laws_names rfl rfl ?_
  delta c_laws_names T.o X.i C.g
  have e1 : readN [65, 46, 98] = [[97], [98]] := by decide
  have e2 : readOk [65, 46, 98] = true := by decide
  have hs : SmallBB (readN [65, 46, 98]) := .ok (readN_ok _)
  refine Kbc (Ka Y (Kdb (Kc (kLitG Y Y Y Y (kS2sB (y := 65) (ys := [46, 98]) Y Y Y (Ku true (ok_impl_NameRead _ prx) ⟨Y, trivial⟩ Y Y Y (fun _ => (kMovT Y (kExtC Y Y (kExtC Y Y (kAlloc Y Y (kMem [(8192, ⟨1, 0, .box [.nil 1]⟩), (28672, ⟨1, 0, .arr true _⟩)] [(1, .c (.ptr 8192 1 0)), (7, .g [.arr 28672 1]), (8, .c (.d _))] [] ⟨Y, Y, trivial⟩ ⟨Y, Y, Y, trivial⟩ Y (Ko Y Y Y Y (Ka Y (Kdb (Kc (Ka Y (Ka Y (Ki Y (Kf Y Y (Ki Y (Ke Y Y Y (Ki Y (Kq Y Y (Ki Y (Kj Y Y Y (Kk Y (Ka Y (Ka Y (kMem [(8192, ⟨1, 0, .box [.arr 28672 1]⟩), (28672, ⟨1, 0, .arr true _⟩)] [(1, .c (.ptr 8192 1 0)), (17, .c (.un)), (19, .c (.un)), (18, .c (.un)), (20, .c (.un)), (16, .c (.d _)), (21, .c (.un)), (22, .c (.un))] [] ⟨Y, Y, trivial⟩ ⟨Y, Y, Y, Y, Y, Y, Y, Y, trivial⟩ Y (Ki Y (Ke Y Y Y (Ki Y ?_)))))))))))))))))))))))))))))))))
  rw [e1] at hs ⊢
  refine kCallF [rid 6 0] false (ok_impl_NameText [[97], [98]] hs) rfl ⟨⟨⟨Y, trivial⟩, leb⟩, trivial⟩ Y Y Y (fun _ => ?_)
  rw [show (if nameOk [[97], [98]] then textN [[97], [98]] else []) = [97, 46, 98, 46] by decide]
  refine Ki Y (kLitG Y Y Y Y (Ki Y (kS2sB (y := 97) (ys := [46, 98, 46]) Y Y Y (Ki Y (Kp (ok_laws_same _ _) ⟨Y, Y, trivial⟩ Y Y Y Y Y (Kk Y (Ka Y (Ka Y (Kd (Kr (Er (ra := [.one (.d _)]) rfl rfl)))))))))))

def get16 (b : List UInt8) (i : Nat) : Nat := (b.getD i 0).toNat * 256 + (b.getD (i + 1) 0).toNat
@[reducible] def wE (o c : Int) : Int := IntKind.i64.wrap ((BitVec.ofInt IntKind.i64.bits (IntKind.i64.wrap (o * 2 ^ min (Int.toNat 8) IntKind.i64.bits)) ||| BitVec.ofInt IntKind.i64.bits (IntKind.i64.wrap c)).toNat : Int)
theorem or16 (o c : Nat) (ho : o ≤ 255) (hc : c ≤ 255) : wE o c = ((o * 256 + c : Nat) : Int) := by
  unfold wE
  have e1 : ((o : Int) * 2 ^ min (Int.toNat 8) IntKind.i64.bits) = ((o * 256 : Nat) : Int) := by
    rw [show min (Int.toNat 8) IntKind.i64.bits = 8 from rfl]; omega
  rw [e1, wrap64 (n := ((o * 256 : Nat) : Int)) (by omega), wrap64 (n := (c : Int)) (by omega)]
  have e2 : (BitVec.ofInt IntKind.i64.bits ((o * 256 : Nat) : Int) ||| BitVec.ofInt IntKind.i64.bits (c : Int)).toNat = o * 256 + c := by
    rw [BitVec.ofInt_natCast, BitVec.ofInt_natCast, BitVec.toNat_or, BitVec.toNat_ofNat, BitVec.toNat_ofNat, show IntKind.i64.bits = 64 from rfl, Nat.mod_eq_of_lt (by omega), Nat.mod_eq_of_lt (by omega)]
    have := Nat.shiftLeft_add_eq_or_of_lt (i := 8) (b := c) (by omega) o
    rw [Nat.shiftLeft_eq] at this
    exact this.symm
  rw [e2, wrap64 (by omega)]
def c_impl_get : C := (.g (.o 0 6 (.mov (.i 0)) (.o 1 7 (.mov (.i 0)) .done)) (.seq (.g (.o 0 11 (.mov (.t 1)) (.o 1 12 (.bin .lss (.t 11) (.i 0)) (.o 2 13 (.mov (.t 12)) (.op 3 [] (some 14) (some (13, false)) false (.mov (.t 2)) (.op 4 [] (some 15) (some (13, false)) false (.mov (.t 0)) (.op 5 [] (some 16) (some (13, false)) false (.len (.t 15)) (.op 6 [] (some 17) (some (13, false)) false (.mov (.t 1)) (.op 7 [] (some 18) (some (13, false)) false (.bin .sub (.t 16) (.t 17)) (.op 8 [] (some 19) (some (13, false)) false (.bin .gtr (.t 14) (.t 18)) (.o 9 20 (.pick (.t 13) (.v (.bool true)) (.t 19)) .done)))))))))) (.cond (.t 20) (.g (.o 0 6 (.mov (.i 0)) (.o 1 7 (.mov (.i (-1))) .done)) .ret) .skip)) (.g (.o 0 8 (.mov (.i 0)) .done) (.seq (.g (.o 0 21 (.mov (.t 0)) (.o 1 22 (.mov (.t 1)) (.o 2 23 (.mov (.t 1)) (.o 3 24 (.mov (.t 2)) (.o 4 25 (.bin .add (.t 23) (.t 24)) (.o 5 26 (.cut 1 (.t 21) (some (.t 22)) (some (.t 25))) (.o 6 27 (.len (.t 26)) (.o 7 28 (.mov (.i 0)) .done)))))))) (.block 0 (.loop (.g (.o 0 29 (.bin .lss (.t 28) (.t 27)) .done) (.seq (.cond (.t 29) .skip (.exit 0)) (.seq (.block 1 (.g (.o 0 30 (.iad 1 (.t 26) (.t 28)) (.o 1 31 (.load none (.t 30)) (.o 2 10 (.mov (.t 31)) .done))) (.reg false (.o 0 32 (.mov (.t 8)) (.o 1 33 (.bin .shl (.t 32) (.v (.int .u64 8))) (.o 2 34 (.mov (.t 10)) (.o 3 35 (.conv .i64 (.t 34)) (.o 4 36 (.bin .or (.t 33) (.t 35)) (.o 5 8 (.mov (.t 36)) .done))))))))) (.reg false (.o 0 37 (.bin .add (.t 28) (.i 1)) (.o 1 28 (.mov (.t 37)) .done))))))))) (.g (.o 0 38 (.mov (.t 8)) (.o 1 39 (.mov (.t 1)) (.o 2 40 (.mov (.t 2)) (.o 3 41 (.bin .add (.t 39) (.t 40)) (.o 4 6 (.mov (.t 38)) (.o 5 7 (.mov (.t 41)) .done)))))) .ret)))))
theorem dg_impl_get : Tryd.f26.body.bind (digC Tryd.prog Tryd.f26.ntmps []) = some c_impl_get := by kernel_rfl
theorem rs_impl_get : resSlots Tryd.prog Tryd.f26 = some [.s 6, .s 7] := by kernel_rfl
theorem ok_impl_get (b : List UInt8) (n : Nat) (hb : b.length ≤ 4194304) (hn : n ≤ 4194304) :
    FnOK Tryd.prog 26 [.one (.d (encB b)), .one (.d (.sc (.int .i64 n))), .one (.d (.sc (.int .i64 2)))] (fun ra _ => ra = [.one (.d (.sc (.int .i64 (if n + 2 ≤ b.length then (get16 b n : Int) else 0)))), .one (.d (.sc (.int .i64 (if n + 2 ≤ b.length then ((n : Int) + 2) else -1))))]) := by
  refine FnOK.ofK Tryd.func26 (by kernel_rfl) dg_impl_get rs_impl_get rfl rfl ?_
  delta c_impl_get T.o X.i C.g
  rcases Nat.lt_or_ge b.length (n + 2) with hlt | hge
  · rw [if_neg (by omega), if_neg (by omega)]
    refine Kbc (Ka Y (Ka Y (Kdb (Kbc (Ka Y (Kj Y Y Y (Ka Y (Ki Y (Ka Y (Ki Y (Ka Y (Ki Y (Kq Y Y (Ki Y (Ka Y (Ki Y (kDif Y Y om (Ki Y (Kj Y Y Y (Kl Y (Ka Y (Kd (Km Y (fun g0 => Kbc (Ka Y (Ka Y (Kd (Kr (Er (ra := [.one (.d _), .one (.d _)]) rfl rfl)))))) (fun g0 => om))))))))))))))))))))))))
  · rw [if_pos hge, if_pos hge]
    have e : (b.drop n).take (n + 2 - n) = [b.getD n 0, b.getD (n + 1) 0] := by
      rw [show n + 2 - n = 2 by omega]
      have h1 : n < b.length := by omega
      have h2 : n + 1 < b.length := by omega
      rw [List.getD_eq_getElem?_getD, List.getD_eq_getElem?_getD, List.getElem?_eq_getElem h1, List.getElem?_eq_getElem h2, List.drop_eq_getElem_cons h1, List.drop_eq_getElem_cons h2]
      rfl
    refine Kbc (Ka Y (Ka Y (Kdb (Kbc (Ka Y (Kj Y Y Y (Ka Y (Ki Y (Ka Y (Ki Y (Ka Y (Ki Y (Kq Y Y (Ki Y (Ka Y (Ki Y (kDif Y Y om (Ki Y (Kj Y Y Y (Kl Y (Ka Y (Kd (Km Y (fun g0 => om) (fun g0 => Kn (Kbc (Ka Y (Kdb (Kbc (Ka Y (Ka Y (Ka Y (Ka Y (kAdd Y Y om (kCutB Y Y Y Y Y om (Kq Y Y (Ka Y (Kd (Kt ?_))))))))))))))))))))))))))))))))))))))
    have hu := UInt8.toNat_lt (b.getD n 0)
    have hv := UInt8.toNat_lt (b.getD (n + 1) 0)
    refine kLoop (α := { y : Nat × Int // (y.1 = 0 ∧ y.2 = 0) ∨ (y.1 = 1 ∧ y.2 = (b.getD n 0).toNat) ∨ (y.1 = 2 ∧ y.2 = get16 b n) }) (fun y => ⟨tabSl [(1, .i n), (2, .i 2), (8, .i y.1.2), (26, .dv (encB [b.getD n 0, b.getD (n + 1) 0])), (27, .i 2), (28, .i y.1.1)], obTab 1 [], []⟩) (fun y => 2 - y.1.1) ⟨(0, 0), .inl ⟨rfl, rfl⟩⟩ (by rw [← e]; exact .normA) ?_
    have o1 : wE 0 ((b.getD n 0).toNat : Int) = (b.getD n 0).toNat := by
      have := or16 0 (b.getD n 0).toNat (by omega) (by omega)
      rwa [Nat.zero_mul, Nat.zero_add] at this
    have o2 := or16 (b.getD n 0).toNat (b.getD (n + 1) 0).toNat (by omega) (by omega)
    rintro ⟨⟨i, o⟩, h | h | h⟩
    all_goals (obtain ⟨h1, h2⟩ := h; simp only at h1 h2 ⊢; subst h1; subst h2)
    · refine Kbc (Kj Y Y Y (Kdb (kCondT Y (Kn (Kb (Kt (Kbc (kIadR Y Y Y prl (Ky Y Y (Ka Y (Kd (Kc (Ka Y (Kj Y Y Y (Ka Y (kConv Y (Kj Y Y Y (Ka Y (Kd (Kv (Kc (kAdd Y Y om (Ka Y (Kd ?_))))))))))))))))))))))))
      exact kInv ⟨⟨(1, wE 0 ((b.getD n 0).toNat : Int)), .inr (.inl ⟨rfl, o1⟩)⟩, by simp only; omega, .normA⟩
    · refine Kbc (Kj Y Y Y (Kdb (kCondT Y (Kn (Kb (Kt (Kbc (kIadR Y Y Y prl (Ky Y Y (Ka Y (Kd (Kc (Ka Y (Kj Y Y Y (Ka Y (kConv Y (Kj Y Y Y (Ka Y (Kd (Kv (Kc (kAdd Y Y om (Ka Y (Kd ?_))))))))))))))))))))))))
      exact kInv ⟨⟨(2, wE ((b.getD n 0).toNat : Int) ((b.getD (n + 1) 0).toNat : Int)), .inr (.inr ⟨rfl, o2⟩)⟩, by simp only; omega, .normA⟩
    · refine Kbc (Kj Y Y Y (Kdb (kCondF Y (kExit (kExC (kExI (kExB (Kbc (Ka Y (Ka Y (Ka Y (kAdd Y Y om (Ka Y (Ka Y (Kd (Kr (Er (ra := [.one (.d _), .one (.d _)]) rfl rfl)))))))))))))))))

def c_impl_Take : C := (.g (.o 0 6 (.mov (.n 1)) (.o 1 7 (.mov (.i 0)) .done)) (.seq (.g (.o 0 8 (.mov (.t 1)) (.o 1 9 (.bin .lss (.t 8) (.i 0)) (.o 2 10 (.mov (.t 9)) (.op 3 [] (some 11) (some (10, false)) false (.mov (.t 2)) (.op 4 [] (some 12) (some (10, false)) false (.bin .lss (.t 11) (.i 0)) (.o 5 13 (.pick (.t 10) (.v (.bool true)) (.t 12)) (.o 6 14 (.mov (.t 13)) (.op 7 [] (some 15) (some (14, false)) false (.mov (.t 1)) (.op 8 [] (some 16) (some (14, false)) false (.mov (.t 0)) (.op 9 [] (some 17) (some (14, false)) false (.len (.t 16)) (.op 10 [] (some 18) (some (14, false)) false (.bin .gtr (.t 15) (.t 17)) (.o 11 19 (.pick (.t 14) (.v (.bool true)) (.t 18)) (.o 12 20 (.mov (.t 19)) (.op 13 [] (some 21) (some (20, false)) false (.mov (.t 2)) (.op 14 [] (some 22) (some (20, false)) false (.mov (.t 0)) (.op 15 [] (some 23) (some (20, false)) false (.len (.t 22)) (.op 16 [] (some 24) (some (20, false)) false (.mov (.t 1)) (.op 17 [] (some 25) (some (20, false)) false (.bin .sub (.t 23) (.t 24)) (.op 18 [] (some 26) (some (20, false)) false (.bin .gtr (.t 21) (.t 25)) (.o 19 27 (.pick (.t 20) (.v (.bool true)) (.t 26)) .done)))))))))))))))))))) (.cond (.t 27) (.g (.o 0 6 (.mov (.n 1)) (.o 1 7 (.mov (.i (-1))) .done)) .ret) .skip)) (.g (.o 0 28 (.mov (.t 0)) (.o 1 29 (.mov (.t 1)) (.o 2 30 (.mov (.t 1)) (.o 3 31 (.mov (.t 2)) (.o 4 32 (.bin .add (.t 30) (.t 31)) (.o 5 33 (.cut 1 (.t 28) (some (.t 29)) (some (.t 32))) (.o 6 34 (.call 34 48 [(.t 33)]) (.o 7 35 (.mov (.t 1)) (.o 8 36 (.mov (.t 2)) (.o 9 37 (.bin .add (.t 35) (.t 36)) (.o 10 6 (.mov (.t 34)) (.o 11 7 (.mov (.t 37)) .done)))))))))))) .ret)))
theorem dg_impl_Take : Tryd.f27.body.bind (digC Tryd.prog Tryd.f27.ntmps []) = some c_impl_Take := by kernel_rfl
theorem rs_impl_Take : resSlots Tryd.prog Tryd.f27 = some [.s 6, .s 7] := by kernel_rfl
theorem ok_impl_Take (b : List UInt8) (i n : Nat) (hb : b.length ≤ 4194304) (hi : i ≤ 4194304) (hn : n ≤ 4194304) :
    FnOK Tryd.prog 27 [.one (.d (encB b)), .one (.d (.sc (.int .i64 i))), .one (.d (.sc (.int .i64 n)))] (fun ra _ => ra = [.one (.own true (encB (if i + n ≤ b.length then (b.drop i).take n else []))), .one (.d (.sc (.int .i64 (if i + n ≤ b.length then ((i : Int) + n) else -1))))]) := by
  refine FnOK.ofK Tryd.func27 (by kernel_rfl) dg_impl_Take rs_impl_Take rfl rfl ?_
  delta c_impl_Take T.o X.i C.g
  rcases Nat.lt_or_ge b.length (i + n) with hlt | hge
  · rw [if_neg (by omega), if_neg (by omega)]
    refine Kbc (Ka Y (Ka Y (Kdb (Kbc (Ka Y (Kj Y Y Y (Ka Y (Ki Y (Ka Y (Ki Y (Kj Y Y Y (Kl Y (Ka Y (Ka Y (Ki Y (Ka Y (Ki Y (Ka Y (Ki Y (Kq Y Y (Ki Y (Kj Y Y Y (Kl Y (Ka Y (Ka Y (kGP Y (fun g0 => Kg Y (Kg Y (Kg Y (Kg Y (Kg Y (Kg Y (Kk Y (Ka Y (Kd (kCondT Y (Kbc (Ka Y (Ka Y (Kd (Kr (Er (ra := [.one (.own true _), .one (.d _)]) rfl rfl)))))))))))))))) (fun g0 => Ki Y (Ka Y (Ki Y (Ka Y (Ki Y (Kq Y Y (Ki Y (Ka Y (Ki Y (kDif Y Y om (Ki Y (Kj Y Y Y (Kl Y (Ka Y (Kd (Km Y (fun g1 => Kbc (Ka Y (Ka Y (Kd (Kr (Er (ra := [.one (.own true _), .one (.d _)]) rfl rfl)))))) (fun g1 => om)))))))))))))))))))))))))))))))))))))))))))
  · rw [if_pos hge, if_pos hge]
    have hl : ((b.drop i).take (i + n - i)).length ≤ 140737488355328 := by rw [List.length_take]; omega
    have e : i + n - i = n := by omega
    refine Kbc (Ka Y (Ka Y (Kdb (Kbc (Ka Y (Kj Y Y Y (Ka Y (Ki Y (Ka Y (Ki Y (Kj Y Y Y (Kl Y (Ka Y (Ka Y (Ki Y (Ka Y (Ki Y (Ka Y (Ki Y (Kq Y Y (Ki Y (Kj Y Y Y (Kl Y (Ka Y (Ka Y (kGP Y (fun g0 => om) (fun g0 => Ki Y (Ka Y (Ki Y (Ka Y (Ki Y (Kq Y Y (Ki Y (Ka Y (Ki Y (kDif Y Y om (Ki Y (Kj Y Y Y (Kl Y (Ka Y (Kd (Km Y (fun g1 => om) (fun g1 => Kn (Kbc (Ka Y (Ka Y (Ka Y (Ka Y (kAdd Y Y om (kCutB Y Y Y Y Y om (Ku true (ok_bytes_Clone _ prx) ⟨Y, trivial⟩ Y Y Y (fun _ => (Ka Y (Ka Y (kAdd Y Y om (Ka Y (Ka Y (Kd (Kr (Er (ra := [.one (.own true _), .one (.d _)]) rfl ?_))))))))))))))))))))))))))))))))))))))))))))))))))))))))))))
    rw [e]

def getN (m : List UInt8) : Nat → Nat → Int → Nat → List (List UInt8) → List (List UInt8) × Int
  | 0, _, _, _, _ => ([], -1)
  | f + 1, i, bh, hops, L =>
    if i < m.length then
      if (m.getD i 0).toNat = 0 then (if nameOk L then (L, if bh < 0 then (i : Int) + 1 else bh) else ([], -1))
      else if 192 ≤ (m.getD i 0).toNat then
        if i + 2 ≤ m.length then
          if get16 m i - 49152 < i ∧ hops + 1 ≤ 8 then getN m f (get16 m i - 49152) (if bh < 0 then (i : Int) + 2 else bh) (hops + 1) L
          else ([], -1)
        else ([], -1)
      else if 15 < (m.getD i 0).toNat then ([], -1)
      else if i + 1 + (m.getD i 0).toNat ≤ m.length ∧ L.length ≠ 6 then getN m f (i + 1 + (m.getD i 0).toNat) bh hops (L ++ [lowerB ((m.drop (i + 1)).take (m.getD i 0).toNat)])
      else ([], -1)
    else ([], -1)
def nameGet (m : List UInt8) (i : Int) : List (List UInt8) × Int := if m.length ≤ 512 ∧ 0 ≤ i then getN m 15 i.toNat (-1) 0 [] else ([], -1)
def c_impl_NameGet : C := (.g (.o 0 4 (.alloc 4 [(.n 1)]) (.o 1 5 (.mov (.i 0)) .done)) (.seq (.g (.o 0 14 (.mov (.t 0)) (.o 1 15 (.len (.t 14)) (.o 2 16 (.bin .gtr (.t 15) (.i 512)) (.o 3 17 (.mov (.t 16)) (.op 4 [] (some 18) (some (17, false)) false (.mov (.t 1)) (.op 5 [] (some 19) (some (17, false)) false (.bin .lss (.t 18) (.i 0)) (.o 6 20 (.pick (.t 17) (.v (.bool true)) (.t 19)) .done))))))) (.cond (.t 20) (.g (.o 0 21 (.build [(.n 1)] []) (.op 1 [] none none false (.store (some 1) (.t 4) (.t 21)) (.o 2 5 (.mov (.i (-1))) .done))) .ret) .skip)) (.g (.o 0 22 (.build [(.n 1)] []) (.o 1 6 (.alloc 6 [(.n 1)]) (.op 2 [] none none false (.store (some 1) (.t 6) (.t 22)) (.o 3 7 (.mov (.i (-1))) (.o 4 8 (.mov (.i 0)) .done))))) (.block 0 (.loop (.block 1 (.seq (.g (.o 0 23 (.mov (.t 1)) (.o 1 24 (.mov (.t 0)) (.o 2 25 (.len (.t 24)) (.o 3 26 (.bin .geq (.t 23) (.t 25)) .done)))) (.cond (.t 26) (.g (.o 0 27 (.build [(.n 1)] []) (.op 1 [] none none false (.store (some 1) (.t 4) (.t 27)) (.o 2 5 (.mov (.i (-1))) .done))) .ret) .skip)) (.g (.o 0 28 (.mov (.t 0)) (.o 1 29 (.mov (.t 1)) (.o 2 30 (.iad 1 (.t 28) (.t 29)) (.o 3 31 (.load none (.t 30)) (.o 4 32 (.conv .i64 (.t 31)) (.o 5 9 (.mov (.t 32)) .done)))))) (.block 2 (.g (.o 0 59 (.mov (.t 9)) (.o 1 60 (.bin .eql (.t 59) (.i 0)) (.o 2 58 (.mov (.t 60)) .done))) (.cond (.t 58) (.seq (.g (.o 0 61 (.mov (.t 7)) (.o 1 62 (.bin .lss (.t 61) (.i 0)) .done)) (.cond (.t 62) (.reg false (.o 0 63 (.mov (.t 1)) (.o 1 64 (.bin .add (.t 63) (.i 1)) (.o 2 7 (.mov (.t 64)) .done)))) .skip)) (.seq (.g (.o 0 65 (.load (some 1) (.t 6)) (.o 1 66 (.call 66 12 [(.t 65)]) (.o 2 67 (.un .not (.t 66)) .done))) (.cond (.t 67) (.g (.o 0 68 (.build [(.n 1)] []) (.op 1 [] none none false (.store (some 1) (.t 4) (.t 68)) (.o 2 5 (.mov (.i (-1))) .done))) .ret) .skip)) (.g (.o 0 69 (.load (some 1) (.t 6)) (.o 1 70 (.mov (.t 7)) (.op 2 [] none none false (.store (some 1) (.t 4) (.t 69)) (.o 3 5 (.mov (.t 70)) .done)))) .ret))) (.g (.o 0 72 (.mov (.t 9)) (.o 1 73 (.bin .geq (.t 72) (.i 192)) (.o 2 71 (.mov (.t 73)) .done))) (.cond (.t 71) (.g (.o 0 75 (.mov (.t 0)) (.o 1 76 (.mov (.t 1)) (.o 2 77 (.call 77 26 [(.t 75), (.t 76), (.i 2)]) (.o 3 74 (.mov (.t 77)) (.o 4 78 (.ext (.t 74) 0) (.o 5 79 (.ext (.t 74) 1) (.o 6 10 (.mov (.t 78)) (.o 7 11 (.mov (.t 79)) .done)))))))) (.g (.o 0 80 (.mov (.t 10)) (.o 1 81 (.bin .sub (.t 80) (.i 49152)) (.o 2 10 (.mov (.t 81)) .done))) (.seq (.g (.o 0 82 (.mov (.t 8)) (.o 1 83 (.bin .add (.t 82) (.i 1)) (.o 2 8 (.mov (.t 83)) .done))) (.g (.o 0 84 (.mov (.t 11)) (.o 1 85 (.bin .lss (.t 84) (.i 0)) (.o 2 86 (.mov (.t 85)) (.op 3 [] (some 87) (some (86, false)) false (.mov (.t 10)) (.op 4 [] (some 88) (some (86, false)) false (.mov (.t 1)) (.op 5 [] (some 89) (some (86, false)) false (.bin .geq (.t 87) (.t 88)) (.o 6 90 (.pick (.t 86) (.v (.bool true)) (.t 89)) (.o 7 91 (.mov (.t 90)) (.op 8 [] (some 92) (some (91, false)) false (.mov (.t 8)) (.op 9 [] (some 93) (some (91, false)) false (.bin .gtr (.t 92) (.i 8)) (.o 10 94 (.pick (.t 91) (.v (.bool true)) (.t 93)) .done))))))))))) (.cond (.t 94) (.g (.o 0 95 (.build [(.n 1)] []) (.op 1 [] none none false (.store (some 1) (.t 4) (.t 95)) (.o 2 5 (.mov (.i (-1))) .done))) .ret) .skip))) (.seq (.g (.o 0 96 (.mov (.t 7)) (.o 1 97 (.bin .lss (.t 96) (.i 0)) .done)) (.cond (.t 97) (.reg false (.o 0 98 (.mov (.t 11)) (.o 1 7 (.mov (.t 98)) .done))) .skip)) (.reg false (.o 0 99 (.mov (.t 10)) (.o 1 1 (.mov (.t 99)) .done))))))) (.g (.o 0 101 (.mov (.t 9)) (.o 1 102 (.bin .gtr (.t 101) (.i 15)) (.o 2 100 (.mov (.t 102)) .done))) (.cond (.t 100) (.g (.o 0 103 (.build [(.n 1)] []) (.op 1 [] none none false (.store (some 1) (.t 4) (.t 103)) (.o 2 5 (.mov (.i (-1))) .done))) .ret) (.g (.o 0 34 (.mov (.t 0)) (.o 1 35 (.mov (.t 1)) (.o 2 36 (.bin .add (.t 35) (.i 1)) (.o 3 37 (.mov (.t 9)) (.o 4 38 (.call 38 27 [(.t 34), (.t 36), (.t 37)]) (.o 5 33 (.mov (.t 38)) (.o 6 39 (.ext (.t 33) 0) (.o 7 40 (.ext (.t 33) 1) (.o 8 12 (.mov (.t 39)) (.o 9 13 (.mov (.t 40)) .done)))))))))) (.seq (.g (.o 0 41 (.mov (.t 13)) (.o 1 42 (.bin .lss (.t 41) (.i 0)) (.o 2 43 (.mov (.t 42)) (.op 3 [] (some 44) (some (43, false)) false (.fad (.t 6) 0) (.op 4 [] (some 45) (some (43, false)) false (.load none (.t 44)) (.op 5 [] (some 46) (some (43, false)) false (.len (.t 45)) (.op 6 [] (some 47) (some (43, false)) false (.bin .eql (.t 46) (.i 6)) (.o 7 48 (.pick (.t 43) (.v (.bool true)) (.t 47)) .done)))))))) (.cond (.t 48) (.g (.o 0 49 (.build [(.n 1)] []) (.op 1 [] none none false (.store (some 1) (.t 4) (.t 49)) (.o 2 5 (.mov (.i (-1))) .done))) .ret) .skip)) (.reg true (.op 0 [] (some 50) none true (.fad (.t 6) 0) (.op 1 [] (some 51) none true (.load none (.t 50)) (.op 2 [] (some 52) none true (.mov (.t 12)) (.op 6 [] (some 56) none true (.mov (.t 13)) (.o 3 53 (.call 53 28 [(.t 52)]) (.o 4 54 (.lit 54 1 [(.n 1)] 1 [(0, 1, (.t 53))]) (.op 5 [1] (some 55) none false (.app 55 1 24 (.t 51) (.t 54)) (.op 7 [] (some 57) none true (.fad (.t 6) 0) (.op 8 [1] none none false (.store none (.t 57) (.t 55)) (.op 9 [] (some 1) none true (.mov (.t 56)) .done))))))))))))))))))))))))))))
theorem dg_impl_NameGet : Tryd.f9.body.bind (digC Tryd.prog Tryd.f9.ntmps []) = some c_impl_NameGet := by kernel_rfl
theorem rs_impl_NameGet : resSlots Tryd.prog Tryd.f9 = some [.m 4 (some 1), .s 5] := by kernel_rfl
theorem ok_impl_NameGet (m : List UInt8) (i : Int) (hb : m.length ≤ 4194304) (hi : i ≤ 4194304) :
    FnOK Tryd.prog 9 [.one (.d (encB m)), .one (.d (.sc (.int .i64 i)))] (fun ra _ => ra = [.agg [.own false (encBB (nameGet m i).1)], .one (.d (.sc (.int .i64 (nameGet m i).2)))]) := by
  refine FnOK.ofK Tryd.func9 (by kernel_rfl) dg_impl_NameGet rs_impl_NameGet rfl rfl ?_
  delta c_impl_NameGet T.o X.i C.g
  obtain ⟨R, hR⟩ : ∃ R, R = nameGet m i := ⟨_, rfl⟩
  rw [← hR]
  unfold nameGet at hR
  by_cases h0 : m.length ≤ 512 ∧ 0 ≤ i
  · rw [if_pos h0] at hR
    obtain ⟨h1, h2⟩ := h0
    obtain ⟨n, rfl⟩ : ∃ n : Nat, i = n := ⟨i.toNat, by omega⟩
    rw [Int.toNat_natCast] at hR
    refine Kbc (kAlloc Y Y (Ka Y (Kdb (Kbc (Ka Y (Kq Y Y (Kj Y Y Y (Ka Y (kGP Y (fun g0 => om) (fun g0 => Ki Y (Ka Y (Ki Y (Kj Y Y Y (Kl Y (Ka Y (Kd (kCondF Y (Kn (Kbc (kBuildG Y (kAlloc Y Y (Ko Y Y Y Y (Ka Y (Ka Y (Kd (Kt ?_))))))))))))))))))))))))))
    refine kSub (Sub.nilBox (cs := [.nil 1]) (id := rid 6 0) (id2 := rid 5000 0) (j := 0) rfl rfl rfl (by decide) (by decide)) ?_
    refine kLoop (α := { y : Nat × Nat × Int × Nat × List (List UInt8) // (y.2.2.2.1 ≤ 8 ∧ y.2.2.2.2.length ≤ 6 ∧ 15 ≤ y.1 + y.2.2.2.1 + y.2.2.2.2.length ∧ y.2.1 ≤ 4194304 ∧ -1 ≤ y.2.2.1 ∧ y.2.2.1 ≤ 512) ∧ (∀ l ∈ y.2.2.2.2, l.length ≤ 15) ∧ R = getN m y.1 y.2.1 y.2.2.1 y.2.2.2.1 y.2.2.2.2 }) (fun y => ⟨tabSl [(0, .dv (encB m)), (1, .i y.1.2.1), (4, .c (.ptr (rid 4 0) 1 0)), (6, .c (.ptr (rid 6 0) 1 0)), (7, .i y.1.2.2.1), (8, .i y.1.2.2.2.1)], obTab 1 [(rid 4 0, ⟨1, 0, .box [.nil 1]⟩), (rid 6 0, ⟨1, 0, .box [.arr (rid 5000 0) 1]⟩), (rid 5000 0, ⟨1, 0, .arr false (encBB y.1.2.2.2.2)⟩)], []⟩) (fun y => y.1.1) ⟨(15, n, -1, 0, []), ⟨by simp, by simp, by simp, by simp only; omega, by simp, by simp⟩, nofun, hR⟩ .normA ?_
    rintro ⟨⟨f, i, bh, hops, L⟩, ⟨a1, a2, a3, a4, a5, a6⟩, a7, a8⟩
    simp only at a1 a2 a3 a4 a5 a6 a7 a8 ⊢
    obtain ⟨f, rfl⟩ : ∃ g, f = g + 1 := ⟨f - 1, by omega⟩
    unfold getN at a8
    have n1 : L.length ≤ 4194304 := by omega
    have n2 : ∀ b ∈ L, b.length ≤ 4194304 := fun b hb => Nat.le_trans (a7 b hb) (by decide)
    rcases Nat.lt_or_ge i m.length with hlt | hge
    case inr =>
      rw [if_neg (by omega)] at a8
      subst a8
      refine Kt (Kb (Kbc (Ka Y (Ka Y (Kq Y Y (Kj Y Y Y (Kd (Km Y (fun g0 => Kbc (kBuildG Y (Ko Y Y Y Y (Ka Y (Kd (Kr (Er (ra := [.agg [(.own false _)], .one (.d _)]) rfl rfl))))))) (fun g0 => om)))))))))
    have hc : m.getD i 0 = m[i] := by rw [List.getD_eq_getElem?_getD, List.getElem?_eq_getElem hlt]; rfl
    rw [if_pos hlt, hc] at a8
    have hcl := UInt8.toNat_lt m[i]
    have hw : IntKind.i64.wrap (m[i].toNat : Int) = m[i].toNat := wrap64 (by omega)
    by_cases c0 : m[i].toNat = 0
    · rw [if_pos c0] at a8
      by_cases hbh : bh < 0
      · cases hk : nameOk L
        · rw [hk, if_neg (by decide)] at a8
          subst a8
          refine Kt (Kb (Kbc (Ka Y (Ka Y (Kq Y Y (Kj Y Y Y (Kd (Km Y (fun g0 => om) (fun g0 => Kn (Kbc (Ka Y (Ka Y (kIadR Y Y Y prl (Ky Y Y (kConv Y (Ka Y (Kd (Kt (Kbc (Ka Y (Kj Y Y Y (Ka Y (Kd (Km Y (fun g1 => Kb (Kbc (Ka Y (Kj Y Y Y (Kd (Km Y (fun g2 => Kc (Ka Y (kAdd Y Y om (Ka Y (Kdb (Kbc (Ke Y Y Y (Kp (ok_impl_NameOk _ prx prx) ⟨⟨⟨Y, trivial⟩, leb⟩, trivial⟩ Y Y Y Y Y (Kw Y Y (Kd (kCondN Y (fun g3 => Kbc (kBuildG Y (Ko Y Y Y Y (Ka Y (Kd (Kr (Er (ra := [.agg [(.own false _)], .one (.d _)]) rfl rfl))))))) (fun g3 => (by (simp [*] at g3)))))))))))))) (fun g2 => om))))))) (fun g1 => om)))))))))))))))))))))))))
        · rw [hk, if_pos rfl, if_pos hbh] at a8
          subst a8
          refine Kt (Kb (Kbc (Ka Y (Ka Y (Kq Y Y (Kj Y Y Y (Kd (Km Y (fun g0 => om) (fun g0 => Kn (Kbc (Ka Y (Ka Y (kIadR Y Y Y prl (Ky Y Y (kConv Y (Ka Y (Kd (Kt (Kbc (Ka Y (Kj Y Y Y (Ka Y (Kd (Km Y (fun g1 => Kb (Kbc (Ka Y (Kj Y Y Y (Kd (Km Y (fun g2 => Kc (Ka Y (kAdd Y Y om (Ka Y (Kdb (Kbc (Ke Y Y Y (Kp (ok_impl_NameOk _ prx prx) ⟨⟨⟨Y, trivial⟩, leb⟩, trivial⟩ Y Y Y Y Y (Kw Y Y (Kd (kCondN Y (fun g3 => (by (simp [*] at g3))) (fun g3 => Kn (Kbc (Ke Y Y Y (Ka Y (Ko Y Y Y Y (Ka Y (Kd (Kr (Er (ra := [.agg [(.own false _)], .one (.d _)]) rfl rfl)))))))))))))))))))) (fun g2 => om))))))) (fun g1 => om)))))))))))))))))))))))))
      · cases hk : nameOk L
        · rw [hk, if_neg (by decide)] at a8
          subst a8
          refine Kt (Kb (Kbc (Ka Y (Ka Y (Kq Y Y (Kj Y Y Y (Kd (Km Y (fun g0 => om) (fun g0 => Kn (Kbc (Ka Y (Ka Y (kIadR Y Y Y prl (Ky Y Y (kConv Y (Ka Y (Kd (Kt (Kbc (Ka Y (Kj Y Y Y (Ka Y (Kd (Km Y (fun g1 => Kb (Kbc (Ka Y (Kj Y Y Y (Kd (Km Y (fun g2 => om) (fun g2 => Kn (Kb (Kbc (Ke Y Y Y (Kp (ok_impl_NameOk _ prx prx) ⟨⟨⟨Y, trivial⟩, leb⟩, trivial⟩ Y Y Y Y Y (Kw Y Y (Kd (kCondN Y (fun g3 => Kbc (kBuildG Y (Ko Y Y Y Y (Ka Y (Kd (Kr (Er (ra := [.agg [(.own false _)], .one (.d _)]) rfl rfl))))))) (fun g3 => (by (simp [*] at g3))))))))))))))))) (fun g1 => om)))))))))))))))))))))))))
        · rw [hk, if_pos rfl, if_neg hbh] at a8
          subst a8
          refine Kt (Kb (Kbc (Ka Y (Ka Y (Kq Y Y (Kj Y Y Y (Kd (Km Y (fun g0 => om) (fun g0 => Kn (Kbc (Ka Y (Ka Y (kIadR Y Y Y prl (Ky Y Y (kConv Y (Ka Y (Kd (Kt (Kbc (Ka Y (Kj Y Y Y (Ka Y (Kd (Km Y (fun g1 => Kb (Kbc (Ka Y (Kj Y Y Y (Kd (Km Y (fun g2 => om) (fun g2 => Kn (Kb (Kbc (Ke Y Y Y (Kp (ok_impl_NameOk _ prx prx) ⟨⟨⟨Y, trivial⟩, leb⟩, trivial⟩ Y Y Y Y Y (Kw Y Y (Kd (kCondN Y (fun g3 => (by (simp [*] at g3))) (fun g3 => Kn (Kbc (Ke Y Y Y (Ka Y (Ko Y Y Y Y (Ka Y (Kd (Kr (Er (ra := [.agg [(.own false _)], .one (.d _)]) rfl rfl))))))))))))))))))))))) (fun g1 => om)))))))))))))))))))))))))
    rw [if_neg c0] at a8
    by_cases c1 : 192 ≤ m[i].toNat
    · rw [if_pos c1] at a8
      have okG := ok_impl_get m i hb a4
      rcases Nat.lt_or_ge m.length (i + 2) with hg | hg
      · rw [if_neg (by omega)] at a8
        rw [if_neg (by omega), if_neg (by omega)] at okG
        subst a8
        refine Kt (Kb (Kbc (Ka Y (Ka Y (Kq Y Y (Kj Y Y Y (Kd (Km Y (fun g0 => om) (fun g0 => Kn (Kbc (Ka Y (Ka Y (kIadR Y Y Y prl (Ky Y Y (kConv Y (Ka Y (Kd (Kt (Kbc (Ka Y (Kj Y Y Y (Ka Y (Kd (Km Y (fun g1 => om) (fun g1 => Kbc (Ka Y (Kj Y Y Y (Ka Y (Kd (Km Y (fun g2 => Kbc (Ka Y (Ka Y (Kp (ok_impl_get _ _ prx prx) ⟨Y, Y, Y, trivial⟩ Y Y Y Y Y (kMovT Y (kExtC Y Y (kExtC Y Y (Ka Y (Ka Y (Kdb (Kc (Ka Y (kDif Y Y om (Ka Y (Kdb (Kbc (Ka Y (kAdd Y Y om (Ka Y (Kdb (Kc (Ka Y (Kj Y Y Y (Ka Y (kGP Y (fun g3 => Kg Y (Kg Y (Kg Y (Kk Y (Ka Y (Ka Y (Kg Y (Kg Y (Kk Y (Ka Y (Kd (kCondT Y (Kbc (kBuildG Y (Ko Y Y Y Y (Ka Y (Kd (Kr (Er (ra := [.agg [(.own false _)], .one (.d _)]) rfl rfl))))))))))))))))))) (fun g3 => om)))))))))))))))))))))))))) (fun g2 => om)))))))))))))))))))))))))))))))
      rw [if_pos hg] at a8
      rw [if_pos hg, if_pos hg] at okG
      have hg1 : 49152 ≤ get16 m i := by unfold get16; rw [hc]; omega
      have hg2 : get16 m i ≤ 65535 := by unfold get16; rw [hc]; have := UInt8.toNat_lt (m.getD (i + 1) 0); omega
      by_cases c2 : get16 m i - 49152 < i ∧ hops + 1 ≤ 8
      · rw [if_pos c2] at a8
        have hsub : (get16 m i : Int) - 49152 = ((get16 m i - 49152 : Nat) : Int) := by omega
        by_cases hbh : bh < 0
        · rw [if_pos hbh] at a8
          refine Kt (Kb (Kbc (Ka Y (Ka Y (Kq Y Y (Kj Y Y Y (Kd (Km Y (fun g0 => om) (fun g0 => Kn (Kbc (Ka Y (Ka Y (kIadR Y Y Y prl (Ky Y Y (kConv Y (Ka Y (Kd (Kt (Kbc (Ka Y (Kj Y Y Y (Ka Y (Kd (Km Y (fun g1 => om) (fun g1 => Kbc (Ka Y (Kj Y Y Y (Ka Y (Kd (Km Y (fun g2 => Kbc (Ka Y (Ka Y (Kp (ok_impl_get _ _ prx prx) ⟨Y, Y, Y, trivial⟩ Y Y Y Y Y (kMovT Y (kExtC Y Y (kExtC Y Y (Ka Y (Ka Y (Kdb (Kc (Ka Y (kDif Y Y om (Ka Y (Kdb (Kbc (Ka Y (kAdd Y Y om (Ka Y (Kdb (Kc (Ka Y (Kj Y Y Y (Ka Y (kGP Y (fun g3 => om) (fun g3 => Ki Y (Ka Y (Ki Y (Ka Y (Ki Y (Kj Y Y Y (Kl Y (Ka Y (Ka Y (kGP Y (fun g4 => om) (fun g4 => Ki Y (Ka Y (Ki Y (Kj Y Y Y (Kl Y (Ka Y (Kd (Km Y (fun g5 => om) (fun g5 => Kn (Kb (Kbc (Ka Y (Kj Y Y Y (Kd (Km Y (fun g6 => Kc (Ka Y (Ka Y (Kd (Kc (Ka Y (Ka Y (Kd (Kv (Kv ?_)))))))))) (fun g6 => om))))))))))))))))))))))))))))))))))))))))))))))))))) (fun g2 => om)))))))))))))))))))))))))))))))
          refine kInv ⟨⟨(f, get16 m i - 49152, (i : Int) + 2, hops + 1, L), ⟨by simp only; omega, a2, by simp only; omega, by simp only; omega, by simp only; omega, by simp only; omega⟩, a7, a8⟩, by simp only; omega, ?_⟩
          rw [← hsub]
          exact .normA
        · rw [if_neg hbh] at a8
          refine Kt (Kb (Kbc (Ka Y (Ka Y (Kq Y Y (Kj Y Y Y (Kd (Km Y (fun g0 => om) (fun g0 => Kn (Kbc (Ka Y (Ka Y (kIadR Y Y Y prl (Ky Y Y (kConv Y (Ka Y (Kd (Kt (Kbc (Ka Y (Kj Y Y Y (Ka Y (Kd (Km Y (fun g1 => om) (fun g1 => Kbc (Ka Y (Kj Y Y Y (Ka Y (Kd (Km Y (fun g2 => Kbc (Ka Y (Ka Y (Kp (ok_impl_get _ _ prx prx) ⟨Y, Y, Y, trivial⟩ Y Y Y Y Y (kMovT Y (kExtC Y Y (kExtC Y Y (Ka Y (Ka Y (Kdb (Kc (Ka Y (kDif Y Y om (Ka Y (Kdb (Kbc (Ka Y (kAdd Y Y om (Ka Y (Kdb (Kc (Ka Y (Kj Y Y Y (Ka Y (kGP Y (fun g3 => om) (fun g3 => Ki Y (Ka Y (Ki Y (Ka Y (Ki Y (Kj Y Y Y (Kl Y (Ka Y (Ka Y (kGP Y (fun g4 => om) (fun g4 => Ki Y (Ka Y (Ki Y (Kj Y Y Y (Kl Y (Ka Y (Kd (Km Y (fun g5 => om) (fun g5 => Kn (Kb (Kbc (Ka Y (Kj Y Y Y (Kd (Km Y (fun g6 => om) (fun g6 => Kn (Kc (Ka Y (Ka Y (Kd (Kv (Kv ?_))))))))))))))))))))))))))))))))))))))))))))))))))))))))) (fun g2 => om)))))))))))))))))))))))))))))))
          refine kInv ⟨⟨(f, get16 m i - 49152, bh, hops + 1, L), ⟨by simp only; omega, a2, by simp only; omega, by simp only; omega, a5, a6⟩, a7, a8⟩, by simp only; omega, ?_⟩
          rw [← hsub]
          exact .normA
      · rw [if_neg c2] at a8
        subst a8
        refine Kt (Kb (Kbc (Ka Y (Ka Y (Kq Y Y (Kj Y Y Y (Kd (Km Y (fun g0 => om) (fun g0 => Kn (Kbc (Ka Y (Ka Y (kIadR Y Y Y prl (Ky Y Y (kConv Y (Ka Y (Kd (Kt (Kbc (Ka Y (Kj Y Y Y (Ka Y (Kd (Km Y (fun g1 => om) (fun g1 => Kbc (Ka Y (Kj Y Y Y (Ka Y (Kd (Km Y (fun g2 => Kbc (Ka Y (Ka Y (Kp (ok_impl_get _ _ prx prx) ⟨Y, Y, Y, trivial⟩ Y Y Y Y Y (kMovT Y (kExtC Y Y (kExtC Y Y (Ka Y (Ka Y (Kdb (Kc (Ka Y (kDif Y Y om (Ka Y (Kdb (Kbc (Ka Y (kAdd Y Y om (Ka Y (Kdb (Kc (Ka Y (Kj Y Y Y (Ka Y (kGP Y (fun g3 => om) (fun g3 => Ki Y (Ka Y (Ki Y (Ka Y (Ki Y (Kj Y Y Y (Kl Y (Ka Y (Ka Y (kGP Y (fun g4 => Kg Y (Kg Y (Kk Y (Ka Y (Kd (kCondT Y (Kbc (kBuildG Y (Ko Y Y Y Y (Ka Y (Kd (Kr (Er (ra := [.agg [(.own false _)], .one (.d _)]) rfl rfl))))))))))))) (fun g4 => Ki Y (Ka Y (Ki Y (Kj Y Y Y (Kl Y (Ka Y (Kd (Km Y (fun g5 => Kbc (kBuildG Y (Ko Y Y Y Y (Ka Y (Kd (Kr (Er (ra := [.agg [(.own false _)], .one (.d _)]) rfl rfl))))))) (fun g5 => om)))))))))))))))))))))))))))))))))))))))))))) (fun g2 => om)))))))))))))))))))))))))))))))
        all_goals omega
    rw [if_neg c1] at a8
    by_cases c3 : 15 < m[i].toNat
    · rw [if_pos c3] at a8
      subst a8
      refine Kt (Kb (Kbc (Ka Y (Ka Y (Kq Y Y (Kj Y Y Y (Kd (Km Y (fun g0 => om) (fun g0 => Kn (Kbc (Ka Y (Ka Y (kIadR Y Y Y prl (Ky Y Y (kConv Y (Ka Y (Kd (Kt (Kbc (Ka Y (Kj Y Y Y (Ka Y (Kd (Km Y (fun g1 => om) (fun g1 => Kbc (Ka Y (Kj Y Y Y (Ka Y (Kd (Km Y (fun g2 => om) (fun g2 => Kbc (Ka Y (Kj Y Y Y (Ka Y (Kd (Km Y (fun g3 => Kbc (kBuildG Y (Ko Y Y Y Y (Ka Y (Kd (Kr (Er (ra := [.agg [(.own false _)], .one (.d _)]) rfl rfl))))))) (fun g3 => om)))))))))))))))))))))))))))))))))))))
    rw [if_neg c3] at a8
    have okT := ok_impl_Take m (i + 1) m[i].toNat hb (by omega) (by omega)
    have ei : ((i + 1 : Nat) : Int) = i + 1 := rfl
    rw [ei, ← hw] at okT
    by_cases c4 : i + 1 + m[i].toNat ≤ m.length
    · rw [if_pos c4, if_pos c4] at okT
      have hl : ((m.drop (i + 1)).take m[i].toNat).length ≤ 15 := by rw [List.length_take]; omega
      have hlo : (lowerB ((m.drop (i + 1)).take m[i].toNat)).length = ((m.drop (i + 1)).take m[i].toNat).length := by simp [lowerB]
      generalize (m.drop (i + 1)).take m[i].toNat = lab at *
      by_cases c5 : L.length = 6
      · rw [if_neg (by omega)] at a8
        subst a8
        refine Kt (Kb (Kbc (Ka Y (Ka Y (Kq Y Y (Kj Y Y Y (Kd (Km Y (fun g0 => om) (fun g0 => Kn (Kbc (Ka Y (Ka Y (kIadR Y Y Y prl (Ky Y Y (kConv Y (Ka Y (Kd (Kt (Kbc (Ka Y (Kj Y Y Y (Ka Y (Kd (Km Y (fun g1 => om) (fun g1 => Kbc (Ka Y (Kj Y Y Y (Ka Y (Kd (Km Y (fun g2 => om) (fun g2 => Kbc (Ka Y (Kj Y Y Y (Ka Y (Kd (Km Y (fun g3 => om) (fun g3 => Kbc (Ka Y (Ka Y (kAdd Y Y om (Ka Y ?_)))))))))))))))))))))))))))))))))))))))))
        refine Ku true okT ⟨Y, Y, Y, trivial⟩ Y Y Y (fun _ => ?_)
        refine kMovT Y (kExtC Y Y (kExtC Y Y (Ka Y (Ka Y (Kdb (Kbc (Ka Y (Kj Y Y Y (Ka Y (kGP Y (fun g0 => om) (fun g0 => Ki Y (Kf Y Y (Ki Y (Ke Y Y Y (Ki Y (Kq Y Y (Ki Y (Kj Y Y Y (Kl Y (Ka Y (Kd (Km Y (fun g1 => Kbc (kBuildG Y (Ko Y Y Y Y (Ka Y (Kd (Kr (Er (ra := [.agg [(.own false _)], .one (.d _)]) rfl rfl))))))) (fun g1 => om)))))))))))))))))))))))
      · rw [if_pos ⟨c4, c5⟩] at a8
        have hat : (i : Int) + 1 + IntKind.i64.wrap (m[i].toNat : Int) = ((i + 1 + m[i].toNat : Nat) : Int) := by rw [hw]; rfl
        refine Kt (Kb (Kbc (Ka Y (Ka Y (Kq Y Y (Kj Y Y Y (Kd (Km Y (fun g0 => om) (fun g0 => Kn (Kbc (Ka Y (Ka Y (kIadR Y Y Y prl (Ky Y Y (kConv Y (Ka Y (Kd (Kt (Kbc (Ka Y (Kj Y Y Y (Ka Y (Kd (Km Y (fun g1 => om) (fun g1 => Kbc (Ka Y (Kj Y Y Y (Ka Y (Kd (Km Y (fun g2 => om) (fun g2 => Kbc (Ka Y (Kj Y Y Y (Ka Y (Kd (Km Y (fun g3 => om) (fun g3 => Kbc (Ka Y (Ka Y (kAdd Y Y om (Ka Y ?_)))))))))))))))))))))))))))))))))))))))))
        refine Ku true okT ⟨Y, Y, Y, trivial⟩ Y Y Y (fun _ => ?_)
        refine kMovT Y (kExtC Y Y (kExtC Y Y (Ka Y (Ka Y (Kdb (Kbc (Ka Y (Kj Y Y Y (Ka Y (kGP Y (fun g0 => om) (fun g0 => Ki Y (Kf Y Y (Ki Y (Ke Y Y Y (Ki Y (Kq Y Y (Ki Y (Kj Y Y Y (Kl Y (Ka Y (Kd (Km Y (fun g1 => om) (fun g1 => Kn (kRegD (Kf Y Y (Ke Y Y Y (Ka Y (Ka Y (Ku true (ok_impl_Lower _ prx) ⟨Y, trivial⟩ Y Y Y (fun _ => (kLitG Y Y Y Y (Ks Y Y (kAppR1 Y Y Y Y Y Y Y Y prl (Kf Y Y (Ks Y Y (Ko Y Y Y Y (Ka Y (Kd (kH (Kv (Kv ?_)))))))))))))))))))))))))))))))))))))))))
        refine kInv ⟨⟨(f, i + 1 + m[i].toNat, bh, hops, L ++ [lowerB lab]), ⟨a1, by simp only [List.length_append, List.length_singleton]; omega, by simp only [List.length_append, List.length_singleton]; omega, by simp only; omega, a5, a6⟩, fun l hl => (List.mem_append.1 hl).elim (a7 l) fun h => by simp only [List.mem_singleton] at h; subst h; omega, a8⟩, by simp only; omega, ?_⟩
        rw [← hat]
        exact .normA
    · rw [if_neg c4, if_neg c4] at okT
      rw [if_neg (by omega)] at a8
      subst a8
      refine Kt (Kb (Kbc (Ka Y (Ka Y (Kq Y Y (Kj Y Y Y (Kd (Km Y (fun g0 => om) (fun g0 => Kn (Kbc (Ka Y (Ka Y (kIadR Y Y Y prl (Ky Y Y (kConv Y (Ka Y (Kd (Kt (Kbc (Ka Y (Kj Y Y Y (Ka Y (Kd (Km Y (fun g1 => om) (fun g1 => Kbc (Ka Y (Kj Y Y Y (Ka Y (Kd (Km Y (fun g2 => om) (fun g2 => Kbc (Ka Y (Kj Y Y Y (Ka Y (Kd (Km Y (fun g3 => om) (fun g3 => Kbc (Ka Y (Ka Y (kAdd Y Y om (Ka Y ?_)))))))))))))))))))))))))))))))))))))))))
      refine Ku true okT ⟨Y, Y, Y, trivial⟩ Y Y Y (fun _ => ?_)
      refine kMovT Y (kExtC Y Y (kExtC Y Y (Ka Y (Ka Y (Kdb (Kbc (Ka Y (Kj Y Y Y (Ka Y (Kg Y (Kg Y (Kg Y (Kg Y (Kk Y (Ka Y (Kd (kCondT Y (Kbc (kBuildG Y (Ko Y Y Y Y (Ka Y (Kd (Kr (Er (ra := [.agg [(.own false _)], .one (.d _)]) rfl rfl))))))))))))))))))))))))
  · rw [if_neg h0] at hR
    subst hR
    refine Kbc (kAlloc Y Y (Ka Y (Kdb (Kbc (Ka Y (Kq Y Y (Kj Y Y Y (Ka Y (kGP Y (fun g0 => Kg Y (Kg Y (Kk Y (Ka Y (Kd (kCondT Y (Kbc (kBuildG Y (Ko Y Y Y Y (Ka Y (Kd (Kr (Er (ra := [.agg [(.own false _)], .one (.d _)]) rfl rfl))))))))))))) (fun g0 => Ki Y (Ka Y (Ki Y (Kj Y Y Y (Kl Y (Ka Y (Kd (Km Y (fun g1 => Kbc (kBuildG Y (Ko Y Y Y Y (Ka Y (Kd (Kr (Er (ra := [.agg [(.own false _)], .one (.d _)]) rfl rfl))))))) (fun g1 => om))))))))))))))))))
    all_goals omega

def c_spec_l2text : C := (.g (.o 0 1 (.box 1 (.t 0)) (.o 1 2 (.mov (.n 1)) .done)) (.seq (.g (.o 0 5 (.fad (.t 1) 0) (.o 1 6 (.load none (.t 5)) (.o 2 7 (.len (.t 6)) (.o 3 8 (.bin .eql (.t 7) (.i 0)) .done)))) (.cond (.t 8) (.g (.o 0 9 (.lit 9 1 [(.v (.int .u8 0))] 1 [(0, 1, (.v (.int .u8 46)))]) (.o 1 10 (.s2s (.t 9)) (.o 2 2 (.mov (.t 10)) .done))) .ret) .skip)) (.g (.o 0 3 (.mov (.n 1)) .done) (.seq (.g (.o 0 4 (.mov (.i 0)) .done) (.block 0 (.loop (.seq (.g (.o 0 11 (.mov (.t 4)) (.o 1 12 (.fad (.t 1) 0) (.o 2 13 (.load none (.t 12)) (.o 3 14 (.len (.t 13)) (.o 4 15 (.bin .lss (.t 11) (.t 14)) .done))))) (.cond (.t 15) .skip (.exit 0))) (.seq (.block 1 (.reg false (.o 0 18 (.mov (.t 3)) (.o 1 19 (.fad (.t 1) 0) (.o 2 20 (.load none (.t 19)) (.o 3 21 (.mov (.t 4)) (.o 4 22 (.iad 1 (.t 20) (.t 21)) (.o 5 23 (.load none (.t 22)) (.o 6 24 (.app 24 1 1 (.t 18) (.t 23)) (.o 7 25 (.lit 25 1 [(.v (.int .u8 0))] 1 [(0, 1, (.v (.int .u8 46)))]) (.o 8 26 (.app 26 1 1 (.t 24) (.t 25)) (.o 9 3 (.mov (.t 26)) .done)))))))))))) (.reg false (.o 0 16 (.mov (.t 4)) (.o 1 17 (.bin .add (.t 16) (.i 1)) (.o 2 4 (.mov (.t 17)) .done))))))))) (.g (.o 0 27 (.mov (.t 3)) (.o 1 2 (.mov (.t 27)) .done)) .ret)))))
theorem dg_spec_l2text : Tryd.f49.body.bind (digC Tryd.prog Tryd.f49.ntmps []) = some c_spec_l2text := by kernel_rfl
theorem rs_spec_l2text : resSlots Tryd.prog Tryd.f49 = some [.s 2] := by kernel_rfl
theorem ok_spec_l2text (a : List (List UInt8)) (ha : SmallBB a) :
    FnOK Tryd.prog 49 [.agg [.d (encBB a)]] (fun ra _ => ra = [.one (.d (encB (textN a)))]) := by
  refine FnOK.ofK Tryd.func49 (by kernel_rfl) dg_spec_l2text rs_spec_l2text rfl rfl ?_
  delta c_spec_l2text T.o X.i C.g
  have a1 := ha.len
  have a2 := ha.flat
  refine Kbc (kBox Y Y Y Y Y (Ka Y (Kdb (Kbc (Kf Y Y (Ke Y Y Y (Kq Y Y (Kj Y Y Y (Kd (Km Y (fun g0 => Kbc (kLitG Y Y Y Y (kS2sB (y := 46) (ys := []) Y Y Y (Ka Y (Kd (Kr (Er (ra := [.one (.d _)]) rfl ?_))))))) (fun g0 => Kn (Kbc (Ka Y (Kdb (Kbc (Ka Y (Kd (Kt ?_))))))))))))))))))
  · have : a = [] := List.eq_nil_of_length_eq_zero (by omega)
    subst this; rfl
  have hne : a ≠ [] := fun h => g0 (by rw [h]; rfl)
  rw [show textN a = textL a by unfold textN; rw [if_neg hne]]
  refine kSub (Sub.nilArr (j := 3) (id := rid 5000 0) (sz := 1) rfl (by decide)) ?_
  refine kLoop (α := { i : Nat // i ≤ a.length }) (fun y => ⟨tabSl [(1, .c (.ptr (rid 1 0) 1 0)), (3, .c (.arr (rid 5000 0) 1)), (4, .i y.1)], obTab 1 [(rid 1 0, ⟨1, 0, .box [.d (encBB a)]⟩), (rid 5000 0, ⟨1, 0, .arr true (encB (textL (a.take y.1)))⟩)], []⟩) (fun y => a.length - y.1) ⟨0, by simp⟩ .normA ?_
  rintro ⟨i, hi⟩
  simp only
  have hle := textL_le a i
  rcases Nat.lt_or_ge i a.length with hlt | hge
  · have hst := textL_take a i hlt
    have hle2 := textL_le a (i + 1)
    have hle3 : (textL (a.take (i + 1))).length = (textL (a.take i)).length + a[i].length + 1 := by rw [hst]; simp only [List.length_append, List.length_cons, List.length_nil]
    refine Kb (Kbc (Ka Y (Kf Y Y (Ke Y Y Y (Kq Y Y (Kj Y Y Y (Kd (Km Y (fun g0 => Kn (Kb (Kt (Kc (Ka Y (Kf Y Y (Ke Y Y Y (Ka Y (kIadR Y Y Y om (Ky Y Y (kAppR Y Y Y (src_encB _ _) rfl rfl rfl rfl prl (kLitG Y Y Y Y (kAppR1 (z := (46 : UInt8)) rfl rfl rfl rfl rfl rfl rfl rfl prl (Ka Y (Kd (Kv (Kc (Ka Y (kAdd Y Y om (Ka Y (Kd ?_))))))))))))))))))))) (fun g0 => om)))))))))
    refine kInv ⟨⟨i + 1, by omega⟩, by simp only; omega, ?_⟩
    simp only [hst]
    exact .normA
  · refine Kb (Kbc (Ka Y (Kf Y Y (Ke Y Y Y (Kq Y Y (Kj Y Y Y (Kd (Km Y (fun g0 => om) (fun g0 => kExit (kExC (kExI (kExB (Kbc (Ka Y (Ka Y (Kd (Kr (Er (ra := [.one (.d _)]) rfl ?_))))))))))))))))))
    rw [show i = a.length by omega, List.take_length]

def c_spec_NameText : C := (.g (.o 0 1 (.box 1 (.t 0)) (.o 1 2 (.mov (.n 1)) .done)) (.seq (.g (.o 0 3 (.load (some 1) (.t 1)) (.o 1 4 (.call 4 7 [(.t 3)]) (.o 2 5 (.un .not (.t 4)) .done))) (.cond (.t 5) (.g (.o 0 2 (.mov (.n 1)) .done) .ret) .skip)) (.g (.o 0 6 (.load (some 1) (.t 1)) (.o 1 7 (.call 7 49 [(.t 6)]) (.o 2 2 (.mov (.t 7)) .done))) .ret)))
theorem dg_spec_NameText : Tryd.f29.body.bind (digC Tryd.prog Tryd.f29.ntmps []) = some c_spec_NameText := by kernel_rfl
theorem rs_spec_NameText : resSlots Tryd.prog Tryd.f29 = some [.s 2] := by kernel_rfl
theorem ok_spec_NameText (a : List (List UInt8)) (ha : SmallBB a) :
    FnOK Tryd.prog 29 [.agg [.d (encBB a)]] (fun ra _ => ra = [.one (.d (encB (if nameOk a then textN a else [])))]) := by
  refine FnOK.ofK Tryd.func29 (by kernel_rfl) dg_spec_NameText rs_spec_NameText rfl rfl ?_
  delta c_spec_NameText T.o X.i C.g
  have a1 := ha.len
  have a2 := ha.mem
  cases hno : nameOk a
  · refine Kbc (kBox Y Y Y Y Y (Ka Y (Kdb (Kbc (Ke Y Y Y (Kp (ok_spec_NameOk _ pry pry) ⟨⟨⟨Y, trivial⟩, leb⟩, trivial⟩ Y Y Y Y Y (Kw Y Y (Kd (kCondN Y (fun g0 => Kbc (Ka Y (Kd (Kr (Er (ra := [.one (.d _)]) rfl rfl))))) (fun g0 => (by (simp [*] at g0))))))))))))
    all_goals rfl
  · refine Kbc (kBox Y Y Y Y Y (Ka Y (Kdb (Kbc (Ke Y Y Y (Kp (ok_spec_NameOk _ pry pry) ⟨⟨⟨Y, trivial⟩, leb⟩, trivial⟩ Y Y Y Y Y (Kw Y Y (Kd (kCondN Y (fun g0 => (by (simp [*] at g0))) (fun g0 => Kn (Kbc (Ke Y Y Y (kCallD2 (ok_spec_l2text _ pry) ⟨⟨⟨Y, trivial⟩, leb⟩, trivial⟩ Y Y Y Y (Ka Y (Kd (Kr (Er (ra := [.one (.d _)]) rfl rfl)))))))))))))))))
    all_goals rfl

def c_laws_sameName : C := (.g (.o 0 2 (.box 2 (.t 0)) (.o 1 3 (.box 3 (.t 1)) (.o 2 4 (.mov (.v (.bool false))) .done))) (.seq (.reg true (.op 0 [] (some 5) none true (.load (some 1) (.t 2)) (.op 2 [] (some 7) none true (.load (some 1) (.t 3)) (.op 1 [0] (some 6) none false (.call 6 29 [(.t 5)]) (.op 3 [2, 0] (some 8) none false (.call 8 29 [(.t 7)]) (.op 4 [0, 2] (some 9) none false (.call 9 24 [(.t 6), (.t 8)]) (.op 5 [] (some 4) none true (.mov (.t 9)) .done))))))) .ret))
theorem dg_laws_sameName : Tryd.f10.body.bind (digC Tryd.prog Tryd.f10.ntmps []) = some c_laws_sameName := by kernel_rfl
theorem rs_laws_sameName : resSlots Tryd.prog Tryd.f10 = some [.s 4] := by kernel_rfl
theorem ok_laws_sameName (a b : List (List UInt8)) (ha : SmallBB a) (hb : SmallBB b) :
    FnOK Tryd.prog 10 [.agg [.d (encBB a)], .agg [.d (encBB b)]] (fun ra _ => ra = [.one (.d (.sc (.bool (decide ((if nameOk a then textN a else []) = (if nameOk b then textN b else []))))))]) := by
  refine FnOK.ofK Tryd.func10 (by kernel_rfl) dg_laws_sameName rs_laws_sameName rfl rfl ?_
  delta c_laws_sameName T.o X.i C.g
  refine Kbc (kBox Y Y Y Y Y (kBox Y Y Y Y Y (Ka Y (Kdb (kRegD (Ke Y Y Y (Ke Y Y Y (Kx Y Y (kCallD2 (ok_spec_NameText _ pry) ⟨⟨⟨Y, trivial⟩, leb⟩, trivial⟩ Y Y Y Y (Ks Y Y (kCallD2 (ok_spec_NameText _ pry) ⟨⟨⟨Y, trivial⟩, leb⟩, trivial⟩ Y Y Y Y (Ks Y Y (Kp (ok_laws_same _ _) ⟨Y, Y, trivial⟩ Y Y Y Y Y (Ka Y (Kd (kH (Kr (Er (ra := [.one (.d _)]) rfl rfl))))))))))))))))))

def c_spec_l2put : C := (.g (.o 0 3 (.box 3 (.t 1)) (.o 1 4 (.mov (.n 1)) .done)) (.seq (.g (.o 0 5 (.mov (.i 0)) .done) (.block 0 (.loop (.seq (.g (.o 0 6 (.mov (.t 5)) (.o 1 7 (.fad (.t 3) 0) (.o 2 8 (.load none (.t 7)) (.o 3 9 (.len (.t 8)) (.o 4 10 (.bin .lss (.t 6) (.t 9)) .done))))) (.cond (.t 10) .skip (.exit 0))) (.seq (.block 1 (.reg true (.op 0 [] (some 13) none true (.mov (.t 0)) (.op 1 [] (some 14) none true (.fad (.t 3) 0) (.op 2 [] (some 15) none true (.load none (.t 14)) (.op 3 [] (some 16) none true (.mov (.t 5)) (.op 4 [] (some 17) none true (.iad 1 (.t 15) (.t 16)) (.op 5 [] (some 18) none true (.load none (.t 17)) (.op 6 [] (some 19) none true (.len (.t 18)) (.op 7 [] (some 20) none true (.conv .u8 (.t 19)) (.op 10 [] (some 23) none true (.fad (.t 3) 0) (.op 11 [] (some 24) none true (.load none (.t 23)) (.op 12 [] (some 25) none true (.mov (.t 5)) (.op 13 [] (some 26) none true (.iad 1 (.t 24) (.t 25)) (.op 14 [] (some 27) none true (.load none (.t 26)) (.op 8 [5, 2] (some 21) none false (.lit 21 1 [(.v (.int .u8 0))] 1 [(0, 1, (.t 20))]) (.op 9 [5, 2] (some 22) none false (.app 22 1 1 (.t 13) (.t 21)) (.op 15 [5, 14, 11] (some 28) none false (.app 28 1 1 (.t 22) (.t 27)) (.op 16 [] (some 0) none true (.mov (.t 28)) .done))))))))))))))))))) (.reg false (.o 0 11 (.mov (.t 5)) (.o 1 12 (.bin .add (.t 11) (.i 1)) (.o 2 5 (.mov (.t 12)) .done))))))))) (.g (.o 0 29 (.mov (.t 0)) (.o 1 30 (.lit 30 1 [(.v (.int .u8 0))] 1 [(0, 1, (.v (.int .u8 0)))]) (.o 2 31 (.app 31 1 1 (.t 29) (.t 30)) (.o 3 4 (.mov (.t 31)) .done)))) .ret)))
theorem dg_spec_l2put : Tryd.f30.body.bind (digC Tryd.prog Tryd.f30.ntmps []) = some c_spec_l2put := by kernel_rfl
theorem rs_spec_l2put : resSlots Tryd.prog Tryd.f30 = some [.s 4] := by kernel_rfl
theorem ok_spec_l2put (b : List UInt8) (a : List (List UInt8)) (hs : SmallBB a) (hb : b.length ≤ 16777216) :
    FnOK Tryd.prog 30 [.one (.arr true true (encB b)), .agg [.d (encBB a)]] (fun ra _ => ra = [.one (.own true (encB (b ++ wireN a)))]) := by
  refine FnOK.ofK Tryd.func30 (by kernel_rfl) dg_spec_l2put rs_spec_l2put rfl rfl ?_
  delta c_spec_l2put T.o X.i C.g
  have h1 := hs.len
  have h2 := hs.flat
  refine Kbc (kBox Y Y Y Y Y (Ka Y (Kdb (Kbc (Ka Y (Kd (Kt ?_)))))))
  refine kLoop (α := { i : Nat // i ≤ a.length }) (fun y => ⟨tabSl [(0, .c (.arr 0 1)), (3, .c (.ptr (rid 3 0) 1 0)), (5, .i y.1)], obTab 1 [(0, ⟨1, 0, .arr true (encB (b ++ wireL (a.take y.1)))⟩), (rid 3 0, ⟨1, 0, .box [.d (encBB a)]⟩)], []⟩) (fun y => a.length - y.1) ⟨0, by simp⟩ (by simp only [List.take_zero, wireL, List.flatMap_nil, List.append_nil]; exact .normA) ?_
  rintro ⟨i, hi⟩
  simp only
  have hl := wireL_le a i
  have hl2 : (b ++ wireL (a.take i)).length = b.length + (wireL (a.take i)).length := by simp
  rcases Nat.lt_or_ge i a.length with hlt | hge
  · have hst : b ++ wireL (a.take (i + 1)) = b ++ wireL (a.take i) ++ [u8 a[i].length] ++ a[i] := by rw [wireL_take a i hlt]; simp
    have hm := hs.mem _ (List.getElem_mem hlt)
    have hlen : (b ++ wireL (a.take i) ++ [u8 a[i].length]).length = (b ++ wireL (a.take i)).length + 1 := by simp only [List.length_append, List.length_cons, List.length_nil]
    refine Kb (Kbc (Ka Y (Kf Y Y (Ke Y Y Y (Kq Y Y (Kj Y Y Y (Kd (Km Y (fun g0 => Kn (Kb (Kt (kRegD (Ka Y (Kf Y Y (Ke Y Y Y (Ka Y (kIadR Y Y Y om (Ky Y Y (Kq Y Y (kConvU8 Y (Kf Y Y (Ke Y Y Y (Ka Y (kIadR Y Y Y om (Ky Y Y (Kx Y Y (kLit Y Y Y Y (Kx Y Y (kAppR1 Y Y Y Y Y Y Y Y om (Ks Y Y (kAppR Y Y Y (src_encB _ _) rfl rfl rfl rfl om (Ka Y (Kd (kH (Kv (Kc (Ka Y (kAdd Y Y om (Ka Y (Kd ?_)))))))))))))))))))))))))))))))) (fun g0 => om)))))))))
    refine kInv ⟨⟨i + 1, by omega⟩, by simp only; omega, ?_⟩
    simp only [hst]
    exact .normA
  · have he : b ++ wireN a = b ++ wireL (a.take i) ++ [0] := by rw [show i = a.length by omega, List.take_length]; simp [wireN]
    rw [he]
    refine Kb (Kbc (Ka Y (Kf Y Y (Ke Y Y Y (Kq Y Y (Kj Y Y Y (Kd (Km Y (fun g0 => om) (fun g0 => kExit (kExC (kExI (kExB (Kbc (Ka Y (kLit Y Y Y Y (kAppR1 (z := (0 : UInt8)) rfl rfl rfl rfl rfl rfl rfl rfl om (Ka Y (Kd (Kr (Er (ra := [.one (.own true _)]) rfl rfl))))))))))))))))))))
theorem ok_spec_l2put_nil (a : List (List UInt8)) (hs : SmallBB a) :
    FnOK Tryd.prog 30 [.one (.arr true true (.sl 1 [])), .agg [.d (encBB a)]] (fun ra _ => ra = [.one (.own true (encB (wireN a)))]) := ok_spec_l2put [] a hs (Nat.zero_le _)

def c_spec_l1spoil : C := (.g (.o 0 4 (.mov (.n 1)) .done) (.g (.o 0 6 (.lit 6 1 [(.v (.int .u8 0))] 0 []) (.o 1 7 (.mov (.t 1)) (.o 2 8 (.app 8 1 1 (.t 6) (.t 7)) (.o 3 1 (.mov (.t 8)) .done)))) (.seq (.g (.o 0 9 (.mov (.t 1)) (.o 1 10 (.len (.t 9)) (.o 2 11 (.bin .eql (.t 10) (.i 0)) .done))) (.cond (.t 11) (.g (.o 0 12 (.mov (.t 0)) (.o 1 13 (.call 13 43 [(.t 12)]) (.o 2 14 (.conv .u8 (.t 13)) (.o 3 15 (.lit 15 1 [(.v (.int .u8 0))] 1 [(0, 1, (.t 14))]) (.o 4 4 (.mov (.t 15)) .done))))) .ret) .skip)) (.g (.o 0 16 (.mov (.t 0)) (.o 1 17 (.mov (.t 1)) (.o 2 18 (.len (.t 17)) (.o 3 19 (.call 19 42 [(.t 16), (.t 18)]) (.o 4 5 (.mov (.t 19)) .done))))) (.seq (.g (.o 0 20 (.mov (.t 0)) (.o 1 21 (.call 21 42 [(.t 20), (.i 4)]) .done)) (.block 0 (.g (.o 0 31 (.bin .eql (.t 21) (.i 0)) (.o 1 30 (.mov (.t 31)) .done)) (.cond (.t 30) (.reg false (.o 0 32 (.mov (.t 1)) (.o 1 33 (.mov (.t 5)) (.o 2 34 (.mov (.t 0)) (.o 3 35 (.call 35 43 [(.t 34)]) (.o 4 36 (.conv .u8 (.t 35)) (.o 5 37 (.iad 1 (.t 32) (.t 33)) (.op 6 [] none none false (.store none (.t 37) (.t 36)) .done)))))))) (.g (.o 0 39 (.bin .eql (.t 21) (.i 1)) (.o 1 38 (.mov (.t 39)) .done)) (.cond (.t 38) (.seq (.reg true (.op 0 [] (some 40) none true (.mov (.t 1)) (.op 1 [] (some 41) none true (.mov (.t 5)) (.op 2 [] (some 42) none true (.cut 1 (.t 40) none (some (.t 41))) (.op 3 [] (some 43) none true (.mov (.t 1)) (.op 4 [] (some 44) none true (.mov (.t 5)) (.op 5 [] (some 45) none true (.bin .add (.t 44) (.i 1)) (.op 6 [] (some 46) none true (.cut 1 (.t 43) (some (.t 45)) none) (.o 7 47 (.app 47 1 1 (.t 42) (.t 46)) (.op 8 [] (some 4) none true (.mov (.t 47)) .done)))))))))) .ret) (.g (.o 0 49 (.bin .eql (.t 21) (.i 2)) (.o 1 48 (.mov (.t 49)) .done)) (.cond (.t 48) (.g (.o 0 50 (.mov (.t 1)) (.o 1 51 (.mov (.t 0)) (.o 2 52 (.call 52 43 [(.t 51)]) (.o 3 53 (.conv .u8 (.t 52)) (.o 4 54 (.lit 54 1 [(.v (.int .u8 0))] 1 [(0, 1, (.t 53))]) (.o 5 55 (.app 55 1 1 (.t 50) (.t 54)) (.o 6 4 (.mov (.t 55)) .done))))))) .ret) (.reg false (.o 0 22 (.mov (.t 1)) (.o 1 23 (.mov (.t 5)) (.o 2 24 (.mov (.t 1)) (.o 3 25 (.mov (.t 5)) (.o 4 26 (.iad 1 (.t 24) (.t 25)) (.o 5 27 (.load none (.t 26)) (.o 6 28 (.bin .add (.t 27) (.v (.int .u8 1))) (.o 7 29 (.iad 1 (.t 22) (.t 23)) (.op 8 [] none none false (.store none (.t 29) (.t 28)) .done)))))))))))))))))) (.g (.o 0 56 (.mov (.t 1)) (.o 1 4 (.mov (.t 56)) .done)) .ret))))))
theorem dg_spec_l1spoil : Tryd.f33.body.bind (digC Tryd.prog Tryd.f33.ntmps []) = some c_spec_l1spoil := by kernel_rfl
theorem rs_spec_l1spoil : resSlots Tryd.prog Tryd.f33 = some [.s 4] := by kernel_rfl
theorem ok_spec_l1spoil (c : Cu) (b : List UInt8) (hb : b.length ≤ 4194304) :
    FnOK Tryd.prog 33 [.one (.box c.cells), .one (.d (encB b))] (fun ra os => ∃ x : List UInt8 × Cu, (x.1.length ≤ b.length + 1) ∧ ra = [.one (.own true (encB x.1))] ∧ os.b 0 = x.2.cells) := by
  refine FnOK.ofK Tryd.func33 (by kernel_rfl) dg_spec_l1spoil rs_spec_l1spoil rfl rfl ?_
  delta c_spec_l1spoil T.o X.i C.g
  refine Kbc (Ka Y (Kdb (Kc (kLitG Y Y Y Y (Ka Y (kAppN Y Y Y (src_encB _ _) rfl rfl rfl rfl prl (Ka Y (Kdb (Kbc (Ka Y (Kq Y Y (Kj Y Y Y (Kd (Km Y (fun g0 => Kbc (Ka Y (Kz (ok_spec_l1Byte _) ⟨⟨rfl, _, rfl, rfl⟩, trivial⟩ Y Y Y (fun _ => rfl) (fun x1 hx1 => (kConvU8 Y (kLitG Y Y Y Y (Ka Y (Kd (Kr (Er (ra := [.one (.own true _)]) rfl ?_)))))))))) (fun g0 => Kn (Kbc (Ka Y (Ka Y (Kq Y Y (Kz (ok_spec_l1Below _ _) ⟨⟨rfl, _, rfl, rfl⟩, rfl, trivial⟩ Y Y Y (fun _ => rfl) (fun x2 hx2 => (Ka Y (Kdb (Kbc (Ka Y (Kz (ok_spec_l1Below _ _) ⟨⟨rfl, _, rfl, rfl⟩, rfl, trivial⟩ Y Y Y (fun _ => rfl) (fun x3 hx3 => (Kd (Kt (Kbc (Kj Y Y Y (Ka Y (Kd (Km Y (fun g4 => Kc (Ka Y (Ka Y (Ka Y (Kz (ok_spec_l1Byte _) ⟨⟨rfl, _, rfl, rfl⟩, trivial⟩ Y Y Y (fun _ => rfl) (fun x5 hx5 => (kConvU8 Y ?_))))))) (fun g4 => Kbc (Kj Y Y Y (Ka Y (Kd (Km Y (fun g6 => Kb (kRegD (Ka Y (Ka Y ?_)))) (fun g6 => Kbc (Kj Y Y Y (Ka Y (Kd (Km Y (fun g7 => Kbc (Ka Y (Ka Y (Kz (ok_spec_l1Byte _) ⟨⟨rfl, _, rfl, rfl⟩, trivial⟩ Y Y Y (fun _ => rfl) (fun x8 hx8 => (kConvU8 Y (kLitG Y Y Y Y (kAppR1 Y Y Y Y Y Y Y Y prl (Ka Y (Kd (Kr (Er (ra := [.one (.own true _)]) rfl ?_)))))))))))) (fun g7 => Kc (Ka Y (Ka Y (Ka Y (Ka Y ?_)))))))))))))))))))))))))))))))))))))))))))))))))
  · exact ⟨([u8 x1.1], x1.2), by simp, rfl, rfl⟩
  · rcases x2 with ⟨iv, c2⟩
    obtain ⟨i, rfl⟩ : ∃ n : Nat, iv = n := ⟨iv.toNat, by have := hx2.1; simp only at this; omega⟩
    have hi : i < b.length := by have := hx2.2; simp only at this; omega
    refine kIadAR Y Y Y Y prl (kStoreER Y Y Y Y Y Y Y om rfl (Kd (Kv (Kbc (Ka Y (Ka Y (Kd (Kr (Er (ra := [.one (.own true _)]) rfl ?_)))))))))
    exact ⟨(b.set i (u8 x5.1), _), by simp, rfl, rfl⟩
  · rcases x2 with ⟨iv, c2⟩
    obtain ⟨i, rfl⟩ : ∃ n : Nat, iv = n := ⟨iv.toNat, by have := hx2.1; simp only at this; omega⟩
    have hi : i < b.length := by have := hx2.2; simp only at this; omega
    refine kWinH (l := b) (f := fun b : UInt8 => [.sc (.int .u8 b.toNat)]) rfl rfl rfl ⟨⟨by omega, by omega⟩, by omega⟩ ?_
    refine Ka Y (Ka Y (kAdd Y Y om ?_))
    refine kWinL (l := b) (f := fun b : UInt8 => [.sc (.int .u8 b.toNat)]) rfl rfl rfl ⟨⟨by omega, by omega⟩, by omega⟩ ?_
    refine kDel (l := b) Y Y Y Y ⟨by omega, by omega, by omega⟩ ?_
    refine Ka Y (Kd (kH (Kr (Er (ra := [.one (.own true _)]) rfl ?_))))
    exact ⟨(b.take _ ++ b.drop _, _), by simp only [List.length_append, List.length_take, List.length_drop]; omega, rfl, rfl⟩
  · exact ⟨(b ++ [u8 x8.1], _), by simp, rfl, rfl⟩
  · rcases x2 with ⟨iv, c2⟩
    obtain ⟨i, rfl⟩ : ∃ n : Nat, iv = n := ⟨iv.toNat, by have := hx2.1; simp only at this; omega⟩
    have hi : i < b.length := by have := hx2.2; simp only at this; omega
    refine kIadAR Y Y Y Y prl (kLoadER Y Y prl rfl (Kj Y Y Y (kIadAR Y Y Y Y prl ?_)))
    refine kStoreER (f := fun b : UInt8 => [.sc (.int .u8 b.toNat)]) (l := b) (z := u8 ((b[i].toNat : Int) + 1)) rfl rfl rfl rfl rfl rfl rfl hi (by rw [u8_toNat]; rfl) ?_
    refine Kd (Kv (Kbc (Ka Y (Ka Y (Kd (Kr (Er (ra := [.one (.own true _)]) rfl ?_)))))))
    exact ⟨(b.set i _, _), by simp, rfl, rfl⟩

def c_spec_l1PickInt : C := (.g (.o 0 4 (.mov (.i 0)) .done) (.g (.o 0 5 (.mov (.t 1)) (.o 1 6 (.mov (.t 0)) (.o 2 7 (.mov (.t 1)) (.o 3 8 (.len (.t 7)) (.o 4 9 (.call 9 42 [(.t 6), (.t 8)]) (.o 5 10 (.iad 1 (.t 5) (.t 9)) (.o 6 11 (.load none (.t 10)) (.o 7 4 (.mov (.t 11)) .done)))))))) .ret))
theorem dg_spec_l1PickInt : Tryd.f34.body.bind (digC Tryd.prog Tryd.f34.ntmps []) = some c_spec_l1PickInt := by kernel_rfl
theorem rs_spec_l1PickInt : resSlots Tryd.prog Tryd.f34 = some [.s 4] := by kernel_rfl
theorem ok_spec_l1PickInt (c : Cu) (xs : List (List DV)) {l : List Int} (hx : intsOf xs = some l) (h0 : 0 < l.length) (h1 : l.length ≤ 1000000) :
    FnOK Tryd.prog 34 [.one (.box c.cells), .one (.d (.sl 1 xs))] (fun ra os => ∃ x : Int × Cu, (x.1 ∈ l) ∧ ra = [.one (.d (.sc (.int .i64 x.1)))] ∧ os.b 0 = x.2.cells) := by
  rw [intsOf_eq hx]
  refine FnOK.ofK Tryd.func34 (by kernel_rfl) dg_spec_l1PickInt rs_spec_l1PickInt rfl rfl ?_
  delta c_spec_l1PickInt T.o X.i C.g
  refine Kbc (Ka Y (Kdb (Kc (Ka Y (Ka Y (Ka Y (Kq Y Y (Kz (ok_spec_l1Below _ _) ⟨⟨rfl, _, rfl, rfl⟩, rfl, trivial⟩ Y Y Y (fun _ => rfl) (fun x0 hx0 => (kIadT Y Y om (Ky Y Y (Ka Y (Kd (Kr (Er (ra := [.one (.d _)]) rfl ?_)))))))))))))))
  exact ⟨(_, x0.2), List.getElem_mem _, rfl, rfl⟩

section
variable {P : Program} {k : List It} {Q : Ex → St → Prop} {s : St} {d : Option Nat} {q : Bool} {r : T} {oi : Nat} {tags : List Nat}
/-- A call ahead of which rows are given up, that tells something of a kind, and turns one variable. -/
theorem kCallFE {α : Type} {C : α → Prop} {f : α → List RA} {g : α → List DV} {e fn : Nat} {args : List X} {gas : List GA} {p id v ev : Nat} {cs : List AC} {s' : St} (ids : List Nat)
    (hok : FnOK P fn gas (fun ra' os => ∃ x, C x ∧ ra' = f x ∧ os.b p = g x)) (hf : frzL ids s = some s') (hm : matchGs P s' (args.map s'.ev) gas) (hb : callB s' e (args.map s'.ev) gas false = true)
    (hbs : bindGs 0 (args.map s'.ev) gas = [(p, id, false)]) (ho : s'.ob id = ⟨v, ev, .box cs⟩) (hl : ∀ x, decide ((f x).length ≤ 64) = true)
    (h : ∀ x, C x → kont P (.t r tags :: k) Q .normal ((s'.after e (f x) [(p, id, false)] ⟨fun _ => .sl 0 [], fun _ => g x⟩).put d (resV s' e (f x)))) : kont P (.t (.op oi [] d none q (.call e fn args) r) tags :: k) Q .normal s :=
  kOp (fun _ => trivial) (by
    simp only [callB, Bool.and_eq_true, Bool.or_eq_true, decide_eq_true_eq] at hb
    obtain ⟨⟨⟨⟨h1, h2⟩, h3⟩, h4⟩, h5⟩ := hb
    refine .inr (.inr ⟨ids, s', hf, gas, _, hok, hm, nodupB_sound h1, fun b hb' => by simpa using List.all_eq_true.1 h2 b hb', ?_, h4, fun ra' _ ⟨x, _, e1, _⟩ => by rw [e1]; simpa using hl x, fun q h6 h7 h8 => ?_, fun ra' os ⟨x, hC, e1, hy⟩ => ?_⟩)
    · rcases h3 with ⟨g1, g2⟩ | ⟨g1, g2⟩
      · refine .inl ⟨g1, fun hk => ?_⟩
        rcases g2 with g2 | g2
        · rw [hk] at g2; simp at g2
        · simpa using g2
      · exact absurd g1 (by decide)
    · have := List.all_eq_true.1 h5 q h8
      simp only [Bool.not_eq_true', Bool.and_eq_false_iff, decide_eq_false_iff_not] at this
      rcases this with h | h <;> omega
    · subst e1
      rw [hbs, after_congr_box (os' := ⟨fun _ => .sl 0 [], fun _ => g x⟩) ho hy]
      exact h x hC)
end
def c_spec_DrawNameGet : C := (.g (.o 0 2 (.mov (.n 1)) (.o 1 3 (.mov (.i 0)) .done)) (.g (.o 0 8 (.mov (.t 0)) (.o 1 9 (.call 9 17 [(.t 8)]) (.o 2 4 (.mov (.t 9)) .done))) (.g (.o 0 10 (.mov (.t 4)) (.o 1 11 (.call 11 18 [(.t 10), (.i 3)]) (.o 2 5 (.mov (.t 11)) .done))) (.g (.o 0 12 (.mov (.t 5)) (.o 1 13 (.len (.t 12)) (.o 2 6 (.mov (.t 13)) .done))) (.g (.o 0 14 (.mov (.t 5)) (.o 1 15 (.mov (.t 4)) (.o 2 16 (.call 16 31 [(.t 15)]) (.o 3 17 (.call 17 30 [(.t 14), (.t 16)]) (.o 4 5 (.mov (.t 17)) .done))))) (.g (.o 0 18 (.mov (.t 5)) (.o 1 19 (.len (.t 18)) (.o 2 7 (.mov (.t 19)) .done))) (.seq (.g (.o 0 20 (.mov (.t 4)) (.o 1 21 (.call 21 32 [(.t 20), (.i 2)]) .done)) (.cond (.t 21) (.reg false (.o 0 22 (.mov (.t 5)) (.o 1 23 (.mov (.t 6)) (.o 2 24 (.conv .u8 (.t 23)) (.o 3 25 (.lit 25 1 [(.v (.int .u8 0))] 4 [(0, 1, (.v (.int .u8 1))), (1, 1, (.v (.int .u8 113))), (2, 1, (.v (.int .u8 192))), (3, 1, (.t 24))]) (.o 4 26 (.app 26 1 1 (.t 22) (.t 25)) (.o 5 5 (.mov (.t 26)) .done))))))) (.reg false (.o 0 27 (.mov (.t 5)) (.o 1 28 (.mov (.t 4)) (.o 2 29 (.call 29 31 [(.t 28)]) (.o 3 30 (.call 30 30 [(.t 27), (.t 29)]) (.o 4 5 (.mov (.t 30)) .done)))))))) (.seq (.g (.o 0 31 (.mov (.t 4)) (.o 1 32 (.call 32 32 [(.t 31), (.i 3)]) .done)) (.cond (.t 32) (.reg false (.o 0 33 (.mov (.t 4)) (.o 1 34 (.mov (.t 5)) (.o 2 35 (.call 35 33 [(.t 33), (.t 34)]) (.o 3 5 (.mov (.t 35)) .done))))) .skip)) (.g (.o 0 36 (.mov (.t 5)) (.o 1 37 (.mov (.t 4)) (.o 2 38 (.mov (.t 7)) (.o 3 39 (.mov (.t 6)) (.o 4 40 (.mov (.t 7)) (.o 5 41 (.mov (.t 5)) (.o 6 42 (.len (.t 41)) (.o 7 43 (.mov (.t 5)) (.o 8 44 (.len (.t 43)) (.o 9 45 (.bin .sub (.t 44) (.i 2)) (.o 10 46 (.lit 46 1 [(.i 0)] 7 [(0, 1, (.t 38)), (1, 1, (.t 39)), (2, 1, (.t 40)), (3, 1, (.i 0)), (4, 1, (.i (-1))), (5, 1, (.t 42)), (6, 1, (.t 45))]) (.o 11 47 (.call 47 34 [(.t 37), (.t 46)]) (.o 12 2 (.mov (.t 36)) (.o 13 3 (.mov (.t 47)) .done)))))))))))))) .ret)))))))))
theorem dg_spec_DrawNameGet : Tryd.f11.body.bind (digC Tryd.prog Tryd.f11.ntmps []) = some c_spec_DrawNameGet := by kernel_rfl
theorem rs_spec_DrawNameGet : resSlots Tryd.prog Tryd.f11 = some [.s 2, .s 3] := by kernel_rfl
theorem ok_spec_DrawNameGet (code : List UInt8) (hb : (code.length : Int) ≤ 9223372036854775807) :
    FnOK Tryd.prog 11 [.one (.d (encB code))] (fun ra _ => ∃ x : List UInt8 × Int, (x.1.length ≤ 1000 ∧ x.2 ≤ 1000) ∧ ra = [.one (.own true (encB x.1)), .one (.d (.sc (.int .i64 x.2)))]) := by
  refine FnOK.ofK Tryd.func11 (by kernel_rfl) dg_spec_DrawNameGet rs_spec_DrawNameGet rfl rfl ?_
  delta c_spec_DrawNameGet T.o X.i C.g
  refine Kbc (Ka Y (Ka Y (Kdb (Kc (Ka Y (kCallX false (ok_spec_l1New _ prx) ⟨Y, trivial⟩ Y (fun _ => rfl) (fun _ => rfl) (fun x0 _ hx0 => (Ka Y (Kdb (Kc (Ka Y (Kz (ok_spec_l1some _ _ prx) ⟨⟨rfl, _, rfl, rfl⟩, rfl, trivial⟩ Y Y Y (fun _ => rfl) (fun x1 hx1 => (Ka Y (Kdb (Kc (Ka Y (Kq Y Y (Ka Y (Kdb (Kc (Ka Y (Ka Y (Kz (ok_spec_l2draw _) ⟨⟨rfl, _, rfl, rfl⟩, trivial⟩ Y Y Y (fun _ => rfl) (fun x2 hx2 => ?_)))))))))))))))))))))))))
  have q1 : x1.1.length ≤ 2 := by rcases hx1 with h | h
                                  · omega
                                  · rw [h]; simp
  have q2 := SmallBB.ok hx2
  have q3 := wireN_small hx2
  refine kCallF [rid 16 0] true (ok_spec_l2put x1.1 x2.1 q2 om) rfl ⟨⟨true, rfl, .inl rfl⟩, ⟨⟨Y, trivial⟩, leb⟩, trivial⟩ Y Y Y (fun _ => ?_)
  have q4 : (x1.1 ++ wireN x2.1).length ≤ 99 := by rw [List.length_append]; omega
  generalize x1.1 ++ wireN x2.1 = b2 at *
  refine Ka Y (Kdb (Kc (Ka Y (Kq Y Y (Ka Y (Kdb (Kbc (Ka Y (Kz (ok_spec_l1Once _ _) ⟨⟨rfl, _, rfl, rfl⟩, rfl, trivial⟩ Y Y Y (fun _ => rfl) (fun x3 hx3 => (Kd (kCond Y (fun g4 => Kc (Ka Y (Ka Y (kConvU8 Y (kLitG Y Y Y Y ?_))))) (fun g4 => Kc (Ka Y (Ka Y (Kz (ok_spec_l2draw _) ⟨⟨rfl, _, rfl, rfl⟩, trivial⟩ Y Y Y (fun _ => rfl) (fun x5 hx5 => ?_)))))))))))))))))
  · refine kAppR (f := fun b : UInt8 => [.sc (.int .u8 b.toNat)]) (l := b2) (l' := [1, 113, 192, u8 x1.1.length]) rfl rfl rfl rfl rfl rfl rfl rfl (by simp only [List.length_cons, List.length_nil]; omega) ?_
    have q5 : (b2 ++ [1, 113, 192, u8 x1.1.length]).length ≤ 300 := by rw [List.length_append]; simp only [List.length_cons, List.length_nil]; omega
    generalize b2 ++ [1, 113, 192, u8 x1.1.length] = b3 at *
    refine Ka Y (Kdb (Kbc (Ka Y (Kz (ok_spec_l1Once _ _) ⟨⟨rfl, _, rfl, rfl⟩, rfl, trivial⟩ Y Y Y (fun _ => rfl) (fun x4 hx4 => (Kd (kCond Y (fun g5 => Kc (Ka Y (Ka Y ?_))) (fun g5 => Kn (Kbc (Ka Y (Ka Y (Ka Y (Ka Y (Ka Y (Ka Y (Kq Y Y (Ka Y (Kq Y Y (kDif Y Y om (kLitD Y Y Y Y (Kz (ok_spec_l1PickInt _ _ prx prx prx) ⟨⟨rfl, _, rfl, rfl⟩, rfl, trivial⟩ Y Y Y (fun _ => rfl) (fun x6 hx6 => (Ka Y (Ka Y (Kd (Kr (Er (ra := [.one (.own true _), .one (.d _)]) rfl ?_)))))))))))))))))))))))))))
    · refine kCallFE [rid 17 0] (ok_spec_l1spoil x4.2 b3 om) rfl ⟨⟨rfl, _, rfl, rfl⟩, rfl, trivial⟩ Y Y Y (fun _ => rfl) (fun x hx => ?_)
      refine Ka Y (Kdb (Kc (Ka Y (Ka Y (Ka Y (Ka Y (Ka Y (Ka Y (Kq Y Y (Ka Y (Kq Y Y (kDif Y Y om (kLitD Y Y Y Y (Kz (ok_spec_l1PickInt _ _ prx prx prx) ⟨⟨rfl, _, rfl, rfl⟩, rfl, trivial⟩ Y Y Y (fun _ => rfl) (fun x5 hx5 => (Ka Y (Ka Y (Kd (Kr (Er (ra := [.one (.own true _), .one (.d _)]) rfl ?_))))))))))))))))))))
      exact ⟨(x.1, x5.1), ⟨by show (x.1).length ≤ 1000; omega, by show x5.1 ≤ 1000; simp only [List.mem_cons, List.not_mem_nil, or_false] at hx5; omega⟩, rfl⟩
    · exact ⟨(b3, x6.1), ⟨by show (b3).length ≤ 1000; omega, by show x6.1 ≤ 1000; simp only [List.mem_cons, List.not_mem_nil, or_false] at hx6; omega⟩, rfl⟩
  · have q5 := SmallBB.ok hx5
    have q6 := wireN_small hx5
    refine kCallF [rid 29 0] true (ok_spec_l2put b2 x5.1 q5 om) rfl ⟨⟨true, rfl, .inl rfl⟩, ⟨⟨Y, trivial⟩, leb⟩, trivial⟩ Y Y Y (fun _ => ?_)
    have q7 : (b2 ++ wireN x5.1).length ≤ 300 := by rw [List.length_append]; omega
    generalize b2 ++ wireN x5.1 = b3 at *
    refine Ka Y (Kdb (Kbc (Ka Y (Kz (ok_spec_l1Once _ _) ⟨⟨rfl, _, rfl, rfl⟩, rfl, trivial⟩ Y Y Y (fun _ => rfl) (fun x6 hx6 => (Kd (kCond Y (fun g7 => Kc (Ka Y (Ka Y ?_))) (fun g7 => Kn (Kbc (Ka Y (Ka Y (Ka Y (Ka Y (Ka Y (Ka Y (Kq Y Y (Ka Y (Kq Y Y (kDif Y Y om (kLitD Y Y Y Y (Kz (ok_spec_l1PickInt _ _ prx prx prx) ⟨⟨rfl, _, rfl, rfl⟩, rfl, trivial⟩ Y Y Y (fun _ => rfl) (fun x8 hx8 => (Ka Y (Ka Y (Kd (Kr (Er (ra := [.one (.own true _), .one (.d _)]) rfl ?_)))))))))))))))))))))))))))
    · refine kCallFE [rid 30 0] (ok_spec_l1spoil x6.2 b3 om) rfl ⟨⟨rfl, _, rfl, rfl⟩, rfl, trivial⟩ Y Y Y (fun _ => rfl) (fun x hx => ?_)
      refine Ka Y (Kdb (Kc (Ka Y (Ka Y (Ka Y (Ka Y (Ka Y (Ka Y (Kq Y Y (Ka Y (Kq Y Y (kDif Y Y om (kLitD Y Y Y Y (Kz (ok_spec_l1PickInt _ _ prx prx prx) ⟨⟨rfl, _, rfl, rfl⟩, rfl, trivial⟩ Y Y Y (fun _ => rfl) (fun x7 hx7 => (Ka Y (Ka Y (Kd (Kr (Er (ra := [.one (.own true _), .one (.d _)]) rfl ?_))))))))))))))))))))
      exact ⟨(x.1, x7.1), ⟨by show (x.1).length ≤ 1000; omega, by show x7.1 ≤ 1000; simp only [List.mem_cons, List.not_mem_nil, or_false] at hx7; omega⟩, rfl⟩
    · exact ⟨(b3, x8.1), ⟨by show (b3).length ≤ 1000; omega, by show x8.1 ≤ 1000; simp only [List.mem_cons, List.not_mem_nil, or_false] at hx8; omega⟩, rfl⟩

theorem drop_at {m t : List UInt8} {i : Nat} {c : UInt8} (h : m.drop i = c :: t) : i < m.length ∧ m.getD i 0 = c ∧ m.drop (i + 1) = t := by
  have hl : i < m.length := by
    rcases Nat.lt_or_ge i m.length with h1 | h1
    · exact h1
    · rw [List.drop_eq_nil_of_le h1] at h; cases h
  rw [List.drop_eq_getElem_cons hl] at h
  injection h with h1 h2
  exact ⟨hl, by rw [List.getD_eq_getElem?_getD, List.getElem?_eq_getElem hl]; exact h1, h2⟩
theorem getN_walk (m rest : List UInt8) (bh : Int) (hops : Nat) : ∀ (ls L : List (List UInt8)) (i f : Nat), nameOk (L ++ ls) = true → m.drop i = wireL ls ++ 0 :: rest →
    getN m (ls.length + 1 + f) i bh hops L = (L ++ ls, if bh < 0 then ((i + (wireN ls).length : Nat) : Int) else bh)
  | [], L, i, f, hk, hd => by
    obtain ⟨h1, h2, h3⟩ := drop_at (show m.drop i = 0 :: rest from hd)
    rw [show ([] : List (List UInt8)).length + 1 + f = f + 1 by simp; omega]
    rw [List.append_nil] at hk ⊢
    unfold getN
    rw [if_pos h1, h2, if_pos (by decide), if_pos hk]
    congr 1
  | l :: ls, L, i, f, hk, hd => by
    have hlab := nameOk_label hk l (by simp)
    have h6 := nameOk_len hk
    have hln := nameOk_mem hk l (by simp)
    simp only [List.length_append, List.length_cons] at h6
    have hd' : m.drop i = u8 l.length :: (l ++ (wireL ls ++ 0 :: rest)) := by rw [hd]; simp [wireL]
    obtain ⟨h1, h2, h3⟩ := drop_at hd'
    have hc : (u8 l.length).toNat = l.length := by
      have := u8_toNat (l.length : Int)
      rw [show IntKind.u8.wrap (l.length : Int) = l.length from by unfold IntKind.wrap; simp [IntKind.bits, IntKind.signed]; omega] at this
      omega
    have hlen : i + 1 + l.length ≤ m.length := by
      have := congrArg List.length h3
      simp only [List.length_drop, List.length_append] at this
      omega
    rw [show (l :: ls).length + 1 + f = (ls.length + 1 + f) + 1 by simp only [List.length_cons]; omega]
    unfold getN
    rw [if_pos h1, h2, hc, if_neg (by omega), if_neg (by omega), if_neg (by omega), if_pos ⟨hlen, by omega⟩, h3, List.take_left, (label_low hlab).1]
    have hd2 : m.drop (i + 1 + l.length) = wireL ls ++ 0 :: rest := by rw [← List.drop_drop, h3, List.drop_left]
    rw [getN_walk m rest bh hops ls (L ++ [l]) (i + 1 + l.length) f (by rw [List.append_assoc]; exact hk) hd2]
    have e : (wireN (l :: ls)).length = 1 + l.length + (wireN ls).length := by rw [wireN_len, wireN_len]; simp only [List.length_cons, List.flatten_cons, List.length_append]; omega
    rw [e, List.append_assoc, show i + 1 + l.length + (wireN ls).length = i + (1 + l.length + (wireN ls).length) by omega]
    rfl
theorem get_put {b : List UInt8} {n : List (List UInt8)} (hb : b.length ≤ 2) (hk : nameOk n = true) : nameGet (b ++ wireN n) b.length = (n, ((b ++ wireN n).length : Int)) := by
  have hw := wireN_small hk
  have h6 := nameOk_len hk
  unfold nameGet
  rw [if_pos ⟨by rw [List.length_append]; omega, by omega⟩, Int.toNat_natCast]
  have := getN_walk (b ++ wireN n) [] (-1) 0 n [] b.length (14 - n.length) hk (by rw [List.drop_left]; rfl)
  rw [show n.length + 1 + (14 - n.length) = 15 by omega] at this
  rw [this, List.length_append]
  rfl
theorem get_ptr {b : List UInt8} {n : List (List UInt8)} (hb : b.length ≤ 2) (hk : nameOk n = true) : nameGet ((b ++ wireN n) ++ [192, u8 b.length]) ((b ++ wireN n).length : Nat) = (n, ((b ++ wireN n).length : Int) + 2) := by
  have hw := wireN_small hk
  have h6 := nameOk_len hk
  have hw1 : 1 ≤ (wireN n).length := by rw [wireN_len]; omega
  have hl : (b ++ wireN n).length = b.length + (wireN n).length := List.length_append
  have hc : (u8 b.length).toNat = b.length := by
    have := u8_toNat (b.length : Int)
    rw [show IntKind.u8.wrap (b.length : Int) = b.length from by unfold IntKind.wrap; simp [IntKind.bits, IntKind.signed]; omega] at this
    omega
  have hx : ∀ x : List UInt8, nameGet (x ++ [192, u8 b.length]) (x.length : Nat) = (if x.length + 2 ≤ 512 then (if b.length < x.length then getN (x ++ [192, u8 b.length]) 14 b.length ((x.length : Int) + 2) 1 [] else ([], -1)) else ([], -1)) := by
    intro x
    have e1 : (x ++ [192, u8 b.length]).length = x.length + 2 := by simp
    have g1 : (x ++ [192, u8 b.length]).getD x.length 0 = 192 := by simp [List.getD_eq_getElem?_getD]
    have g2 : (x ++ [192, u8 b.length]).getD (x.length + 1) 0 = u8 b.length := by simp [List.getD_eq_getElem?_getD]
    have g3 : get16 (x ++ [192, u8 b.length]) x.length = 49152 + b.length := by unfold get16; rw [g1, g2, hc]; rfl
    unfold nameGet
    rw [e1, Int.toNat_natCast]
    by_cases h : x.length + 2 ≤ 512
    · rw [if_pos ⟨h, by omega⟩, if_pos h]
      conv => lhs; unfold getN
      rw [if_pos (by rw [e1]; omega), g1, if_neg (by decide), if_pos (by decide), if_pos (by rw [e1]; exact Nat.le_refl _), g3, show 49152 + b.length - 49152 = b.length by omega]
      by_cases h2 : b.length < x.length
      · rw [if_pos ⟨h2, by omega⟩, if_pos h2, if_pos (by decide)]
      · rw [if_neg (fun h => h2 h.1), if_neg h2]
    · rw [if_neg (fun g => h g.1), if_neg h]
  rw [hx, if_pos (by omega), if_pos (by omega)]
  have := getN_walk ((b ++ wireN n) ++ [192, u8 b.length]) [192, u8 b.length] (((b ++ wireN n).length : Int) + 2) 1 n [] b.length (13 - n.length) hk (by rw [List.append_assoc, List.drop_left]; simp [wireN])
  rw [show n.length + 1 + (13 - n.length) = 14 by omega, if_neg (by omega)] at this
  exact this
theorem getN_any (m : List UInt8) (a : Int) : ∀ (f i : Nat) (bh : Int) (hops : Nat) (L : List (List UInt8)), (bh < 0 ∧ a ≤ i ∨ a < bh ∧ bh ≤ m.length) →
    getN m f i bh hops L = ([], -1) ∨ a < (getN m f i bh hops L).2 ∧ (getN m f i bh hops L).2 ≤ m.length ∧ nameOk (getN m f i bh hops L).1 = true
  | 0, _, _, _, _, _ => .inl rfl
  | f + 1, i, bh, hops, L, h => by
    unfold getN
    by_cases h1 : i < m.length
    case neg => rw [if_neg h1]; exact .inl rfl
    rw [if_pos h1]
    by_cases h2 : (m.getD i 0).toNat = 0
    · rw [if_pos h2]
      cases hk : nameOk L
      · exact .inl rfl
      · rw [if_pos rfl]
        right
        simp only
        by_cases hb : bh < 0
        · rw [if_pos hb]; exact ⟨by omega, by omega, hk⟩
        · rw [if_neg hb]; exact ⟨by omega, by omega, hk⟩
    rw [if_neg h2]
    by_cases h3 : 192 ≤ (m.getD i 0).toNat
    · rw [if_pos h3]
      by_cases h4 : i + 2 ≤ m.length
      case neg => rw [if_neg h4]; exact .inl rfl
      rw [if_pos h4]
      by_cases h5 : get16 m i - 49152 < i ∧ hops + 1 ≤ 8
      case neg => rw [if_neg h5]; exact .inl rfl
      rw [if_pos h5]
      apply getN_any
      by_cases hb : bh < 0
      · rw [if_pos hb]; right; omega
      · rw [if_neg hb]; right; omega
    rw [if_neg h3]
    by_cases h4 : 15 < (m.getD i 0).toNat
    · rw [if_pos h4]; exact .inl rfl
    rw [if_neg h4]
    by_cases h5 : i + 1 + (m.getD i 0).toNat ≤ m.length ∧ L.length ≠ 6
    · rw [if_pos h5]
      apply getN_any
      omega
    · rw [if_neg h5]; exact .inl rfl
theorem get_any (m : List UInt8) (a : Int) : nameGet m a = ([], -1) ∨ a < (nameGet m a).2 ∧ (nameGet m a).2 ≤ m.length ∧ nameOk (nameGet m a).1 = true := by
  unfold nameGet
  split
  · exact getN_any m a 15 a.toNat (-1) 0 [] (.inl ⟨by decide, by omega⟩)
  · exact .inl rfl
theorem get_all (m : List UInt8) (a : Int) : ∃ (W : List (List UInt8)) (e : Int), nameGet m a = (W, e) ∧ (W = [] ∧ e = -1 ∨ a < e ∧ e ≤ m.length ∧ nameOk W = true) := by
  refine ⟨(nameGet m a).1, (nameGet m a).2, (Prod.eta _).symm, ?_⟩
  rcases get_any m a with h | h
  · rw [h]; exact .inl ⟨rfl, rfl⟩
  · exact .inr h
theorem ok_get {P : Program} {f : Nat} {m : List UInt8} {a : Int} {W : List (List UInt8)} {e : Int} (h : FnOK P f [.one (.d (encB m)), .one (.d (.sc (.int .i64 a)))] (fun ra _ => ra = [.agg [.own false (encBB (nameGet m a).1)], .one (.d (.sc (.int .i64 (nameGet m a).2)))])) (hw : nameGet m a = (W, e)) : FnOK P f [.one (.d (encB m)), .one (.d (.sc (.int .i64 a)))] (fun ra _ => ra = [.agg [.own false (encBB W)], .one (.d (.sc (.int .i64 e)))]) := by
  rw [hw] at h; exact h
def c_laws_FnNameWire : C := (.g (.o 0 2 (.mov (.v (.bool false))) .done) (.g (.o 0 16 (.mov (.t 0)) (.o 1 17 (.call 17 5 [(.t 16)]) (.o 2 15 (.mov (.t 17)) (.o 3 18 (.ext (.t 15) 0) (.o 4 19 (.ext (.t 15) 1) (.o 5 4 (.alloc 4 [(.n 1)]) (.o 6 3 (.mov (.t 18)) (.op 7 [] none none false (.store (some 1) (.t 4) (.t 19)) .done)))))))) (.g (.o 0 21 (.mov (.t 3)) (.o 1 22 (.load (some 1) (.t 4)) (.o 2 23 (.call 23 6 [(.t 21), (.t 22)]) (.o 3 20 (.mov (.t 23)) (.o 4 24 (.ext (.t 20) 0) (.o 5 25 (.ext (.t 20) 1) (.o 6 5 (.mov (.t 24)) (.o 7 6 (.mov (.t 25)) .done)))))))) (.seq (.g (.o 0 26 (.mov (.t 6)) (.o 1 27 (.un .not (.t 26)) .done)) (.cond (.t 27) (.g (.o 0 28 (.mov (.t 5)) (.o 1 29 (.len (.t 28)) (.o 2 30 (.bin .eql (.t 29) (.i 0)) (.o 3 31 (.mov (.t 30)) (.op 4 [] (some 32) (some (31, true)) false (.load (some 1) (.t 4)) (.op 5 [] (some 33) (some (31, true)) false (.call 33 7 [(.t 32)]) (.op 6 [] (some 34) (some (31, true)) false (.un .not (.t 33)) (.o 7 35 (.pick (.t 31) (.t 34) (.v (.bool false))) (.o 8 36 (.mov (.t 35)) (.op 9 [] (some 37) (some (36, true)) false (.call 37 8 []) (.o 10 38 (.pick (.t 36) (.t 37) (.v (.bool false))) (.o 11 2 (.mov (.t 38)) .done)))))))))))) .ret) .skip)) (.g (.o 0 40 (.mov (.t 5)) (.o 1 41 (.mov (.t 3)) (.o 2 42 (.len (.t 41)) (.o 3 43 (.call 43 9 [(.t 40), (.t 42)]) (.o 4 39 (.mov (.t 43)) (.o 5 44 (.ext (.t 39) 0) (.o 6 45 (.ext (.t 39) 1) (.o 7 7 (.alloc 7 [(.n 1)]) (.op 8 [] none none false (.store (some 1) (.t 7) (.t 44)) (.o 9 8 (.mov (.t 45)) .done)))))))))) (.g (.o 0 47 (.lit 47 1 [(.v (.int .u8 0))] 0 []) (.o 1 48 (.mov (.t 5)) (.o 2 49 (.app 49 1 1 (.t 47) (.t 48)) (.o 3 50 (.mov (.t 3)) (.o 4 51 (.len (.t 50)) (.o 5 52 (.conv .u8 (.t 51)) (.o 6 53 (.lit 53 1 [(.v (.int .u8 0))] 2 [(0, 1, (.v (.int .u8 192))), (1, 1, (.t 52))]) (.o 7 54 (.app 54 1 1 (.t 49) (.t 53)) (.o 8 55 (.mov (.t 5)) (.o 9 56 (.len (.t 55)) (.o 10 57 (.call 57 9 [(.t 54), (.t 56)]) (.o 11 46 (.mov (.t 57)) (.o 12 58 (.ext (.t 46) 0) (.o 13 59 (.ext (.t 46) 1) (.o 14 9 (.alloc 9 [(.n 1)]) (.op 15 [] none none false (.store (some 1) (.t 9) (.t 58)) (.o 16 10 (.mov (.t 59)) .done))))))))))))))))) (.seq (.g (.o 0 60 (.mov (.t 8)) (.o 1 61 (.mov (.t 5)) (.o 2 62 (.len (.t 61)) (.o 3 63 (.bin .neq (.t 60) (.t 62)) (.o 4 64 (.mov (.t 63)) (.op 5 [] (some 65) (some (64, false)) false (.load (some 1) (.t 7)) (.op 6 [] (some 66) (some (64, false)) false (.load (some 1) (.t 4)) (.op 7 [] (some 67) (some (64, false)) false (.call 67 10 [(.t 65), (.t 66)]) (.op 8 [] (some 68) (some (64, false)) false (.un .not (.t 67)) (.o 9 69 (.pick (.t 64) (.v (.bool true)) (.t 68)) (.o 10 70 (.mov (.t 69)) (.op 11 [] (some 71) (some (70, false)) false (.mov (.t 10)) (.op 12 [] (some 72) (some (70, false)) false (.mov (.t 5)) (.op 13 [] (some 73) (some (70, false)) false (.len (.t 72)) (.op 14 [] (some 74) (some (70, false)) false (.bin .add (.t 73) (.i 2)) (.op 15 [] (some 75) (some (70, false)) false (.bin .neq (.t 71) (.t 74)) (.o 16 76 (.pick (.t 70) (.v (.bool true)) (.t 75)) (.o 17 77 (.mov (.t 76)) (.op 18 [] (some 78) (some (77, false)) false (.load (some 1) (.t 9)) (.op 19 [] (some 79) (some (77, false)) false (.load (some 1) (.t 4)) (.op 20 [] (some 80) (some (77, false)) false (.call 80 10 [(.t 78), (.t 79)]) (.op 21 [] (some 81) (some (77, false)) false (.un .not (.t 80)) (.o 22 82 (.pick (.t 77) (.v (.bool true)) (.t 81)) .done))))))))))))))))))))))) (.cond (.t 82) (.g (.o 0 2 (.mov (.v (.bool false))) .done) .ret) .skip)) (.g (.o 0 84 (.mov (.t 0)) (.o 1 85 (.call 85 11 [(.t 84)]) (.o 2 83 (.mov (.t 85)) (.o 3 86 (.ext (.t 83) 0) (.o 4 87 (.ext (.t 83) 1) (.o 5 11 (.mov (.t 86)) (.o 6 12 (.mov (.t 87)) .done))))))) (.g (.o 0 89 (.mov (.t 11)) (.o 1 90 (.mov (.t 12)) (.o 2 91 (.call 91 9 [(.t 89), (.t 90)]) (.o 3 88 (.mov (.t 91)) (.o 4 92 (.ext (.t 88) 0) (.o 5 93 (.ext (.t 88) 1) (.o 6 13 (.alloc 13 [(.n 1)]) (.op 7 [] none none false (.store (some 1) (.t 13) (.t 92)) (.o 8 14 (.mov (.t 93)) .done))))))))) (.g (.o 0 94 (.mov (.t 14)) (.o 1 95 (.bin .lss (.t 94) (.i 0)) (.o 2 96 (.mov (.t 95)) (.op 3 [] (some 97) (some (96, true)) false (.fad (.t 13) 0) (.op 4 [] (some 98) (some (96, true)) false (.load none (.t 97)) (.op 5 [] (some 99) (some (96, true)) false (.len (.t 98)) (.op 6 [] (some 100) (some (96, true)) false (.bin .eql (.t 99) (.i 0)) (.o 7 101 (.pick (.t 96) (.t 100) (.v (.bool false))) (.o 8 102 (.mov (.t 101)) (.op 9 [] (some 103) (some (102, false)) false (.mov (.t 14)) (.op 10 [] (some 104) (some (102, false)) false (.mov (.t 12)) (.op 11 [] (some 105) (some (102, false)) false (.bin .gtr (.t 103) (.t 104)) (.op 12 [] (some 106) (some (102, false)) false (.mov (.t 105)) (.op 13 [] (some 107) (some (106, true)) false (.mov (.t 14)) (.op 14 [] (some 108) (some (106, true)) false (.mov (.t 11)) (.op 15 [] (some 109) (some (106, true)) false (.len (.t 108)) (.op 16 [] (some 110) (some (106, true)) false (.bin .leq (.t 107) (.t 109)) (.op 17 [] (some 111) (some (102, false)) false (.pick (.t 106) (.t 110) (.v (.bool false))) (.op 18 [] (some 112) (some (102, false)) false (.mov (.t 111)) (.op 19 [] (some 113) (some (112, true)) false (.load (some 1) (.t 13)) (.op 20 [] (some 114) (some (112, true)) false (.call 114 12 [(.t 113)]) (.op 21 [] (some 115) (some (102, false)) false (.pick (.t 112) (.t 114) (.v (.bool false))) (.o 22 116 (.pick (.t 102) (.v (.bool true)) (.t 115)) (.o 23 2 (.mov (.t 116)) .done)))))))))))))))))))))))) .ret))))))))))
theorem dg_laws_FnNameWire : Tryd.f3.body.bind (digC Tryd.prog Tryd.f3.ntmps []) = some c_laws_FnNameWire := by kernel_rfl
theorem rs_laws_FnNameWire : resSlots Tryd.prog Tryd.f3 = some [.s 2] := by kernel_rfl
theorem ok_laws_FnNameWire (code : List UInt8) (hb : (code.length : Int) ≤ 9223372036854775807) :
    FnOK Tryd.prog 3 [.one (.d (encB code))] (fun ra _ => ra = [.one (.d (.sc (.bool true)))]) := by
  refine FnOK.ofK Tryd.func3 (by kernel_rfl) dg_laws_FnNameWire rs_laws_FnNameWire rfl rfl ?_
  delta c_laws_FnNameWire T.o X.i C.g
  refine Kbc (Ka Y (Kdb (Kc (Ka Y (kCallX false (ok_spec_DrawNamePut _ prx) ⟨Y, trivial⟩ Y (fun _ => rfl) (fun _ => rfl) (fun x0 _ hx0 => (kMovT Y (kExtC Y Y (kExtC Y Y (kAlloc Y Y (Ka Y (Ko Y Y Y Y (Kdb (Kc (Ka Y (Ke Y Y Y ?_))))))))))))))))
  obtain ⟨h1, h2⟩ := hx0
  generalize x0.1 = b at *
  generalize x0.2 = n at *
  have n1 := h2.len
  have n2 := h2.mem
  have okP := ok_impl_NamePut b n (by omega) h2
  cases hk : nameOk n
  · rw [hk, if_neg (by decide)] at okP
    refine Ku true okP ⟨rfl, ⟨⟨Y, trivial⟩, leb⟩, trivial⟩ Y Y Y (fun _ => ?_)
    refine kMovT Y (kExtC Y Y (kExtC Y Y (Ka Y (Ka Y (Kdb (Kbc (Ka Y (Kw Y Y (Kd (kCondT Y (Kbc (Ka Y (Kq Y Y (Kj Y Y Y (Ka Y (Ki Y (Ke Y Y Y (Ki Y (Kp (ok_spec_NameOk _ prx prx) ⟨⟨⟨Y, trivial⟩, leb⟩, trivial⟩ Y Y Y Y Y (Ki Y (Kw Y Y (Kk Y (Ka Y (Ka Y (kGN Y (fun g0 => Ki Y (Kp (ok_laws_names) trivial rfl rfl rfl rfl rfl (Kk Y (Ka Y (Ka Y (Kd (Kr (Er (ra := [.one (.d _)]) rfl rfl)))))))) (fun g0 => (by (simp [*] at g0))))))))))))))))))))))))))))
  · rw [hk, if_pos rfl] at okP
    refine Ku true okP ⟨rfl, ⟨⟨Y, trivial⟩, leb⟩, trivial⟩ Y Y Y (fun _ => ?_)
    have hw := wireN_small hk
    have q1 := get_put h1 hk
    have q2 := get_ptr h1 hk
    have ql : (b ++ wireN n).length ≤ 99 := by rw [List.length_append]; omega
    generalize b ++ wireN n = x at *
    refine kMovT Y (kExtC Y Y (kExtC Y Y (Ka Y (Ka Y (Kdb (Kbc (Ka Y (Kw Y Y (Kd (kCondF Y (Kn (Kbc (Ka Y (Ka Y (Kq Y Y ?_)))))))))))))))
    have okG := ok_impl_NameGet x b.length (by omega) (by omega)
    rw [q1] at okG
    refine kCallF [rid 23 0] false okG rfl ⟨Y, Y, trivial⟩ Y Y Y (fun _ => ?_)
    refine kMovT Y (kExtC Y Y (kExtC Y Y (kAlloc Y Y (Ko Y Y Y Y (Ka Y (Kdb (Kc (kLitG Y Y Y Y (Ka Y (kAppN Y Y Y Y Y Y Y Y prl (Ka Y (Kq Y Y (kConvU8 Y (kLitG Y Y Y Y ?_))))))))))))))
    refine kAppR (f := fun b : UInt8 => [.sc (.int .u8 b.toNat)]) (l := x) (l' := [192, u8 b.length]) rfl rfl rfl rfl rfl rfl rfl rfl (by simp only [List.length_cons, List.length_nil]; omega) ?_
    refine Ka Y (Kq Y Y ?_)
    have okH := ok_impl_NameGet (x ++ [192, u8 b.length]) x.length (by rw [List.length_append]; simp only [List.length_cons, List.length_nil]; omega) (by omega)
    rw [q2] at okH
    refine kCallF [rid 47 0] false okH rfl ⟨Y, Y, trivial⟩ Y Y Y (fun _ => ?_)
    refine kMovT Y (kExtC Y Y (kExtC Y Y (kAlloc Y Y (Ko Y Y Y Y (Ka Y (Kdb (Kbc (Ka Y (Ka Y (Kq Y Y (Kj Y Y Y (Ka Y (kGIN Y (fun g0 => om) (fun g0 => Ki Y (Ke Y Y Y (Ki Y (Ke Y Y Y (Ki Y (Kp (ok_laws_sameName _ _ prx prx) ⟨⟨⟨Y, trivial⟩, leb⟩, ⟨⟨Y, trivial⟩, leb⟩, trivial⟩ Y Y Y Y Y (Ki Y (Kw Y Y (Kl Y (Ka Y (Ka Y (kGN Y (fun g1 => (by (simp at g1))) (fun g1 => Ki Y (Ka Y (Ki Y (Ka Y (Ki Y (Kq Y Y (Ki Y (kAdd Y Y om (Ki Y (Kj Y Y Y (Kl Y (Ka Y (Ka Y (kGIN Y (fun g2 => om) (fun g2 => Ki Y (Ke Y Y Y (Ki Y (Ke Y Y Y (Ki Y (Kp (ok_laws_sameName _ _ prx prx) ⟨⟨⟨Y, trivial⟩, leb⟩, ⟨⟨Y, trivial⟩, leb⟩, trivial⟩ Y Y Y Y Y (Ki Y (Kw Y Y (Kl Y (Ka Y (Kd (kCondN Y (fun g3 => (by (simp at g3))) (fun g3 => Kn (Kbc (Ka Y (kCallX true (ok_spec_DrawNameGet _ prx) ⟨Y, trivial⟩ Y (fun _ => rfl) (fun _ => rfl) (fun x4 _ hx4 => (kMovT Y (kExtC Y Y (kExtC Y Y (Ka Y (Ka Y (Kdb (Kc (Ka Y (Ka Y ?_)))))))))))))))))))))))))))))))))))))))))))))))))))))))))))))))))
    obtain ⟨msg, a⟩ := x4
    obtain ⟨h3, h4⟩ := hx4
    simp only at h3 h4
    have key := get_all msg a
    obtain ⟨W, e, hW, any⟩ := key
    have okK := ok_get (ok_impl_NameGet msg a (Nat.le_trans h3 (by decide)) (Int.le_trans h4 (by decide))) hW
    refine kCallF [rid 85 0] false okK rfl ⟨Y, Y, trivial⟩ Y Y Y (fun _ => ?_)
    clear okK okH okG okP q1 q2 hW
    rcases any with ⟨e1, e2⟩ | ⟨a1, a2, a3⟩
    · subst e1
      subst e2
      refine kMovT Y (kExtC Y Y (kExtC Y Y (kAlloc Y Y (Ko Y Y Y Y (Ka Y (Kdb (Kc (Ka Y (Kj Y Y Y (Ka Y (Ki Y (Kf Y Y (Ki Y (Ke Y Y Y (Ki Y (Kq Y Y (Ki Y (Kj Y Y Y (Kk Y (Ka Y (Ka Y (Kg Y (Kg Y (Kg Y (Kg Y (kGU Y (kGU Y (kGU Y (kGU Y (Kg Y (Kg Y (kGU Y (kGU Y (Kg Y (Kk Y (Ka Y (Ka Y (Kd (Kr (Er (ra := [.one (.d _)]) rfl rfl))))))))))))))))))))))))))))))))))))))))
    · have w1 := (SmallBB.ok a3).len
      have w2 := (SmallBB.ok a3).mem
      refine kMovT Y (kExtC Y Y (kExtC Y Y (kAlloc Y Y (Ko Y Y Y Y (Ka Y (Kdb (Kc (Ka Y (Kj Y Y Y (Ka Y (kGP Y (fun g0 => Ki Y (Kf Y Y (Ki Y (Ke Y Y Y (Ki Y (Kq Y Y (Ki Y (Kj Y Y Y (Kk Y (Ka Y (Ka Y (kGP Y (fun g1 => Kg Y (Kg Y (Kg Y (Kg Y (kGU Y (kGU Y (kGU Y (kGU Y (Kg Y (Kg Y (kGU Y (kGU Y (Kg Y (Kk Y (Ka Y (Ka Y (Kd (Kr (Er (ra := [.one (.d _)]) rfl rfl))))))))))))))))))) (fun g1 => Ki Y (Ka Y (Ki Y (Ka Y (Ki Y (Kj Y Y Y (Ki Y (Ka Y (kGP Y (fun g2 => Ki Y (Ka Y (Ki Y (Ka Y (Ki Y (Kq Y Y (Ki Y (Kj Y Y Y (Ki Y (Kk Y (Ka Y (Ki Y (Ka Y (kGP Y (fun g3 => Ki Y (Ke Y Y Y (Ki Y (Kp (ok_impl_NameOk _ prx prx) ⟨⟨⟨Y, trivial⟩, leb⟩, trivial⟩ Y Y Y Y Y (Ki Y (Kk Y (Ka Y (Kl Y (Ka Y (Ka Y (Kd (Kr (Er (ra := [.one (.d _)]) rfl ?_))))))))))))) (fun g3 => om))))))))))))))) (fun g2 => om)))))))))))))))))))))) (fun g0 => Kg Y (Kg Y (Kg Y (Kg Y (Kl Y (Ka Y (Ka Y (Ki Y (Ka Y (Ki Y (Ka Y (Ki Y (Kj Y Y Y (Ki Y (Ka Y (kGP Y (fun g4 => Ki Y (Ka Y (Ki Y (Ka Y (Ki Y (Kq Y Y (Ki Y (Kj Y Y Y (Ki Y (Kk Y (Ka Y (Ki Y (Ka Y (kGP Y (fun g5 => Ki Y (Ke Y Y Y (Ki Y (Kp (ok_impl_NameOk _ prx prx) ⟨⟨⟨Y, trivial⟩, leb⟩, trivial⟩ Y Y Y Y Y (Ki Y (Kk Y (Ka Y (Kl Y (Ka Y (Ka Y (Kd (Kr (Er (ra := [.one (.d _)]) rfl ?_))))))))))))) (fun g5 => (by (simp [*] at g5))))))))))))))))) (fun g4 => om))))))))))))))))))))))))))))
      all_goals (rw [a3])

end Go.Proofs.YtmdmlncdjdphdaaDoor.FnNameWireFn
