/- What the functions that FnLosts reaches compute, one contract each; each with the bounds that it states. -/
import Derived.Test.YtmdmlncdjdphdaaGreatFnLostsFn2
import Derived.Test.YtmdmlncdjdphdaaGreatProg
import Derived.KernelRfl
set_option maxRecDepth 100000
set_option maxHeartbeats 8000000
set_option linter.unusedVariables false
set_option linter.unusedSimpArgs false
namespace Go.Proofs.YtmdmlncdjdphdaaGreat.FnLostsFn
open Go Hearth Go.Proofs

structure TI (k : Nat) (t : Task) : Prop where
  h : 1 ≤ t.hints.length ∧ t.hints.length ≤ 4
  s : 1 ≤ t.servers.length ∧ t.servers.length ≤ 4
  u : 0 ≤ t.turn ∧ t.turn < t.servers.length
  e : 0 ≤ t.sends ∧ t.sends ≤ 12
  p : 0 ≤ t.steps ∧ t.steps ≤ 6
  x : t.state ≠ 1 → t.sends ≤ 11 ∧ t.steps ≤ 5
  n : nameOk t.name = true
  z : SmallBB t.zone
  f : SmallBB t.fname
  y : askedT t.ftype = true
  a : t.answers.length ≤ 40 * k
  m : ∀ r ∈ t.answers, SmallR r
theorem TI.end {k : Nat} {t : Task} (h : TI k t) (c : Int) : TI k (endT t c) := by
  unfold endT
  refine ⟨h.h, h.s, h.u, h.e, h.p, fun h => absurd rfl h, h.n, h.z, h.f, h.y, ?_, ?_⟩
  · show (if c ≠ 0 ∧ c ≠ 3 then [] else t.answers).length ≤ _
    split
    · exact Nat.zero_le _
    · exact h.a
  · show ∀ r ∈ (if c ≠ 0 ∧ c ≠ 3 then [] else t.answers), SmallR r
    split
    · exact nofun
    · exact h.m
theorem TI.step {k : Nat} {t : Task} (h : TI k t) (hp : t.steps ≤ 5) (hs : t.sends ≤ 11) : TI k (stpT t) := by
  unfold stpT
  split
  · exact TI.end (t := { t with steps := t.steps + 1, state := 1 }) ⟨h.h, h.s, h.u, h.e, by have := h.p; simp only; omega, fun h => absurd rfl h, h.n, h.z, h.f, h.y, h.a, h.m⟩ 2
  · exact ⟨h.h, h.s, h.u, h.e, by have := h.p; simp only; omega, fun _ => ⟨hs, by simp only; omega⟩, h.n, h.z, h.f, h.y, h.a, h.m⟩
theorem rrOk_to5 {r : Rr} (h : rrOk r = true) (h5 : r.ty = 5) : nameOk r.to = true := by
  simp only [rrOk, dataOk, h5, Bool.and_eq_true] at h
  have h2 := h.2.1.2
  rwa [if_pos (by decide)] at h2
def c_spec_l11take : C := (.g (.o 0 3 (.box 3 (.t 1)) (.o 1 4 (.mov (.i 0)) .done)) (.seq (.reg true (.op 0 [] (some 11) none true (.fad (.t 3) 6) (.op 1 [] (some 12) none true (.load none (.t 11)) (.op 2 [] (some 13) none true (.mov (.t 0)) (.op 3 [] (some 14) none true (.nck (.t 13)) (.op 4 [] (some 15) none true (.fad (.t 14) 5) (.op 5 [] (some 16) none true (.load (some 1) (.t 15)) (.op 6 [1, 5] (some 17) none false (.call 17 344 [(.t 12), (.t 16)]) (.op 7 [] (some 5) none true (.mov (.t 17)) .done))))))))) (.seq (.g (.o 0 6 (.mov (.i 0)) .done) (.block 0 (.loop (.seq (.g (.o 0 18 (.mov (.t 6)) (.o 1 19 (.bin .leq (.t 18) (.i 6)) .done)) (.cond (.t 19) .skip (.exit 0))) (.seq (.block 1 (.g (.o 0 7 (.mov (.n 7)) (.o 1 8 (.mov (.n 7)) .done)) (.seq (.g (.o 0 9 (.mov (.i 0)) .done) (.block 2 (.loop (.seq (.g (.o 0 22 (.mov (.t 9)) (.o 1 23 (.mov (.t 5)) (.o 2 24 (.len (.t 23)) (.o 3 25 (.bin .lss (.t 22) (.t 24)) .done)))) (.cond (.t 25) .skip (.exit 2))) (.seq (.block 3 (.seq (.seq (.reg true (.op 0 [] (some 28) none true (.mov (.t 5)) (.op 1 [] (some 29) none true (.mov (.t 9)) (.op 2 [] (some 30) none true (.iad 7 (.t 28) (.t 29)) (.op 3 [] (some 31) none true (.fad (.t 30) 0) (.op 4 [] (some 32) none true (.load (some 1) (.t 31)) (.op 5 [] (some 33) none true (.mov (.t 0)) (.op 6 [] (some 34) none true (.nck (.t 33)) (.op 7 [] (some 35) none true (.fad (.t 34) 4) (.op 8 [] (some 36) none true (.load (some 1) (.t 35)) (.op 9 [4, 8] (some 37) none false (.call 37 77 [(.t 32), (.t 36)]) (.op 10 [] (some 38) none true (.bin .neq (.t 37) (.i 0)) .done)))))))))))) (.cond (.t 38) (.exit 3) .skip)) (.seq (.reg true (.op 0 [] (some 39) none true (.mov (.t 5)) (.op 1 [] (some 40) none true (.mov (.t 9)) (.op 2 [] (some 41) none true (.iad 7 (.t 39) (.t 40)) (.op 3 [] (some 42) none true (.fad (.t 41) 1) (.op 4 [] (some 43) none true (.load none (.t 42)) (.op 5 [] (some 44) none true (.mov (.t 0)) (.op 6 [] (some 45) none true (.nck (.t 44)) (.op 7 [] (some 46) none true (.fad (.t 45) 2) (.op 8 [] (some 47) none true (.fad (.t 46) 1) (.op 9 [] (some 48) none true (.load none (.t 47)) (.op 10 [] (some 49) none true (.bin .eql (.t 43) (.t 48)) .done)))))))))))) (.cond (.t 49) (.reg false (.o 0 50 (.mov (.t 7)) (.o 1 51 (.mov (.t 5)) (.o 2 52 (.mov (.t 9)) (.o 3 53 (.iad 7 (.t 51) (.t 52)) (.o 4 54 (.load (some 7) (.t 53)) (.o 5 55 (.lit 55 7 [(.n 1), (.i 0), (.i 0), (.i 0), (.n 1), (.n 1), (.n 1)] 1 [(0, 7, (.t 54))]) (.o 6 56 (.app 56 7 120 (.t 50) (.t 55)) (.o 7 7 (.mov (.t 56)) .done))))))))) (.g (.o 0 57 (.mov (.t 5)) (.o 1 58 (.mov (.t 9)) (.o 2 59 (.iad 7 (.t 57) (.t 58)) (.o 3 60 (.fad (.t 59) 1) (.o 4 61 (.load none (.t 60)) (.o 5 62 (.bin .eql (.t 61) (.i 5)) .done)))))) (.cond (.t 62) (.reg false (.o 0 63 (.mov (.t 8)) (.o 1 64 (.mov (.t 5)) (.o 2 65 (.mov (.t 9)) (.o 3 66 (.iad 7 (.t 64) (.t 65)) (.o 4 67 (.load (some 7) (.t 66)) (.o 5 68 (.lit 68 7 [(.n 1), (.i 0), (.i 0), (.i 0), (.n 1), (.n 1), (.n 1)] 1 [(0, 7, (.t 67))]) (.o 6 69 (.app 69 7 120 (.t 63) (.t 68)) (.o 7 8 (.mov (.t 69)) .done))))))))) .skip)))))) (.reg false (.o 0 26 (.mov (.t 9)) (.o 1 27 (.bin .add (.t 26) (.i 1)) (.o 2 9 (.mov (.t 27)) .done))))))))) (.seq (.g (.o 0 70 (.mov (.t 7)) (.o 1 71 (.len (.t 70)) (.o 2 72 (.bin .gtr (.t 71) (.i 0)) (.o 3 73 (.mov (.t 72)) (.op 4 [] (some 74) (some (73, false)) false (.mov (.t 8)) (.op 5 [] (some 75) (some (73, false)) false (.len (.t 74)) (.op 6 [] (some 76) (some (73, false)) false (.bin .eql (.t 75) (.i 0)) (.o 7 77 (.pick (.t 73) (.v (.bool true)) (.t 76)) .done)))))))) (.cond (.t 77) (.g (.o 0 78 (.mov (.t 0)) (.o 1 79 (.mov (.t 0)) (.o 2 80 (.nck (.t 79)) (.o 3 81 (.fad (.t 80) 12) (.o 4 82 (.load none (.t 81)) (.o 5 83 (.mov (.t 7)) (.o 6 84 (.app 84 7 120 (.t 82) (.t 83)) (.o 7 85 (.nck (.t 78)) (.o 8 86 (.fad (.t 85) 12) (.op 9 [] none none false (.store none (.t 86) (.t 84)) .done)))))))))) (.seq (.g (.o 0 87 (.mov (.t 0)) (.o 1 88 (.nck (.t 87)) (.o 2 89 (.fad (.t 88) 12) (.o 3 90 (.load none (.t 89)) (.o 4 91 (.len (.t 90)) (.o 5 92 (.bin .gtr (.t 91) (.i 12)) .done)))))) (.cond (.t 92) (.reg false (.o 0 93 (.mov (.t 0)) (.o 1 94 (.call 94 313 [(.t 93), (.i 2)]) .done))) (.g (.o 0 95 (.mov (.t 7)) (.o 1 96 (.len (.t 95)) (.o 2 97 (.bin .gtr (.t 96) (.i 0)) .done))) (.cond (.t 97) (.reg false (.o 0 98 (.mov (.t 0)) (.o 1 99 (.call 99 313 [(.t 98), (.i 0)]) .done))) .skip)))) (.seq (.g (.o 0 100 (.mov (.t 7)) (.o 1 101 (.len (.t 100)) (.o 2 102 (.bin .gtr (.t 101) (.i 0)) .done))) (.cond (.t 102) (.g (.o 0 4 (.mov (.i 1)) .done) .ret) .skip)) (.seq (.g (.o 0 103 (.mov (.t 6)) (.o 1 104 (.bin .gtr (.t 103) (.i 0)) .done)) (.cond (.t 104) (.g (.o 0 4 (.mov (.i 2)) .done) .ret) .skip)) (.g (.o 0 4 (.mov (.i 0)) .done) .ret))))) .skip)) (.seq (.reg true (.op 0 [] (some 105) none true (.mov (.t 0)) (.op 1 [] (some 106) none true (.mov (.t 0)) (.op 2 [] (some 107) none true (.nck (.t 106)) (.op 3 [] (some 108) none true (.fad (.t 107) 12) (.op 4 [] (some 109) none true (.load none (.t 108)) (.op 5 [] (some 110) none true (.mov (.t 8)) (.op 6 [] (some 111) none true (.iad 7 (.t 110) (.i 0)) (.op 7 [] (some 112) none true (.load (some 7) (.t 111)) (.op 8 [7] (some 113) none false (.lit 113 7 [(.n 1), (.i 0), (.i 0), (.i 0), (.n 1), (.n 1), (.n 1)] 1 [(0, 7, (.t 112))]) (.op 9 [4, 7] (some 114) none false (.app 114 7 120 (.t 109) (.t 113)) (.op 10 [] (some 115) none true (.nck (.t 105)) (.op 11 [] (some 116) none true (.fad (.t 115) 12) (.op 12 [4, 7] none none false (.store none (.t 116) (.t 114)) .done)))))))))))))) (.g (.o 0 117 (.mov (.t 0)) (.o 1 118 (.mov (.t 8)) (.o 2 119 (.iad 7 (.t 118) (.i 0)) (.o 3 120 (.fad (.t 119) 4) (.o 4 121 (.load (some 1) (.t 120)) (.o 5 122 (.nck (.t 117)) (.o 6 123 (.fad (.t 122) 4) (.op 7 [] none none false (.store (some 1) (.t 123) (.t 121)) .done)))))))) (.seq (.reg true (.op 0 [] (some 124) none true (.mov (.t 0)) (.op 1 [] (some 125) none true (.nck (.t 124)) (.op 2 [] (some 126) none true (.fad (.t 125) 4) (.op 3 [] (some 127) none true (.load (some 1) (.t 126)) (.op 4 [] (some 128) none true (.mov (.t 0)) (.op 5 [] (some 129) none true (.nck (.t 128)) (.op 6 [] (some 130) none true (.fad (.t 129) 5) (.op 7 [] (some 131) none true (.load (some 1) (.t 130)) (.op 8 [3, 7] (some 132) none false (.call 132 74 [(.t 127), (.t 131)]) (.op 9 [] (some 133) none true (.un .not (.t 132)) (.op 10 [] (some 10) none true (.mov (.t 133)) .done)))))))))))) (.seq (.g (.o 0 134 (.mov (.t 10)) .done) (.cond (.t 134) (.g (.o 0 135 (.mov (.t 0)) (.o 1 136 (.build [(.n 1)] []) (.o 2 137 (.nck (.t 135)) (.o 3 138 (.fad (.t 137) 5) (.op 4 [] none none false (.store (some 1) (.t 138) (.t 136)) .done))))) (.g (.o 0 139 (.mov (.t 0)) (.o 1 140 (.lit 140 1 [(.i 0)] 0 []) (.o 2 141 (.mov (.t 0)) (.o 3 142 (.nck (.t 141)) (.o 4 143 (.fad (.t 142) 6) (.o 5 144 (.load none (.t 143)) (.o 6 145 (.app 145 1 8 (.t 140) (.t 144)) (.o 7 146 (.nck (.t 139)) (.o 8 147 (.fad (.t 146) 7) (.op 9 [] none none false (.store none (.t 147) (.t 145)) .done)))))))))) (.reg false (.o 0 148 (.mov (.t 0)) (.o 1 149 (.nck (.t 148)) (.o 2 150 (.fad (.t 149) 8) (.op 3 [] none none false (.store none (.t 150) (.i 0)) .done))))))) .skip)) (.g (.o 0 151 (.mov (.t 0)) (.o 1 152 (.call 152 316 [(.t 151)]) (.o 2 153 (.un .not (.t 152)) (.o 3 154 (.mov (.t 153)) (.op 4 [] (some 155) (some (154, false)) false (.mov (.t 10)) (.o 5 156 (.pick (.t 154) (.v (.bool true)) (.t 155)) .done)))))) (.cond (.t 156) (.g (.o 0 4 (.mov (.i 1)) .done) .ret) .skip)))))))))) (.reg false (.o 0 20 (.mov (.t 6)) (.o 1 21 (.bin .add (.t 20) (.i 1)) (.o 2 6 (.mov (.t 21)) .done))))))))) (.g (.o 0 4 (.mov (.i 1)) .done) .ret))))
theorem dg_spec_l11take : Tryz.f312.body.bind (digC Tryz.prog Tryz.f312.ntmps []) = some c_spec_l11take := by kernel_rfl
theorem rs_spec_l11take : resSlots Tryz.prog Tryz.f312 = some [.s 4] := by kernel_rfl
theorem os_spec_l11take (k : Nat) (t : Task) (m : Msg) (ht : TI k t) (hk : k ≤ 5) (h1 : t.sends ≤ 11) (h2 : t.steps ≤ 5) (hm : SmallM m) (ha : m.an.length ≤ 12) (har : ∀ r ∈ m.an, rrOk r = true) :
    FnOS Tryz.prog 312 [.c (.ptr 0 0 0), .g (m.cells.map .d)] (t.lo 0) (fun ra lo => ∃ x : Task × Int, (TI (k + 1) x.1 ∧ (x.2 ≤ 0 → x.1.sends ≤ 11 ∧ x.1.steps ≤ 5)) ∧ ra = [.one (.d (.sc (.int .i64 x.2)))] ∧ lo = x.1.lo 1) := by
  refine FnOS.ofK Tryz.func312 (by kernel_rfl) dg_spec_l11take rs_spec_l11take rfl rfl ?_
  delta c_spec_l11take T.o X.i C.g
  have hma := hm.a
  have hz1 := ht.z.len
  have hz2 := ht.z.mem
  have hLl : (insideR m.an t.zone).length ≤ 12 := Nat.le_trans (List.length_filter_le _ _) ha
  have hLm : ∀ r ∈ insideR m.an t.zone, rrOk r = true := fun r hr => har r (List.mem_filter.1 hr).1
  refine Kbc (kBox Y Y Y Y Y (Ka Y (Kdb (kRegD (Kf Y Y (Ke Y Y Y (Ka Y (kNck Y Y (Kf Y Y (Ke Y Y Y (Ks Y Y (kCallD2 (ok_spec_l11inside _ _ prx prx prx) ⟨rfl, ⟨⟨Y, trivial⟩, leb⟩, trivial⟩ Y Y Y Y (Ka Y (Kd (kH (Kb (Kbc (Ka Y (Kd (Kt ?_))))))))))))))))))))
  obtain ⟨L, eL⟩ : ∃ L, L = insideR m.an t.zone := ⟨_, rfl⟩
  refine kLoop (α := { y : Nat × Task // (y.1 ≤ 7 ∧ TI (k + 1) y.2) ∧ y.2.answers.length ≤ 40 * k + y.1 ∧ y.2.sends ≤ 11 ∧ y.2.steps ≤ 5 }) (fun y => ⟨tabSl [(0, .c (.ptr 0 0 0)), (3, .c (.ptr (rid 3 0) 1 0)), (5, .dv (encR L)), (6, .i y.1.1)], obTab 1 [(0, ⟨0, 0, .box (y.1.2.cellsO 1)⟩), (1, ⟨1, 0, .arr false (encR y.1.2.answers)⟩), (rid 3 0, ⟨1, 0, .box (m.cells.map .d)⟩)], []⟩) (fun y => 7 - y.1.1) ⟨(0, t), ⟨Nat.zero_le _, ⟨ht.h, ht.s, ht.u, ht.e, ht.p, ht.x, ht.n, ht.z, ht.f, ht.y, Nat.le_trans ht.a om, ht.m⟩⟩, ht.a, h1, h2⟩ (by rw [eL]; exact .normA) ?_
  rw [← eL] at hLl hLm
  clear eL ht h1 h2 hz1 hz2
  rintro ⟨⟨q, u⟩, ⟨hq, hu⟩, b1, b2, b3⟩
  simp only at hq hu b1 b2 b3 ⊢
  have hun := SmallBB.ok hu.n
  have hun1 := hun.len
  have huz := hu.z.len
  rcases Nat.lt_or_ge q 7 with hlt | hge
  · refine Kb (Kbc (Ka Y (Kj Y Y Y (Kd (Km Y (fun g0 => Kn (Kb (Kt (Kbc (Ka Y (Ka Y (Kdb (Kbc (Ka Y (Kd (Kt ?_))))))))))) (fun g0 => om))))))
    refine kSub (Sub.nilArr (j := 7) (id := rid 5000 0) (sz := 7) rfl (by decide)) ?_
    refine kSub (Sub.nilArr (j := 8) (id := rid 5001 0) (sz := 7) rfl (by decide)) ?_
    refine kLoop (α := { y : Nat × List Rr × List Rr // (y.1 ≤ L.length ∧ y.2.1.length ≤ y.1 ∧ y.2.2.length ≤ y.1) ∧ (∀ r ∈ y.2.1, r ∈ L) ∧ ∀ r ∈ y.2.2, r ∈ L ∧ r.ty = 5 }) (fun y => ⟨tabSl [(0, .c (.ptr 0 0 0)), (3, .c (.ptr (rid 3 0) 1 0)), (5, .dv (encR L)), (6, .i q), (7, .c (.arr (rid 5000 0) 1)), (8, .c (.arr (rid 5001 0) 1)), (9, .i y.1.1)], obTab 1 [(0, ⟨0, 0, .box (u.cellsO 1)⟩), (1, ⟨1, 0, .arr false (encR u.answers)⟩), (rid 3 0, ⟨1, 0, .box (m.cells.map .d)⟩), (rid 5000 0, ⟨1, 0, .arr false (encR y.1.2.1)⟩), (rid 5001 0, ⟨1, 0, .arr false (encR y.1.2.2)⟩)], []⟩) (fun y => L.length - y.1.1) ⟨(0, [], []), ⟨Nat.zero_le _, by simp, by simp⟩, nofun, nofun⟩ .normA ?_
    rintro ⟨⟨i, G, A⟩, ⟨hi, hG, hA⟩, hGm, hAm⟩
    simp only at hi hG hA hGm hAm ⊢
    rcases Nat.lt_or_ge i L.length with hil | hig
    · have hr := hLm _ (List.getElem_mem hil)
      have hrs := rrOk_small hr
      have hrn := hrs.n.len
      refine Kb (Kbc (Ka Y (Ka Y (Kq Y Y (Kj Y Y Y (Kd (Km Y (fun g0 => Kn (Kb (Kt (Kb (Kb (kRegD (Ka Y (Ka Y (kIadR Y Y Y prl (kFadD Y (Ky Y Y (Ka Y (kNck Y Y (Kf Y Y (Ke Y Y Y (Ks Y Y (Kp (ok_spec_l2cmp _ _ prx prx) ⟨⟨⟨Y, trivial⟩, leb⟩, ⟨⟨Y, trivial⟩, leb⟩, trivial⟩ Y Y Y Y Y (Kj Y Y Y (Kd (kH (kCondIN Y (fun g1 => kExit (kExC (kExB (Kc (Ka Y (kAdd Y Y om (Ka Y (Kd ?_)))))))) (fun g1 => Kn (Kb (kRegD (Ka Y (Ka Y (kIadR Y Y Y prl (kFadD Y (Ky Y Y (Ka Y (kNck Y Y (Kf Y Y (Kf Y Y (Ke Y Y Y (Kj Y Y Y (Kd (kH (Km Y (fun g2 => Kc (Ka Y (Ka Y (Ka Y (kIadR Y Y Y prl (Ky Y Y (kLitG Y Y Y Y (kAppRec Y Y Y Y Y Y Y prl (Ka Y (Kd (Kv (Kc (Ka Y (kAdd Y Y om (Ka Y (Kd ?_)))))))))))))))) (fun g2 => Kbc (Ka Y (Ka Y (kIadR Y Y Y prl (kFadD Y (Ky Y Y (Kj Y Y Y (Kd (Km Y (fun g3 => Kc (Ka Y (Ka Y (Ka Y (kIadR Y Y Y prl (Ky Y Y (kLitG Y Y Y Y (kAppRec Y Y Y Y Y Y Y prl (Ka Y (Kd (Kv (Kc (Ka Y (kAdd Y Y om (Ka Y (Kd ?_)))))))))))))))) (fun g3 => Kn (Kv (Kc (Ka Y (kAdd Y Y om (Ka Y (Kd ?_)))))))))))))))))))))))))))))))))))))))))))))))))))))) (fun g0 => om))))))))
      · exact kInv ⟨⟨(i + 1, G, A), ⟨hil, by simp only; omega, by simp only; omega⟩, hGm, hAm⟩, by simp only; omega, .normA⟩
      · exact kInv ⟨⟨(i + 1, G ++ [L[i]], A), ⟨hil, by simp only [List.length_append, List.length_singleton]; omega, by simp only; omega⟩, fun r hr => (List.mem_append.1 hr).elim (hGm r) fun h => by simp only [List.mem_singleton] at h; rw [h]; exact List.getElem_mem hil, hAm⟩, by simp only; omega, .normA⟩
      · exact kInv ⟨⟨(i + 1, G, A ++ [L[i]]), ⟨hil, by simp only; omega, by simp only [List.length_append, List.length_singleton]; omega⟩, hGm, fun r hr => (List.mem_append.1 hr).elim (hAm r) fun h => by simp only [List.mem_singleton] at h; rw [h]; exact ⟨List.getElem_mem hil, by assumption⟩⟩, by simp only; omega, .normA⟩
      · exact kInv ⟨⟨(i + 1, G, A), ⟨hil, by simp only; omega, by simp only; omega⟩, hGm, hAm⟩, by simp only; omega, .normA⟩
    · have hstopo71 := trivial
      refine Kb (Kbc (Ka Y (Ka Y (Kq Y Y (Kj Y Y Y (Kd (Km Y (fun g0 => om) (fun g0 => kExit (kExC (kExI (kExB (Kb (Kb ?_)))))))))))))
      clear hstopo71
      refine kSub (Sub.frz (j := 7) rfl rfl (leb)) ?_
      refine kSub (Sub.frz (j := 8) rfl rfl (leb)) ?_
      have hG12 : G.length ≤ 12 := by omega
      have hA12 : A.length ≤ 12 := by omega
      have hGs : ∀ r ∈ G, SmallR r := fun r hr => rrOk_small (hLm r (hGm r hr))
      have hu1 : ∀ r ∈ u.answers ++ G, SmallR r := fun r hr => (List.mem_append.1 hr).elim (hu.m r) (hGs r)
      by_cases hc : G = [] ∧ A ≠ []
      · obtain ⟨e1, e2⟩ := hc
        subst e1
        obtain ⟨a, A, rfl⟩ := List.exists_cons_of_ne_nil e2
        have haa := hAm a (by simp)
        have has := rrOk_small (hLm a haa.1)
        have hat : SmallBB (a :: A)[0].to := has.t
        have hat1 := hat.len
        have hat2 := hat.mem
        have huh := hu.h
        have hup := hu.p
        have hva : ∀ z : List (List UInt8), SmallBB z → ∀ (sv : List Int) (tu : Int), (1 ≤ sv.length ∧ sv.length ≤ 4) → (0 ≤ tu ∧ tu < sv.length) → TI (k + 1) { u with answers := u.answers ++ [a], name := (a :: A)[0].to, zone := z, servers := sv, turn := tu } := fun z hz sv tu h1 h2 =>
          ⟨hu.h, h1, h2, hu.e, hu.p, hu.x, rrOk_to5 (hLm a haa.1) haa.2, hz, hu.f, hu.y, by show (u.answers ++ [a]).length ≤ _; rw [List.length_append, List.length_singleton]; omega, fun r hr => (List.mem_append.1 hr).elim (hu.m r) fun h => by simp only [List.mem_singleton] at h; rw [h]; exact has⟩
        have hstopo152 := trivial
        refine Kc (Ka Y (kLen0 Y (Kj Y Y Y (Ka Y (Ki Y (Ka Y (Ki Y (Kq Y Y (Ki Y (Kj Y Y Y (Kl Y (Ka Y (Kd (kCondF Y (Kn (Kb (kRegD (Ka Y (Ka Y (kNck Y Y (Kf Y Y (Ke Y Y Y (Ka Y (kIadR (m := 0) Y Y Y prl (Ky Y Y (Kx Y Y (kLitG Y Y Y Y (Ks Y Y (kAppRec Y Y Y Y Y Y Y prl (kNck Y Y (Kf Y Y (Ks Y Y (Ko Y Y Y Y (Kd (kH (Kbc (Ka Y (Ka Y (kIadR (m := 0) Y Y Y prl (kFadD Y (Ky Y Y (kNck Y Y (Kf Y Y (Ko Y Y Y Y (Kdb (kRegD (Ka Y (kNck Y Y (Kf Y Y (Ke Y Y Y (Ka Y (kNck Y Y (Kf Y Y (Ke Y Y Y (Ks Y Y (Kp (ok_spec_l2under _ _ prx prx) ⟨⟨⟨Y, trivial⟩, leb⟩, ⟨⟨Y, trivial⟩, leb⟩, trivial⟩ Y Y Y Y Y (Kw Y Y (Ka Y (Kd (kH (Kb (Kbc (Ka Y (Kd (kCondN Y (fun g0 => Kbc (Ka Y (kBuildG Y (kNck Y Y (Kf Y Y (Ko Y Y Y Y (Kdb (Kc (Ka Y (kLitG Y Y Y Y (Ka Y (kNck Y Y (Kf Y Y (Ke Y Y Y (kAppN Y Y Y (src_encI _ _) rfl rfl rfl rfl prl (kNck Y Y (Kf Y Y (Ko Y Y Y Y (Kd (Kc (Ka Y (kMem [(0, ⟨0, 0, .box [.d _, .d _, .d _, .d _, .d _, .nil 1, .d _, .arr 577536 3, .d _, .d _, .d _, .d _, .arr 1 2]⟩), (577536, ⟨3, 0, .arr true _⟩), (1, ⟨2, 0, .arr false _⟩)] [(148, .c (.ptr 0 0 0))] [] ⟨Y, Y, Y, trivial⟩ ⟨Y, trivial⟩ Y (kNck Y Y (Kf Y Y (Ko Y Y Y Y (Kdb ?_)))))))))))))))))))))))))) (fun g0 => Kn (Kb ?_)))))))))))))))))))))))))))))))))))))))))))))))))))))))))))))))))))
        · clear hstopo152
          refine kSub (Sub.frzBox 0 (rid 140 0) 7 rfl rfl rfl rfl rfl) ?_
          have hvs := (hva [] SmallBB.nil u.hints 0 hu.h ⟨by omega, by show (0 : Int) < u.hints.length; omega⟩)
          have hvt := hvs.step (by show u.steps ≤ 5; omega) (by show u.sends ≤ 11; omega)
          refine Kc (Ka Y ?_)
          refine kCallO [(0, 0), (1, 1)] (os_spec_l11step { u with answers := u.answers ++ [a], name := (a :: A)[0].to, zone := [], servers := u.hints, turn := 0 } ⟨by show (0 : Int) ≤ u.steps; omega, by show u.steps ≤ (1000 : Int); omega⟩) (fun _ _ => ?_)
          refine Kw Y Y (Ka Y (kGN Y (fun g0 => Kg Y (Kk Y (Ka Y (Kd (kCondT Y (Kbc (Ka Y (Kd ?_)))))))) (fun g0 => Ki Y (Ka Y (Kl Y (Ka Y (Kd (kCondN Y (fun g1 => Kbc (Ka Y (Kd ?_))) (fun g1 => Kn (Kv (Kc (Ka Y (kAdd Y Y om (Ka Y (Kd ?_)))))))))))))))
          · exact Kr (endSR [(4, .i 1)] (Task.lo (stpT { u with answers := u.answers ++ [a], name := (a :: A)[0].to, zone := [], servers := u.hints, turn := 0 }) 1) [.one (.d (.sc (.int .i64 1)))] .normA ⟨(_, 1), ⟨hvt, fun h => absurd (show (1 : Int) ≤ 0 from h) (by decide)⟩, rfl, rfl⟩)
          · exact Kr (endSR [(4, .i 1)] (Task.lo (stpT { u with answers := u.answers ++ [a], name := (a :: A)[0].to, zone := [], servers := u.hints, turn := 0 }) 1) [.one (.d (.sc (.int .i64 1)))] .normA ⟨(_, 1), ⟨hvt, fun h => absurd (show (1 : Int) ≤ 0 from h) (by decide)⟩, rfl, rfl⟩)
          · have ga : underN (a :: A)[0].to u.zone = false := by assumption
            rw [ga] at g1
            cases g1
        · clear hstopo152
          have hvs := (hva u.zone hu.z u.servers u.turn hu.s hu.u)
          have hvt := hvs.step (by show u.steps ≤ 5; omega) (by show u.sends ≤ 11; omega)
          refine Kc (Ka Y ?_)
          refine kCallO [(0, 0), (1, 1)] (os_spec_l11step { u with answers := u.answers ++ [a], name := (a :: A)[0].to } ⟨by show (0 : Int) ≤ u.steps; omega, by show u.steps ≤ (1000 : Int); omega⟩) (fun _ _ => ?_)
          refine Kw Y Y (Ka Y (kGN Y (fun g0 => Kg Y (Kk Y (Ka Y (Kd (kCondT Y (Kbc (Ka Y (Kd ?_)))))))) (fun g0 => Ki Y (Ka Y (Kl Y (Ka Y (Kd (kCondN Y (fun g1 => Kbc (Ka Y (Kd ?_))) (fun g1 => Kn (Kv (Kc (Ka Y (kAdd Y Y om (Ka Y (Kd ?_)))))))))))))))
          · exact Kr (endSR [(4, .i 1)] (Task.lo (stpT { u with answers := u.answers ++ [a], name := (a :: A)[0].to }) 1) [.one (.d (.sc (.int .i64 1)))] .normA ⟨(_, 1), ⟨hvt, fun h => absurd (show (1 : Int) ≤ 0 from h) (by decide)⟩, rfl, rfl⟩)
          · exact Kr (endSR [(4, .i 1)] (Task.lo (stpT { u with answers := u.answers ++ [a], name := (a :: A)[0].to }) 1) [.one (.d (.sc (.int .i64 1)))] .normA ⟨(_, 1), ⟨hvt, fun h => absurd (show (1 : Int) ≤ 0 from h) (by decide)⟩, rfl, rfl⟩)
          · rename_i g0 g1
            have est : stpT { u with answers := u.answers ++ [a], name := (a :: A)[0].to } = { u with answers := u.answers ++ [a], name := (a :: A)[0].to, steps := u.steps + 1 } := by
              unfold stpT; rw [if_neg]; simp at g0; simp only; omega
            exact kInv ⟨⟨(q + 1, stpT { u with answers := u.answers ++ [a], name := (a :: A)[0].to }), ⟨by omega, hvt⟩, by rw [est]; simp only [List.length_append, List.length_singleton]; omega, by rw [est]; exact b2, by rw [est]; simp at g0; simp only; omega⟩, by simp only; omega, .normA⟩
      · have hc2 : ¬ (↑G.length > (0 : Int)) → (A.length : Int) = 0 := fun h => by
          have : G = [] := List.length_eq_zero_iff.1 (by omega)
          have : A = [] := Classical.byContradiction fun h2 => hc ⟨this, h2⟩
          rw [this]; rfl
        by_cases hg : 0 < G.length
        · refine Kc (Ka Y (Kq Y Y (Kj Y Y Y (Ka Y (kGP Y (fun g0 => Kg Y (Kg Y (Kg Y (Kk Y (Ka Y (Kd (kCondT Y (Kbc (Ka Y (Ka Y (kNck Y Y (Kf Y Y (Ke Y Y Y (Ka Y ?_)))))))))))))) (fun g0 => om))))))
          refine kAppR (f := Rr.cells) (l := u.answers) (l' := G) rfl rfl rfl rfl rfl rfl rfl rfl om ?_
          have hv : TI (k + 1) { u with answers := u.answers ++ G } := ⟨hu.h, hu.s, hu.u, hu.e, hu.p, hu.x, hu.n, hu.z, hu.f, hu.y, by show (u.answers ++ G).length ≤ _; rw [List.length_append]; omega, hu1⟩
          obtain ⟨F, eF⟩ : ∃ F, F = u.answers ++ G := ⟨_, rfl⟩
          rw [← eF] at hv ⊢
          have hFl : F.length = u.answers.length + G.length := by rw [eF, List.length_append]
          refine kNck Y Y (Kf Y Y (Ko Y Y Y Y (Kdb (Kbc (Ka Y (kNck Y Y (Kf Y Y (Ke Y Y Y (Kq Y Y (Kj Y Y Y (Kd (Km Y (fun g0 => Kc (Ka Y ?_)) (fun g0 => Kbc (Ka Y (Kq Y Y (Kj Y Y Y (Kd (Km Y (fun g1 => Kc (Ka Y ?_)) (fun g1 => om)))))))))))))))))))
          · refine kCallO [(0, 0), (1, 1)] (os_spec_l11end { u with answers := F } 2) (fun _ _ => ?_)
            refine Kdb (Kbc (Ka Y (Kq Y Y (Kj Y Y Y (Kd (Km Y (fun g0 => Kbc (Ka Y (Kd ?_))) (fun g0 => om)))))))
            exact Kr (endSR [(4, .i 1)] (Task.lo (endT { u with answers := F } 2) 1) [.one (.d (.sc (.int .i64 1)))] .normA ⟨(_, 1), ⟨hv.end 2, fun h => absurd (show (1 : Int) ≤ 0 from h) (by decide)⟩, rfl, rfl⟩)
          · refine kCallO [(0, 0), (1, 1)] (os_spec_l11end { u with answers := F } 0) (fun _ _ => ?_)
            refine Kdb (Kbc (Ka Y (Kq Y Y (Kj Y Y Y (Kd (Km Y (fun g0 => Kbc (Ka Y (Kd ?_))) (fun g0 => om)))))))
            exact Kr (endSR [(4, .i 1)] (Task.lo (endT { u with answers := F } 0) 1) [.one (.d (.sc (.int .i64 1)))] .normA ⟨(_, 1), ⟨hv.end 0, fun h => absurd (show (1 : Int) ≤ 0 from h) (by decide)⟩, rfl, rfl⟩)
        · have hA0 := hc2 (by omega)
          refine Kc (Ka Y (Kq Y Y (Kj Y Y Y (Ka Y (kGP Y (fun g0 => om) (fun g0 => Ki Y (Ka Y (Ki Y (Kq Y Y (Ki Y (Kj Y Y Y (Kl Y (Ka Y (Kd (Km Y (fun g1 => Kbc (Ka Y (Ka Y (kNck Y Y (Kf Y Y (Ke Y Y Y (Ka Y ?_))))))) (fun g1 => om))))))))))))))))
          refine kAppR (f := Rr.cells) (l := u.answers) (l' := G) rfl rfl rfl rfl rfl rfl rfl rfl om ?_
          have hv : TI (k + 1) { u with answers := u.answers ++ G } := ⟨hu.h, hu.s, hu.u, hu.e, hu.p, hu.x, hu.n, hu.z, hu.f, hu.y, by show (u.answers ++ G).length ≤ _; rw [List.length_append]; omega, hu1⟩
          obtain ⟨F, eF⟩ : ∃ F, F = u.answers ++ G := ⟨_, rfl⟩
          rw [← eF] at hv ⊢
          have hFl : F.length = u.answers.length + G.length := by rw [eF, List.length_append]
          refine kNck Y Y (Kf Y Y (Ko Y Y Y Y (Kdb (Kbc (Ka Y (kNck Y Y (Kf Y Y (Ke Y Y Y (Kq Y Y (Kj Y Y Y (Kd (Km Y (fun g0 => Kc (Ka Y ?_)) (fun g0 => Kbc (Ka Y (Kq Y Y (Kj Y Y Y (Kd (Km Y (fun g1 => om) (fun g1 => Kn (Kb (Kbc (Ka Y (Kq Y Y (Kj Y Y Y (Kd (Km Y (fun g2 => om) (fun g2 => Kn (Kb (Kbc (Ka Y (Kj Y Y Y (Kd (Km Y (fun g3 => Kbc (Ka Y (Kd ?_))) (fun g3 => Kn (Kbc (Ka Y (Kd ?_)))))))))))))))))))))))))))))))))))))
          · refine kCallO [(0, 0), (1, 1)] (os_spec_l11end { u with answers := F } 2) (fun _ _ => ?_)
            refine Kdb (Kbc (Ka Y (Kq Y Y (Kj Y Y Y (Kd (Km Y (fun g0 => om) (fun g0 => Kn (Kb (Kbc (Ka Y (Kj Y Y Y (Kd (Km Y (fun g1 => Kbc (Ka Y (Kd ?_))) (fun g1 => Kn (Kbc (Ka Y (Kd ?_)))))))))))))))))
            · exact Kr (endSR [(4, .i 2)] (Task.lo (endT { u with answers := F } 2) 1) [.one (.d (.sc (.int .i64 2)))] .normA ⟨(_, 2), ⟨hv.end 2, fun h => absurd (show (2 : Int) ≤ 0 from h) (by decide)⟩, rfl, rfl⟩)
            · exact Kr (endSR [(4, .i 0)] (Task.lo (endT { u with answers := F } 2) 1) [.one (.d (.sc (.int .i64 0)))] .normA ⟨(_, 0), ⟨hv.end 2, fun _ => ⟨b2, b3⟩⟩, rfl, rfl⟩)
          · exact Kr (endSR [(4, .i 2)] (Task.lo { u with answers := F } 1) [.one (.d (.sc (.int .i64 2)))] .normA ⟨(_, 2), ⟨hv, fun h => absurd (show (2 : Int) ≤ 0 from h) (by decide)⟩, rfl, rfl⟩)
          · exact Kr (endSR [(4, .i 0)] (Task.lo { u with answers := F } 1) [.one (.d (.sc (.int .i64 0)))] .normA ⟨(_, 0), ⟨hv, fun _ => ⟨b2, b3⟩⟩, rfl, rfl⟩)
  · refine Kb (Kbc (Ka Y (Kj Y Y Y (Kd (Km Y (fun g0 => om) (fun g0 => kExit (kExC (kExI (kExB (Kbc (Ka Y (Kd ?_))))))))))))
    exact Kr (endSR [(4, .i 1)] (u.lo 1) [.one (.d (.sc (.int .i64 1)))] .normA ⟨(u, 1), ⟨hu, fun h => absurd (show (1 : Int) ≤ 0 from h) (by decide)⟩, rfl, rfl⟩)

def c_spec_l11cut : C := (.g (.o 0 2 (.box 2 (.t 0)) (.o 1 3 (.box 3 (.t 1)) (.o 2 4 (.mov (.n 7)) .done))) (.g (.o 0 5 (.mov (.n 7)) .done) (.seq (.g (.o 0 6 (.mov (.i 0)) .done) (.block 0 (.loop (.seq (.g (.o 0 8 (.mov (.t 6)) (.o 1 9 (.fad (.t 3) 7) (.o 2 10 (.load none (.t 9)) (.o 3 11 (.len (.t 10)) (.o 4 12 (.bin .lss (.t 8) (.t 11)) .done))))) (.cond (.t 12) .skip (.exit 0))) (.seq (.block 1 (.g (.o 0 15 (.fad (.t 3) 7) (.o 1 16 (.load none (.t 15)) (.o 2 17 (.mov (.t 6)) (.o 3 18 (.iad 7 (.t 16) (.t 17)) (.o 4 19 (.load (some 7) (.t 18)) (.o 5 7 (.alloc 7 [(.n 1), (.i 0), (.i 0), (.i 0), (.n 1), (.n 1), (.n 1)]) (.op 6 [] none none false (.store (some 7) (.t 7) (.t 19)) .done))))))) (.seq (.g (.o 0 20 (.fad (.t 7) 1) (.o 1 21 (.load none (.t 20)) (.o 2 22 (.bin .neq (.t 21) (.i 2)) (.o 3 23 (.mov (.t 22)) (.op 4 [] (some 24) (some (23, false)) false (.fad (.t 7) 0) (.op 5 [] (some 25) (some (23, false)) false (.fad (.t 24) 0) (.op 6 [] (some 26) (some (23, false)) false (.load none (.t 25)) (.op 7 [] (some 27) (some (23, false)) false (.len (.t 26)) (.op 8 [] (some 28) (some (23, false)) false (.fad (.t 2) 5) (.op 9 [] (some 29) (some (23, false)) false (.fad (.t 28) 0) (.op 10 [] (some 30) (some (23, false)) false (.load none (.t 29)) (.op 11 [] (some 31) (some (23, false)) false (.len (.t 30)) (.op 12 [] (some 32) (some (23, false)) false (.bin .leq (.t 27) (.t 31)) (.o 13 33 (.pick (.t 23) (.v (.bool true)) (.t 32)) (.o 14 34 (.mov (.t 33)) (.op 15 [] (some 35) (some (34, false)) false (.fad (.t 7) 0) (.op 16 [] (some 36) (some (34, false)) false (.load (some 1) (.t 35)) (.op 17 [] (some 37) (some (34, false)) false (.fad (.t 2) 5) (.op 18 [] (some 38) (some (34, false)) false (.load (some 1) (.t 37)) (.op 19 [] (some 39) (some (34, false)) false (.call 39 74 [(.t 36), (.t 38)]) (.op 20 [] (some 40) (some (34, false)) false (.un .not (.t 39)) (.o 21 41 (.pick (.t 34) (.v (.bool true)) (.t 40)) (.o 22 42 (.mov (.t 41)) (.op 23 [] (some 43) (some (42, false)) false (.fad (.t 2) 4) (.op 24 [] (some 44) (some (42, false)) false (.load (some 1) (.t 43)) (.op 25 [] (some 45) (some (42, false)) false (.fad (.t 7) 0) (.op 26 [] (some 46) (some (42, false)) false (.load (some 1) (.t 45)) (.op 27 [] (some 47) (some (42, false)) false (.call 47 74 [(.t 44), (.t 46)]) (.op 28 [] (some 48) (some (42, false)) false (.un .not (.t 47)) (.o 29 49 (.pick (.t 42) (.v (.bool true)) (.t 48)) .done)))))))))))))))))))))))))))))) (.cond (.t 49) (.exit 1) .skip)) (.seq (.seq (.reg true (.op 0 [] (some 50) none true (.mov (.t 5)) (.op 1 [] (some 51) none true (.len (.t 50)) (.op 2 [] (some 52) none true (.bin .gtr (.t 51) (.i 0)) (.op 3 [] (some 53) none true (.mov (.t 52)) (.op 4 [] (some 54) (some (53, true)) true (.mov (.t 5)) (.op 5 [] (some 55) (some (53, true)) true (.iad 7 (.t 54) (.i 0)) (.op 6 [] (some 56) (some (53, true)) true (.fad (.t 55) 0) (.op 7 [] (some 57) (some (53, true)) true (.fad (.t 56) 0) (.op 8 [] (some 58) (some (53, true)) true (.load none (.t 57)) (.op 9 [] (some 59) (some (53, true)) true (.len (.t 58)) (.op 10 [] (some 60) (some (53, true)) true (.fad (.t 7) 0) (.op 11 [] (some 61) (some (53, true)) true (.fad (.t 60) 0) (.op 12 [] (some 62) (some (53, true)) true (.load none (.t 61)) (.op 13 [] (some 63) (some (53, true)) true (.len (.t 62)) (.op 14 [] (some 64) (some (53, true)) true (.bin .gtr (.t 59) (.t 63)) (.op 15 [] (some 65) none true (.pick (.t 53) (.t 64) (.v (.bool false))) .done))))))))))))))))) (.cond (.t 65) (.exit 1) .skip)) (.seq (.seq (.reg true (.op 0 [] (some 66) none true (.mov (.t 5)) (.op 1 [] (some 67) none true (.len (.t 66)) (.op 2 [] (some 68) none true (.bin .gtr (.t 67) (.i 0)) (.op 3 [] (some 69) none true (.mov (.t 68)) (.op 4 [] (some 70) (some (69, true)) true (.mov (.t 5)) (.op 5 [] (some 71) (some (69, true)) true (.iad 7 (.t 70) (.i 0)) (.op 6 [] (some 72) (some (69, true)) true (.fad (.t 71) 0) (.op 7 [] (some 73) (some (69, true)) true (.fad (.t 72) 0) (.op 8 [] (some 74) (some (69, true)) true (.load none (.t 73)) (.op 9 [] (some 75) (some (69, true)) true (.len (.t 74)) (.op 10 [] (some 76) (some (69, true)) true (.fad (.t 7) 0) (.op 11 [] (some 77) (some (69, true)) true (.fad (.t 76) 0) (.op 12 [] (some 78) (some (69, true)) true (.load none (.t 77)) (.op 13 [] (some 79) (some (69, true)) true (.len (.t 78)) (.op 14 [] (some 80) (some (69, true)) true (.bin .lss (.t 75) (.t 79)) (.op 15 [] (some 81) none true (.pick (.t 69) (.t 80) (.v (.bool false))) .done))))))))))))))))) (.cond (.t 81) (.reg false (.o 0 5 (.mov (.n 7)) .done)) .skip)) (.reg false (.o 0 82 (.mov (.t 5)) (.o 1 83 (.load (some 7) (.t 7)) (.o 2 84 (.lit 84 7 [(.n 1), (.i 0), (.i 0), (.i 0), (.n 1), (.n 1), (.n 1)] 1 [(0, 7, (.t 83))]) (.o 3 85 (.app 85 7 120 (.t 82) (.t 84)) (.o 4 5 (.mov (.t 85)) .done))))))))))) (.reg false (.o 0 13 (.mov (.t 6)) (.o 1 14 (.bin .add (.t 13) (.i 1)) (.o 2 6 (.mov (.t 14)) .done))))))))) (.g (.o 0 86 (.mov (.t 5)) (.o 1 4 (.mov (.t 86)) .done)) .ret))))
theorem dg_spec_l11cut : Tryz.f314.body.bind (digC Tryz.prog Tryz.f314.ntmps []) = some c_spec_l11cut := by kernel_rfl
theorem rs_spec_l11cut : resSlots Tryz.prog Tryz.f314 = some [.s 4] := by kernel_rfl
theorem os_spec_l11cut (t : Task) (m : Msg) (ht : t.zone.length ≤ 4194304 ∧ t.name.length ≤ 4194304) (hm : SmallM m) :
    FnOS Tryz.prog 314 [.g t.cellsK, .g (m.cells.map .d)] [(32, .arr false (encR t.answers))] (fun ra lo => ∃ x : List Rr, SmallRs x ∧ ra = [.one (.d (encR x))] ∧ lo = [(32, .arr false (encR t.answers))]) := by
  refine FnOS.ofK Tryz.func314 (by kernel_rfl) dg_spec_l11cut rs_spec_l11cut rfl rfl ?_
  delta c_spec_l11cut T.o X.i C.g
  have h1 := hm.b
  have h1l := h1.len
  have tz := ht.1
  have tn := ht.2
  refine Kbc (kBox Y Y Y Y Y (kBox Y Y Y Y Y (Ka Y (Kdb (Kc (Ka Y (Kdb (Kbc (Ka Y (Kd (Kt ?_)))))))))))
  refine kSub (Sub.nilArr (j := 5) (id := rid 5000 0) (sz := 7) rfl (by decide)) ?_
  refine kLoop (α := { y : Nat × List Rr // (y.1 ≤ m.au.length ∧ y.2.length ≤ y.1) ∧ ∀ r ∈ y.2, r ∈ m.au }) (fun y => ⟨tabSl [(2, .c (.ptr (rid 2 0) 1 0)), (3, .c (.ptr (rid 3 0) 1 0)), (5, .c (.arr (rid 5000 0) 1)), (6, .i y.1.1)], obTab 1 [(rid 2 0, ⟨1, 0, .box t.cellsK⟩), (32, ⟨0, 0, .arr false (encR t.answers)⟩), (rid 3 0, ⟨1, 0, .box (m.cells.map .d)⟩), (rid 5000 0, ⟨1, 0, .arr false (encR y.1.2)⟩)], []⟩) (fun y => m.au.length - y.1.1) ⟨(0, []), ⟨Nat.zero_le _, by simp⟩, nofun⟩ .normA ?_
  rintro ⟨⟨i, B⟩, ⟨hi, hB⟩, hBm⟩
  simp only at hi hB hBm ⊢
  rcases Nat.lt_or_ge i m.au.length with hlt | hge
  · have hr := h1.mem _ (List.getElem_mem hlt)
    have hr1 := hr.n.len
    cases B with
    | nil =>
      refine Kb (Kbc (Ka Y (Kf Y Y (Ke Y Y Y (Kq Y Y (Kj Y Y Y (Kd (Km Y (fun g0 => Kn (Kb (Kt (Kbc (Kf Y Y (Ke Y Y Y (Ka Y (kIadR Y Y Y prl (Ky Y Y (kAlloc Y Y (Ko Y Y Y Y (Kdb (Kbc (Kf Y Y (Ke Y Y Y (Kj Y Y Y (Ka Y (kGIN Y (fun g1 => Kg Y (Kg Y (Kg Y (Kg Y (Kg Y (Kg Y (Kg Y (Kg Y (Kg Y (Kk Y (Ka Y (Ka Y (Kg Y (Kg Y (Kg Y (Kg Y (Kg Y (Kg Y (Kk Y (Ka Y (Ka Y (Kg Y (Kg Y (Kg Y (Kg Y (Kg Y (Kg Y (Kk Y (Ka Y (Kd (kCondT Y (kExit (kExC (kExB (Kc (Ka Y (kAdd Y Y om (Ka Y (Kd ?_))))))))))))))))))))))))))))))))))))))) (fun g1 => Ki Y (Kf Y Y (Ki Y (Kf Y Y (Ki Y (Ke Y Y Y (Ki Y (Kq Y Y (Ki Y (Kf Y Y (Ki Y (Kf Y Y (Ki Y (Ke Y Y Y (Ki Y (Kq Y Y (Ki Y (Kj Y Y Y (Kl Y (Ka Y (Ka Y (kGP Y (fun g2 => Kg Y (Kg Y (Kg Y (Kg Y (Kg Y (Kg Y (Kk Y (Ka Y (Ka Y (Kg Y (Kg Y (Kg Y (Kg Y (Kg Y (Kg Y (Kk Y (Ka Y (Kd (kCondT Y (kExit (kExC (kExB (Kc (Ka Y (kAdd Y Y om (Ka Y (Kd ?_))))))))))))))))))))))))))) (fun g2 => Ki Y (Kf Y Y (Ki Y (Ke Y Y Y (Ki Y (Kf Y Y (Ki Y (Ke Y Y Y (Ki Y (Kp (ok_spec_l2under _ _ prx prx) ⟨⟨⟨Y, trivial⟩, leb⟩, ⟨⟨Y, trivial⟩, leb⟩, trivial⟩ Y Y Y Y Y (Ki Y (Kw Y Y (Kl Y (Ka Y (Ka Y (kGN Y (fun g3 => Kg Y (Kg Y (Kg Y (Kg Y (Kg Y (Kg Y (Kk Y (Ka Y (Kd (kCondT Y (kExit (kExC (kExB (Kc (Ka Y (kAdd Y Y om (Ka Y (Kd ?_)))))))))))))))))) (fun g3 => Ki Y (Kf Y Y (Ki Y (Ke Y Y Y (Ki Y (Kf Y Y (Ki Y (Ke Y Y Y (Ki Y (Kp (ok_spec_l2under _ _ prx prx) ⟨⟨⟨Y, trivial⟩, leb⟩, ⟨⟨Y, trivial⟩, leb⟩, trivial⟩ Y Y Y Y Y (Ki Y (Kw Y Y (Kl Y (Ka Y (Kd (kCondN Y (fun g4 => kExit (kExC (kExB (Kc (Ka Y (kAdd Y Y om (Ka Y (Kd ?_)))))))) (fun g4 => Kn (Kb (Kb (kRegD (Ka Y (Kq Y Y (Kj Y Y Y (Ka Y (Kg Y (Kg Y (Kg Y (Kg Y (Kg Y (Kg Y (Kg Y (Kg Y (Kg Y (Kg Y (Kg Y (Kl Y (Ka Y (Kd (kH (kCondF Y (Kn (Kb (Kb (kRegD (Ka Y (Kq Y Y (Kj Y Y Y (Ka Y (Kg Y (Kg Y (Kg Y (Kg Y (Kg Y (Kg Y (Kg Y (Kg Y (Kg Y (Kg Y (Kg Y (Kl Y (Ka Y (Kd (kH (kCondF Y (Kn (Kc (Ka Y (Ke Y Y Y (kLitG Y Y Y Y ?_))))))))))))))))))))))))))))))))))))))))))))))))))))))))))))))))))))))))))))))))))))))))))))))))))))))))))))))))))))))))))))) (fun g0 => om)))))))))
      · exact kInv ⟨⟨(i + 1, []), ⟨hlt, by simp⟩, nofun⟩, by simp only; omega, .normA⟩
      · exact kInv ⟨⟨(i + 1, []), ⟨hlt, by simp⟩, nofun⟩, by simp only; omega, .normA⟩
      · exact kInv ⟨⟨(i + 1, []), ⟨hlt, by simp⟩, nofun⟩, by simp only; omega, .normA⟩
      · exact kInv ⟨⟨(i + 1, []), ⟨hlt, by simp⟩, nofun⟩, by simp only; omega, .normA⟩
      · refine kAppRec (l := []) Y Y Y Y Y Y Y (by simp) ?_
        refine Ka Y (Kd (Kv (Kc (Ka Y (kAdd Y Y om (Ka Y (Kd ?_)))))))
        exact kInv ⟨⟨(i + 1, [m.au[i]]), ⟨hlt, by simp⟩, fun r hr => by simp only [List.mem_singleton] at hr; rw [hr]; exact List.getElem_mem hlt⟩, by simp only; omega, .normA⟩
    | cons b B =>
      have hbs := (h1.mem b (hBm b (by simp))).n.len
      simp only [List.length_cons] at hB
      refine Kb (Kbc (Ka Y (Kf Y Y (Ke Y Y Y (Kq Y Y (Kj Y Y Y (Kd (Km Y (fun g0 => Kn (Kb (Kt (Kbc (Kf Y Y (Ke Y Y Y (Ka Y (kIadR Y Y Y prl (Ky Y Y (kAlloc Y Y (Ko Y Y Y Y (Kdb (Kbc (Kf Y Y (Ke Y Y Y (Kj Y Y Y (Ka Y (kGIN Y (fun g1 => Kg Y (Kg Y (Kg Y (Kg Y (Kg Y (Kg Y (Kg Y (Kg Y (Kg Y (Kk Y (Ka Y (Ka Y (Kg Y (Kg Y (Kg Y (Kg Y (Kg Y (Kg Y (Kk Y (Ka Y (Ka Y (Kg Y (Kg Y (Kg Y (Kg Y (Kg Y (Kg Y (Kk Y (Ka Y (Kd (kCondT Y (kExit (kExC (kExB (Kc (Ka Y (kAdd Y Y om (Ka Y (Kd ?_))))))))))))))))))))))))))))))))))))))) (fun g1 => Ki Y (Kf Y Y (Ki Y (Kf Y Y (Ki Y (Ke Y Y Y (Ki Y (Kq Y Y (Ki Y (Kf Y Y (Ki Y (Kf Y Y (Ki Y (Ke Y Y Y (Ki Y (Kq Y Y (Ki Y (Kj Y Y Y (Kl Y (Ka Y (Ka Y (kGP Y (fun g2 => Kg Y (Kg Y (Kg Y (Kg Y (Kg Y (Kg Y (Kk Y (Ka Y (Ka Y (Kg Y (Kg Y (Kg Y (Kg Y (Kg Y (Kg Y (Kk Y (Ka Y (Kd (kCondT Y (kExit (kExC (kExB (Kc (Ka Y (kAdd Y Y om (Ka Y (Kd ?_))))))))))))))))))))))))))) (fun g2 => Ki Y (Kf Y Y (Ki Y (Ke Y Y Y (Ki Y (Kf Y Y (Ki Y (Ke Y Y Y (Ki Y (Kp (ok_spec_l2under _ _ prx prx) ⟨⟨⟨Y, trivial⟩, leb⟩, ⟨⟨Y, trivial⟩, leb⟩, trivial⟩ Y Y Y Y Y (Ki Y (Kw Y Y (Kl Y (Ka Y (Ka Y (kGN Y (fun g3 => Kg Y (Kg Y (Kg Y (Kg Y (Kg Y (Kg Y (Kk Y (Ka Y (Kd (kCondT Y (kExit (kExC (kExB (Kc (Ka Y (kAdd Y Y om (Ka Y (Kd ?_)))))))))))))))))) (fun g3 => Ki Y (Kf Y Y (Ki Y (Ke Y Y Y (Ki Y (Kf Y Y (Ki Y (Ke Y Y Y (Ki Y (Kp (ok_spec_l2under _ _ prx prx) ⟨⟨⟨Y, trivial⟩, leb⟩, ⟨⟨Y, trivial⟩, leb⟩, trivial⟩ Y Y Y Y Y (Ki Y (Kw Y Y (Kl Y (Ka Y (Kd (kCondN Y (fun g4 => kExit (kExC (kExB (Kc (Ka Y (kAdd Y Y om (Ka Y (Kd ?_)))))))) (fun g4 => Kn (Kb (Kb (kRegD (Ka Y (Kq Y Y (Kj Y Y Y (Ka Y (kGP Y (fun g5 => Ki Y (Ka Y (Ki Y (kIadAR (m := 0) Y Y Y Y prl (Ki Y (kFadE Y Y (Ki Y (kFadE Y Y (Ki Y (kLoadER Y Y prl rfl (Ki Y (Kq Y Y (Ki Y (Kf Y Y (Ki Y (Kf Y Y (Ki Y (Ke Y Y Y (Ki Y (Kq Y Y (Ki Y (Kj Y Y Y (Kk Y (Ka Y (Kd (kH (Km Y (fun g6 => kExit (kExC (kExB (Kc (Ka Y (kAdd Y Y om (Ka Y (Kd ?_)))))))) (fun g6 => Kn (Kb (Kb (kRegD (Ka Y (Kq Y Y (Kj Y Y Y (Ka Y (kGP Y (fun g7 => Ki Y (Ka Y (Ki Y (kIadAR (m := 0) Y Y Y Y prl (Ki Y (kFadE Y Y (Ki Y (kFadE Y Y (Ki Y (kLoadER Y Y prl rfl (Ki Y (Kq Y Y (Ki Y (Kf Y Y (Ki Y (Kf Y Y (Ki Y (Ke Y Y Y (Ki Y (Kq Y Y (Ki Y (Kj Y Y Y (Kk Y (Ka Y (Kd (kH (Km Y (fun g8 => Kc (Ka Y (Kd (Kc (Ka Y (Ke Y Y Y (kLitG Y Y Y Y ?_))))))) (fun g8 => Kn (Kc (Ka Y (Ke Y Y Y (kLitG Y Y Y Y (kAppRec Y Y Y Y Y Y Y prl (Ka Y (Kd (Kv (Kc (Ka Y (kAdd Y Y om (Ka Y (Kd ?_))))))))))))))))))))))))))))))))))))))))) (fun g7 => om))))))))))))))))))))))))))))))))))))) (fun g5 => (by (simp at g5)))))))))))))))))))))))))))))))))))))))))))))))))))))))))))))))))))))))))))))))))))) (fun g0 => om)))))))))
      · exact kInv ⟨⟨(i + 1, b :: B), ⟨hlt, by simp only [List.length_cons]; omega⟩, hBm⟩, by simp only; omega, .normA⟩
      · exact kInv ⟨⟨(i + 1, b :: B), ⟨hlt, by simp only [List.length_cons]; omega⟩, hBm⟩, by simp only; omega, .normA⟩
      · exact kInv ⟨⟨(i + 1, b :: B), ⟨hlt, by simp only [List.length_cons]; omega⟩, hBm⟩, by simp only; omega, .normA⟩
      · exact kInv ⟨⟨(i + 1, b :: B), ⟨hlt, by simp only [List.length_cons]; omega⟩, hBm⟩, by simp only; omega, .normA⟩
      · exact kInv ⟨⟨(i + 1, b :: B), ⟨hlt, by simp only [List.length_cons]; omega⟩, hBm⟩, by simp only; omega, .normA⟩
      · refine kAppRec (l := []) Y Y Y Y Y Y Y (by simp) ?_
        refine Ka Y (Kd (Kv (Kc (Ka Y (kAdd Y Y om (Ka Y (Kd ?_)))))))
        exact kInv ⟨⟨(i + 1, [m.au[i]]), ⟨hlt, by simp⟩, fun r hr => by simp only [List.mem_singleton] at hr; rw [hr]; exact List.getElem_mem hlt⟩, by simp only; omega, (Sub.renSlot 5 (rid 85 0) (rid 5000 0) rfl rfl rfl rfl).trans .normA⟩
      · exact kInv ⟨⟨(i + 1, b :: B ++ [m.au[i]]), ⟨hlt, by simp only [List.length_append, List.length_cons, List.length_nil]; omega⟩, fun r hr => (List.mem_append.1 hr).elim (hBm r) fun h => by simp only [List.mem_singleton] at h; rw [h]; exact List.getElem_mem hlt⟩, by simp only; omega, .normA⟩
  · refine Kb (Kbc (Ka Y (Kf Y Y (Ke Y Y Y (Kq Y Y (Kj Y Y Y (Kd (Km Y (fun g0 => om) (fun g0 => kExit (kExC (kExI (kExB (Kbc (Ka Y (Ka Y (Kd ?_))))))))))))))))
    refine kSub (Sub.frz (j := 4) rfl rfl (leb)) ?_
    exact Kr (endSR [(4, .dv (encR B))] [(32, .arr false (encR t.answers))] [.one (.d (encR B))] .normA ⟨B, ⟨by omega, fun r hr => h1.mem r (hBm r hr)⟩, rfl, rfl⟩)

def c_spec_l11addrs : C := (.g (.o 0 3 (.box 3 (.t 0)) (.o 1 5 (.box 5 (.t 2)) (.o 2 6 (.mov (.n 1)) .done))) (.g (.o 0 7 (.mov (.n 1)) .done) (.g (.o 0 11 (.fad (.t 3) 8) (.o 1 12 (.load none (.t 11)) (.o 2 13 (.load (some 1) (.t 5)) (.o 3 14 (.call 14 344 [(.t 12), (.t 13)]) (.o 4 8 (.mov (.t 14)) .done))))) (.seq (.g (.o 0 9 (.mov (.i 0)) .done) (.block 0 (.loop (.seq (.g (.o 0 15 (.mov (.t 9)) (.o 1 16 (.mov (.t 1)) (.o 2 17 (.len (.t 16)) (.o 3 18 (.bin .lss (.t 15) (.t 17)) .done)))) (.cond (.t 18) .skip (.exit 0))) (.seq (.block 1 (.g (.o 0 10 (.mov (.i 0)) .done) (.block 2 (.loop (.seq (.g (.o 0 21 (.mov (.t 10)) (.o 1 22 (.mov (.t 8)) (.o 2 23 (.len (.t 22)) (.o 3 24 (.bin .lss (.t 21) (.t 23)) .done)))) (.cond (.t 24) .skip (.exit 2))) (.seq (.block 3 (.seq (.reg true (.op 0 [] (some 27) none true (.mov (.t 8)) (.op 1 [] (some 28) none true (.mov (.t 10)) (.op 2 [] (some 29) none true (.iad 7 (.t 27) (.t 28)) (.op 3 [] (some 30) none true (.fad (.t 29) 1) (.op 4 [] (some 31) none true (.load none (.t 30)) (.op 5 [] (some 32) none true (.bin .eql (.t 31) (.i 1)) (.op 6 [] (some 33) none true (.mov (.t 32)) (.op 7 [] (some 34) (some (33, true)) true (.mov (.t 8)) (.op 8 [] (some 35) (some (33, true)) true (.mov (.t 10)) (.op 9 [] (some 36) (some (33, true)) true (.iad 7 (.t 34) (.t 35)) (.op 10 [] (some 37) (some (33, true)) true (.fad (.t 36) 0) (.op 11 [] (some 38) (some (33, true)) true (.load (some 1) (.t 37)) (.op 12 [] (some 39) (some (33, true)) true (.mov (.t 1)) (.op 13 [] (some 40) (some (33, true)) true (.mov (.t 9)) (.op 14 [] (some 41) (some (33, true)) true (.iad 7 (.t 39) (.t 40)) (.op 15 [] (some 42) (some (33, true)) true (.fad (.t 41) 4) (.op 16 [] (some 43) (some (33, true)) true (.load (some 1) (.t 42)) (.op 17 [11, 4, 16] (some 44) (some (33, true)) false (.call 44 77 [(.t 38), (.t 43)]) (.op 18 [] (some 45) (some (33, true)) true (.bin .eql (.t 44) (.i 0)) (.op 19 [] (some 46) none true (.pick (.t 33) (.t 45) (.v (.bool false))) (.op 20 [] (some 47) none true (.mov (.t 46)) (.op 21 [] (some 48) (some (47, true)) true (.mov (.t 7)) (.op 22 [] (some 49) (some (47, true)) true (.len (.t 48)) (.op 23 [] (some 50) (some (47, true)) true (.bin .lss (.t 49) (.i 4)) (.op 24 [] (some 51) none true (.pick (.t 47) (.t 50) (.v (.bool false))) .done)))))))))))))))))))))))))) (.cond (.t 51) (.reg false (.o 0 52 (.mov (.t 7)) (.o 1 53 (.mov (.t 8)) (.o 2 54 (.mov (.t 10)) (.o 3 55 (.iad 7 (.t 53) (.t 54)) (.o 4 56 (.fad (.t 55) 3) (.o 5 57 (.load none (.t 56)) (.o 6 58 (.lit 58 1 [(.i 0)] 1 [(0, 1, (.t 57))]) (.o 7 59 (.app 59 1 8 (.t 52) (.t 58)) (.o 8 7 (.mov (.t 59)) .done)))))))))) .skip))) (.reg false (.o 0 25 (.mov (.t 10)) (.o 1 26 (.bin .add (.t 25) (.i 1)) (.o 2 10 (.mov (.t 26)) .done)))))))))) (.reg false (.o 0 19 (.mov (.t 9)) (.o 1 20 (.bin .add (.t 19) (.i 1)) (.o 2 9 (.mov (.t 20)) .done))))))))) (.g (.o 0 60 (.mov (.t 7)) (.o 1 6 (.mov (.t 60)) .done)) .ret)))))
theorem dg_spec_l11addrs : Tryz.f315.body.bind (digC Tryz.prog Tryz.f315.ntmps []) = some c_spec_l11addrs := by kernel_rfl
theorem rs_spec_l11addrs : resSlots Tryz.prog Tryz.f315 = some [.s 6] := by kernel_rfl
theorem ok_spec_l11addrs (m : Msg) (l : List Rr) (z : List (List UInt8)) (hm : SmallM m) (hl : SmallRs l) (hz : SmallBB z) :
    FnOK Tryz.prog 315 [.agg (m.cells.map .d), .one (.d (encR l)), .agg [.d (encBB z)]] (fun ra _ => ∃ x : List Int, x.length ≤ 4 ∧ ra = [.one (.d (encI x))]) := by
  refine FnOK.ofK Tryz.func315 (by kernel_rfl) dg_spec_l11addrs rs_spec_l11addrs rfl rfl ?_
  delta c_spec_l11addrs T.o X.i C.g
  have h1 := hm.c
  have z1 := hz.len
  have z2 := hz.mem
  have hll := hl.len
  refine Kbc (kBox Y Y Y Y Y (kBox Y Y Y Y Y (Ka Y (Kdb (Kc (Ka Y (Kdb (Kc (Kf Y Y (Ke Y Y Y (Ke Y Y Y (kCallD2 (ok_spec_l11inside _ _ prx prx prx) ⟨rfl, ⟨⟨Y, trivial⟩, leb⟩, trivial⟩ Y Y Y Y (Ka Y (Kdb (Kbc (Ka Y (Kd (Kt ?_))))))))))))))))))
  have hK : ∀ r ∈ insideR m.mo z, SmallR r := fun r hr => h1.mem r (List.mem_filter.1 hr).1
  have hKl : (insideR m.mo z).length ≤ m.mo.length := List.length_filter_le _ _
  have hml := h1.len
  obtain ⟨K, eK⟩ : ∃ K, K = insideR m.mo z := ⟨_, rfl⟩
  refine kSub (Sub.nilArr (j := 7) (id := rid 5000 0) (sz := 1) rfl (by decide)) ?_
  refine kLoop (α := { y : Nat × List Int // y.1 ≤ l.length ∧ y.2.length ≤ 4 }) (fun y => ⟨tabSl [(1, .dv (encR l)), (7, .c (.arr (rid 5000 0) 1)), (8, .dv (encR K)), (9, .i y.1.1)], obTab 1 [(rid 5000 0, ⟨1, 0, .arr true (encI y.1.2)⟩)], []⟩) (fun y => l.length - y.1.1) ⟨(0, []), Nat.zero_le _, by simp⟩ (by rw [eK]; exact .normA) ?_
  rw [← eK] at hK hKl
  clear eK
  rintro ⟨⟨i, A⟩, hi, hA⟩
  simp only at hi hA ⊢
  rcases Nat.lt_or_ge i l.length with hlt | hge
  · have hr := hl.mem _ (List.getElem_mem hlt)
    have hr1 := hr.t.len
    refine Kb (Kbc (Ka Y (Ka Y (Kq Y Y (Kj Y Y Y (Kd (Km Y (fun g0 => Kn (Kb (Kt (Kbc (Ka Y (Kd (Kt ?_))))))) (fun g0 => om))))))))
    refine kLoop (α := { y : Nat × List Int // y.1 ≤ K.length ∧ y.2.length ≤ 4 }) (fun y => ⟨tabSl [(1, .dv (encR l)), (7, .c (.arr (rid 5000 0) 1)), (8, .dv (encR K)), (9, .i i), (10, .i y.1.1)], obTab 1 [(rid 5000 0, ⟨1, 0, .arr true (encI y.1.2)⟩)], []⟩) (fun y => K.length - y.1.1) ⟨(0, A), Nat.zero_le _, hA⟩ .normA ?_
    rintro ⟨⟨j, B⟩, hj, hB⟩
    simp only at hj hB ⊢
    rcases Nat.lt_or_ge j K.length with hjl | hjg
    · have hs := hK _ (List.getElem_mem hjl)
      have hs1 := hs.n.len
      refine Kb (Kbc (Ka Y (Ka Y (Kq Y Y (Kj Y Y Y (Kd (Km Y (fun g0 => Kn (Kb (Kt (Kb (kRegD (Ka Y (Ka Y (kIadR Y Y Y prl (kFadD Y (Ky Y Y (Kj Y Y Y (Ka Y (kGP Y (fun g1 => (Ki Y (Ka Y (Ki Y (Ka Y (Ki Y (kIadR Y Y Y prl (Ki Y (kFadD Y (Ki Y (Ky Y Y (Ki Y (Ka Y (Ki Y (Ka Y (Ki Y (kIadR Y Y Y prl (Ki Y (kFadD Y (Ki Y (Ky Y Y (Ks Y Y (Ki Y (Kp (ok_spec_l2cmp _ _ prx prx) ⟨⟨⟨Y, trivial⟩, leb⟩, ⟨⟨Y, trivial⟩, leb⟩, trivial⟩ Y Y Y Y Y (Ki Y (Kj Y Y Y (Kk Y (Ka Y (Ka Y (kGP Y (fun g2 => Ki Y (Ka Y (Ki Y (Kq Y Y (Ki Y (Kj Y Y Y (Kk Y (Ka Y (Kd (kH (Km Y (fun g3 => Kc (Ka Y (Ka Y (Ka Y (kIadR Y Y Y prl (kFadD Y (Ky Y Y (kLitG Y Y Y Y (kAppR1 Y Y Y Y Y Y Y Y prl (Ka Y (Kd (Kv (Kc (Ka Y (kAdd Y Y om (Ka Y (Kd ?_))))))))))))))))) (fun g3 => Kn (Kv (Kc (Ka Y (kAdd Y Y om (Ka Y (Kd ?_)))))))))))))))))) (fun g2 => Kg Y (Kg Y (Kg Y (Kl Y (Ka Y (Kd (kH (kCondF Y (Kn (Kv (Kc (Ka Y (kAdd Y Y om (Ka Y (Kd ?_))))))))))))))))))))))))))))))))))))))))))))) (fun g1 => (Kg Y (Kg Y (Kg Y (Kg Y (Kg Y (Kg Y (Kg Y (Kg Y (Kg Y (Kg Y (Ks Y Y (Kg Y (Kg Y (Kl Y (Ka Y (Ka Y (Kg Y (Kg Y (Kg Y (Kl Y (Ka Y (Kd (kH (kCondF Y (Kn (Kv (Kc (Ka Y (kAdd Y Y om (Ka Y (Kd ?_))))))))))))))))))))))))))))))))))))))))))))) (fun g0 => om))))))))
      · exact kInv ⟨⟨(j + 1, B ++ [K[j].addr]), hjl, by simp only [List.length_append, List.length_singleton]; omega⟩, by simp only; omega, .normA⟩
      · exact kInv ⟨⟨(j + 1, B), hjl, hB⟩, by simp only; omega, .normA⟩
      · exact kInv ⟨⟨(j + 1, B), hjl, hB⟩, by simp only; omega, .normA⟩
      · exact kInv ⟨⟨(j + 1, B), hjl, hB⟩, by simp only; omega, .normA⟩
    · refine Kb (Kbc (Ka Y (Ka Y (Kq Y Y (Kj Y Y Y (Kd (Km Y (fun g0 => om) (fun g0 => kExit (kExC (kExI (kExB (Kv (Kc (Ka Y (kAdd Y Y om (Ka Y (Kd ?_)))))))))))))))))
      exact kInv ⟨⟨(i + 1, B), hlt, hB⟩, by simp only; omega, .normA⟩
  · refine Kb (Kbc (Ka Y (Ka Y (Kq Y Y (Kj Y Y Y (Kd (Km Y (fun g0 => om) (fun g0 => kExit (kExC (kExI (kExB (Kbc (Ka Y (Ka Y (Kd (Kr (Er (ra := [.one (.d _)]) rfl ?_)))))))))))))))))
    exact ⟨A, hA, rfl⟩

theorem TI.sent {k : Nat} {t : Task} (h : TI k t) (h0 : t.state ≠ 1) : TI k (sentT t) ∧ ((sentT t).state ≠ 1 → (sentT t).sends ≤ 11 ∧ (sentT t).steps ≤ 5) := by
  have hx := h.x h0
  have he := h.e
  have hp := h.p
  unfold sentT
  split
  · have h2 : TI k { t with sends := t.sends + 1, state := 1 } := ⟨h.h, h.s, h.u, by simp only; omega, h.p, fun h => absurd rfl h, h.n, h.z, h.f, h.y, h.a, h.m⟩
    exact ⟨TI.end (t := { t with sends := t.sends + 1, state := 1 }) h2 2, fun h => absurd rfl h⟩
  · exact ⟨⟨h.h, h.s, h.u, by simp only; omega, h.p, fun _ => ⟨by simp only; omega, hx.2⟩, h.n, h.z, h.f, h.y, h.a, h.m⟩, fun _ => ⟨by simp only; omega, hx.2⟩⟩
theorem TI.up {k : Nat} {t : Task} (h : TI k t) : TI (k + 1) t := ⟨h.h, h.s, h.u, h.e, h.p, h.x, h.n, h.z, h.f, h.y, Nat.le_trans h.a (by omega), h.m⟩
theorem TI.turn {k : Nat} {t : Task} (h : TI k t) {n : Int} (hn : 0 ≤ n ∧ n < t.servers.length) : TI k { t with turn := n } := ⟨h.h, h.s, hn, h.e, h.p, h.x, h.n, h.z, h.f, h.y, h.a, h.m⟩
def c_spec_l11heard : C := (.g (.o 0 3 (.box 3 (.t 1)) .done) (.g (.o 0 7 (.mov (.t 0)) (.o 1 8 (.call 8 311 [(.t 7)]) .done)) (.seq (.g (.o 0 9 (.mov (.t 0)) (.o 1 10 (.nck (.t 9)) (.o 2 11 (.fad (.t 10) 0) (.o 3 12 (.load none (.t 11)) (.o 4 13 (.bin .eql (.t 12) (.i 1)) .done))))) (.cond (.t 13) .ret .skip)) (.seq (.g (.o 0 14 (.fad (.t 3) 4) (.o 1 15 (.load none (.t 14)) (.o 2 16 (.bin .neq (.t 15) (.i 0)) (.o 3 17 (.mov (.t 16)) (.op 4 [] (some 18) (some (17, true)) false (.fad (.t 3) 4) (.op 5 [] (some 19) (some (17, true)) false (.load none (.t 18)) (.op 6 [] (some 20) (some (17, true)) false (.bin .neq (.t 19) (.i 3)) (.o 7 21 (.pick (.t 17) (.t 20) (.v (.bool false))) .done)))))))) (.cond (.t 21) (.seq (.reg true (.op 0 [] (some 22) none true (.mov (.t 0)) (.op 1 [] (some 23) none true (.mov (.t 0)) (.op 2 [] (some 24) none true (.nck (.t 23)) (.op 3 [] (some 25) none true (.fad (.t 24) 8) (.op 4 [] (some 26) none true (.load none (.t 25)) (.op 5 [] (some 27) none true (.bin .add (.t 26) (.i 1)) (.op 6 [] (some 28) none true (.mov (.t 0)) (.op 7 [] (some 29) none true (.nck (.t 28)) (.op 8 [] (some 30) none true (.fad (.t 29) 7) (.op 9 [] (some 31) none true (.load none (.t 30)) (.op 10 [] (some 32) none true (.len (.t 31)) (.op 11 [] (some 33) none true (.bin .rem (.t 27) (.t 32)) (.op 12 [] (some 34) none true (.nck (.t 22)) (.op 13 [] (some 35) none true (.fad (.t 34) 8) (.op 14 [4, 9] none none false (.store none (.t 35) (.t 33)) .done)))))))))))))))) .ret) .skip)) (.g (.o 0 36 (.mov (.t 0)) (.o 1 37 (.load (some 11) (.t 3)) (.o 2 38 (.call 38 312 [(.t 36), (.t 37)]) (.o 3 4 (.mov (.t 38)) .done)))) (.seq (.g (.o 0 39 (.mov (.t 4)) (.o 1 40 (.bin .eql (.t 39) (.i 2)) (.o 2 41 (.mov (.t 40)) (.op 3 [] (some 42) (some (41, true)) false (.fad (.t 3) 4) (.op 4 [] (some 43) (some (41, true)) false (.load none (.t 42)) (.op 5 [] (some 44) (some (41, true)) false (.bin .eql (.t 43) (.i 3)) (.o 6 45 (.pick (.t 41) (.t 44) (.v (.bool false))) .done))))))) (.cond (.t 45) (.reg false (.o 0 46 (.mov (.t 0)) (.o 1 47 (.call 47 313 [(.t 46), (.i 3)]) .done))) .skip)) (.seq (.g (.o 0 48 (.mov (.t 4)) (.o 1 49 (.bin .gtr (.t 48) (.i 0)) .done)) (.cond (.t 49) .ret .skip)) (.seq (.g (.o 0 50 (.fad (.t 3) 4) (.o 1 51 (.load none (.t 50)) (.o 2 52 (.bin .eql (.t 51) (.i 3)) .done))) (.cond (.t 52) (.g (.o 0 53 (.mov (.t 0)) (.o 1 54 (.call 54 313 [(.t 53), (.i 3)]) .done)) .ret) .skip)) (.seq (.reg true (.op 0 [] (some 55) none true (.mov (.t 0)) (.op 1 [] (some 56) none true (.nck (.t 55)) (.op 2 [] (some 57) none true (.load (some 13) (.t 56)) (.op 3 [] (some 58) none true (.load (some 11) (.t 3)) (.op 4 [2, 3] (some 59) none false (.call 59 314 [(.t 57), (.t 58)]) (.op 5 [] (some 5) none true (.mov (.t 59)) .done))))))) (.seq (.g (.o 0 60 (.mov (.t 5)) (.o 1 61 (.len (.t 60)) (.o 2 62 (.bin .eql (.t 61) (.i 0)) .done))) (.cond (.t 62) (.seq (.g (.o 0 63 (.fad (.t 3) 3) (.o 1 64 (.load none (.t 63)) .done)) (.cond (.t 64) (.reg false (.o 0 65 (.mov (.t 0)) (.o 1 66 (.call 66 313 [(.t 65), (.i 0)]) .done))) (.reg true (.op 0 [] (some 67) none true (.mov (.t 0)) (.op 1 [] (some 68) none true (.mov (.t 0)) (.op 2 [] (some 69) none true (.nck (.t 68)) (.op 3 [] (some 70) none true (.fad (.t 69) 8) (.op 4 [] (some 71) none true (.load none (.t 70)) (.op 5 [] (some 72) none true (.bin .add (.t 71) (.i 1)) (.op 6 [] (some 73) none true (.mov (.t 0)) (.op 7 [] (some 74) none true (.nck (.t 73)) (.op 8 [] (some 75) none true (.fad (.t 74) 7) (.op 9 [] (some 76) none true (.load none (.t 75)) (.op 10 [] (some 77) none true (.len (.t 76)) (.op 11 [] (some 78) none true (.bin .rem (.t 72) (.t 77)) (.op 12 [] (some 79) none true (.nck (.t 67)) (.op 13 [] (some 80) none true (.fad (.t 79) 8) (.op 14 [4, 9] none none false (.store none (.t 80) (.t 78)) .done)))))))))))))))))) .ret) .skip)) (.seq (.reg true (.op 0 [] (some 81) none true (.load (some 11) (.t 3)) (.op 1 [] (some 82) none true (.mov (.t 5)) (.op 2 [] (some 83) none true (.mov (.t 0)) (.op 3 [] (some 84) none true (.nck (.t 83)) (.op 4 [] (some 85) none true (.fad (.t 84) 5) (.op 5 [] (some 86) none true (.load (some 1) (.t 85)) (.op 6 [0, 5] (some 87) none false (.call 87 315 [(.t 81), (.t 82), (.t 86)]) (.op 7 [] (some 6) none true (.mov (.t 87)) .done))))))))) (.seq (.g (.o 0 88 (.mov (.t 6)) (.o 1 89 (.len (.t 88)) (.o 2 90 (.bin .eql (.t 89) (.i 0)) .done))) (.cond (.t 90) (.g (.o 0 91 (.mov (.t 0)) (.o 1 92 (.call 92 313 [(.t 91), (.i 2)]) .done)) .ret) .skip)) (.g (.o 0 93 (.mov (.t 0)) (.o 1 94 (.mov (.t 5)) (.o 2 95 (.iad 7 (.t 94) (.i 0)) (.o 3 96 (.fad (.t 95) 0) (.o 4 97 (.load (some 1) (.t 96)) (.o 5 98 (.nck (.t 93)) (.o 6 99 (.fad (.t 98) 5) (.op 7 [] none none false (.store (some 1) (.t 99) (.t 97)) .done)))))))) (.g (.o 0 100 (.mov (.t 0)) (.o 1 101 (.mov (.t 6)) (.o 2 102 (.nck (.t 100)) (.o 3 103 (.fad (.t 102) 7) (.op 4 [] none none false (.store none (.t 103) (.t 101)) .done))))) (.g (.o 0 104 (.mov (.t 0)) (.o 1 105 (.nck (.t 104)) (.o 2 106 (.fad (.t 105) 8) (.op 3 [] none none false (.store none (.t 106) (.i 0)) .done)))) (.reg false (.o 0 107 (.mov (.t 0)) (.o 1 108 (.call 108 316 [(.t 107)]) .done))))))))))))))))))
theorem dg_spec_l11heard : Tryz.f258.body.bind (digC Tryz.prog Tryz.f258.ntmps []) = some c_spec_l11heard := by kernel_rfl
theorem rs_spec_l11heard : resSlots Tryz.prog Tryz.f258 = some [] := by kernel_rfl
theorem os_spec_l11heard (k : Nat) (t : Task) (m : Msg) (ht : TI k t) (hk : k ≤ 5) (h0 : t.state ≠ 1) (hm : SmallM m) (ha : m.an.length ≤ 12) (har : ∀ r ∈ m.an, rrOk r = true) :
    FnOS Tryz.prog 258 [.c (.ptr 0 0 0), .g (m.cells.map .d)] (t.lo 0) (fun ra lo => ∃ x : Task, TI (k + 1) x ∧ ra = [] ∧ lo = x.lo 1) := by
  refine FnOS.ofK Tryz.func258 (by kernel_rfl) dg_spec_l11heard rs_spec_l11heard rfl rfl ?_
  delta c_spec_l11heard T.o X.i C.g
  obtain ⟨hs1, hs2⟩ := ht.sent h0
  have hte := ht.e
  have hsu := hs1.u
  have hss := hs1.s
  refine Kbc (kBox Y Y Y Y Y (Kdb (Kc (Ka Y (kCallO [(0, 0), (1, 1)] (os_spec_l11sent _ (by first | assumption | omega | solve_by_elim [List.getElem_mem] | exact rfl | exact leb | exact rrOk_small (by assumption) | exact zoneOk_small (by assumption) | exact SmallBB.ok (by assumption))) (fun x0 hx0 => (Kdb (Kbc (Ka Y (kNck Y Y (Kf Y Y (Ke Y Y Y (Kj Y Y Y (Kd (Km Y (fun g1 => ?_) (fun g1 => Kn (Kb (Kbc (Kf Y Y (Ke Y Y Y (Kj Y Y Y (Ka Y (kGIN Y (fun g2 => Ki Y (Kf Y Y (Ki Y (Ke Y Y Y (Ki Y (Kj Y Y Y (Kk Y (Ka Y (Kd (kCondIN Y (fun g3 => Kb (kRegD (Ka Y (Ka Y (kNck Y Y (Kf Y Y (Ke Y Y Y (kAdd Y Y om (Ka Y (kNck Y Y (Kf Y Y (Ke Y Y Y (Kq Y Y (kRem Y Y om (kNck Y Y (Kf Y Y (Ks Y Y (Ko Y Y Y Y (Kd (kH ?_)))))))))))))))))))) (fun g3 => Kn (Kbc (Ka Y (Ke Y Y Y (kCallO [(0, 0), (1, 1)] (os_spec_l11take _ _ _ (by first | assumption | omega | solve_by_elim [List.getElem_mem] | exact rfl | exact leb | exact rrOk_small (by assumption) | exact zoneOk_small (by assumption) | exact SmallBB.ok (by assumption)) (by first | assumption | omega | solve_by_elim [List.getElem_mem] | exact rfl | exact leb | exact rrOk_small (by assumption) | exact zoneOk_small (by assumption) | exact SmallBB.ok (by assumption)) (by first | assumption | omega | solve_by_elim [List.getElem_mem] | exact rfl | exact leb | exact rrOk_small (by assumption) | exact zoneOk_small (by assumption) | exact SmallBB.ok (by assumption)) (by first | assumption | omega | solve_by_elim [List.getElem_mem] | exact rfl | exact leb | exact rrOk_small (by assumption) | exact zoneOk_small (by assumption) | exact SmallBB.ok (by assumption)) (by first | assumption | omega | solve_by_elim [List.getElem_mem] | exact rfl | exact leb | exact rrOk_small (by assumption) | exact zoneOk_small (by assumption) | exact SmallBB.ok (by assumption)) (by first | assumption | omega | solve_by_elim [List.getElem_mem] | exact rfl | exact leb | exact rrOk_small (by assumption) | exact zoneOk_small (by assumption) | exact SmallBB.ok (by assumption)) (by first | assumption | omega | solve_by_elim [List.getElem_mem] | exact rfl | exact leb | exact rrOk_small (by assumption) | exact zoneOk_small (by assumption) | exact SmallBB.ok (by assumption))) (fun x4 hx4 => (Ka Y (Kdb (Kbc (Ka Y (Kj Y Y Y (Ka Y (kGP Y (fun g5 => Ki Y (Kf Y Y (Ki Y (Ke Y Y Y (Ki Y (Kj Y Y Y (Kk Y (Ka Y (Kd (Km Y (fun g6 => Kc (Ka Y (kCallO [(0, 0), (1, 1)] (os_spec_l11end _ _) (fun x7 hx7 => (Kdb (Kbc (Ka Y (Kj Y Y Y (Kd (Km Y (fun g8 => ?_) (fun g8 => om))))))))))) (fun g6 => om))))))))))) (fun g5 => Kg Y (Kg Y (Kg Y (Kl Y (Ka Y (Kd (kCondF Y (Kn (Kb (Kbc (Ka Y (Kj Y Y Y (Kd (Km Y (fun g9 => ?_) (fun g9 => Kn (Kb (Kbc (Kf Y Y (Ke Y Y Y (Kj Y Y Y (Kd (Km Y (fun g10 => Kbc (Ka Y (kCallO [(0, 0), (1, 1)] (os_spec_l11end _ _) (fun x11 hx11 => (Kd ?_))))) (fun g10 => om)))))))))))))))))))))))))))))))))))))))))))))) (fun g2 => Kg Y (Kg Y (Kg Y (Kl Y (Ka Y (Kd (kCondF Y (Kn (Kbc (Ka Y (Ke Y Y Y (kCallO [(0, 0), (1, 1)] (os_spec_l11take _ _ _ (by first | assumption | omega | solve_by_elim [List.getElem_mem] | exact rfl | exact leb | exact rrOk_small (by assumption) | exact zoneOk_small (by assumption) | exact SmallBB.ok (by assumption)) (by first | assumption | omega | solve_by_elim [List.getElem_mem] | exact rfl | exact leb | exact rrOk_small (by assumption) | exact zoneOk_small (by assumption) | exact SmallBB.ok (by assumption)) (by first | assumption | omega | solve_by_elim [List.getElem_mem] | exact rfl | exact leb | exact rrOk_small (by assumption) | exact zoneOk_small (by assumption) | exact SmallBB.ok (by assumption)) (by first | assumption | omega | solve_by_elim [List.getElem_mem] | exact rfl | exact leb | exact rrOk_small (by assumption) | exact zoneOk_small (by assumption) | exact SmallBB.ok (by assumption)) (by first | assumption | omega | solve_by_elim [List.getElem_mem] | exact rfl | exact leb | exact rrOk_small (by assumption) | exact zoneOk_small (by assumption) | exact SmallBB.ok (by assumption)) (by first | assumption | omega | solve_by_elim [List.getElem_mem] | exact rfl | exact leb | exact rrOk_small (by assumption) | exact zoneOk_small (by assumption) | exact SmallBB.ok (by assumption)) (by first | assumption | omega | solve_by_elim [List.getElem_mem] | exact rfl | exact leb | exact rrOk_small (by assumption) | exact zoneOk_small (by assumption) | exact SmallBB.ok (by assumption))) (fun x12 hx12 => (Ka Y (Kdb (Kbc (Ka Y (Kj Y Y Y (Ka Y (kGP Y (fun g13 => Ki Y (Kf Y Y (Ki Y (Ke Y Y Y (Ki Y (Kj Y Y Y (Kk Y (Ka Y (Kd (Km Y (fun g14 => om) (fun g14 => Kn (Kb (Kbc (Ka Y (Kj Y Y Y (Kd (Km Y (fun g15 => ?_) (fun g15 => om)))))))))))))))))) (fun g13 => Kg Y (Kg Y (Kg Y (Kl Y (Ka Y (Kd (kCondF Y (Kn (Kb (Kbc (Ka Y (Kj Y Y Y (Kd (Km Y (fun g16 => ?_) (fun g16 => Kn (Kb (Kbc (Kf Y Y (Ke Y Y Y (Kj Y Y Y (Kd (Km Y (fun g17 => om) (fun g17 => Kn (Kb (kRegD (Ka Y (kNck Y Y (Ke Y Y Y (Ke Y Y Y (Ks Y Y ?_)))))))))))))))))))))))))))))))))))))))))))))))))))))))))))))))))))))))))
  · exact Kr (endSR [] ((sentT t).lo 1) [] .normA ⟨_, hs1.up, rfl, rfl⟩)
  · have hmod : 0 ≤ ((sentT t).turn + 1).tmod (sentT t).servers.length ∧ ((sentT t).turn + 1).tmod (sentT t).servers.length < (sentT t).servers.length := ⟨Int.tmod_nonneg _ (by omega), Int.tmod_lt_of_pos _ (by omega)⟩
    exact Kr (endSR [] (Task.lo { sentT t with turn := ((sentT t).turn + 1).tmod (sentT t).servers.length } 1) [] .normA ⟨_, (hs1.turn hmod).up, rfl, rfl⟩)
  · exact Kr (endSR [] (Task.lo (endT x4.1 3) 1) [] .normA ⟨_, hx4.1.end 3, rfl, rfl⟩)
  · exact Kr (endSR [] (Task.lo x4.1 1) [] .normA ⟨_, hx4.1, rfl, rfl⟩)
  · exact Kr (endSR [] (Task.lo (endT x4.1 3) 1) [] .normA ⟨_, hx4.1.end 3, rfl, rfl⟩)
  · exact Kr (endSR [] (Task.lo x12.1 1) [] .normA ⟨_, hx12.1, rfl, rfl⟩)
  · exact Kr (endSR [] (Task.lo x12.1 1) [] .normA ⟨_, hx12.1, rfl, rfl⟩)
  · have hzl := hx12.1.z
    have hsl := hx12.1.s
    have htl := hx12.1.u
    have hpl := hx12.1.p
    refine kCallO [(32, 1)] (os_spec_l11cut x12.1 m ⟨hx12.1.z.len, (SmallBB.ok hx12.1.n).len⟩ hm) (fun x13 hx13 => ?_)
    cases x13 with
    | nil =>
      refine Ka Y (Kd (kH (Kb (Kbc (Ka Y (kLen0 Y (Kj Y Y Y (Kd (kCondT Y (Kb (Kbc (Kf Y Y (Ke Y Y Y (Kd (kCond Y (fun g14 => Kc (Ka Y (kCallO [(0, 0), (1, 1)] (os_spec_l11end _ _) (fun x15 hx15 => (Kd ?_))))) (fun g14 => kRegD (Ka Y (Ka Y (kNck Y Y (Kf Y Y (Ke Y Y Y (kAdd Y Y om (Ka Y (kNck Y Y (Kf Y Y (Ke Y Y Y (Kq Y Y (kRem Y Y om (kNck Y Y (Kf Y Y (Ks Y Y (Ko Y Y Y Y (Kd (kH ?_))))))))))))))))))))))))))))))))))
      · exact Kr (endSR [] (Task.lo (endT x12.1 0) 1) [] .normA ⟨_, hx12.1.end 0, rfl, rfl⟩)
      · have hmod : 0 ≤ (x12.1.turn + 1).tmod x12.1.servers.length ∧ (x12.1.turn + 1).tmod x12.1.servers.length < x12.1.servers.length := ⟨Int.tmod_nonneg _ (by omega), Int.tmod_lt_of_pos _ (by omega)⟩
        exact Kr (endSR [] (Task.lo { x12.1 with turn := (x12.1.turn + 1).tmod x12.1.servers.length } 1) [] .normA ⟨_, hx12.1.turn hmod, rfl, rfl⟩)
    | cons c cs =>
      have hc1 : SmallBB (c :: cs)[0].name := (hx13.mem c (by simp)).n
      refine Ka Y (Kd (kH (Kb (Kbc (Ka Y (Kq Y Y (Kj Y Y Y (Kd (kCondF Y (Kn (Kb (kRegD (Ke Y Y Y (Ka Y (Ka Y (kNck Y Y (Kf Y Y (Ke Y Y Y (Ks Y Y (kCallX false (ok_spec_l11addrs _ _ _ prx prx prx) ⟨⟨⟨Y, Y, Y, Y, Y, Y, Y, Y, Y, Y, Y, trivial⟩, leb⟩, rfl, ⟨⟨Y, trivial⟩, leb⟩, trivial⟩ Y (fun _ => rfl) (fun _ => rfl) (fun x14 _ hx14 => (Ka Y (Kd (kH (Kb (Kbc (Ka Y (Kq Y Y (Kj Y Y Y (Kd (Km Y (fun g15 => Kbc (Ka Y (kCallO [(0, 0), (1, 1)] (os_spec_l11end _ _) (fun x16 hx16 => (Kd ?_))))) (fun g15 => Kn (Kbc (Ka Y (Ka Y (kIadR (m := 0) Y Y Y prl (kFadD Y (Ky Y Y (kNck Y Y (Kf Y Y (Ko Y Y Y Y (Kdb (Kc (Ka Y (Ka Y (kNck Y Y (Kf Y Y (Ko Y Y Y Y (Kdb (Kc (Ka Y (kNck Y Y (Kf Y Y (Ko Y Y Y Y (Kd (Kc (Ka Y ?_)))))))))))))))))))))))))))))))))))))))))))))))))))))))))
      · exact Kr (endSR [] (Task.lo (endT x12.1 2) 1) [] .normA ⟨_, hx12.1.end 2, rfl, rfl⟩)
      · have hv : TI (k + 1) { x12.1 with zone := (c :: cs)[0].name, servers := x14, turn := 0 } := ⟨hx12.1.h, ⟨by show 1 ≤ x14.length; omega, hx14⟩, ⟨Int.le_refl 0, by show (0 : Int) < x14.length; omega⟩, hx12.1.e, hx12.1.p, hx12.1.x, hx12.1.n, hc1, hx12.1.f, hx12.1.y, hx12.1.a, hx12.1.m⟩
        refine kCallO [(0, 0), (1, 1)] (os_spec_l11step { x12.1 with zone := (c :: cs)[0].name, servers := x14, turn := 0 } ⟨by show (0 : Int) ≤ x12.1.steps; omega, by show x12.1.steps ≤ (1000 : Int); omega⟩) (fun _ _ => ?_)
        refine Kd ?_
        have h20 := hx12.2 (by omega)
        exact kEnd (endSN [] (Task.lo (stpT { x12.1 with zone := (c :: cs)[0].name, servers := x14, turn := 0 }) 1) [] .normA ⟨_, hv.step h20.2 h20.1, rfl, rfl⟩)

def c_spec_l11lost : C := (.g (.o 0 2 (.mov (.t 0)) (.o 1 3 (.call 3 311 [(.t 2)]) .done)) (.reg true (.op 0 [] (some 4) none true (.mov (.t 0)) (.op 1 [] (some 5) none true (.mov (.t 0)) (.op 2 [] (some 6) none true (.nck (.t 5)) (.op 3 [] (some 7) none true (.fad (.t 6) 8) (.op 4 [] (some 8) none true (.load none (.t 7)) (.op 5 [] (some 9) none true (.bin .add (.t 8) (.i 1)) (.op 6 [] (some 10) none true (.mov (.t 0)) (.op 7 [] (some 11) none true (.nck (.t 10)) (.op 8 [] (some 12) none true (.fad (.t 11) 7) (.op 9 [] (some 13) none true (.load none (.t 12)) (.op 10 [] (some 14) none true (.len (.t 13)) (.op 11 [] (some 15) none true (.bin .rem (.t 9) (.t 14)) (.op 12 [] (some 16) none true (.nck (.t 4)) (.op 13 [] (some 17) none true (.fad (.t 16) 8) (.op 14 [4, 9] none none false (.store none (.t 17) (.t 15)) .done)))))))))))))))))
theorem dg_spec_l11lost : Tryz.f257.body.bind (digC Tryz.prog Tryz.f257.ntmps []) = some c_spec_l11lost := by kernel_rfl
theorem rs_spec_l11lost : resSlots Tryz.prog Tryz.f257 = some [] := by kernel_rfl
theorem os_spec_l11lost (t : Task) (h : 0 ≤ t.sends ∧ t.sends ≤ 12) (h2 : 0 ≤ t.turn ∧ t.turn ≤ 3) (hl : 1 ≤ t.servers.length ∧ t.servers.length ≤ 4) :
    FnOS Tryz.prog 257 [.c (.ptr 0 0 0)] (t.lo 0) (fun ra lo => ∃ _ : Unit, True ∧ ra = [] ∧ lo = (lostT t).lo 1) := by
  refine FnOS.ofK Tryz.func257 (by kernel_rfl) dg_spec_l11lost rs_spec_l11lost rfl rfl ?_
  delta c_spec_l11lost T.o X.i C.g
  have h2' : 0 ≤ (sentT t).turn ∧ (sentT t).turn ≤ 3 := by rw [sentT_turn]; exact h2
  have hl' : 1 ≤ (sentT t).servers.length ∧ (sentT t).servers.length ≤ 4 := by rw [sentT_servers]; exact hl
  refine Kbc (Ka Y (kCallO [(0, 0), (1, 1)] (os_spec_l11sent _ (by first | assumption | omega | solve_by_elim [List.getElem_mem] | exact rfl | exact leb | exact rrOk_small (by assumption) | exact zoneOk_small (by assumption) | exact SmallBB.ok (by assumption))) (fun x0 hx0 => (Kd (kRegD (Ka Y (Ka Y (kNck Y Y (Kf Y Y (Ke Y Y Y (kAdd Y Y om (Ka Y (kNck Y Y (Kf Y Y (Ke Y Y Y (kMem [(0, ⟨0, 1, .box [.d _, .d _, .d _, .d _, .d _, .d _, .d _, .d _, .d _, .d _, .d _, .d _, .arr 1 1]⟩), (1, ⟨1, 1, .arr false _⟩)] [(13, .c (.d _)), (9, .c (.d _)), (14, .c (.un)), (4, .c (.ptr 0 0 0)), (16, .c (.un)), (17, .c (.un)), (15, .c (.un))] [0, 0] ⟨Y, Y, trivial⟩ ⟨Y, Y, Y, Y, Y, Y, Y, trivial⟩ Y (Kq Y Y (kRem Y Y om (kNck Y Y (Kf Y Y (Ks Y Y (Ko Y Y Y Y (Kd (kH ?_))))))))))))))))))))))))
  exact kEnd (endSN [] ((lostT t).lo 1) [] .normA ⟨(), trivial, rfl, rfl⟩)

theorem TI.small {k : Nat} {t : Task} (h : TI k t) (hk : k ≤ 100000) : SmallT t :=
  ⟨h.f, SmallBB.ok h.n, h.z, by have := h.h; omega, by have := h.s; omega, ⟨by have := h.a; omega, h.m⟩⟩
theorem TI.lost {k : Nat} {t : Task} (h : TI k t) (h0 : t.state ≠ 1) : TI k (lostT t) := by
  have h1 := (h.sent h0).1
  have hu := h1.u
  have hs := h1.s
  exact h1.turn ⟨Int.tmod_nonneg _ (by omega), Int.tmod_lt_of_pos _ (by omega)⟩
theorem askedT_of {ty : Int} (h : ty ∈ [1, 1, 1, 16, 5]) : askedT ty = true := by
  simp only [List.mem_cons, List.not_mem_nil, or_false] at h
  rcases h with rfl | rfl | rfl | rfl | rfl <;> decide
theorem begin_ok {q : List (List UInt8)} {ty id : Int} (hq : nameOk q = true) (ht : ty ∈ [1, 1, 1, 16, 5]) (hi : 0 ≤ id ∧ id < 999) : beginN q ty [1] id = askT q ty [1] id := by
  unfold beginN
  rw [if_pos]
  have h1 : ipsOk [1] = true := by decide
  have h2 : tyOk ty = true := by
    simp only [List.mem_cons, List.not_mem_nil, or_false] at ht
    rcases ht with rfl | rfl | rfl | rfl | rfl <;> decide
  have h3 : underN q [] = true := by simp [underN]
  have h4 : decide (0 ≤ id ∧ id ≤ 65535) = true := decide_eq_true ⟨hi.1, by omega⟩
  unfold taskOk askT
  dsimp only
  rw [hq, h2, h3, h1, h4]
  rfl
def c_spec_l11task : C := (.g (.o 0 2 (.alloc 2 [(.i 0), (.i 0), (.n 1), (.i 0), (.n 1), (.n 1), (.n 1), (.n 1), (.i 0), (.i 0), (.i 0), (.i 0), (.n 7)]) .done) (.g (.o 0 12 (.mov (.t 0)) (.o 1 13 (.call 13 252 [(.t 12)]) (.o 2 11 (.mov (.t 13)) (.o 3 14 (.ext (.t 11) 0) (.o 4 15 (.ext (.t 11) 1) (.o 5 3 (.mov (.t 14)) (.o 6 4 (.mov (.t 15)) .done))))))) (.g (.o 0 17 (.mov (.t 0)) (.o 1 18 (.call 18 254 [(.t 17)]) (.o 2 19 (.lit 19 1 [(.i 0)] 1 [(0, 1, (.i 1))]) (.o 3 20 (.mov (.t 0)) (.o 4 21 (.call 21 117 [(.t 20), (.i 999)]) (.o 5 22 (.call 22 253 [(.t 18), (.t 19), (.t 21)]) (.o 6 16 (.mov (.t 22)) (.o 7 23 (.ext (.t 16) 0) (.o 8 24 (.ext (.t 16) 1) (.o 9 5 (.alloc 5 [(.i 0), (.i 0), (.n 1), (.i 0), (.n 1), (.n 1), (.n 1), (.n 1), (.i 0), (.i 0), (.i 0), (.i 0), (.n 7)]) (.op 10 [] none none false (.store (some 13) (.t 5) (.t 23)) (.o 11 6 (.mov (.t 24)) .done)))))))))))) (.g (.o 0 25 (.mov (.t 0)) (.o 1 26 (.call 26 117 [(.t 25), (.i 5)]) (.o 2 7 (.mov (.t 26)) .done))) (.seq (.g (.o 0 8 (.mov (.i 0)) .done) (.block 0 (.loop (.seq (.g (.o 0 27 (.mov (.t 8)) (.o 1 28 (.mov (.t 7)) (.o 2 29 (.bin .lss (.t 27) (.t 28)) (.o 3 30 (.mov (.t 29)) (.op 4 [] (some 31) (some (30, true)) false (.fad (.t 5) 0) (.op 5 [] (some 32) (some (30, true)) false (.load none (.t 31)) (.op 6 [] (some 33) (some (30, true)) false (.bin .eql (.t 32) (.i 0)) (.o 7 34 (.pick (.t 30) (.t 33) (.v (.bool false))) .done)))))))) (.cond (.t 34) .skip (.exit 0))) (.seq (.block 1 (.seq (.reg true (.op 0 [] (some 38) none true (.mov (.t 3)) (.op 1 [] (some 39) none true (.mov (.t 4)) (.op 2 [] (some 40) none true (.fad (.t 5) 7) (.op 3 [] (some 41) none true (.load none (.t 40)) (.op 4 [] (some 42) none true (.fad (.t 5) 8) (.op 5 [] (some 43) none true (.load none (.t 42)) (.op 6 [] (some 44) none true (.iad 1 (.t 41) (.t 43)) (.op 7 [] (some 45) none true (.load none (.t 44)) (.op 8 [] (some 46) none true (.load (some 13) (.t 5)) (.alt (.op 9 [8] (some 47) none false (.call 47 256 [(.t 46)]) (.alt (.op 10 [7, 3, 5, 8] (some 48) none false (.call 48 255 [(.t 38), (.t 39), (.t 45), (.t 47)]) (.op 11 [] (some 37) none true (.mov (.t 48)) (.op 12 [] (some 49) none true (.ext (.t 37) 0) (.op 13 [] (some 50) none true (.ext (.t 37) 1) (.o 14 9 (.alloc 9 [(.i 0), (.v (.bool false)), (.i 0), (.v (.bool false)), (.i 0), (.n 2), (.n 7), (.n 7), (.n 7), (.n 9), (.n 9)]) (.op 15 [7, 3, 5, 8] none none false (.store (some 11) (.t 9) (.t 49)) (.op 16 [] (some 10) none true (.mov (.t 50)) .done))))))) (.o 14 9 (.alloc 9 [(.i 0), (.v (.bool false)), (.i 0), (.v (.bool false)), (.i 0), (.n 2), (.n 7), (.n 7), (.n 7), (.n 9), (.n 9)]) (.op 10 [7, 3, 5, 8] (some 48) none false (.call 48 255 [(.t 38), (.t 39), (.t 45), (.t 47)]) (.op 11 [] (some 37) none true (.mov (.t 48)) (.op 12 [] (some 49) none true (.ext (.t 37) 0) (.op 13 [] (some 50) none true (.ext (.t 37) 1) (.op 15 [7, 3, 5, 8] none none false (.store (some 11) (.t 9) (.t 49)) (.op 16 [] (some 10) none true (.mov (.t 50)) .done))))))))) (.o 14 9 (.alloc 9 [(.i 0), (.v (.bool false)), (.i 0), (.v (.bool false)), (.i 0), (.n 2), (.n 7), (.n 7), (.n 7), (.n 9), (.n 9)]) (.op 9 [8] (some 47) none false (.call 47 256 [(.t 46)]) (.op 10 [7, 3, 5, 8] (some 48) none false (.call 48 255 [(.t 38), (.t 39), (.t 45), (.t 47)]) (.op 11 [] (some 37) none true (.mov (.t 48)) (.op 12 [] (some 49) none true (.ext (.t 37) 0) (.op 13 [] (some 50) none true (.ext (.t 37) 1) (.op 15 [7, 3, 5, 8] none none false (.store (some 11) (.t 9) (.t 49)) (.op 16 [] (some 10) none true (.mov (.t 50)) .done))))))))))))))))))) (.seq (.g (.o 0 51 (.mov (.t 10)) (.o 1 52 (.un .not (.t 51)) (.o 2 53 (.mov (.t 52)) (.op 3 [] (some 54) (some (53, false)) false (.mov (.t 0)) (.op 4 [] (some 55) (some (53, false)) false (.call 55 68 [(.t 54), (.i 6)]) (.o 5 56 (.pick (.t 53) (.v (.bool true)) (.t 55)) .done)))))) (.cond (.t 56) (.g (.o 0 57 (.call 57 257 [(.t 5)]) .done) (.exit 1)) .skip)) (.reg false (.o 0 58 (.load (some 11) (.t 9)) (.o 1 59 (.call 59 258 [(.t 5), (.t 58)]) .done)))))) (.reg false (.o 0 35 (.mov (.t 8)) (.o 1 36 (.bin .add (.t 35) (.i 1)) (.o 2 8 (.mov (.t 36)) .done))))))))) (.g (.o 0 60 (.load (some 13) (.t 5)) (.o 1 61 (.call 61 259 [(.t 60)]) (.op 2 [] none none false (.store (some 13) (.t 2) (.t 61)) .done))) .ret))))))
theorem dg_spec_l11task : Tryz.f185.body.bind (digC Tryz.prog Tryz.f185.ntmps []) = some c_spec_l11task := by kernel_rfl
theorem rs_spec_l11task : resSlots Tryz.prog Tryz.f185 = some [.m 2 (some 13)] := by kernel_rfl
theorem ok_spec_l11task (c : Cu) :
    FnOK Tryz.prog 185 [.one (.box c.cells)] (fun ra os => ∃ x : Task × Cu, (SmallT x.1 ∧ x.1.servers.length ≤ 4) ∧ ra = [.agg [.d (.sc (.int .i64 x.1.state)), .d (.sc (.int .i64 x.1.id)), .own true (encBB x.1.fname), .d (.sc (.int .i64 x.1.ftype)), .own true (encBB x.1.name), .own true (encBB x.1.zone), .own true (encI x.1.hints), .own true (encI x.1.servers), .d (.sc (.int .i64 x.1.turn)), .d (.sc (.int .i64 x.1.sends)), .d (.sc (.int .i64 x.1.steps)), .d (.sc (.int .i64 x.1.code)), .own true (encR x.1.answers)]] ∧ os.b 0 = x.2.cells) := by
  refine FnOK.ofK Tryz.func185 (by kernel_rfl) dg_spec_l11task rs_spec_l11task rfl rfl ?_
  delta c_spec_l11task T.o X.i C.g
  refine Kbc (kAlloc Y Y (Kdb (Kc (Ka Y (Kz (ok_spec_l11tree _) ⟨⟨rfl, _, rfl, rfl⟩, trivial⟩ Y Y Y (fun _ => rfl) (fun x0 hx0 => (kMovT Y (kExtC Y Y (kExtC Y Y (Ka Y (Ka Y (Kdb (Kc (Ka Y (Kz (ok_spec_l11q _) ⟨⟨rfl, _, rfl, rfl⟩, trivial⟩ Y Y Y (fun _ => rfl) (fun x1 hx1 => (kLitD Y Y Y Y (Ka Y (Kz (ok_spec_l1Below _ _) ⟨⟨rfl, _, rfl, rfl⟩, rfl, trivial⟩ Y Y Y (fun _ => rfl) (fun x2 hx2 => ?_))))))))))))))))))))
  refine Ku true (ok_spec_Begin x1.1.1 x1.1.2 [1] x2.1 (SmallBB.ok hx1.1) (by decide)) ⟨⟨⟨Y, Y, trivial⟩, leb⟩, rfl, rfl, trivial⟩ Y Y Y (fun _ => ?_)
  rw [begin_ok hx1.1 hx1.2 ⟨hx2.1, by omega⟩]
  refine kMovT Y (kExtC Y Y (kExtC Y Y (kAlloc Y Y (Ko Y Y Y Y (Ka Y (Kdb (Kc (Ka Y (Kz (ok_spec_l1Below _ _) ⟨⟨rfl, _, rfl, rfl⟩, rfl, trivial⟩ Y Y Y (fun _ => rfl) (fun x3 hx3 => (Ka Y (Kdb (Kbc (Ka Y (Kd (Kt ?_))))))))))))))))
  refine kSub (Sub.frzBox (rid 5 0) (rid 22 2) 2 rfl rfl rfl rfl rfl) ?_
  refine kSub (Sub.frzBox (rid 5 0) (rid 22 4) 4 rfl rfl rfl rfl rfl) ?_
  refine kSub (Sub.frzBox (rid 5 0) (rid 22 5) 5 rfl rfl rfl rfl rfl) ?_
  refine kSub (Sub.frzBox (rid 5 0) (rid 22 6) 6 rfl rfl rfl rfl rfl) ?_
  refine kSub (Sub.frzBox (rid 5 0) (rid 22 7) 7 rfl rfl rfl rfl rfl) ?_
  obtain ⟨⟨Z, A⟩, cx0⟩ := x0
  obtain ⟨⟨hZl, hZ⟩, hA⟩ := hx0
  simp only at hZl hZ hA
  obtain ⟨⟨qn, qt⟩, cx1⟩ := x1
  simp only at hx1
  obtain ⟨qi, cx2⟩ := x2
  simp only at hx2
  obtain ⟨nn, cc⟩ := x3
  obtain ⟨n, rfl⟩ : ∃ n : Nat, nn = n := ⟨nn.toNat, by have := hx3.1; simp only at this; omega⟩
  have hn5 : n ≤ 4 := by have := hx3.2; simp only at this; omega
  clear hx3
  have hT0 : TI 0 (askT qn qt [1] qi) := ⟨by show 1 ≤ 1 ∧ 1 ≤ 4; decide, by show 1 ≤ 1 ∧ 1 ≤ 4; decide, by show (0 : Int) ≤ 0 ∧ (0 : Int) < 1; decide, by show (0 : Int) ≤ 0 ∧ (0 : Int) ≤ 12; decide, by show (0 : Int) ≤ 0 ∧ (0 : Int) ≤ 6; decide, fun _ => by show (0 : Int) ≤ 11 ∧ (0 : Int) ≤ 5; decide, hx1.1, .nil, SmallBB.ok hx1.1, askedT_of hx1.2, by show (0 : Nat) ≤ _; omega, nofun⟩
  refine kLoop (α := { y : Nat × Task × Cu // y.1 ≤ n ∧ TI y.1 y.2.1 }) (fun y => ⟨tabSl [(0, .c (.ptr 0 0 0)), (2, .c (.ptr (rid 2 0) 1 0)), (3, .dv (.sl 2 (Z.map Zone.cells))), (4, .dv (encI A)), (5, .c (.ptr (rid 5 0) 1 0)), (7, .i n), (8, .i y.1.1)], obTab 1 [(0, ⟨0, 0, .box (y.1.2.2.cells.map .d)⟩), (rid 2 0, ⟨1, 0, .box [.d (.sc (.int .i64 0)), .d (.sc (.int .i64 0)), .nil 1, .d (.sc (.int .i64 0)), .nil 1, .nil 1, .nil 1, .nil 1, .d (.sc (.int .i64 0)), .d (.sc (.int .i64 0)), .d (.sc (.int .i64 0)), .d (.sc (.int .i64 0)), .nil 7]⟩), (rid 5 0, ⟨1, 0, .box (y.1.2.1.cellsI (rid 22 12) 1)⟩), (rid 22 12, ⟨1, 0, .arr false (encR y.1.2.1.answers)⟩)], []⟩) (fun y => n - y.1.1) ⟨(0, askT qn qt [1] qi, cc), ⟨Nat.zero_le _, hT0⟩⟩ .normA ?_
  clear hT0 hx2
  rintro ⟨⟨i, u, cu⟩, hi, hu⟩
  simp only at hi hu ⊢
  have hus := hu.small (by omega)
  have hut := hu.u
  have hun := hu.n
  have huf := hu.y
  have hue := hu.e
  have hus4 := hu.s
  have hut3 : 0 ≤ u.turn ∧ u.turn ≤ 3 := by omega
  have hsm : SmallM ⟨u.id, false, 0, false, 0, [⟨u.name, u.ftype⟩], [], [], [], [], []⟩ := small_ask hun
  have hstop := trivial
  refine Kb (Kbc (Ka Y (Ka Y (Kj Y Y Y (Ka Y (kGP Y (fun g2 => Ki Y (Kf Y Y (Ki Y (Ke Y Y Y (Ki Y (Kj Y Y Y (Kk Y (Ka Y (Kd (Km Y (fun g3 => Kn (Kb (Kt (Kb ?_)))) (fun g3 => kExit (kExC (kExI (kExB (Kbc (Ke Y Y Y (Ku true (ok_spec_l11own _ prx) ⟨⟨⟨Y, Y, Y, Y, Y, Y, Y, Y, Y, Y, Y, Y, Y, trivial⟩, leb⟩, trivial⟩ Y Y Y (fun _ => (Ko Y Y Y Y (Kd (Kr (Er (ra := [.agg [(.d _), (.d _), (.own true _), (.d _), (.own true _), (.own true _), (.own true _), (.own true _), (.d _), (.d _), (.d _), (.d _), (.own true _)]]) rfl ?_)))))))))))))))))))))) (fun g2 => Kg Y (Kg Y (Kg Y (Kl Y (Ka Y (Kd (kCondF Y (kExit (kExC (kExI (kExB (Kbc (Ke Y Y Y (Ku true (ok_spec_l11own _ prx) ⟨⟨⟨Y, Y, Y, Y, Y, Y, Y, Y, Y, Y, Y, Y, Y, trivial⟩, leb⟩, trivial⟩ Y Y Y (fun _ => (Ko Y Y Y Y (Kd (Kr (Er (ra := [.agg [(.d _), (.d _), (.own true _), (.d _), (.own true _), (.own true _), (.own true _), (.own true _), (.d _), (.d _), (.d _), (.d _), (.own true _)]]) rfl ?_)))))))))))))))))))))))))
  · clear hstop
    refine kJoin (α := { m : Msg // (SmallM m ∧ m.an.length ≤ 12 ∧ ∀ r ∈ m.an, rrOk r = true) } × Bool) (fun y => ⟨tabSl [(0, .c (.ptr 0 0 0)), (2, .c (.ptr (rid 2 0) 1 0)), (3, .dv (.sl 2 (Z.map Zone.cells))), (4, .dv (encI A)), (5, .c (.ptr (rid 5 0) 1 0)), (7, .i n), (8, .i i), (9, .c (.ptr (rid 9 0) 1 0)), (10, .b y.2)], obTab 1 [(0, ⟨0, 0, .box (cu.cells.map .d)⟩), (rid 2 0, ⟨1, 0, .box [.d (.sc (.int .i64 0)), .d (.sc (.int .i64 0)), .nil 1, .d (.sc (.int .i64 0)), .nil 1, .nil 1, .nil 1, .nil 1, .d (.sc (.int .i64 0)), .d (.sc (.int .i64 0)), .d (.sc (.int .i64 0)), .d (.sc (.int .i64 0)), .nil 7]⟩), (rid 5 0, ⟨1, 0, .box (u.cellsI (rid 22 12) 1)⟩), (rid 22 12, ⟨1, 0, .arr false (encR u.answers)⟩), (rid 9 0, ⟨1, 0, .box (y.1.1.cells.map .d)⟩)], []⟩) ?_ (fun x' hc => ?_)
    case refine_2 =>
      refine kRegD (Ka Y (Ka Y (Kf Y Y (Ke Y Y Y (Kf Y Y (Ke Y Y Y (kIadT Y Y prl (Ky Y Y (Ke Y Y Y (kAlt (Kx Y Y (Ku true (ok_spec_l11ask _ prx) ⟨⟨⟨Y, Y, Y, Y, Y, Y, Y, Y, Y, Y, Y, Y, Y, trivial⟩, leb⟩, trivial⟩ Y Y Y (fun _ => (kAlt (Ks Y Y ?_) (kAlloc Y Y (Ks Y Y ?_)))))) (kAlloc Y Y (Kx Y Y (Ku true (ok_spec_l11ask _ prx) ⟨⟨⟨Y, Y, Y, Y, Y, Y, Y, Y, Y, Y, Y, Y, Y, trivial⟩, leb⟩, trivial⟩ Y Y Y (fun _ => (Ks Y Y ?_)))))))))))))))
      · refine kCallFX [rid 47 5, rid 47 6, rid 47 7, rid 47 8, rid 47 9, rid 47 10] (ok_spec_l11server Z A _ ⟨u.id, false, 0, false, 0, [⟨u.name, u.ftype⟩], [], [], [], [], []⟩ hZ om om hsm rfl hun huf) rfl ⟨rfl, rfl, rfl, ⟨⟨Y, Y, Y, Y, Y, Y, Y, Y, Y, Y, Y, trivial⟩, leb⟩, trivial⟩ Y (fun _ => rfl) (fun x5 _ hx5 => ?_)
        refine kMovT Y (kExtC Y Y (kExtC Y Y (kAlloc Y Y (Ks Y Y (Ko Y Y Y Y (Ka Y (Kd (kH ?_))))))))
        exact hc _ (⟨x5.1, hx5⟩, x5.2) .normA
      · refine kCallFX [rid 47 5, rid 47 6, rid 47 7, rid 47 8, rid 47 9, rid 47 10] (ok_spec_l11server Z A _ ⟨u.id, false, 0, false, 0, [⟨u.name, u.ftype⟩], [], [], [], [], []⟩ hZ om om hsm rfl hun huf) rfl ⟨rfl, rfl, rfl, ⟨⟨Y, Y, Y, Y, Y, Y, Y, Y, Y, Y, Y, trivial⟩, leb⟩, trivial⟩ Y (fun _ => rfl) (fun x5 _ hx5 => ?_)
        refine kMovT Y (kExtC Y Y (kExtC Y Y (Ks Y Y (Ko Y Y Y Y (Ka Y (Kd (kH ?_)))))))
        exact hc _ (⟨x5.1, hx5⟩, x5.2) .normA
      · refine kCallFX [rid 47 5, rid 47 6, rid 47 7, rid 47 8, rid 47 9, rid 47 10] (ok_spec_l11server Z A _ ⟨u.id, false, 0, false, 0, [⟨u.name, u.ftype⟩], [], [], [], [], []⟩ hZ om om hsm rfl hun huf) rfl ⟨rfl, rfl, rfl, ⟨⟨Y, Y, Y, Y, Y, Y, Y, Y, Y, Y, Y, trivial⟩, leb⟩, trivial⟩ Y (fun _ => rfl) (fun x5 _ hx5 => ?_)
        refine kMovT Y (kExtC Y Y (kExtC Y Y (Ks Y Y (Ko Y Y Y Y (Ka Y (Kd (kH ?_)))))))
        exact hc _ (⟨x5.1, hx5⟩, x5.2) .normA
    rintro ⟨⟨m, hm1, hm2, hm3⟩, b⟩
    simp only
    have hi5 : i ≤ 5 := by omega
    have hu1 : u.state ≠ 1 := by omega
    refine Kb (Kbc (Ka Y (Kw Y Y (Ka Y (kGN Y (fun g2 => Kg Y (Kg Y (Kk Y (Ka Y (Kd (kCondT Y (Kbc (kCallO [(0, 24576), (1, 94220)] (os_spec_l11lost _ (by first | assumption | omega | solve_by_elim [List.getElem_mem] | exact rfl | exact leb | exact rrOk_small (by assumption) | exact zoneOk_small (by assumption) | exact SmallBB.ok (by assumption)) (by first | assumption | omega | solve_by_elim [List.getElem_mem] | exact rfl | exact leb | exact rrOk_small (by assumption) | exact zoneOk_small (by assumption) | exact SmallBB.ok (by assumption)) (by first | assumption | omega | solve_by_elim [List.getElem_mem] | exact rfl | exact leb | exact rrOk_small (by assumption) | exact zoneOk_small (by assumption) | exact SmallBB.ok (by assumption))) (fun x3 hx3 => (Kd (kExit (kExC (kExB (Kc (Ka Y (kAdd Y Y om (Ka Y (Kd ?_)))))))))))))))))) (fun g2 => Ki Y (Ka Y (Ki Y (Kz (ok_spec_l1Once _ _) ⟨⟨rfl, _, rfl, rfl⟩, rfl, trivial⟩ Y Y Y (fun _ => rfl) (fun x4 hx4 => (Kl Y (Ka Y (Kd (kCond Y (fun g5 => Kbc (kCallO [(0, 24576), (1, 94220)] (os_spec_l11lost _ (by first | assumption | omega | solve_by_elim [List.getElem_mem] | exact rfl | exact leb | exact rrOk_small (by assumption) | exact zoneOk_small (by assumption) | exact SmallBB.ok (by assumption)) (by first | assumption | omega | solve_by_elim [List.getElem_mem] | exact rfl | exact leb | exact rrOk_small (by assumption) | exact zoneOk_small (by assumption) | exact SmallBB.ok (by assumption)) (by first | assumption | omega | solve_by_elim [List.getElem_mem] | exact rfl | exact leb | exact rrOk_small (by assumption) | exact zoneOk_small (by assumption) | exact SmallBB.ok (by assumption))) (fun x6 hx6 => (Kd (kExit (kExC (kExB (Kc (Ka Y (kAdd Y Y om (Ka Y (Kd ?_)))))))))))) (fun g5 => Kn (Kc (Ke Y Y Y (kCallO [(0, 24576), (1, 94220)] (os_spec_l11heard _ _ _ (by first | assumption | omega | solve_by_elim [List.getElem_mem] | exact rfl | exact leb | exact rrOk_small (by assumption) | exact zoneOk_small (by assumption) | exact SmallBB.ok (by assumption)) (by first | assumption | omega | solve_by_elim [List.getElem_mem] | exact rfl | exact leb | exact rrOk_small (by assumption) | exact zoneOk_small (by assumption) | exact SmallBB.ok (by assumption)) (by first | assumption | omega | solve_by_elim [List.getElem_mem] | exact rfl | exact leb | exact rrOk_small (by assumption) | exact zoneOk_small (by assumption) | exact SmallBB.ok (by assumption)) (by first | assumption | omega | solve_by_elim [List.getElem_mem] | exact rfl | exact leb | exact rrOk_small (by assumption) | exact zoneOk_small (by assumption) | exact SmallBB.ok (by assumption)) (by first | assumption | omega | solve_by_elim [List.getElem_mem] | exact rfl | exact leb | exact rrOk_small (by assumption) | exact zoneOk_small (by assumption) | exact SmallBB.ok (by assumption)) (by first | assumption | omega | solve_by_elim [List.getElem_mem] | exact rfl | exact leb | exact rrOk_small (by assumption) | exact zoneOk_small (by assumption) | exact SmallBB.ok (by assumption))) (fun x7 hx7 => (Kd (Kv (Kc (Ka Y (kAdd Y Y om (Ka Y (Kd ?_))))))))))))))))))))))))))
    · exact kInv ⟨⟨(i + 1, lostT u, cu), ⟨by omega, (hu.lost hu1).up⟩⟩, by simp only; omega, .normA⟩
    · exact kInv ⟨⟨(i + 1, lostT u, x4.2), ⟨by omega, (hu.lost hu1).up⟩⟩, by simp only; omega, .normA⟩
    · exact kInv ⟨⟨(i + 1, x7, x4.2), ⟨by omega, hx7⟩⟩, by simp only; omega, .normA⟩
  · exact ⟨(u, cu), ⟨hus, hus4.2⟩, rfl, rfl⟩
  · exact ⟨(u, cu), ⟨hus, hus4.2⟩, rfl, rfl⟩

def c_spec_l2bent : C := (.g (.o 0 2 (.alloc 2 [(.n 1)]) .done) (.g (.o 0 4 (.mov (.t 0)) (.o 1 5 (.call 5 217 [(.t 4)]) (.o 2 3 (.alloc 3 [(.n 1)]) (.op 3 [] none none false (.store (some 1) (.t 3) (.t 5)) .done)))) (.seq (.g (.o 0 6 (.mov (.t 0)) (.o 1 7 (.call 7 68 [(.t 6), (.i 9)]) .done)) (.cond (.t 7) (.g (.o 0 8 (.mov (.t 0)) (.o 1 9 (.call 9 117 [(.t 8), (.i 4)]) .done)) (.block 0 (.g (.o 0 22 (.bin .eql (.t 9) (.i 0)) (.o 1 21 (.mov (.t 22)) .done)) (.cond (.t 21) (.reg false (.o 0 23 (.fad (.t 3) 0) (.o 1 24 (.load none (.t 23)) (.o 2 25 (.lit 25 1 [(.n 1)] 1 [(0, 1, (.n 1))]) (.o 3 26 (.app 26 1 24 (.t 24) (.t 25)) (.o 4 27 (.fad (.t 3) 0) (.op 5 [] none none false (.store none (.t 27) (.t 26)) .done))))))) (.g (.o 0 29 (.bin .eql (.t 9) (.i 1)) (.o 1 28 (.mov (.t 29)) .done)) (.cond (.t 28) (.reg false (.o 0 30 (.fad (.t 3) 0) (.o 1 31 (.load none (.t 30)) (.o 2 32 (.lit 32 1 [(.v (.int .u8 0))] 1 [(0, 1, (.v (.int .u8 81)))]) (.o 3 33 (.s2s (.t 32)) (.o 4 34 (.lit 34 1 [(.n 1)] 1 [(0, 1, (.t 33))]) (.o 5 35 (.app 35 1 24 (.t 31) (.t 34)) (.o 6 36 (.fad (.t 3) 0) (.op 7 [] none none false (.store none (.t 36) (.t 35)) .done))))))))) (.g (.o 0 38 (.bin .eql (.t 9) (.i 2)) (.o 1 37 (.mov (.t 38)) .done)) (.cond (.t 37) (.reg true (.op 0 [] (some 39) none true (.fad (.t 3) 0) (.op 1 [] (some 40) none true (.load none (.t 39)) (.op 3 [] (some 42) none true (.mov (.t 0)) (.alt (.o 2 41 (.lit 41 1 [(.v (.string ⟨#[]⟩))] 2 [(0, 1, (.v (.string ⟨#[97, 98, 99, 100, 101, 102, 103, 104, 105, 106, 107, 108, 109, 110, 111]⟩))), (1, 1, (.v (.string ⟨#[97, 98, 99, 100, 101, 102, 103, 104, 105, 106, 107, 108, 109, 110, 111, 112]⟩)))]) (.o 4 43 (.call 43 117 [(.t 42), (.i 2)]) (.op 5 [] (some 44) none true (.iad 1 (.t 41) (.t 43)) (.op 6 [] (some 45) none true (.load none (.t 44)) (.op 7 [6] (some 46) none false (.s2b (.t 45)) (.op 8 [6] (some 47) none false (.lit 47 1 [(.n 1)] 1 [(0, 1, (.t 46))]) (.op 9 [1, 6] (some 48) none false (.app 48 1 24 (.t 40) (.t 47)) (.op 10 [] (some 49) none true (.fad (.t 3) 0) (.op 11 [1, 6] none none false (.store none (.t 49) (.t 48)) .done))))))))) (.o 4 43 (.call 43 117 [(.t 42), (.i 2)]) (.o 2 41 (.lit 41 1 [(.v (.string ⟨#[]⟩))] 2 [(0, 1, (.v (.string ⟨#[97, 98, 99, 100, 101, 102, 103, 104, 105, 106, 107, 108, 109, 110, 111]⟩))), (1, 1, (.v (.string ⟨#[97, 98, 99, 100, 101, 102, 103, 104, 105, 106, 107, 108, 109, 110, 111, 112]⟩)))]) (.op 5 [] (some 44) none true (.iad 1 (.t 41) (.t 43)) (.op 6 [] (some 45) none true (.load none (.t 44)) (.op 7 [6] (some 46) none false (.s2b (.t 45)) (.op 8 [6] (some 47) none false (.lit 47 1 [(.n 1)] 1 [(0, 1, (.t 46))]) (.op 9 [1, 6] (some 48) none false (.app 48 1 24 (.t 40) (.t 47)) (.op 10 [] (some 49) none true (.fad (.t 3) 0) (.op 11 [1, 6] none none false (.store none (.t 49) (.t 48)) .done)))))))))))))) (.block 1 (.loop (.seq (.g (.o 0 10 (.fad (.t 3) 0) (.o 1 11 (.load none (.t 10)) (.o 2 12 (.len (.t 11)) (.o 3 13 (.bin .leq (.t 12) (.i 6)) .done)))) (.cond (.t 13) .skip (.exit 1))) (.block 2 (.reg false (.o 0 14 (.fad (.t 3) 0) (.o 1 15 (.load none (.t 14)) (.o 2 16 (.lit 16 1 [(.v (.int .u8 0))] 1 [(0, 1, (.v (.int .u8 122)))]) (.o 3 17 (.s2s (.t 16)) (.o 4 18 (.lit 18 1 [(.n 1)] 1 [(0, 1, (.t 17))]) (.o 5 19 (.app 19 1 24 (.t 15) (.t 18)) (.o 6 20 (.fad (.t 3) 0) (.op 7 [] none none false (.store none (.t 20) (.t 19)) .done))))))))))))))))))))) .skip)) (.g (.o 0 50 (.load (some 1) (.t 3)) (.op 1 [] none none false (.store (some 1) (.t 2) (.t 50)) .done)) .ret))))
theorem dg_spec_l2bent : Tryz.f126.body.bind (digC Tryz.prog Tryz.f126.ntmps []) = some c_spec_l2bent := by kernel_rfl
theorem rs_spec_l2bent : resSlots Tryz.prog Tryz.f126 = some [.m 2 (some 1)] := by kernel_rfl
theorem ok_spec_l2bent (c : Cu) :
    FnOK Tryz.prog 126 [.one (.box c.cells)] (fun ra os => ∃ x : List (List UInt8) × Cu, (x.1.length ≤ 7 ∧ ∀ b ∈ x.1, b.length ≤ 64) ∧ ra = [.agg [.d (encBB x.1)]] ∧ os.b 0 = x.2.cells) := by
  refine FnOK.ofK Tryz.func126 (by kernel_rfl) dg_spec_l2bent rs_spec_l2bent rfl rfl ?_
  delta c_spec_l2bent T.o X.i C.g
  refine Kbc (kAlloc Y Y (Kdb (Kc (Ka Y (Kz (ok_spec_l2draw _) ⟨⟨rfl, _, rfl, rfl⟩, trivial⟩ Y Y Y (fun _ => rfl) (fun x0 hx0 => (kAlloc Y Y (Ko Y Y Y Y (Kdb (Kbc (Ka Y (Kz (ok_spec_l1Once _ _) ⟨⟨rfl, _, rfl, rfl⟩, rfl, trivial⟩ Y Y Y (fun _ => rfl) (fun x1 hx1 => (Kd (kCond Y (fun g2 => Kbc (Ka Y (Kz (ok_spec_l1Below _ _) ⟨⟨rfl, _, rfl, rfl⟩, rfl, trivial⟩ Y Y Y (fun _ => rfl) (fun x3 hx3 => (Kd (Kt (Kbc (Kj Y Y Y (Ka Y (Kd (Km Y (fun g4 => Kc (Kf Y Y (Ke Y Y Y (kLitG Y Y Y Y ?_)))) (fun g4 => Kbc (Kj Y Y Y (Ka Y (Kd (Km Y (fun g5 => Kc (Kf Y Y (Ke Y Y Y (kLitG Y Y Y Y (kS2sB (y := 81) (ys := []) Y Y Y (kLitG Y Y Y Y ?_)))))) (fun g5 => Kbc (Kj Y Y Y (Ka Y (Kd (Km Y (fun g6 => kRegD (Kf Y Y (Ke Y Y Y (Ka Y (kAlt (kLitG Y Y Y Y (Kz (ok_spec_l1Below _ _) ⟨⟨rfl, _, rfl, rfl⟩, rfl, trivial⟩ Y Y Y (fun _ => rfl) (fun x8 hx8 => (kIadStr Y Y Y Y (by simp only [List.length_cons, List.length_nil]; omega) (kLoadStr Y Y Y (by simp only [List.length_cons, List.length_nil]; omega) rfl (fun b9 hb9 => (Kx Y Y (kS2b Y om (Kx Y Y (kLitG Y Y Y Y (Ks Y Y ?_))))))))))) (Kz (ok_spec_l1Below _ _) ⟨⟨rfl, _, rfl, rfl⟩, rfl, trivial⟩ Y Y Y (fun _ => rfl) (fun x10 hx10 => (kLitG Y Y Y Y (kIadStr Y Y Y Y (by simp only [List.length_cons, List.length_nil]; omega) (kLoadStr Y Y Y (by simp only [List.length_cons, List.length_nil]; omega) rfl (fun b11 hb11 => (Kx Y Y (kS2b Y om (Kx Y Y (kLitG Y Y Y Y (Ks Y Y ?_)))))))))))))))) (fun g6 => Kt ?_)))))))))))))))))))))) (fun g2 => Kn (Kbc (Ke Y Y Y (Ko Y Y Y Y (Kd (Kr (Er (ra := [.agg [(.d _)]]) rfl ?_))))))))))))))))))))))
  · have h6 := nameOk_len hx0
    refine kAppR1 (z := ([] : List UInt8)) rfl rfl rfl rfl rfl rfl rfl rfl om ?_
    refine (Kf Y Y (Ko Y Y Y Y (Kd (Kv (Kbc (Ke Y Y Y (Ko Y Y Y Y (Kd (Kr (Er (ra := [.agg [(.d _)]]) rfl ?_))))))))))
    exact ⟨(_, x3.2), bent_app hx0 (by decide), rfl, rfl⟩
  · have h6 := nameOk_len hx0
    refine kAppR1 (z := ([81] : List UInt8)) rfl rfl rfl rfl rfl rfl rfl rfl om ?_
    refine Kf Y Y (Ko Y Y Y Y (Kd (Kv (Kbc (Ke Y Y Y (Ko Y Y Y Y (Kd (Kr (Er (ra := [.agg [(.d _)]]) rfl ?_)))))))))
    exact ⟨(_, x3.2), bent_app hx0 (by decide), rfl, rfl⟩
  · have h6 := nameOk_len hx0
    refine kAppR1 (z := b9.toList) Y Y Y Y Y Y Y Y om ?_
    refine Kf Y Y (Ks Y Y (Ko Y Y Y Y (Kd (kH (Kv (Kbc (Ke Y Y Y (Ko Y Y Y Y (Kd (Kr (Er (ra := [.agg [(.d _)]]) rfl ?_)))))))))))
    exact ⟨(_, x8.2), bent_app hx0 (by rw [bt_len]; exact hb9), rfl, rfl⟩
  · have h6 := nameOk_len hx0
    refine kAppR1 (z := b11.toList) Y Y Y Y Y Y Y Y om ?_
    refine Kf Y Y (Ks Y Y (Ko Y Y Y Y (Kd (kH (Kv (Kbc (Ke Y Y Y (Ko Y Y Y Y (Kd (Kr (Er (ra := [.agg [(.d _)]]) rfl ?_)))))))))))
    exact ⟨(_, x10.2), bent_app hx0 (by rw [bt_len]; exact hb11), rfl, rfl⟩
  · refine kLoop (α := { L : List (List UInt8) // L.length ≤ 7 ∧ ∀ b ∈ L, b.length ≤ 64 }) (fun y => ⟨tabSl [(2, .c (.ptr (rid 2 0) 1 0)), (3, .c (.ptr (rid 3 0) 1 0))], obTab 1 [(0, ⟨0, 0, .box (x3.2.cells.map .d)⟩), (rid 2 0, ⟨1, 0, .box [.nil 1]⟩), (rid 3 0, ⟨1, 0, .box [.arr (rid 5 0) 1]⟩), (rid 5 0, ⟨1, 0, .arr false (encBB y.1)⟩)], []⟩) (fun y => 7 - y.1.length) ⟨x0.1, bent_ok hx0⟩ .normA ?_
    rintro ⟨L, h7, hL⟩
    simp only
    rcases Nat.lt_or_ge L.length 7 with hlt | hge
    · refine Kb (Kbc (Kf Y Y (Ke Y Y Y (Kq Y Y (Kj Y Y Y (Kd (Km Y (fun g0 => Kn (Kt (Kc (Kf Y Y (Ke Y Y Y (kLitG Y Y Y Y (kS2sB (y := 122) (ys := []) Y Y Y (kLitG Y Y Y Y (kAppR1 Y Y Y Y Y Y Y Y prl (Kf Y Y (Ko Y Y Y Y (Kd (Kv ?_))))))))))))) (fun g0 => om))))))))
      refine kInv ⟨⟨L ++ [[122]], by simp; omega, fun b hb => ?_⟩, by simp; omega, .normA⟩
      rcases List.mem_append.1 hb with hb | hb
      · exact hL b hb
      · simp only [List.mem_singleton] at hb; subst hb; decide
    · refine Kb (Kbc (Kf Y Y (Ke Y Y Y (Kq Y Y (Kj Y Y Y (Kd (Km Y (fun g0 => om) (fun g0 => kExit (kExC (kExI (kExB (Kv (Kbc (Ke Y Y Y (Ko Y Y Y Y (Kd (Kr (Er (ra := [.agg [(.d _)]]) rfl ?_))))))))))))))))))
      exact ⟨(L, x3.2), ⟨h7, hL⟩, rfl, rfl⟩
  · exact ⟨(x0.1, x1.2), bent_ok hx0, rfl, rfl⟩

def c_spec_l11bent : C := (.g (.o 0 2 (.alloc 2 [(.i 0), (.i 0), (.n 1), (.i 0), (.n 1), (.n 1), (.n 1), (.n 1), (.i 0), (.i 0), (.i 0), (.i 0), (.n 7)]) .done) (.g (.o 0 4 (.mov (.t 0)) (.o 1 5 (.call 5 185 [(.t 4)]) (.o 2 3 (.alloc 3 [(.i 0), (.i 0), (.n 1), (.i 0), (.n 1), (.n 1), (.n 1), (.n 1), (.i 0), (.i 0), (.i 0), (.i 0), (.n 7)]) (.op 3 [] none none false (.store (some 13) (.t 3) (.t 5)) .done)))) (.seq (.g (.o 0 6 (.mov (.t 0)) (.o 1 7 (.call 7 68 [(.t 6), (.i 8)]) .done)) (.cond (.t 7) (.g (.o 0 8 (.mov (.t 0)) (.o 1 9 (.call 9 117 [(.t 8), (.i 6)]) .done)) (.block 0 (.g (.o 0 15 (.bin .eql (.t 9) (.i 0)) (.o 1 14 (.mov (.t 15)) .done)) (.cond (.t 14) (.reg false (.o 0 16 (.mov (.t 0)) (.o 1 17 (.call 17 117 [(.t 16), (.i 4)]) (.o 2 18 (.bin .sub (.t 17) (.i 1)) (.o 3 19 (.fad (.t 3) 0) (.op 4 [] none none false (.store none (.t 19) (.t 18)) .done)))))) (.g (.o 0 21 (.bin .eql (.t 9) (.i 1)) (.o 1 20 (.mov (.t 21)) .done)) (.cond (.t 20) (.reg true (.op 0 [] (some 22) none true (.fad (.t 3) 7) (.op 1 [] (some 23) none true (.load none (.t 22)) (.op 2 [] (some 24) none true (.mov (.t 0)) (.o 3 25 (.lit 25 1 [(.i 0)] 3 [(0, 1, (.i (-1))), (1, 1, (.i 5)), (2, 1, (.i 6))]) (.o 4 26 (.call 26 118 [(.t 24), (.t 25)]) (.o 5 27 (.lit 27 1 [(.i 0)] 1 [(0, 1, (.t 26))]) (.op 6 [1] (some 28) none false (.app 28 1 8 (.t 23) (.t 27)) (.op 7 [] (some 29) none true (.fad (.t 3) 7) (.op 8 [1] none none false (.store none (.t 29) (.t 28)) .done)))))))))) (.g (.o 0 31 (.bin .eql (.t 9) (.i 2)) (.o 1 30 (.mov (.t 31)) .done)) (.cond (.t 30) (.reg false (.o 0 32 (.mov (.t 0)) (.o 1 33 (.lit 33 1 [(.i 0)] 3 [(0, 1, (.i (-1))), (1, 1, (.i 1)), (2, 1, (.i 9))]) (.o 2 34 (.call 34 118 [(.t 32), (.t 33)]) (.o 3 35 (.fad (.t 3) 8) (.op 4 [] none none false (.store none (.t 35) (.t 34)) .done)))))) (.g (.o 0 37 (.bin .eql (.t 9) (.i 3)) (.o 1 36 (.mov (.t 37)) .done)) (.cond (.t 36) (.reg false (.o 0 38 (.mov (.t 0)) (.o 1 39 (.lit 39 1 [(.i 0)] 4 [(0, 1, (.i (-1))), (1, 1, (.i 11)), (2, 1, (.i 12)), (3, 1, (.i 13))]) (.o 2 40 (.call 40 118 [(.t 38), (.t 39)]) (.o 3 41 (.fad (.t 3) 9) (.op 4 [] none none false (.store none (.t 41) (.t 40)) .done)))))) (.g (.o 0 43 (.bin .eql (.t 9) (.i 4)) (.o 1 42 (.mov (.t 43)) .done)) (.cond (.t 42) (.reg false (.o 0 44 (.mov (.t 0)) (.o 1 45 (.call 45 126 [(.t 44)]) (.o 2 46 (.fad (.t 3) 5) (.op 3 [] none none false (.store (some 1) (.t 46) (.t 45)) .done))))) (.reg false (.o 0 10 (.mov (.t 0)) (.o 1 11 (.lit 11 1 [(.i 0)] 4 [(0, 1, (.i (-1))), (1, 1, (.i 5)), (2, 1, (.i 6)), (3, 1, (.i 7))]) (.o 2 12 (.call 12 118 [(.t 10), (.t 11)]) (.o 3 13 (.fad (.t 3) 10) (.op 4 [] none none false (.store none (.t 13) (.t 12)) .done)))))))))))))))))) .skip)) (.g (.o 0 47 (.load (some 13) (.t 3)) (.op 1 [] none none false (.store (some 13) (.t 2) (.t 47)) .done)) .ret))))
theorem dg_spec_l11bent : Tryz.f103.body.bind (digC Tryz.prog Tryz.f103.ntmps []) = some c_spec_l11bent := by kernel_rfl
theorem rs_spec_l11bent : resSlots Tryz.prog Tryz.f103 = some [.m 2 (some 13)] := by kernel_rfl
theorem ok_spec_l11bent (c : Cu) :
    FnOK Tryz.prog 103 [.one (.box c.cells)] (fun ra os => ∃ x : Task × Cu, SmallT x.1 ∧ ra = [.agg [.d (.sc (.int .i64 x.1.state)), .d (.sc (.int .i64 x.1.id)), .d (encBB x.1.fname), .d (.sc (.int .i64 x.1.ftype)), .d (encBB x.1.name), .d (encBB x.1.zone), .d (encI x.1.hints), .d (encI x.1.servers), .d (.sc (.int .i64 x.1.turn)), .d (.sc (.int .i64 x.1.sends)), .d (.sc (.int .i64 x.1.steps)), .d (.sc (.int .i64 x.1.code)), .d (encR x.1.answers)]] ∧ os.b 0 = x.2.cells) := by
  refine FnOK.ofK Tryz.func103 (by kernel_rfl) dg_spec_l11bent rs_spec_l11bent rfl rfl ?_
  delta c_spec_l11bent T.o X.i C.g
  refine Kbc (kAlloc Y Y (Kdb (Kc (Ka Y (Kz (ok_spec_l11task _) ⟨⟨rfl, _, rfl, rfl⟩, trivial⟩ Y Y Y (fun _ => rfl) (fun x0 hx0 => (kAlloc Y Y (Ko Y Y Y Y (Kdb (Kbc (Ka Y (Kz (ok_spec_l1Once _ _) ⟨⟨rfl, _, rfl, rfl⟩, rfl, trivial⟩ Y Y Y (fun _ => rfl) (fun x1 hx1 => (Kd (kCond Y (fun g2 => Kbc (Ka Y (Kz (ok_spec_l1Below _ _) ⟨⟨rfl, _, rfl, rfl⟩, rfl, trivial⟩ Y Y Y (fun _ => rfl) (fun x3 hx3 => (Kd (Kt (Kbc (Kj Y Y Y (Ka Y (Kd (Km Y (fun g4 => Kc (Ka Y (Kz (ok_spec_l1Below _ _) ⟨⟨rfl, _, rfl, rfl⟩, rfl, trivial⟩ Y Y Y (fun _ => rfl) (fun x5 hx5 => (kDif Y Y om (Kf Y Y (Ko Y Y Y Y (Kd (Kv (Kbc (Ke Y Y Y (Ko Y Y Y Y (Kd (Kr (Er (ra := [.agg [(.d _), (.d _), (.d _), (.d _), (.d _), (.d _), (.d _), (.d _), (.d _), (.d _), (.d _), (.d _), (.d _)]]) rfl ?_))))))))))))))) (fun g4 => Kbc (Kj Y Y Y (Ka Y (Kd (Km Y (fun g6 => kRegD (Kf Y Y (Ke Y Y Y (Ka Y (kLitD Y Y Y Y (Kz (ok_spec_l1PickInt _ _ prx prx prx) ⟨⟨rfl, _, rfl, rfl⟩, rfl, trivial⟩ Y Y Y (fun _ => rfl) (fun x7 hx7 => (kLitG Y Y Y Y (Ks Y Y (kAppR1 Y Y Y Y Y Y Y Y prl (Kf Y Y (Ks Y Y (Ko Y Y Y Y (Kd (kH (Kv (Kbc (Ke Y Y Y (Ko Y Y Y Y (Kd (Kr (Er (ra := [.agg [(.d _), (.d _), (.d _), (.d _), (.d _), (.d _), (.d _), (.d _), (.d _), (.d _), (.d _), (.d _), (.d _)]]) rfl ?_)))))))))))))))))))))) (fun g6 => Kbc (Kj Y Y Y (Ka Y (Kd (Km Y (fun g8 => Kc (Ka Y (kLitD Y Y Y Y (Kz (ok_spec_l1PickInt _ _ prx prx prx) ⟨⟨rfl, _, rfl, rfl⟩, rfl, trivial⟩ Y Y Y (fun _ => rfl) (fun x9 hx9 => (Kf Y Y (Ko Y Y Y Y (Kd (Kv (Kbc (Ke Y Y Y (Ko Y Y Y Y (Kd (kMem [(12288, ⟨1, 0, .box [.d _, .d _, .arr 24578 1, .d _, .arr 24580 1, .arr 24581 1, .arr 24582 1, .arr 24583 1, .d _, .d _, .d _, .d _, .arr 24588 1]⟩), (24578, ⟨1, 0, .arr true _⟩), (24580, ⟨1, 0, .arr true _⟩), (24581, ⟨1, 0, .arr true _⟩), (24582, ⟨1, 0, .arr true _⟩), (24583, ⟨1, 0, .arr true _⟩), (24588, ⟨1, 0, .arr true _⟩)] [(2, .c (.ptr 12288 1 0))] [] ⟨Y, Y, Y, Y, Y, Y, Y, trivial⟩ ⟨Y, trivial⟩ Y (Kr (Er (ra := [.agg [(.d _), (.d _), (.d _), (.d _), (.d _), (.d _), (.d _), (.d _), (.d _), (.d _), (.d _), (.d _), (.d _)]]) rfl ?_)))))))))))))))) (fun g8 => Kbc (Kj Y Y Y (Ka Y (Kd (Km Y (fun g10 => Kc (Ka Y (kLitD Y Y Y Y (Kz (ok_spec_l1PickInt _ _ prx prx prx) ⟨⟨rfl, _, rfl, rfl⟩, rfl, trivial⟩ Y Y Y (fun _ => rfl) (fun x11 hx11 => (Kf Y Y (Ko Y Y Y Y (Kd (Kv (Kbc (Ke Y Y Y (Ko Y Y Y Y (Kd (kMem [(12288, ⟨1, 0, .box [.d _, .d _, .arr 24578 1, .d _, .arr 24580 1, .arr 24581 1, .arr 24582 1, .arr 24583 1, .d _, .d _, .d _, .d _, .arr 24588 1]⟩), (24578, ⟨1, 0, .arr true _⟩), (24580, ⟨1, 0, .arr true _⟩), (24581, ⟨1, 0, .arr true _⟩), (24582, ⟨1, 0, .arr true _⟩), (24583, ⟨1, 0, .arr true _⟩), (24588, ⟨1, 0, .arr true _⟩)] [(2, .c (.ptr 12288 1 0))] [] ⟨Y, Y, Y, Y, Y, Y, Y, trivial⟩ ⟨Y, trivial⟩ Y (Kr (Er (ra := [.agg [(.d _), (.d _), (.d _), (.d _), (.d _), (.d _), (.d _), (.d _), (.d _), (.d _), (.d _), (.d _), (.d _)]]) rfl ?_)))))))))))))))) (fun g10 => Kbc (Kj Y Y Y (Ka Y (Kd (Km Y (fun g12 => Kc (Ka Y (Kz (ok_spec_l2bent _) ⟨⟨rfl, _, rfl, rfl⟩, trivial⟩ Y Y Y (fun _ => rfl) (fun x13 hx13 => (Kf Y Y (Ko Y Y Y Y (Kd (Kv (Kbc (Ke Y Y Y (Ko Y Y Y Y (Kd (Kr (Er (ra := [.agg [(.d _), (.d _), (.d _), (.d _), (.d _), (.d _), (.d _), (.d _), (.d _), (.d _), (.d _), (.d _), (.d _)]]) rfl ?_)))))))))))))) (fun g12 => Kc (Ka Y (kLitD Y Y Y Y (Kz (ok_spec_l1PickInt _ _ prx prx prx) ⟨⟨rfl, _, rfl, rfl⟩, rfl, trivial⟩ Y Y Y (fun _ => rfl) (fun x14 hx14 => (Kf Y Y (Ko Y Y Y Y (Kd (Kv (Kbc (Ke Y Y Y (Ko Y Y Y Y (Kd (kMem [(12288, ⟨1, 0, .box [.d _, .d _, .arr 24578 1, .d _, .arr 24580 1, .arr 24581 1, .arr 24582 1, .arr 24583 1, .d _, .d _, .d _, .d _, .arr 24588 1]⟩), (24578, ⟨1, 0, .arr true _⟩), (24580, ⟨1, 0, .arr true _⟩), (24581, ⟨1, 0, .arr true _⟩), (24582, ⟨1, 0, .arr true _⟩), (24583, ⟨1, 0, .arr true _⟩), (24588, ⟨1, 0, .arr true _⟩)] [(2, .c (.ptr 12288 1 0))] [] ⟨Y, Y, Y, Y, Y, Y, Y, trivial⟩ ⟨Y, trivial⟩ Y (Kr (Er (ra := [.agg [(.d _), (.d _), (.d _), (.d _), (.d _), (.d _), (.d _), (.d _), (.d _), (.d _), (.d _), (.d _), (.d _)]]) rfl ?_))))))))))))))))))))))))))))))))))))))))))))))) (fun g2 => Kn (Kbc (Ke Y Y Y (kMem [(12288, ⟨1, 0, .box [.d _, .d _, .nil 1, .d _, .nil 1, .nil 1, .nil 1, .nil 1, .d _, .d _, .d _, .d _, .nil 7]⟩), (24578, ⟨1, 0, .arr true _⟩), (24580, ⟨1, 0, .arr true _⟩), (24581, ⟨1, 0, .arr true _⟩), (24582, ⟨1, 0, .arr true _⟩), (24583, ⟨1, 0, .arr true _⟩), (24588, ⟨1, 0, .arr true _⟩)] [(2, .c (.ptr 12288 1 0)), (47, .g [.d _, .d _, .arr 24578 1, .d _, .arr 24580 1, .arr 24581 1, .arr 24582 1, .arr 24583 1, .d _, .d _, .d _, .d _, .arr 24588 1])] [] ⟨Y, Y, Y, Y, Y, Y, Y, trivial⟩ ⟨Y, Y, trivial⟩ Y (Ko Y Y Y Y (Kd (kMem [(12288, ⟨1, 0, .box [.d _, .d _, .arr 24578 1, .d _, .arr 24580 1, .arr 24581 1, .arr 24582 1, .arr 24583 1, .d _, .d _, .d _, .d _, .arr 24588 1]⟩), (24578, ⟨1, 0, .arr true _⟩), (24580, ⟨1, 0, .arr true _⟩), (24581, ⟨1, 0, .arr true _⟩), (24582, ⟨1, 0, .arr true _⟩), (24583, ⟨1, 0, .arr true _⟩), (24588, ⟨1, 0, .arr true _⟩)] [(2, .c (.ptr 12288 1 0))] [] ⟨Y, Y, Y, Y, Y, Y, Y, trivial⟩ ⟨Y, trivial⟩ Y (Kr (Er (ra := [.agg [(.d _), (.d _), (.d _), (.d _), (.d _), (.d _), (.d _), (.d _), (.d _), (.d _), (.d _), (.d _), (.d _)]]) rfl ?_))))))))))))))))))))))))
  · exact ⟨({ x0.1 with state := x5.1 - 1 }, x5.2), ⟨hx0.1.f, hx0.1.n, hx0.1.z, hx0.1.h, hx0.1.s, hx0.1.a⟩, rfl, rfl⟩
  · have hsv := hx0.1.s
    have hsv5 : x0.1.servers.length + 1 ≤ 4194304 := by have := hx0.2; omega
    exact ⟨({ x0.1 with servers := x0.1.servers ++ [x7.1] }, x7.2), ⟨hx0.1.f, hx0.1.n, hx0.1.z, hx0.1.h, by show (x0.1.servers ++ [x7.1]).length ≤ _; rw [List.length_append, List.length_singleton]; exact hsv5, hx0.1.a⟩, rfl, rfl⟩
  · exact ⟨({ x0.1 with turn := x9.1 }, x9.2), ⟨hx0.1.f, hx0.1.n, hx0.1.z, hx0.1.h, hx0.1.s, hx0.1.a⟩, rfl, rfl⟩
  · exact ⟨({ x0.1 with sends := x11.1 }, x11.2), ⟨hx0.1.f, hx0.1.n, hx0.1.z, hx0.1.h, hx0.1.s, hx0.1.a⟩, rfl, rfl⟩
  · exact ⟨({ x0.1 with zone := x13.1 }, x13.2), ⟨hx0.1.f, hx0.1.n, SmallBB.bent hx13, hx0.1.h, hx0.1.s, hx0.1.a⟩, rfl, rfl⟩
  · exact ⟨({ x0.1 with steps := x14.1 }, x14.2), ⟨hx0.1.f, hx0.1.n, hx0.1.z, hx0.1.h, hx0.1.s, hx0.1.a⟩, rfl, rfl⟩
  · exact ⟨(x0.1, x1.2), hx0.1, rfl, rfl⟩

def c_spec_l1New : C := (.g (.o 0 2 (.mov (.v (.pointer none))) .done) (.g (.o 0 5 (.mov (.t 0)) (.o 1 6 (.len (.t 5)) (.o 2 7 (.bin .add (.i 42222) (.t 6)) (.o 3 3 (.mov (.t 7)) .done)))) (.seq (.g (.o 0 4 (.mov (.i 0)) .done) (.block 0 (.loop (.seq (.g (.o 0 8 (.mov (.t 4)) (.o 1 9 (.mov (.t 0)) (.o 2 10 (.len (.t 9)) (.o 3 11 (.bin .lss (.t 8) (.t 10)) (.o 4 12 (.mov (.t 11)) (.op 5 [] (some 13) (some (12, true)) false (.mov (.t 4)) (.op 6 [] (some 14) (some (12, true)) false (.bin .lss (.t 13) (.i 4000)) (.o 7 15 (.pick (.t 12) (.t 14) (.v (.bool false))) .done)))))))) (.cond (.t 15) .skip (.exit 0))) (.seq (.block 1 (.reg false (.o 0 18 (.mov (.t 3)) (.o 1 19 (.bin .mul (.t 18) (.i 131)) (.o 2 20 (.mov (.t 0)) (.o 3 21 (.mov (.t 4)) (.o 4 22 (.iad 1 (.t 20) (.t 21)) (.o 5 23 (.load none (.t 22)) (.o 6 24 (.conv .i64 (.t 23)) (.o 7 25 (.bin .add (.t 19) (.t 24)) (.o 8 26 (.bin .add (.t 25) (.i 7)) (.o 9 27 (.bin .and (.t 26) (.i 1073741823)) (.o 10 3 (.mov (.t 27)) .done))))))))))))) (.reg false (.o 0 16 (.mov (.t 4)) (.o 1 17 (.bin .add (.t 16) (.i 1)) (.o 2 4 (.mov (.t 17)) .done))))))))) (.g (.o 0 28 (.mov (.t 0)) (.o 1 29 (.mov (.t 3)) (.o 2 30 (.build [(.n 1), (.i 0), (.i 0)] [(0, 1, (.t 28)), (2, 1, (.t 29))]) (.o 3 31 (.box 31 (.t 30)) (.o 4 2 (.mov (.t 31)) .done))))) .ret))))
theorem dg_spec_l1New : Tryz.f63.body.bind (digC Tryz.prog Tryz.f63.ntmps []) = some c_spec_l1New := by kernel_rfl
theorem rs_spec_l1New : resSlots Tryz.prog Tryz.f63 = some [.s 2] := by kernel_rfl
theorem ok_spec_l1New (code : List UInt8) (hb : (code.length : Int) ≤ 9223372036854775807) :
    FnOK Tryz.prog 63 [.one (.d (encB code))] (fun ra _ => ∃ c : Cu, True ∧ ra = [.one (.box c.cells)]) := by
  refine FnOK.ofK Tryz.func63 (by kernel_rfl) dg_spec_l1New rs_spec_l1New rfl rfl ?_
  delta c_spec_l1New T.o X.i C.g
  refine Kbc (Ka Y (Kdb (Kc (Ka Y (Kq Y Y (Kj Y Y Y (Ka Y (Kdb (Kbc (Ka Y (Kd (Kt ?_))))))))))))
  refine kLoop (α := { i : Nat // i ≤ code.length } × Int) (fun y => ⟨tabSl [(0, .dv (encB code)), (3, .i y.2), (4, .i y.1.1)], obTab 1 [], []⟩) (fun y => code.length - y.1.1) (⟨0, by simp⟩, _) .normA ?_
  rintro ⟨⟨i, hi⟩, h⟩
  simp only
  rcases Nat.lt_or_ge i code.length with hlt | hge
  · refine Kb (Kbc (Ka Y (Ka Y (Kq Y Y (Kj Y Y Y (Ka Y (kGP Y (fun g0 => Ki Y (Ka Y (Ki Y (Kj Y Y Y (Kk Y (Ka Y (Kd (Km Y (fun g1 => Kn (Kb (Kt (Kc (Ka Y (Kj Y Y Y (Ka Y (Ka Y (kIadR Y Y Y om (Ky Y Y (kConv Y (Kj Y Y Y (Kj Y Y Y (Kj Y Y Y (Ka Y (Kd (Kv (Kc (Ka Y (kAdd Y Y om (Ka Y (Kd ?_)))))))))))))))))))))) (fun g1 => kExit (kExC (kExI (kExB (Kbc (Ka Y (Ka Y (kBuildG Y (kBox Y Y Y Y Y (Ka Y (Kd (Kr (Er (ra := [.one (.box [_, _, _])]) rfl ?_))))))))))))))))))))) (fun g0 => om))))))))
    · exact kInv ⟨(⟨i + 1, by omega⟩, _), by simp only; omega, .normA⟩
    · exact ⟨⟨code, 0, h, by omega, by omega, hb⟩, trivial, rfl⟩
  · refine Kb (Kbc (Ka Y (Ka Y (Kq Y Y (Kj Y Y Y (Ka Y (kGP Y (fun g0 => om) (fun g0 => Kg Y (Kg Y (Kl Y (Ka Y (Kd (kCondF Y (kExit (kExC (kExI (kExB (Kbc (Ka Y (Ka Y (kBuildG Y (kBox Y Y Y Y Y (Ka Y (Kd (Kr (Er (ra := [.one (.box [_, _, _])]) rfl ?_))))))))))))))))))))))))))
    exact ⟨⟨code, 0, h, by omega, by omega, hb⟩, trivial, rfl⟩

def c_spec_DrawLost : C := (.g (.o 0 2 (.alloc 2 [(.i 0), (.i 0), (.n 1), (.i 0), (.n 1), (.n 1), (.n 1), (.n 1), (.i 0), (.i 0), (.i 0), (.i 0), (.n 7)]) .done) (.g (.o 0 3 (.mov (.t 0)) (.o 1 4 (.call 4 63 [(.t 3)]) (.o 2 5 (.call 5 103 [(.t 4)]) (.op 3 [] none none false (.store (some 13) (.t 2) (.t 5)) .done)))) .ret))
theorem dg_spec_DrawLost : Tryz.f32.body.bind (digC Tryz.prog Tryz.f32.ntmps []) = some c_spec_DrawLost := by kernel_rfl
theorem rs_spec_DrawLost : resSlots Tryz.prog Tryz.f32 = some [.m 2 (some 13)] := by kernel_rfl
theorem ok_spec_DrawLost (b : List UInt8) (hb : (b.length : Int) ≤ 9223372036854775807) :
    FnOK Tryz.prog 32 [.one (.d (encB b))] (fun ra _ => ∃ x : Task, SmallT x ∧ ra = [.agg [.d (.sc (.int .i64 x.state)), .d (.sc (.int .i64 x.id)), .d (encBB x.fname), .d (.sc (.int .i64 x.ftype)), .d (encBB x.name), .d (encBB x.zone), .d (encI x.hints), .d (encI x.servers), .d (.sc (.int .i64 x.turn)), .d (.sc (.int .i64 x.sends)), .d (.sc (.int .i64 x.steps)), .d (.sc (.int .i64 x.code)), .d (encR x.answers)]]) := by
  refine FnOK.ofK Tryz.func32 (by kernel_rfl) dg_spec_DrawLost rs_spec_DrawLost rfl rfl ?_
  delta c_spec_DrawLost T.o X.i C.g
  refine Kbc (kAlloc Y Y (Kdb (Kc (Ka Y (kCallX false (ok_spec_l1New _ prx) ⟨Y, trivial⟩ Y (fun _ => rfl) (fun _ => rfl) (fun x0 _ hx0 => (Kz (ok_spec_l11bent _) ⟨⟨rfl, _, rfl, rfl⟩, trivial⟩ Y Y Y (fun _ => rfl) (fun x1 hx1 => (kMem [(12288, ⟨1, 0, .box [.d _, .d _, .nil 1, .d _, .nil 1, .nil 1, .nil 1, .nil 1, .d _, .d _, .d _, .d _, .nil 7]⟩)] [(2, .c (.ptr 12288 1 0)), (5, .g [.d _, .d _, .d _, .d _, .d _, .d _, .d _, .d _, .d _, .d _, .d _, .d _, .d _])] [] ⟨Y, trivial⟩ ⟨Y, Y, trivial⟩ Y (Ko Y Y Y Y (Kd (kMem [(12288, ⟨1, 0, .box [.d _, .d _, .d _, .d _, .d _, .d _, .d _, .d _, .d _, .d _, .d _, .d _, .d _]⟩)] [(2, .c (.ptr 12288 1 0))] [] ⟨Y, trivial⟩ ⟨Y, trivial⟩ Y (Kr (Er (ra := [.agg [(.d _), (.d _), (.d _), (.d _), (.d _), (.d _), (.d _), (.d _), (.d _), (.d _), (.d _), (.d _), (.d _)]]) rfl ?_))))))))))))))
  exact ⟨x1.1, hx1, rfl⟩

def c_impl_within : C := (.g (.o 0 6 (.mov (.v (.bool false))) .done) (.g (.o 0 7 (.mov (.t 1)) (.o 1 8 (.mov (.t 0)) (.o 2 9 (.bin .leq (.t 7) (.t 8)) (.o 3 10 (.mov (.t 9)) (.op 4 [] (some 11) (some (10, true)) false (.mov (.t 0)) (.op 5 [] (some 12) (some (10, true)) false (.mov (.t 2)) (.op 6 [] (some 13) (some (10, true)) false (.bin .leq (.t 11) (.t 12)) (.o 7 14 (.pick (.t 10) (.t 13) (.v (.bool false))) (.o 8 6 (.mov (.t 14)) .done))))))))) .ret))
theorem dg_impl_within : Tryz.f109.body.bind (digC Tryz.prog Tryz.f109.ntmps []) = some c_impl_within := by kernel_rfl
theorem rs_impl_within : resSlots Tryz.prog Tryz.f109 = some [.s 6] := by kernel_rfl
theorem ok_impl_within (n lo hi : Int) : FnOK Tryz.prog 109 [.one (.d (.sc (.int .i64 n))), .one (.d (.sc (.int .i64 lo))), .one (.d (.sc (.int .i64 hi)))] (fun ra _ => ra = [.one (.d (.sc (.bool (decide (lo ≤ n ∧ n ≤ hi)))))]) := by
  refine FnOK.ofK Tryz.func109 (by kernel_rfl) dg_impl_within rs_impl_within rfl rfl ?_
  delta c_impl_within T.o X.i C.g
  repeat' first
    | refine kSeq ?_ | refine kReg ?_ | refine kDone ?_ | refine kMovC rfl ?_ | refine kBin rfl rfl rfl ?_
    | refine kGT rfl ?_ | refine kGF rfl ?_ | refine kGU rfl ?_ | refine kG rfl (fun h => ?_) (fun h => ?_)
    | refine kPickT rfl ?_ | refine kPickF rfl ?_ | refine kPick rfl (fun h => ?_) (fun h => ?_) | refine kRet ?_
  all_goals refine endRet (ra := [.one (.d _)]) rfl ⟨⟨⟨rfl, .inl rfl⟩, trivial⟩, .nil, trivial, trivial, trivial, trivial⟩ ?_
  all_goals simp_all
  all_goals omega

def c_impl_all_byte_1 : C := (.g (.o 0 3 (.mov (.v (.bool false))) .done) (.g (.o 0 4 (.load none (.t 1)) (.o 1 5 (.mov (.t 0)) (.o 2 6 (.callv 6 (.t 4) [(.t 5)]) (.o 3 7 (.un .not (.t 6)) (.o 4 3 (.mov (.t 7)) .done))))) .ret))
theorem dg_impl_all_byte_1 : Tryz.f302.body.bind (digC Tryz.prog Tryz.f302.ntmps []) = some c_impl_all_byte_1 := by kernel_rfl
theorem rs_impl_all_byte_1 : resSlots Tryz.prog Tryz.f302 = some [.s 3] := by kernel_rfl
theorem ok_impl_all_byte_1 (x : DV) (D : DV → Prop) (g : DV → Bool) (hx : D x) :
    FnOK Tryz.prog 302 [.one (.d x), .one (.ptr [.fv false (fcPred D g)])] (fun ra _ => ra = [.one (.d (.sc (.bool (!g x))))]) := by
  refine FnOK.ofK Tryz.func302 (by kernel_rfl) dg_impl_all_byte_1 rs_impl_all_byte_1 rfl rfl ?_
  delta c_impl_all_byte_1 T.o X.i C.g
  refine Kbc (Ka Y (Kd ?_))
  refine Kbc (kLoadC Y Y (Ka Y (kCallv Y ⟨x, hx, rfl, rfl⟩ ⟨Y, trivial⟩ (.inr ?_) rfl ?_ rfl ?_)))
  · rintro _ rfl; rfl
  · rintro _ rfl; exact leb
  rintro _ rfl
  refine Kw Y Y (Ka Y (Kd (Kr ?_)))
  exact endRet (ra := [.one (.d _)]) rfl ⟨⟨⟨rfl, .inl rfl⟩, trivial⟩, .nil, trivial, trivial, trivial⟩ rfl

def c_slices_IndexFunc_Lbyte_byte : C := (.g (.o 0 4 (.mov (.i 0)) .done) (.seq (.g (.o 0 6 (.mov (.t 0)) (.o 1 7 (.len (.t 6)) (.o 2 8 (.mov (.i 0)) .done))) (.block 0 (.loop (.g (.o 0 9 (.bin .lss (.t 8) (.t 7)) .done) (.seq (.cond (.t 9) .skip (.exit 0)) (.seq (.block 1 (.g (.o 0 10 (.mov (.t 8)) (.o 1 5 (.mov (.t 10)) .done)) (.g (.o 0 11 (.mov (.t 1)) (.o 1 12 (.mov (.t 0)) (.o 2 13 (.mov (.t 5)) (.o 3 14 (.iad 1 (.t 12) (.t 13)) (.o 4 15 (.load none (.t 14)) (.o 5 16 (.callv 16 (.t 11) [(.t 15)]) .done)))))) (.cond (.t 16) (.g (.o 0 17 (.mov (.t 5)) (.o 1 4 (.mov (.t 17)) .done)) .ret) .skip)))) (.reg false (.o 0 18 (.bin .add (.t 8) (.i 1)) (.o 1 8 (.mov (.t 18)) .done))))))))) (.g (.o 0 4 (.mov (.i (-1))) .done) .ret)))
theorem dg_slices_IndexFunc_Lbyte_byte : Tryz.f337.body.bind (digC Tryz.prog Tryz.f337.ntmps []) = some c_slices_IndexFunc_Lbyte_byte := by kernel_rfl
theorem rs_slices_IndexFunc_Lbyte_byte : resSlots Tryz.prog Tryz.f337 = some [.s 4] := by kernel_rfl
theorem ok_slices_IndexFunc_Lbyte_byte (l : List DV) (D : DV → Prop) (g : DV → Bool) (hl : (l.length : Int) ≤ 9223372036854775807) (hD : ∀ x ∈ l, D x) :
    FnOK Tryz.prog 337 [.one (.d (lst l)), .one (.fv false (fcPred D g))] (fun ra _ => ra = [.one (.d (.sc (.int .i64 (idxF g l))))]) := by
  refine FnOK.ofK Tryz.func337 (by kernel_rfl) dg_slices_IndexFunc_Lbyte_byte rs_slices_IndexFunc_Lbyte_byte rfl rfl ?_
  delta c_slices_IndexFunc_Lbyte_byte T.o X.i C.g
  refine Kbc (Ka Y (Kd ?_))
  refine Kb (Kbc (Ka Y (kLen Y Y Y (Ka Y (Kd (Kt ?_))))))
  rw [len_lst]
  refine kLoop (α := { i : Nat // i ≤ l.length ∧ ∀ x ∈ l.take i, g x = false })
    (fun y => ⟨tabSl [(0, .dv (lst l)), (1, .c (.fv false (fcPred D g))), (7, .i l.length), (8, .i y.1)], (St.init [.one (.d (lst l)), .one (.fv false (fcPred D g))]).ob, []⟩) (fun y => l.length - y.1) ⟨0, by simp⟩
    (.tab rfl ⟨.refl _, .refl _, .refl _, .refl _, trivial⟩) ?_
  rintro ⟨i, hi, hg⟩
  simp only
  refine Kbc (Kj Y Y Y (Kd ?_))
  refine Kb (kCond Y (fun h1 => ?_) (fun h1 => ?_))
  · have hlt : i < l.length := by simp at h1; omega
    refine Kn (Kb (Kt (Kbc (Ka Y (Ka Y (Kd ?_))))))
    refine Kbc (Ka Y (Ka Y (Ka Y (kIadD Y Y Y Y ?_ ?_))))
    · rw [len_lst]; omega
    rw [show (lst l).row (i : Int).toNat = [l[i]] from row_lst l i hlt]
    refine Ky Y Y (kCallv Y ⟨l[i], hD _ (List.getElem_mem hlt), rfl, rfl⟩ ⟨Y, trivial⟩ (.inr ?_) rfl ?_ rfl ?_)
    · rintro _ rfl; rfl
    · rintro _ rfl; exact leb
    rintro _ rfl
    refine Kd (kCond Y (fun h2 => ?_) (fun h2 => ?_))
    · refine Kbc (Ka Y (Ka Y (Kd (Kr ?_))))
      refine endRet (ra := [.one (.d _)]) rfl ⟨⟨⟨rfl, .inl rfl⟩, trivial⟩, .nil, trivial, trivial, trivial⟩ ?_
      have : l.findIdx? g = some i := by
        rw [List.findIdx?_eq_some_iff_getElem]
        refine ⟨hlt, h2, fun j hj => ?_⟩
        simpa using hg _ (by rw [List.mem_take_iff_getElem]; exact ⟨j, by omega, rfl⟩)
      simp [idxF, this]
    · refine Kn (Kv (Kc (kAdd Y Y ?_ (Ka Y (Kd (kInv ?_))))))
      · omega
      refine ⟨⟨i + 1, hlt, ?_⟩, by simp only; omega, .tab rfl ⟨.refl _, .refl _, .refl _, .refl _, trivial⟩⟩
      intro x hx
      rw [← List.take_append_getElem hlt, List.mem_append] at hx
      rcases hx with hx | hx
      · exact hg x hx
      · simp at hx; rw [hx]; exact h2
  · refine kExit (kExC (kExI (kExB ?_)))
    have hge : i = l.length := by simp at h1; omega
    refine Kbc (Ka Y (Kd (Kr ?_)))
    refine endRet (ra := [.one (.d _)]) rfl ⟨⟨⟨rfl, .inl rfl⟩, trivial⟩, .nil, trivial, trivial, trivial⟩ ?_
    have : l.findIdx? g = none := by
      rw [List.findIdx?_eq_none_iff]
      intro x hx
      rw [hge, List.take_length] at hg
      exact hg x hx
    simp [idxF, this]

def c_slices_ContainsFunc_Lbyte_byte : C := (.g (.o 0 4 (.mov (.v (.bool false))) .done) (.g (.o 0 5 (.mov (.t 0)) (.o 1 6 (.mov (.t 1)) (.o 2 7 (.call 7 337 [(.t 5), (.t 6)]) (.o 3 8 (.bin .geq (.t 7) (.i 0)) (.o 4 4 (.mov (.t 8)) .done))))) .ret))
theorem dg_slices_ContainsFunc_Lbyte_byte : Tryz.f301.body.bind (digC Tryz.prog Tryz.f301.ntmps []) = some c_slices_ContainsFunc_Lbyte_byte := by kernel_rfl
theorem rs_slices_ContainsFunc_Lbyte_byte : resSlots Tryz.prog Tryz.f301 = some [.s 4] := by kernel_rfl
theorem ok_slices_ContainsFunc_Lbyte_byte (l : List DV) (D : DV → Prop) (g : DV → Bool) (hl : (l.length : Int) ≤ 9223372036854775807) (hD : ∀ x ∈ l, D x) :
    FnOK Tryz.prog 301 [.one (.d (lst l)), .one (.fv false (fcPred D g))] (fun ra _ => ra = [.one (.d (.sc (.bool (l.any g))))]) := by
  refine FnOK.ofK Tryz.func301 (by kernel_rfl) dg_slices_ContainsFunc_Lbyte_byte rs_slices_ContainsFunc_Lbyte_byte rfl rfl ?_
  delta c_slices_ContainsFunc_Lbyte_byte T.o X.i C.g
  refine Kbc (Ka Y (Kd ?_))
  refine Kbc (Ka Y (Ka Y ?_))
  refine Ku true (ok_slices_IndexFunc_Lbyte_byte l D g hl hD) ⟨rfl, ⟨fun h => h, fun _ _ h => h⟩, trivial⟩ rfl rfl rfl fun os => ?_
  refine Kj Y Y Y (Ka Y (Kd (Kr ?_)))
  refine endRet (ra := [.one (.d _)]) rfl ⟨⟨⟨rfl, .inl rfl⟩, trivial⟩, .nil, trivial, trivial, trivial⟩ ?_
  have : decide (idxF g l ≥ 0) = l.any g := by
    unfold idxF
    cases h : l.findIdx? g with
    | none =>
      rw [List.findIdx?_eq_none_iff] at h
      have : l.any g = false := by rw [List.any_eq_false]; intro x hx; simp [h x hx]
      rw [this]; rfl
    | some i =>
      rw [List.findIdx?_eq_some_iff_getElem] at h
      obtain ⟨h1, h2, _⟩ := h
      have : l.any g = true := by rw [List.any_eq_true]; exact ⟨_, List.getElem_mem h1, h2⟩
      rw [this]; simp
  rw [this]

def c_impl_all_byte : C := (.g (.o 0 3 (.box 3 (.t 1)) (.o 1 4 (.mov (.v (.bool false))) .done)) (.g (.o 0 5 (.mov (.t 0)) (.o 1 6 (.clo 302 [] [(.t 3)]) (.o 2 7 (.call 7 301 [(.t 5), (.t 6)]) (.o 3 8 (.un .not (.t 7)) (.o 4 4 (.mov (.t 8)) .done))))) .ret))
theorem dg_impl_all_byte : Tryz.f243.body.bind (digC Tryz.prog Tryz.f243.ntmps []) = some c_impl_all_byte := by kernel_rfl
theorem rs_impl_all_byte : resSlots Tryz.prog Tryz.f243 = some [.s 4] := by kernel_rfl
theorem ok_impl_all_byte (l : List DV) (D : DV → Prop) (g : DV → Bool) (hl : (l.length : Int) ≤ 9223372036854775807) (hD : ∀ x ∈ l, D x) :
    FnOK Tryz.prog 243 [.one (.d (lst l)), .one (.fv false (fcPred D g))] (fun ra _ => ra = [.one (.d (.sc (.bool (l.all g))))]) := by
  refine FnOK.ofK Tryz.func243 (by kernel_rfl) dg_impl_all_byte rs_impl_all_byte rfl rfl ?_
  delta c_impl_all_byte T.o X.i C.g
  refine Kbc (kBox Y Y Y Y Y (Ka Y (Kd ?_)))
  refine Kbc (Ka Y (kClo Y Y ?_))
  refine Ku true (ok_slices_ContainsFunc_Lbyte_byte l D (fun x => !g x) hl hD) ⟨rfl, ⟨rfl, ⟨_, Tryz.func302, rfl, by kernel_rfl⟩, _, rfl, ?_⟩, trivial⟩ rfl rfl rfl fun os => ?_
  · rintro l R ⟨x, hx, rfl, rfl⟩
    exact ⟨by rintro _ rfl; rfl, ok_impl_all_byte_1 x D g hx⟩
  refine Kw Y Y (Ka Y (Kd (Kr ?_)))
  refine endRet (ra := [.one (.d _)]) rfl ⟨⟨⟨rfl, .inl rfl⟩, trivial⟩, .nil, trivial, trivial, trivial⟩ ?_
  simp [List.all_eq_not_any_not]

def c_impl_LabelOk_1 : C := (.g (.o 0 2 (.mov (.v (.bool false))) .done) (.g (.o 0 3 (.mov (.t 0)) (.o 1 4 (.bin .geq (.t 3) (.v (.int .u8 97))) (.o 2 5 (.mov (.t 4)) (.op 3 [] (some 6) (some (5, true)) false (.mov (.t 0)) (.op 4 [] (some 7) (some (5, true)) false (.bin .leq (.t 6) (.v (.int .u8 122))) (.o 5 8 (.pick (.t 5) (.t 7) (.v (.bool false))) (.o 6 9 (.mov (.t 8)) (.op 7 [] (some 10) (some (9, false)) false (.mov (.t 0)) (.op 8 [] (some 11) (some (9, false)) false (.bin .geq (.t 10) (.v (.int .u8 48))) (.op 9 [] (some 12) (some (9, false)) false (.mov (.t 11)) (.op 10 [] (some 13) (some (12, true)) false (.mov (.t 0)) (.op 11 [] (some 14) (some (12, true)) false (.bin .leq (.t 13) (.v (.int .u8 57))) (.op 12 [] (some 15) (some (9, false)) false (.pick (.t 12) (.t 14) (.v (.bool false))) (.o 13 16 (.pick (.t 9) (.v (.bool true)) (.t 15)) (.o 14 17 (.mov (.t 16)) (.op 15 [] (some 18) (some (17, false)) false (.mov (.t 0)) (.op 16 [] (some 19) (some (17, false)) false (.bin .eql (.t 18) (.v (.int .u8 45))) (.o 17 20 (.pick (.t 17) (.v (.bool true)) (.t 19)) (.o 18 2 (.mov (.t 20)) .done))))))))))))))))))) .ret))
theorem dg_impl_LabelOk_1 : Tryz.f244.body.bind (digC Tryz.prog Tryz.f244.ntmps []) = some c_impl_LabelOk_1 := by kernel_rfl
theorem rs_impl_LabelOk_1 : resSlots Tryz.prog Tryz.f244 = some [.s 2] := by kernel_rfl
theorem ok_impl_LabelOk_1 (b : UInt8) : FnOK Tryz.prog 244 [.one (.d (.sc (.int .u8 b.toNat)))] (fun ra _ => ra = [.one (.d (.sc (.bool (okLetter b))))]) := by
  refine FnOK.ofK Tryz.func244 (by kernel_rfl) dg_impl_LabelOk_1 rs_impl_LabelOk_1 rfl rfl ?_
  delta c_impl_LabelOk_1 T.o X.i C.g
  repeat' first
    | refine kSeq ?_ | refine kReg ?_ | refine kDone ?_ | refine kMovC rfl ?_ | refine kBin rfl rfl rfl ?_
    | refine kGT rfl ?_ | refine kGF rfl ?_ | refine kGU rfl ?_ | refine kG rfl (fun h => ?_) (fun h => ?_)
    | refine kPickT rfl ?_ | refine kPickF rfl ?_ | refine kPick rfl (fun h => ?_) (fun h => ?_) | refine kRet ?_
  all_goals refine endRet (ra := [.one (.d _)]) rfl ⟨⟨⟨rfl, .inl rfl⟩, trivial⟩, .nil, trivial, trivial⟩ ?_
  all_goals simp_all [okLetter]
  all_goals first | omega | (rw [Bool.eq_iff_iff]; simp; omega)

def c_impl_LabelOk : C := (.g (.o 0 2 (.mov (.v (.bool false))) .done) (.g (.o 0 3 (.mov (.t 0)) (.o 1 4 (.len (.t 3)) (.o 2 5 (.call 5 109 [(.t 4), (.i 1), (.i 15)]) (.o 3 6 (.mov (.t 5)) (.op 4 [] (some 7) (some (6, true)) false (.mov (.t 0)) (.op 5 [] (some 8) (some (6, true)) false (.call 8 243 [(.t 7), (.fn 244)]) (.o 6 9 (.pick (.t 6) (.t 8) (.v (.bool false))) (.o 7 2 (.mov (.t 9)) .done)))))))) .ret))
theorem dg_impl_LabelOk : Tryz.f161.body.bind (digC Tryz.prog Tryz.f161.ntmps []) = some c_impl_LabelOk := by kernel_rfl
theorem rs_impl_LabelOk : resSlots Tryz.prog Tryz.f161 = some [.s 2] := by kernel_rfl
theorem ok_impl_LabelOk (b : List UInt8) (hb : b.length ≤ 4194304) :
    FnOK Tryz.prog 161 [.one (.d (encB b))] (fun ra _ => ra = [.one (.d (.sc (.bool (labelOk b))))]) := by
  refine FnOK.ofK Tryz.func161 (by kernel_rfl) dg_impl_LabelOk rs_impl_LabelOk rfl rfl ?_
  delta c_impl_LabelOk T.o X.i C.g
  refine Kbc (Ka Y (Kdb (Kc (Ka Y (Kq Y Y (Kp (ok_impl_within _ _ _) ⟨Y, Y, Y, trivial⟩ Y Y Y Y Y (Ka Y (kGP Y (fun g0 => Ki Y (Ka Y (Ki Y ?_))) (fun g0 => Kg Y (Kg Y (Kl Y (Ka Y (Ka Y (Kd (Kr (Er (ra := [.one (.d _)]) rfl ?_))))))))))))))))
  · refine Ku true (ok_impl_all_byte (b.map fun b : UInt8 => .sc (.int .u8 b.toNat)) is8 (fun x => okLetter (dec8 x)) (by simp; omega) (fun x hx => by obtain ⟨c, _, rfl⟩ := List.mem_map.1 hx; exact ⟨c, rfl⟩)) ⟨congrArg some (encB_lst b), ⟨rfl, rfl, ⟨_, Tryz.func244, rfl, by kernel_rfl⟩, ?_⟩, trivial⟩ Y Y Y (fun _ => ?_)
    · rintro _ R ⟨x, ⟨c, rfl⟩, rfl, rfl⟩
      have := ok_impl_LabelOk_1 c
      simp only [dec8_enc]
      exact this
    refine Kk Y (Ka Y (Ka Y (Kd (Kr (Er (ra := [.one (.d _)]) rfl ?_)))))
    rw [all_dec8, show labelOk b = b.all okLetter by simp only [labelOk]; rw [decide_eq_true (by omega), decide_eq_true (by omega)]; rfl]
  · rw [show labelOk b = false by simp only [labelOk]; rw [show (decide (1 ≤ b.length) && decide (b.length ≤ 15)) = false by simp; omega]; rfl]

def c_impl_all_Lbyte_1 : C := (.g (.o 0 3 (.mov (.v (.bool false))) .done) (.g (.o 0 4 (.load none (.t 1)) (.o 1 5 (.mov (.t 0)) (.o 2 6 (.callv 6 (.t 4) [(.t 5)]) (.o 3 7 (.un .not (.t 6)) (.o 4 3 (.mov (.t 7)) .done))))) .ret))
theorem dg_impl_all_Lbyte_1 : Tryz.f242.body.bind (digC Tryz.prog Tryz.f242.ntmps []) = some c_impl_all_Lbyte_1 := by kernel_rfl
theorem rs_impl_all_Lbyte_1 : resSlots Tryz.prog Tryz.f242 = some [.s 3] := by kernel_rfl
theorem ok_impl_all_Lbyte_1 (x : DV) (D : DV → Prop) (g : DV → Bool) (hx : D x) :
    FnOK Tryz.prog 242 [.one (.d x), .one (.ptr [.fv false (fcPred D g)])] (fun ra _ => ra = [.one (.d (.sc (.bool (!g x))))]) := by
  refine FnOK.ofK Tryz.func242 (by kernel_rfl) dg_impl_all_Lbyte_1 rs_impl_all_Lbyte_1 rfl rfl ?_
  delta c_impl_all_Lbyte_1 T.o X.i C.g
  refine Kbc (Ka Y (Kd ?_))
  refine Kbc (kLoadC Y Y (Ka Y (kCallv Y ⟨x, hx, rfl, rfl⟩ ⟨Y, trivial⟩ (.inr ?_) rfl ?_ rfl ?_)))
  · rintro _ rfl; rfl
  · rintro _ rfl; exact leb
  rintro _ rfl
  refine Kw Y Y (Ka Y (Kd (Kr ?_)))
  exact endRet (ra := [.one (.d _)]) rfl ⟨⟨⟨rfl, .inl rfl⟩, trivial⟩, .nil, trivial, trivial, trivial⟩ rfl

def c_slices_IndexFunc_LLbyte_Lbyte : C := (.g (.o 0 4 (.mov (.i 0)) .done) (.seq (.g (.o 0 6 (.mov (.t 0)) (.o 1 7 (.len (.t 6)) (.o 2 8 (.mov (.i 0)) .done))) (.block 0 (.loop (.g (.o 0 9 (.bin .lss (.t 8) (.t 7)) .done) (.seq (.cond (.t 9) .skip (.exit 0)) (.seq (.block 1 (.g (.o 0 10 (.mov (.t 8)) (.o 1 5 (.mov (.t 10)) .done)) (.g (.o 0 11 (.mov (.t 1)) (.o 1 12 (.mov (.t 0)) (.o 2 13 (.mov (.t 5)) (.o 3 14 (.iad 1 (.t 12) (.t 13)) (.o 4 15 (.load none (.t 14)) (.o 5 16 (.callv 16 (.t 11) [(.t 15)]) .done)))))) (.cond (.t 16) (.g (.o 0 17 (.mov (.t 5)) (.o 1 4 (.mov (.t 17)) .done)) .ret) .skip)))) (.reg false (.o 0 18 (.bin .add (.t 8) (.i 1)) (.o 1 8 (.mov (.t 18)) .done))))))))) (.g (.o 0 4 (.mov (.i (-1))) .done) .ret)))
theorem dg_slices_IndexFunc_LLbyte_Lbyte : Tryz.f300.body.bind (digC Tryz.prog Tryz.f300.ntmps []) = some c_slices_IndexFunc_LLbyte_Lbyte := by kernel_rfl
theorem rs_slices_IndexFunc_LLbyte_Lbyte : resSlots Tryz.prog Tryz.f300 = some [.s 4] := by kernel_rfl
theorem ok_slices_IndexFunc_LLbyte_Lbyte (l : List DV) (D : DV → Prop) (g : DV → Bool) (hl : (l.length : Int) ≤ 9223372036854775807) (hD : ∀ x ∈ l, D x) :
    FnOK Tryz.prog 300 [.one (.d (lst l)), .one (.fv false (fcPred D g))] (fun ra _ => ra = [.one (.d (.sc (.int .i64 (idxF g l))))]) := by
  refine FnOK.ofK Tryz.func300 (by kernel_rfl) dg_slices_IndexFunc_LLbyte_Lbyte rs_slices_IndexFunc_LLbyte_Lbyte rfl rfl ?_
  delta c_slices_IndexFunc_LLbyte_Lbyte T.o X.i C.g
  refine Kbc (Ka Y (Kd ?_))
  refine Kb (Kbc (Ka Y (kLen Y Y Y (Ka Y (Kd (Kt ?_))))))
  rw [len_lst]
  refine kLoop (α := { i : Nat // i ≤ l.length ∧ ∀ x ∈ l.take i, g x = false })
    (fun y => ⟨tabSl [(0, .dv (lst l)), (1, .c (.fv false (fcPred D g))), (7, .i l.length), (8, .i y.1)], (St.init [.one (.d (lst l)), .one (.fv false (fcPred D g))]).ob, []⟩) (fun y => l.length - y.1) ⟨0, by simp⟩
    (.tab rfl ⟨.refl _, .refl _, .refl _, .refl _, trivial⟩) ?_
  rintro ⟨i, hi, hg⟩
  simp only
  refine Kbc (Kj Y Y Y (Kd ?_))
  refine Kb (kCond Y (fun h1 => ?_) (fun h1 => ?_))
  · have hlt : i < l.length := by simp at h1; omega
    refine Kn (Kb (Kt (Kbc (Ka Y (Ka Y (Kd ?_))))))
    refine Kbc (Ka Y (Ka Y (Ka Y (kIadD Y Y Y Y ?_ ?_))))
    · rw [len_lst]; omega
    rw [show (lst l).row (i : Int).toNat = [l[i]] from row_lst l i hlt]
    refine Ky Y Y (kCallv Y ⟨l[i], hD _ (List.getElem_mem hlt), rfl, rfl⟩ ⟨Y, trivial⟩ (.inr ?_) rfl ?_ rfl ?_)
    · rintro _ rfl; rfl
    · rintro _ rfl; exact leb
    rintro _ rfl
    refine Kd (kCond Y (fun h2 => ?_) (fun h2 => ?_))
    · refine Kbc (Ka Y (Ka Y (Kd (Kr ?_))))
      refine endRet (ra := [.one (.d _)]) rfl ⟨⟨⟨rfl, .inl rfl⟩, trivial⟩, .nil, trivial, trivial, trivial⟩ ?_
      have : l.findIdx? g = some i := by
        rw [List.findIdx?_eq_some_iff_getElem]
        refine ⟨hlt, h2, fun j hj => ?_⟩
        simpa using hg _ (by rw [List.mem_take_iff_getElem]; exact ⟨j, by omega, rfl⟩)
      simp [idxF, this]
    · refine Kn (Kv (Kc (kAdd Y Y ?_ (Ka Y (Kd (kInv ?_))))))
      · omega
      refine ⟨⟨i + 1, hlt, ?_⟩, by simp only; omega, .tab rfl ⟨.refl _, .refl _, .refl _, .refl _, trivial⟩⟩
      intro x hx
      rw [← List.take_append_getElem hlt, List.mem_append] at hx
      rcases hx with hx | hx
      · exact hg x hx
      · simp at hx; rw [hx]; exact h2
  · refine kExit (kExC (kExI (kExB ?_)))
    have hge : i = l.length := by simp at h1; omega
    refine Kbc (Ka Y (Kd (Kr ?_)))
    refine endRet (ra := [.one (.d _)]) rfl ⟨⟨⟨rfl, .inl rfl⟩, trivial⟩, .nil, trivial, trivial, trivial⟩ ?_
    have : l.findIdx? g = none := by
      rw [List.findIdx?_eq_none_iff]
      intro x hx
      rw [hge, List.take_length] at hg
      exact hg x hx
    simp [idxF, this]

def c_slices_ContainsFunc_LLbyte_Lbyte : C := (.g (.o 0 4 (.mov (.v (.bool false))) .done) (.g (.o 0 5 (.mov (.t 0)) (.o 1 6 (.mov (.t 1)) (.o 2 7 (.call 7 300 [(.t 5), (.t 6)]) (.o 3 8 (.bin .geq (.t 7) (.i 0)) (.o 4 4 (.mov (.t 8)) .done))))) .ret))
theorem dg_slices_ContainsFunc_LLbyte_Lbyte : Tryz.f241.body.bind (digC Tryz.prog Tryz.f241.ntmps []) = some c_slices_ContainsFunc_LLbyte_Lbyte := by kernel_rfl
theorem rs_slices_ContainsFunc_LLbyte_Lbyte : resSlots Tryz.prog Tryz.f241 = some [.s 4] := by kernel_rfl
theorem ok_slices_ContainsFunc_LLbyte_Lbyte (l : List DV) (D : DV → Prop) (g : DV → Bool) (hl : (l.length : Int) ≤ 9223372036854775807) (hD : ∀ x ∈ l, D x) :
    FnOK Tryz.prog 241 [.one (.d (lst l)), .one (.fv false (fcPred D g))] (fun ra _ => ra = [.one (.d (.sc (.bool (l.any g))))]) := by
  refine FnOK.ofK Tryz.func241 (by kernel_rfl) dg_slices_ContainsFunc_LLbyte_Lbyte rs_slices_ContainsFunc_LLbyte_Lbyte rfl rfl ?_
  delta c_slices_ContainsFunc_LLbyte_Lbyte T.o X.i C.g
  refine Kbc (Ka Y (Kd ?_))
  refine Kbc (Ka Y (Ka Y ?_))
  refine Ku true (ok_slices_IndexFunc_LLbyte_Lbyte l D g hl hD) ⟨rfl, ⟨fun h => h, fun _ _ h => h⟩, trivial⟩ rfl rfl rfl fun os => ?_
  refine Kj Y Y Y (Ka Y (Kd (Kr ?_)))
  refine endRet (ra := [.one (.d _)]) rfl ⟨⟨⟨rfl, .inl rfl⟩, trivial⟩, .nil, trivial, trivial, trivial⟩ ?_
  have : decide (idxF g l ≥ 0) = l.any g := by
    unfold idxF
    cases h : l.findIdx? g with
    | none =>
      rw [List.findIdx?_eq_none_iff] at h
      have : l.any g = false := by rw [List.any_eq_false]; intro x hx; simp [h x hx]
      rw [this]; rfl
    | some i =>
      rw [List.findIdx?_eq_some_iff_getElem] at h
      obtain ⟨h1, h2, _⟩ := h
      have : l.any g = true := by rw [List.any_eq_true]; exact ⟨_, List.getElem_mem h1, h2⟩
      rw [this]; simp
  rw [this]

def c_impl_all_Lbyte : C := (.g (.o 0 3 (.box 3 (.t 1)) (.o 1 4 (.mov (.v (.bool false))) .done)) (.g (.o 0 5 (.mov (.t 0)) (.o 1 6 (.clo 242 [] [(.t 3)]) (.o 2 7 (.call 7 241 [(.t 5), (.t 6)]) (.o 3 8 (.un .not (.t 7)) (.o 4 4 (.mov (.t 8)) .done))))) .ret))
theorem dg_impl_all_Lbyte : Tryz.f160.body.bind (digC Tryz.prog Tryz.f160.ntmps []) = some c_impl_all_Lbyte := by kernel_rfl
theorem rs_impl_all_Lbyte : resSlots Tryz.prog Tryz.f160 = some [.s 4] := by kernel_rfl
theorem ok_impl_all_Lbyte (l : List DV) (D : DV → Prop) (g : DV → Bool) (hl : (l.length : Int) ≤ 9223372036854775807) (hD : ∀ x ∈ l, D x) :
    FnOK Tryz.prog 160 [.one (.d (lst l)), .one (.fv false (fcPred D g))] (fun ra _ => ra = [.one (.d (.sc (.bool (l.all g))))]) := by
  refine FnOK.ofK Tryz.func160 (by kernel_rfl) dg_impl_all_Lbyte rs_impl_all_Lbyte rfl rfl ?_
  delta c_impl_all_Lbyte T.o X.i C.g
  refine Kbc (kBox Y Y Y Y Y (Ka Y (Kd ?_)))
  refine Kbc (Ka Y (kClo Y Y ?_))
  refine Ku true (ok_slices_ContainsFunc_LLbyte_Lbyte l D (fun x => !g x) hl hD) ⟨rfl, ⟨rfl, ⟨_, Tryz.func242, rfl, by kernel_rfl⟩, _, rfl, ?_⟩, trivial⟩ rfl rfl rfl fun os => ?_
  · rintro l R ⟨x, hx, rfl, rfl⟩
    exact ⟨by rintro _ rfl; rfl, ok_impl_all_Lbyte_1 x D g hx⟩
  refine Kw Y Y (Ka Y (Kd (Kr ?_)))
  refine endRet (ra := [.one (.d _)]) rfl ⟨⟨⟨rfl, .inl rfl⟩, trivial⟩, .nil, trivial, trivial, trivial⟩ ?_
  simp [List.all_eq_not_any_not]

def c_impl_NameOk : C := (.g (.o 0 1 (.box 1 (.t 0)) (.o 1 2 (.mov (.v (.bool false))) .done)) (.g (.o 0 3 (.fad (.t 1) 0) (.o 1 4 (.load none (.t 3)) (.o 2 5 (.len (.t 4)) (.o 3 6 (.bin .leq (.t 5) (.i 6)) (.o 4 7 (.mov (.t 6)) (.op 5 [] (some 8) (some (7, true)) false (.fad (.t 1) 0) (.op 6 [] (some 9) (some (7, true)) false (.load none (.t 8)) (.op 7 [] (some 10) (some (7, true)) false (.call 10 160 [(.t 9), (.fn 161)]) (.o 8 11 (.pick (.t 7) (.t 10) (.v (.bool false))) (.o 9 2 (.mov (.t 11)) .done)))))))))) .ret))
theorem dg_impl_NameOk : Tryz.f71.body.bind (digC Tryz.prog Tryz.f71.ntmps []) = some c_impl_NameOk := by kernel_rfl
theorem rs_impl_NameOk : resSlots Tryz.prog Tryz.f71 = some [.s 2] := by kernel_rfl
theorem ok_impl_NameOk (a : List (List UInt8)) (ha : a.length ≤ 4194304) (hb : ∀ b ∈ a, b.length ≤ 4194304) :
    FnOK Tryz.prog 71 [.agg [.d (encBB a)]] (fun ra _ => ra = [.one (.d (.sc (.bool (nameOk a))))]) := by
  refine FnOK.ofK Tryz.func71 (by kernel_rfl) dg_impl_NameOk rs_impl_NameOk rfl rfl ?_
  delta c_impl_NameOk T.o X.i C.g
  refine Kbc (kBox Y Y Y Y Y (Ka Y (Kdb (Kc (Kf Y Y (Ke Y Y Y (Kq Y Y (Kj Y Y Y (Ka Y (kGP Y (fun g0 => Ki Y (Kf Y Y (Ki Y (Ke Y Y Y (Ki Y ?_))))) (fun g0 => Kg Y (Kg Y (Kg Y (Kl Y (Ka Y (Ka Y (Kd (Kr (Er (ra := [.one (.d _)]) rfl ?_)))))))))))))))))))
  · refine Ku true (ok_impl_all_Lbyte (a.map encB) (fun x => ∃ b : List UInt8, x = encB b ∧ b.length ≤ 4194304) (fun x => labelOk (decB x)) (by simp; omega) (fun x hx => by obtain ⟨c, h, rfl⟩ := List.mem_map.1 hx; exact ⟨c, rfl, hb c h⟩)) ⟨congrArg some (encBB_lst a), ⟨rfl, rfl, ⟨_, Tryz.func161, rfl, by kernel_rfl⟩, ?_⟩, trivial⟩ Y Y Y (fun _ => ?_)
    · rintro _ R ⟨x, ⟨c, rfl, h⟩, rfl, rfl⟩
      have := ok_impl_LabelOk c h
      simp only [decB_enc]
      exact this
    refine Kk Y (Ka Y (Ka Y (Kd (Kr (Er (ra := [.one (.d _)]) rfl ?_)))))
    rw [all_decB, show nameOk a = a.all labelOk by simp only [nameOk]; rw [decide_eq_true (by omega)]; rfl]
  · rw [show nameOk a = false by simp only [nameOk]; rw [decide_eq_false (by omega)]; rfl]

def typeTab : List (Int × ByteArray) := [(1, ⟨#[65]⟩), (2, ⟨#[78, 83]⟩), (5, ⟨#[67, 78, 65, 77, 69]⟩), (6, ⟨#[83, 79, 65]⟩), (12, ⟨#[80, 84, 82]⟩), (16, ⟨#[84, 88, 84]⟩), (49, ⟨#[68, 72, 67, 73, 68]⟩)]
def typeNm (n : Int) : ByteArray := ((typeTab.find? fun e => n == e.1).map (·.2)).getD ByteArray.empty
theorem ok_impl_typeName (n : Int) : FnOK Tryz.prog 180 [.one (.d (.sc (.int .i64 n)))] (fun ra _ => ra = [.one (.d (.sc (.string (typeNm n))))]) := by
  refine FnOK.ofWalk Tryz.func180 rfl (by kernel_rfl) fun w => ?_
  have kk : Tryz.prog.underlying 3 = some (.int .i64) := by kernel_rfl
  have hmm := @Go.RowKit.run_makeMap Tryz.prog
  go_enter Tryz.func180, Tryz.ntmps180
  go_wp2
  have t0 : Tab (w.alloc (.map #[] 0)) w.heap.size [] := ⟨_, _, (MapKept.heap_alloc w _).1, rfl⟩
  have b0 : BelowD w.heap.size w (w.alloc (.map #[] 0)) := ⟨(Go.RowKit.Below.refl _ _).alloc (Nat.le_refl _) _, Nat.le_refl _⟩
  have st : ∀ {w1 w2 : World}, BelowD w.heap.size w w1 → Ext w1 w2 (fun b => b = w.heap.size) → BelowD w.heap.size w w2 := fun h e => ⟨⟨e.os.trans h.1.os, e.tape.trans h.1.tape, e.output.trans h.1.output, Nat.le_trans h.1.size e.size, fun k hk => (e.same k (Nat.lt_of_lt_of_le hk h.1.size) (by omega)).trans (h.1.block k hk)⟩, Nat.le_trans h.2 e.drawn⟩
  refine upon_insert (kt := 3) (et := 9) ?_ kk t0 ?_ (fun w1 t1 e1 => ?_)
  · kernel_rfl
  · rfl
  have b1 := st b0 e1
  go_wp2
  refine upon_insert (kt := 3) (et := 9) ?_ kk t1 ?_ (fun w2 t2 e2 => ?_)
  · kernel_rfl
  · rfl
  have b2 := st b1 e2
  go_wp2
  refine upon_insert (kt := 3) (et := 9) ?_ kk t2 ?_ (fun w3 t3 e3 => ?_)
  · kernel_rfl
  · rfl
  have b3 := st b2 e3
  go_wp2
  refine upon_insert (kt := 3) (et := 9) ?_ kk t3 ?_ (fun w4 t4 e4 => ?_)
  · kernel_rfl
  · rfl
  have b4 := st b3 e4
  go_wp2
  refine upon_insert (kt := 3) (et := 9) ?_ kk t4 ?_ (fun w5 t5 e5 => ?_)
  · kernel_rfl
  · rfl
  have b5 := st b4 e5
  go_wp2
  refine upon_insert (kt := 3) (et := 9) ?_ kk t5 ?_ (fun w6 t6 e6 => ?_)
  · kernel_rfl
  · rfl
  have b6 := st b5 e6
  go_wp2
  refine upon_insert (kt := 3) (et := 9) ?_ kk t6 ?_ (fun w7 t7 e7 => ?_)
  · kernel_rfl
  · rfl
  have b7 := st b6 e7
  go_wp2
  refine upon_find (kt := 3) (et := 9) ?_ kk ?_ t7 ?_
  · kernel_rfl
  · rfl
  go_wp2
  all_goals go_ret
  exact ⟨rfl, b7⟩
theorem typeNm_ok (n : Int) : (!((typeNm n).toList == (⟨#[]⟩ : ByteArray).toList)) = tyOk n := by
  by_cases h1 : n = 1
  · subst h1; rw [ByteArray.toList_eq, ByteArray.toList_eq]; rfl
  by_cases h2 : n = 2
  · subst h2; rw [ByteArray.toList_eq, ByteArray.toList_eq]; rfl
  by_cases h3 : n = 5
  · subst h3; rw [ByteArray.toList_eq, ByteArray.toList_eq]; rfl
  by_cases h4 : n = 6
  · subst h4; rw [ByteArray.toList_eq, ByteArray.toList_eq]; rfl
  by_cases h5 : n = 12
  · subst h5; rw [ByteArray.toList_eq, ByteArray.toList_eq]; rfl
  by_cases h6 : n = 16
  · subst h6; rw [ByteArray.toList_eq, ByteArray.toList_eq]; rfl
  by_cases h7 : n = 49
  · subst h7; rw [ByteArray.toList_eq, ByteArray.toList_eq]; rfl
  have e : ∀ m : Int, n ≠ m → (n == m) = false := fun m h => by simpa using h
  have : typeNm n = ByteArray.empty := by
    unfold typeNm typeTab
    simp only [List.find?_cons, e 1 h1, e 2 h2, e 5 h3, e 6 h4, e 12 h5, e 16 h6, e 49 h7, List.find?_nil]
    rfl
  rw [this]
  simp only [tyOk, e 1 h1, e 2 h2, e 5 h3, e 6 h4, e 12 h5, e 16 h6, e 49 h7]
  rw [ByteArray.toList_eq, ByteArray.toList_eq]; rfl

def c_impl_TypeOk : C := (.g (.o 0 2 (.mov (.v (.bool false))) .done) (.g (.o 0 3 (.mov (.t 0)) (.o 1 4 (.call 4 180 [(.t 3)]) (.o 2 5 (.bin .neq (.t 4) (.v (.string ⟨#[]⟩))) (.o 3 2 (.mov (.t 5)) .done)))) .ret))
theorem dg_impl_TypeOk : Tryz.f89.body.bind (digC Tryz.prog Tryz.f89.ntmps []) = some c_impl_TypeOk := by kernel_rfl
theorem rs_impl_TypeOk : resSlots Tryz.prog Tryz.f89 = some [.s 2] := by kernel_rfl
theorem ok_impl_TypeOk (n : Int) : FnOK Tryz.prog 89 [.one (.d (.sc (.int .i64 n)))] (fun ra _ => ra = [.one (.d (.sc (.bool (tyOk n))))]) := by
  rw [← typeNm_ok]
  refine FnOK.ofK Tryz.func89 (by kernel_rfl) dg_impl_TypeOk rs_impl_TypeOk rfl rfl ?_
  delta c_impl_TypeOk T.o X.i C.g
  refine Kbc (Ka Y (Kdb (Kc (Ka Y (Kp (ok_impl_typeName _) ⟨Y, trivial⟩ Y Y Y Y Y (Kj Y Y Y (Ka Y (Kd (Kr (Er (ra := [.one (.d _)]) rfl rfl))))))))))

def c_slices_EqualFunc_LLbyte_LLbyte_Lbyte_Lbyte : C := (.g (.o 0 6 (.mov (.v (.bool false))) .done) (.seq (.g (.o 0 10 (.mov (.t 0)) (.o 1 11 (.len (.t 10)) (.o 2 12 (.mov (.t 1)) (.o 3 13 (.len (.t 12)) (.o 4 14 (.bin .neq (.t 11) (.t 13)) .done))))) (.cond (.t 14) (.g (.o 0 6 (.mov (.v (.bool false))) .done) .ret) .skip)) (.seq (.g (.o 0 15 (.mov (.t 0)) (.o 1 16 (.len (.t 15)) (.o 2 17 (.mov (.i 0)) .done))) (.block 0 (.loop (.g (.o 0 18 (.bin .lss (.t 17) (.t 16)) .done) (.seq (.cond (.t 18) .skip (.exit 0)) (.seq (.block 1 (.g (.o 0 19 (.mov (.t 17)) (.o 1 20 (.iad 1 (.t 15) (.t 17)) (.o 2 21 (.load none (.t 20)) (.o 3 7 (.mov (.t 19)) (.o 4 8 (.mov (.t 21)) .done))))) (.g (.o 0 22 (.mov (.t 1)) (.o 1 23 (.mov (.t 7)) (.o 2 24 (.iad 1 (.t 22) (.t 23)) (.o 3 25 (.load none (.t 24)) (.o 4 9 (.mov (.t 25)) .done))))) (.g (.o 0 26 (.mov (.t 2)) (.o 1 27 (.mov (.t 8)) (.o 2 28 (.mov (.t 9)) (.o 3 29 (.callv 29 (.t 26) [(.t 27), (.t 28)]) (.o 4 30 (.un .not (.t 29)) .done))))) (.cond (.t 30) (.g (.o 0 6 (.mov (.v (.bool false))) .done) .ret) .skip))))) (.reg false (.o 0 31 (.bin .add (.t 17) (.i 1)) (.o 1 17 (.mov (.t 31)) .done))))))))) (.g (.o 0 6 (.mov (.v (.bool true))) .done) .ret))))
theorem dg_slices_EqualFunc_LLbyte_LLbyte_Lbyte_Lbyte : Tryz.f210.body.bind (digC Tryz.prog Tryz.f210.ntmps []) = some c_slices_EqualFunc_LLbyte_LLbyte_Lbyte_Lbyte := by kernel_rfl
theorem rs_slices_EqualFunc_LLbyte_LLbyte_Lbyte_Lbyte : resSlots Tryz.prog Tryz.f210 = some [.s 6] := by kernel_rfl
def fcEq : FC := fun l R => ∃ x y : List UInt8, l = [DA.one (encB x), DA.one (encB y)] ∧ R = fun ra => ra = [.one (.d (.sc (.bool (x == y))))]
theorem ok_slices_EqualFunc_LLbyte_LLbyte_Lbyte_Lbyte (a b : List (List UInt8)) (ha : a.length ≤ 4194304) (hb : b.length ≤ 4194304) :
    FnOK Tryz.prog 210 [.one (.d (encBB a)), .one (.d (encBB b)), .one (.fv false fcEq)] (fun ra _ => ra = [.one (.d (.sc (.bool (decide (a = b)))))]) := by
  refine FnOK.ofK Tryz.func210 (by kernel_rfl) dg_slices_EqualFunc_LLbyte_LLbyte_Lbyte_Lbyte rs_slices_EqualFunc_LLbyte_LLbyte_Lbyte_Lbyte rfl rfl ?_
  delta c_slices_EqualFunc_LLbyte_LLbyte_Lbyte_Lbyte T.o X.i C.g
  refine Kbc (Ka Y (Kdb (Kbc (Ka Y (Kq Y Y (Ka Y (Kq Y Y (Kj Y Y Y (Kd (kCondIN Y (fun g0 => Kbc (Ka Y (Kd (Kr (Er (ra := [.one (.d _)]) rfl ?_))))) (fun g0 => Kn (Kb (Kbc (Ka Y (Kq Y Y (Ka Y (Kd (Kt ?_))))))))))))))))))
  · rw [decide_eq_false (by rintro rfl; simp_all)]
  have hab : a.length = b.length := by omega
  refine kLoop (α := { i : Nat // i ≤ a.length ∧ a.take i = b.take i })
    (fun y => ⟨tabSl [(1, .dv (encBB b)), (2, .c (.fv false fcEq)), (15, .dv (encBB a)), (16, .i a.length), (17, .i y.1)], obTab 1 [], []⟩) (fun y => a.length - y.1) ⟨0, by simp⟩
    .normA ?_
  rintro ⟨i, hi, he⟩
  simp only
  rcases Nat.lt_or_ge i a.length with hlt | hge
  · refine Kbc (Kj Y Y Y (Kdb (Km Y (fun g0 => Kn (Kb (Kt (Kbc (Ka Y (kIadR Y Y Y om (Ky Y Y (Ka Y (Ka Y (Kdb (Kc (Ka Y (Ka Y (kIadR Y Y Y om (Ky Y Y (Ka Y (Kdb (Kc (Ka Y (Ka Y (Ka Y ?_))))))))))))))))))))) (fun g0 => om))))
    refine kCallv Y ⟨a[i], b[i], rfl, rfl⟩ ⟨Y, Y, trivial⟩ (.inr ?_) rfl ?_ rfl ?_
    · rintro _ rfl; rfl
    · rintro _ rfl; exact leb
    rintro _ rfl
    refine Kw Y Y (Kd (kCondN Y (fun g0 => Kbc (Ka Y (Kd (Kr (Er (ra := [.one (.d _)]) rfl ?_))))) (fun g0 => Kn (Kv (Kc (kAdd Y Y om (Ka Y (Kd ?_))))))))
    · rw [decide_eq_false]
      rintro rfl
      simp_all
    · refine kInv ⟨⟨i + 1, by omega, ?_⟩, by simp only; omega, .normA⟩
      rw [← List.take_append_getElem (by omega), ← List.take_append_getElem (by omega), he]
      simp_all
  · refine Kbc (Kj Y Y Y (Kdb (Km Y (fun g0 => om) (fun g0 => kExit (kExC (kExI (kExB (Kbc (Ka Y (Kd (Kr (Er (ra := [.one (.d _)]) rfl ?_))))))))))))
    rw [show i = a.length by omega, List.take_length, hab, List.take_length] at he
    rw [he, decide_eq_true rfl]

def c_bytes_Equal : C := (.g (.o 0 4 (.mov (.v (.bool false))) .done) (.g (.o 0 5 (.mov (.t 0)) (.o 1 6 (.b2s (.t 5)) (.o 2 7 (.mov (.t 1)) (.o 3 8 (.b2s (.t 7)) (.o 4 9 (.bin .eql (.t 6) (.t 8)) (.o 5 4 (.mov (.t 9)) .done)))))) .ret))
theorem dg_bytes_Equal : Tryz.f163.body.bind (digC Tryz.prog Tryz.f163.ntmps []) = some c_bytes_Equal := by kernel_rfl
theorem rs_bytes_Equal : resSlots Tryz.prog Tryz.f163 = some [.s 4] := by kernel_rfl
theorem ok_bytes_Equal (a b : List UInt8) :
    FnOK Tryz.prog 163 [.one (.d (encB a)), .one (.d (encB b))] (fun ra _ => ra = [.one (.d (.sc (.bool (a == b))))]) := by
  refine FnOK.ofK Tryz.func163 (by kernel_rfl) dg_bytes_Equal rs_bytes_Equal rfl rfl ?_
  delta c_bytes_Equal T.o X.i C.g
  refine Kbc (Ka Y (Kdb (Kc (Ka Y (kB2s Y Y (Ka Y (kB2s Y Y (Kj Y Y Y (Ka Y (Kd (Kr (Er (ra := [.one (.d _)]) rfl ?_))))))))))))
  simp only [bt_list]

def c_impl_Name_under : C := (.g (.o 0 2 (.box 2 (.t 0)) (.o 1 3 (.box 3 (.t 1)) (.o 2 4 (.mov (.v (.bool false))) .done))) (.g (.o 0 6 (.fad (.t 2) 0) (.o 1 7 (.load none (.t 6)) (.o 2 8 (.len (.t 7)) (.o 3 9 (.fad (.t 3) 0) (.o 4 10 (.load none (.t 9)) (.o 5 11 (.len (.t 10)) (.o 6 12 (.bin .sub (.t 8) (.t 11)) (.o 7 5 (.mov (.t 12)) .done)))))))) (.seq (.reg true (.op 0 [] (some 13) none true (.mov (.t 5)) (.op 1 [] (some 14) none true (.bin .geq (.t 13) (.i 0)) (.op 2 [] (some 15) none true (.mov (.t 14)) (.op 3 [] (some 16) (some (15, true)) true (.fad (.t 2) 0) (.op 4 [] (some 17) (some (15, true)) true (.load none (.t 16)) (.op 5 [] (some 18) (some (15, true)) true (.mov (.t 5)) (.op 6 [] (some 19) (some (15, true)) true (.mm true (.t 18) (.i 0)) (.op 7 [] (some 20) (some (15, true)) true (.cut 1 (.t 17) (some (.t 19)) none) (.op 8 [] (some 21) (some (15, true)) true (.fad (.t 3) 0) (.op 9 [] (some 22) (some (15, true)) true (.load none (.t 21)) (.op 10 [4, 9] (some 23) (some (15, true)) false (.call 23 210 [(.t 20), (.t 22), (.fn 163)]) (.op 11 [] (some 24) none true (.pick (.t 15) (.t 23) (.v (.bool false))) (.op 12 [] (some 4) none true (.mov (.t 24)) .done)))))))))))))) .ret)))
theorem dg_impl_Name_under : Tryz.f123.body.bind (digC Tryz.prog Tryz.f123.ntmps []) = some c_impl_Name_under := by kernel_rfl
theorem rs_impl_Name_under : resSlots Tryz.prog Tryz.f123 = some [.s 4] := by kernel_rfl
theorem ok_impl_Name_under (n z : List (List UInt8)) (hn : n.length ≤ 4194304) (hz : z.length ≤ 4194304) :
    FnOK Tryz.prog 123 [.agg [.d (encBB n)], .agg [.d (encBB z)]] (fun ra _ => ra = [.one (.d (.sc (.bool (underN n z))))]) := by
  refine FnOK.ofK Tryz.func123 (by kernel_rfl) dg_impl_Name_under rs_impl_Name_under rfl rfl ?_
  delta c_impl_Name_under T.o X.i C.g
  have hd : ∀ m, (n.drop m).length ≤ 4194304 := fun m => by simp; omega
  refine Kbc (kBox Y Y Y Y Y (kBox Y Y Y Y Y (Ka Y (Kdb (Kc (Kf Y Y (Ke Y Y Y (Kq Y Y (Kf Y Y (Ke Y Y Y (Kq Y Y (kDif Y Y om (Ka Y (Kdb (kRegD (Ka Y (Kj Y Y Y (Ka Y (kGP Y (fun g0 => Ki Y (Kf Y Y (Ki Y (Ke Y Y Y (Ki Y (Ka Y (Ki Y (kMm Y Y (Ki Y (kCutLT Y Y om (Ki Y (Kf Y Y (Ki Y (Ke Y Y Y (Ks Y Y (Ki Y ?_)))))))))))))))) (fun g0 => Kg Y (Kg Y (Kg Y (Kg Y (Kg Y (Kg Y (Kg Y (Ks Y Y (Kg Y (Kl Y (Ka Y (Ka Y (Kd (kH (Kr (Er (ra := [.one (.d _)]) rfl ?_)))))))))))))))))))))))))))))))))))
  · refine Kp (ok_slices_EqualFunc_LLbyte_LLbyte_Lbyte_Lbyte _ z (hd _) hz) ⟨rfl, rfl, ⟨rfl, rfl, ⟨_, Tryz.func163, rfl, by kernel_rfl⟩, ?_⟩, trivial⟩ Y Y Y Y Y ?_
    · rintro _ R ⟨x, y, rfl, rfl⟩
      exact ok_bytes_Equal x y
    refine Kk Y (Ka Y (Ka Y (Kd (kH (Kr (Er (ra := [.one (.d _)]) rfl ?_))))))
    simp only [if_true, underN]
    rw [if_neg (by omega), show (n.length - z.length : Int).toNat = n.length - z.length by omega, decide_eq_true (show z.length ≤ n.length by omega), Bool.true_and]
  · rw [show underN n z = false by simp only [underN]; rw [decide_eq_false (by omega)]; rfl]

def c_impl_Under : C := (.g (.o 0 2 (.box 2 (.t 0)) (.o 1 3 (.box 3 (.t 1)) (.o 2 4 (.mov (.v (.bool false))) .done))) (.g (.o 0 5 (.load (some 1) (.t 2)) (.o 1 6 (.call 6 71 [(.t 5)]) (.o 2 7 (.mov (.t 6)) (.op 3 [] (some 8) (some (7, true)) false (.load (some 1) (.t 3)) (.op 4 [] (some 9) (some (7, true)) false (.call 9 71 [(.t 8)]) (.o 5 10 (.pick (.t 7) (.t 9) (.v (.bool false))) (.o 6 11 (.mov (.t 10)) (.op 7 [] (some 12) (some (11, true)) false (.load (some 1) (.t 2)) (.op 8 [] (some 13) (some (11, true)) false (.load (some 1) (.t 3)) (.op 9 [] (some 14) (some (11, true)) false (.call 14 123 [(.t 12), (.t 13)]) (.o 10 15 (.pick (.t 11) (.t 14) (.v (.bool false))) (.o 11 4 (.mov (.t 15)) .done)))))))))))) .ret))
theorem dg_impl_Under : Tryz.f43.body.bind (digC Tryz.prog Tryz.f43.ntmps []) = some c_impl_Under := by kernel_rfl
theorem rs_impl_Under : resSlots Tryz.prog Tryz.f43 = some [.s 4] := by kernel_rfl
theorem ok_impl_Under (n z : List (List UInt8)) (hn : n.length ≤ 4194304) (hz : z.length ≤ 4194304) (hn' : ∀ b ∈ n, b.length ≤ 4194304) (hz' : ∀ b ∈ z, b.length ≤ 4194304) :
    FnOK Tryz.prog 43 [.agg [.d (encBB n)], .agg [.d (encBB z)]] (fun ra _ => ra = [.one (.d (.sc (.bool (nameOk n && nameOk z && underN n z))))]) := by
  refine FnOK.ofK Tryz.func43 (by kernel_rfl) dg_impl_Under rs_impl_Under rfl rfl ?_
  delta c_impl_Under T.o X.i C.g
  refine Kbc (kBox Y Y Y Y Y (kBox Y Y Y Y Y (Ka Y (Kdb (Kc (Ke Y Y Y (Kp (ok_impl_NameOk _ pr pr) ⟨⟨⟨Y, trivial⟩, leb⟩, trivial⟩ Y Y Y Y Y (Ka Y (kGS Y (fun g0 => Ki Y (Ke Y Y Y (Ki Y (Kp (ok_impl_NameOk _ pr pr) ⟨⟨⟨Y, trivial⟩, leb⟩, trivial⟩ Y Y Y Y Y (Kk Y (Ka Y (Ka Y (kGS Y (fun g1 => Ki Y (Ke Y Y Y (Ki Y (Ke Y Y Y (Ki Y (Kp (ok_impl_Name_under _ _ pr pr) ⟨⟨⟨Y, trivial⟩, leb⟩, ⟨⟨Y, trivial⟩, leb⟩, trivial⟩ Y Y Y Y Y (Kk Y (Ka Y (Ka Y (Kd (Kr (Er (ra := [.one (.d _)]) rfl ?_)))))))))))) (fun g1 => Kg Y (Kg Y (Kg Y (Kl Y (Ka Y (Ka Y (Kd (Kr (Er (ra := [.one (.d _)]) rfl ?_))))))))))))))))) (fun g0 => Kg Y (Kg Y (Kl Y (Ka Y (Ka Y (Kg Y (Kg Y (Kg Y (Kl Y (Ka Y (Ka Y (Kd (Kr (Er (ra := [.one (.d _)]) rfl ?_)))))))))))))))))))))))
  all_goals simp_all

def c_impl_all_int_1 : C := (.g (.o 0 3 (.mov (.v (.bool false))) .done) (.g (.o 0 4 (.load none (.t 1)) (.o 1 5 (.mov (.t 0)) (.o 2 6 (.callv 6 (.t 4) [(.t 5)]) (.o 3 7 (.un .not (.t 6)) (.o 4 3 (.mov (.t 7)) .done))))) .ret))
theorem dg_impl_all_int_1 : Tryz.f263.body.bind (digC Tryz.prog Tryz.f263.ntmps []) = some c_impl_all_int_1 := by kernel_rfl
theorem rs_impl_all_int_1 : resSlots Tryz.prog Tryz.f263 = some [.s 3] := by kernel_rfl
theorem ok_impl_all_int_1 (x : DV) (D : DV → Prop) (g : DV → Bool) (hx : D x) :
    FnOK Tryz.prog 263 [.one (.d x), .one (.ptr [.fv false (fcPred D g)])] (fun ra _ => ra = [.one (.d (.sc (.bool (!g x))))]) := by
  refine FnOK.ofK Tryz.func263 (by kernel_rfl) dg_impl_all_int_1 rs_impl_all_int_1 rfl rfl ?_
  delta c_impl_all_int_1 T.o X.i C.g
  refine Kbc (Ka Y (Kd ?_))
  refine Kbc (kLoadC Y Y (Ka Y (kCallv Y ⟨x, hx, rfl, rfl⟩ ⟨Y, trivial⟩ (.inr ?_) rfl ?_ rfl ?_)))
  · rintro _ rfl; rfl
  · rintro _ rfl; exact leb
  rintro _ rfl
  refine Kw Y Y (Ka Y (Kd (Kr ?_)))
  exact endRet (ra := [.one (.d _)]) rfl ⟨⟨⟨rfl, .inl rfl⟩, trivial⟩, .nil, trivial, trivial, trivial⟩ rfl

def c_slices_IndexFunc_Lint_int : C := (.g (.o 0 4 (.mov (.i 0)) .done) (.seq (.g (.o 0 6 (.mov (.t 0)) (.o 1 7 (.len (.t 6)) (.o 2 8 (.mov (.i 0)) .done))) (.block 0 (.loop (.g (.o 0 9 (.bin .lss (.t 8) (.t 7)) .done) (.seq (.cond (.t 9) .skip (.exit 0)) (.seq (.block 1 (.g (.o 0 10 (.mov (.t 8)) (.o 1 5 (.mov (.t 10)) .done)) (.g (.o 0 11 (.mov (.t 1)) (.o 1 12 (.mov (.t 0)) (.o 2 13 (.mov (.t 5)) (.o 3 14 (.iad 1 (.t 12) (.t 13)) (.o 4 15 (.load none (.t 14)) (.o 5 16 (.callv 16 (.t 11) [(.t 15)]) .done)))))) (.cond (.t 16) (.g (.o 0 17 (.mov (.t 5)) (.o 1 4 (.mov (.t 17)) .done)) .ret) .skip)))) (.reg false (.o 0 18 (.bin .add (.t 8) (.i 1)) (.o 1 8 (.mov (.t 18)) .done))))))))) (.g (.o 0 4 (.mov (.i (-1))) .done) .ret)))
theorem dg_slices_IndexFunc_Lint_int : Tryz.f317.body.bind (digC Tryz.prog Tryz.f317.ntmps []) = some c_slices_IndexFunc_Lint_int := by kernel_rfl
theorem rs_slices_IndexFunc_Lint_int : resSlots Tryz.prog Tryz.f317 = some [.s 4] := by kernel_rfl
theorem ok_slices_IndexFunc_Lint_int (l : List DV) (D : DV → Prop) (g : DV → Bool) (hl : (l.length : Int) ≤ 9223372036854775807) (hD : ∀ x ∈ l, D x) :
    FnOK Tryz.prog 317 [.one (.d (lst l)), .one (.fv false (fcPred D g))] (fun ra _ => ra = [.one (.d (.sc (.int .i64 (idxF g l))))]) := by
  refine FnOK.ofK Tryz.func317 (by kernel_rfl) dg_slices_IndexFunc_Lint_int rs_slices_IndexFunc_Lint_int rfl rfl ?_
  delta c_slices_IndexFunc_Lint_int T.o X.i C.g
  refine Kbc (Ka Y (Kd ?_))
  refine Kb (Kbc (Ka Y (kLen Y Y Y (Ka Y (Kd (Kt ?_))))))
  rw [len_lst]
  refine kLoop (α := { i : Nat // i ≤ l.length ∧ ∀ x ∈ l.take i, g x = false })
    (fun y => ⟨tabSl [(0, .dv (lst l)), (1, .c (.fv false (fcPred D g))), (7, .i l.length), (8, .i y.1)], (St.init [.one (.d (lst l)), .one (.fv false (fcPred D g))]).ob, []⟩) (fun y => l.length - y.1) ⟨0, by simp⟩
    (.tab rfl ⟨.refl _, .refl _, .refl _, .refl _, trivial⟩) ?_
  rintro ⟨i, hi, hg⟩
  simp only
  refine Kbc (Kj Y Y Y (Kd ?_))
  refine Kb (kCond Y (fun h1 => ?_) (fun h1 => ?_))
  · have hlt : i < l.length := by simp at h1; omega
    refine Kn (Kb (Kt (Kbc (Ka Y (Ka Y (Kd ?_))))))
    refine Kbc (Ka Y (Ka Y (Ka Y (kIadD Y Y Y Y ?_ ?_))))
    · rw [len_lst]; omega
    rw [show (lst l).row (i : Int).toNat = [l[i]] from row_lst l i hlt]
    refine Ky Y Y (kCallv Y ⟨l[i], hD _ (List.getElem_mem hlt), rfl, rfl⟩ ⟨Y, trivial⟩ (.inr ?_) rfl ?_ rfl ?_)
    · rintro _ rfl; rfl
    · rintro _ rfl; exact leb
    rintro _ rfl
    refine Kd (kCond Y (fun h2 => ?_) (fun h2 => ?_))
    · refine Kbc (Ka Y (Ka Y (Kd (Kr ?_))))
      refine endRet (ra := [.one (.d _)]) rfl ⟨⟨⟨rfl, .inl rfl⟩, trivial⟩, .nil, trivial, trivial, trivial⟩ ?_
      have : l.findIdx? g = some i := by
        rw [List.findIdx?_eq_some_iff_getElem]
        refine ⟨hlt, h2, fun j hj => ?_⟩
        simpa using hg _ (by rw [List.mem_take_iff_getElem]; exact ⟨j, by omega, rfl⟩)
      simp [idxF, this]
    · refine Kn (Kv (Kc (kAdd Y Y ?_ (Ka Y (Kd (kInv ?_))))))
      · omega
      refine ⟨⟨i + 1, hlt, ?_⟩, by simp only; omega, .tab rfl ⟨.refl _, .refl _, .refl _, .refl _, trivial⟩⟩
      intro x hx
      rw [← List.take_append_getElem hlt, List.mem_append] at hx
      rcases hx with hx | hx
      · exact hg x hx
      · simp at hx; rw [hx]; exact h2
  · refine kExit (kExC (kExI (kExB ?_)))
    have hge : i = l.length := by simp at h1; omega
    refine Kbc (Ka Y (Kd (Kr ?_)))
    refine endRet (ra := [.one (.d _)]) rfl ⟨⟨⟨rfl, .inl rfl⟩, trivial⟩, .nil, trivial, trivial, trivial⟩ ?_
    have : l.findIdx? g = none := by
      rw [List.findIdx?_eq_none_iff]
      intro x hx
      rw [hge, List.take_length] at hg
      exact hg x hx
    simp [idxF, this]

def c_slices_ContainsFunc_Lint_int : C := (.g (.o 0 4 (.mov (.v (.bool false))) .done) (.g (.o 0 5 (.mov (.t 0)) (.o 1 6 (.mov (.t 1)) (.o 2 7 (.call 7 317 [(.t 5), (.t 6)]) (.o 3 8 (.bin .geq (.t 7) (.i 0)) (.o 4 4 (.mov (.t 8)) .done))))) .ret))
theorem dg_slices_ContainsFunc_Lint_int : Tryz.f262.body.bind (digC Tryz.prog Tryz.f262.ntmps []) = some c_slices_ContainsFunc_Lint_int := by kernel_rfl
theorem rs_slices_ContainsFunc_Lint_int : resSlots Tryz.prog Tryz.f262 = some [.s 4] := by kernel_rfl
theorem ok_slices_ContainsFunc_Lint_int (l : List DV) (D : DV → Prop) (g : DV → Bool) (hl : (l.length : Int) ≤ 9223372036854775807) (hD : ∀ x ∈ l, D x) :
    FnOK Tryz.prog 262 [.one (.d (lst l)), .one (.fv false (fcPred D g))] (fun ra _ => ra = [.one (.d (.sc (.bool (l.any g))))]) := by
  refine FnOK.ofK Tryz.func262 (by kernel_rfl) dg_slices_ContainsFunc_Lint_int rs_slices_ContainsFunc_Lint_int rfl rfl ?_
  delta c_slices_ContainsFunc_Lint_int T.o X.i C.g
  refine Kbc (Ka Y (Kd ?_))
  refine Kbc (Ka Y (Ka Y ?_))
  refine Ku true (ok_slices_IndexFunc_Lint_int l D g hl hD) ⟨rfl, ⟨fun h => h, fun _ _ h => h⟩, trivial⟩ rfl rfl rfl fun os => ?_
  refine Kj Y Y Y (Ka Y (Kd (Kr ?_)))
  refine endRet (ra := [.one (.d _)]) rfl ⟨⟨⟨rfl, .inl rfl⟩, trivial⟩, .nil, trivial, trivial, trivial⟩ ?_
  have : decide (idxF g l ≥ 0) = l.any g := by
    unfold idxF
    cases h : l.findIdx? g with
    | none =>
      rw [List.findIdx?_eq_none_iff] at h
      have : l.any g = false := by rw [List.any_eq_false]; intro x hx; simp [h x hx]
      rw [this]; rfl
    | some i =>
      rw [List.findIdx?_eq_some_iff_getElem] at h
      obtain ⟨h1, h2, _⟩ := h
      have : l.any g = true := by rw [List.any_eq_true]; exact ⟨_, List.getElem_mem h1, h2⟩
      rw [this]; simp
  rw [this]

def c_impl_all_int : C := (.g (.o 0 3 (.box 3 (.t 1)) (.o 1 4 (.mov (.v (.bool false))) .done)) (.g (.o 0 5 (.mov (.t 0)) (.o 1 6 (.clo 263 [] [(.t 3)]) (.o 2 7 (.call 7 262 [(.t 5), (.t 6)]) (.o 3 8 (.un .not (.t 7)) (.o 4 4 (.mov (.t 8)) .done))))) .ret))
theorem dg_impl_all_int : Tryz.f191.body.bind (digC Tryz.prog Tryz.f191.ntmps []) = some c_impl_all_int := by kernel_rfl
theorem rs_impl_all_int : resSlots Tryz.prog Tryz.f191 = some [.s 4] := by kernel_rfl
theorem ok_impl_all_int (l : List DV) (D : DV → Prop) (g : DV → Bool) (hl : (l.length : Int) ≤ 9223372036854775807) (hD : ∀ x ∈ l, D x) :
    FnOK Tryz.prog 191 [.one (.d (lst l)), .one (.fv false (fcPred D g))] (fun ra _ => ra = [.one (.d (.sc (.bool (l.all g))))]) := by
  refine FnOK.ofK Tryz.func191 (by kernel_rfl) dg_impl_all_int rs_impl_all_int rfl rfl ?_
  delta c_impl_all_int T.o X.i C.g
  refine Kbc (kBox Y Y Y Y Y (Ka Y (Kd ?_)))
  refine Kbc (Ka Y (kClo Y Y ?_))
  refine Ku true (ok_slices_ContainsFunc_Lint_int l D (fun x => !g x) hl hD) ⟨rfl, ⟨rfl, ⟨_, Tryz.func263, rfl, by kernel_rfl⟩, _, rfl, ?_⟩, trivial⟩ rfl rfl rfl fun os => ?_
  · rintro l R ⟨x, hx, rfl, rfl⟩
    exact ⟨by rintro _ rfl; rfl, ok_impl_all_int_1 x D g hx⟩
  refine Kw Y Y (Ka Y (Kd (Kr ?_)))
  refine endRet (ra := [.one (.d _)]) rfl ⟨⟨⟨rfl, .inl rfl⟩, trivial⟩, .nil, trivial, trivial, trivial⟩ ?_
  simp [List.all_eq_not_any_not]

def c_impl_isWord : C := (.g (.o 0 2 (.mov (.v (.bool false))) .done) (.g (.o 0 3 (.mov (.t 0)) (.o 1 4 (.call 4 109 [(.t 3), (.i 0), (.i 4294967295)]) (.o 2 2 (.mov (.t 4)) .done))) .ret))
theorem dg_impl_isWord : Tryz.f192.body.bind (digC Tryz.prog Tryz.f192.ntmps []) = some c_impl_isWord := by kernel_rfl
theorem rs_impl_isWord : resSlots Tryz.prog Tryz.f192 = some [.s 2] := by kernel_rfl
theorem ok_impl_isWord (n : Int) : FnOK Tryz.prog 192 [.one (.d (.sc (.int .i64 n)))] (fun ra _ => ra = [.one (.d (.sc (.bool (isW n))))]) := by
  refine FnOK.ofK Tryz.func192 (by kernel_rfl) dg_impl_isWord rs_impl_isWord rfl rfl ?_
  delta c_impl_isWord T.o X.i C.g
  refine Kbc (Ka Y (Kdb (Kc (Ka Y (Kp (ok_impl_within _ _ _) ⟨Y, Y, Y, trivial⟩ Y Y Y Y Y (Ka Y (Kd (Kr (Er (ra := [.one (.d _)]) rfl ?_)))))))))
  rw [show isW n = decide (0 ≤ n ∧ n ≤ 4294967295) by unfold isW; rw [Bool.eq_iff_iff]; simp; omega]

def c_impl_areServers : C := (.g (.o 0 2 (.mov (.v (.bool false))) .done) (.g (.o 0 3 (.mov (.t 0)) (.o 1 4 (.len (.t 3)) (.o 2 5 (.call 5 109 [(.t 4), (.i 1), (.i 4)]) (.o 3 6 (.mov (.t 5)) (.op 4 [] (some 7) (some (6, true)) false (.mov (.t 0)) (.op 5 [] (some 8) (some (6, true)) false (.call 8 191 [(.t 7), (.fn 192)]) (.o 6 9 (.pick (.t 6) (.t 8) (.v (.bool false))) (.o 7 2 (.mov (.t 9)) .done)))))))) .ret))
theorem dg_impl_areServers : Tryz.f110.body.bind (digC Tryz.prog Tryz.f110.ntmps []) = some c_impl_areServers := by kernel_rfl
theorem rs_impl_areServers : resSlots Tryz.prog Tryz.f110 = some [.s 2] := by kernel_rfl
theorem ok_impl_areServers (l : List Int) (h : l.length ≤ 4194304) :
    FnOK Tryz.prog 110 [.one (.d (encI l))] (fun ra _ => ra = [.one (.d (.sc (.bool (ipsOk l))))]) := by
  refine FnOK.ofK Tryz.func110 (by kernel_rfl) dg_impl_areServers rs_impl_areServers rfl rfl ?_
  delta c_impl_areServers T.o X.i C.g
  refine Kbc (Ka Y (Kdb (Kc (Ka Y (Kq Y Y (Kp (ok_impl_within _ _ _) ⟨Y, Y, Y, trivial⟩ Y Y Y Y Y (Ka Y (kGP Y (fun g0 => Ki Y (Ka Y (Ki Y ?_))) (fun g0 => Kg Y (Kg Y (Kl Y (Ka Y (Ka Y (Kd (Kr (Er (ra := [.one (.d _)]) rfl ?_))))))))))))))))
  · refine Kp (ok_impl_all_int (l.map fun n => .sc (.int .i64 n)) isI (fun x => isW (decI x)) (by simp; omega) (fun x hx => by obtain ⟨c, _, rfl⟩ := List.mem_map.1 hx; exact ⟨c, rfl⟩)) ⟨congrArg some (encI_lst l), ⟨rfl, rfl, ⟨_, Tryz.func192, rfl, by kernel_rfl⟩, ?_⟩, trivial⟩ Y Y Y Y Y ?_
    · rintro _ R ⟨x, ⟨c, rfl⟩, rfl, rfl⟩
      exact ok_impl_isWord c
    refine Kk Y (Ka Y (Ka Y (Kd (Kr (Er (ra := [.one (.d _)]) rfl ?_)))))
    rw [all_decI, show ipsOk l = l.all isW by simp only [ipsOk]; rw [decide_eq_true (by omega)]; rfl]
  · rw [show ipsOk l = false by simp only [ipsOk]; rw [decide_eq_false (by omega)]; rfl]

def c_impl_isCode : C := (.g (.o 0 2 (.mov (.v (.bool false))) .done) (.g (.o 0 3 (.mov (.t 0)) (.o 1 4 (.call 4 109 [(.t 3), (.i 0), (.i 10)]) (.o 2 2 (.mov (.t 4)) .done))) .ret))
theorem dg_impl_isCode : Tryz.f111.body.bind (digC Tryz.prog Tryz.f111.ntmps []) = some c_impl_isCode := by kernel_rfl
theorem rs_impl_isCode : resSlots Tryz.prog Tryz.f111 = some [.s 2] := by kernel_rfl
theorem ok_impl_isCode (n : Int) : FnOK Tryz.prog 111 [.one (.d (.sc (.int .i64 n)))] (fun ra _ => ra = [.one (.d (.sc (.bool (decide (0 ≤ n) && decide (n ≤ 10)))))]) := by
  refine FnOK.ofK Tryz.func111 (by kernel_rfl) dg_impl_isCode rs_impl_isCode rfl rfl ?_
  delta c_impl_isCode T.o X.i C.g
  refine Kbc (Ka Y (Kdb (Kc (Ka Y (Kp (ok_impl_within _ _ _) ⟨Y, Y, Y, trivial⟩ Y Y Y Y Y (Ka Y (Kd (Kr (Er (ra := [.one (.d _)]) rfl ?_)))))))))
  rw [Bool.decide_and]

def c_impl_hasTo : C := (.g (.o 0 2 (.mov (.v (.bool false))) .done) (.g (.o 0 3 (.mov (.t 0)) (.o 1 4 (.bin .eql (.t 3) (.i 2)) (.o 2 5 (.mov (.t 4)) (.op 3 [] (some 6) (some (5, false)) false (.mov (.t 0)) (.op 4 [] (some 7) (some (5, false)) false (.bin .eql (.t 6) (.i 5)) (.o 5 8 (.pick (.t 5) (.v (.bool true)) (.t 7)) (.o 6 9 (.mov (.t 8)) (.op 7 [] (some 10) (some (9, false)) false (.mov (.t 0)) (.op 8 [] (some 11) (some (9, false)) false (.bin .eql (.t 10) (.i 6)) (.o 9 12 (.pick (.t 9) (.v (.bool true)) (.t 11)) (.o 10 13 (.mov (.t 12)) (.op 11 [] (some 14) (some (13, false)) false (.mov (.t 0)) (.op 12 [] (some 15) (some (13, false)) false (.bin .eql (.t 14) (.i 12)) (.o 13 16 (.pick (.t 13) (.v (.bool true)) (.t 15)) (.o 14 2 (.mov (.t 16)) .done))))))))))))))) .ret))
theorem dg_impl_hasTo : Tryz.f239.body.bind (digC Tryz.prog Tryz.f239.ntmps []) = some c_impl_hasTo := by kernel_rfl
theorem rs_impl_hasTo : resSlots Tryz.prog Tryz.f239 = some [.s 2] := by kernel_rfl
theorem ok_impl_hasTo (n : Int) : FnOK Tryz.prog 239 [.one (.d (.sc (.int .i64 n)))] (fun ra _ => ra = [.one (.d (.sc (.bool (hasTo n))))]) := by
  refine FnOK.ofK Tryz.func239 (by kernel_rfl) dg_impl_hasTo rs_impl_hasTo rfl rfl ?_
  delta c_impl_hasTo T.o X.i C.g
  refine Kbc (Ka Y (Kdb (Kc (Ka Y (Kj Y Y Y (Ka Y (kGP Y (fun g0 => Kg Y (Kg Y (Kk Y (Ka Y (Ka Y (Kg Y (Kg Y (Kk Y (Ka Y (Ka Y (Kg Y (Kg Y (Kk Y (Ka Y (Ka Y (Kd (Kr (Er (ra := [.one (.d _)]) rfl ?_)))))))))))))))))) (fun g0 => Ki Y (Ka Y (Ki Y (Kj Y Y Y (Kl Y (Ka Y (Ka Y (kGP Y (fun g1 => Kg Y (Kg Y (Kk Y (Ka Y (Ka Y (Kg Y (Kg Y (Kk Y (Ka Y (Ka Y (Kd (Kr (Er (ra := [.one (.d _)]) rfl ?_))))))))))))) (fun g1 => Ki Y (Ka Y (Ki Y (Kj Y Y Y (Kl Y (Ka Y (Ka Y (kGP Y (fun g2 => Kg Y (Kg Y (Kk Y (Ka Y (Ka Y (Kd (Kr (Er (ra := [.one (.d _)]) rfl ?_)))))))) (fun g2 => Ki Y (Ka Y (Ki Y (Kj Y Y Y (Kl Y (Ka Y (Ka Y (Kd (Kr (Er (ra := [.one (.d _)]) rfl ?_)))))))))))))))))))))))))))))))))
  all_goals simp_all [hasTo]

def c_impl_hasText : C := (.g (.o 0 2 (.mov (.v (.bool false))) .done) (.g (.o 0 3 (.mov (.t 0)) (.o 1 4 (.bin .eql (.t 3) (.i 16)) (.o 2 5 (.mov (.t 4)) (.op 3 [] (some 6) (some (5, false)) false (.mov (.t 0)) (.op 4 [] (some 7) (some (5, false)) false (.bin .eql (.t 6) (.i 49)) (.o 5 8 (.pick (.t 5) (.v (.bool true)) (.t 7)) (.o 6 2 (.mov (.t 8)) .done))))))) .ret))
theorem dg_impl_hasText : Tryz.f240.body.bind (digC Tryz.prog Tryz.f240.ntmps []) = some c_impl_hasText := by kernel_rfl
theorem rs_impl_hasText : resSlots Tryz.prog Tryz.f240 = some [.s 2] := by kernel_rfl
theorem ok_impl_hasText (n : Int) : FnOK Tryz.prog 240 [.one (.d (.sc (.int .i64 n)))] (fun ra _ => ra = [.one (.d (.sc (.bool (hasText n))))]) := by
  refine FnOK.ofK Tryz.func240 (by kernel_rfl) dg_impl_hasText rs_impl_hasText rfl rfl ?_
  delta c_impl_hasText T.o X.i C.g
  refine Kbc (Ka Y (Kdb (Kc (Ka Y (Kj Y Y Y (Ka Y (kGP Y (fun g0 => Kg Y (Kg Y (Kk Y (Ka Y (Ka Y (Kd (Kr (Er (ra := [.one (.d _)]) rfl ?_)))))))) (fun g0 => Ki Y (Ka Y (Ki Y (Kj Y Y Y (Kl Y (Ka Y (Ka Y (Kd (Kr (Er (ra := [.one (.d _)]) rfl ?_)))))))))))))))))
  all_goals simp_all [hasText]

def c_impl_RrOk : C := (.g (.o 0 1 (.box 1 (.t 0)) (.o 1 2 (.mov (.v (.bool false))) .done)) (.seq (.g (.o 0 7 (.fad (.t 1) 0) (.o 1 8 (.load (some 1) (.t 7)) (.o 2 9 (.call 9 71 [(.t 8)]) (.o 3 10 (.un .not (.t 9)) (.o 4 11 (.mov (.t 10)) (.op 5 [] (some 12) (some (11, false)) false (.fad (.t 1) 1) (.op 6 [] (some 13) (some (11, false)) false (.load none (.t 12)) (.op 7 [] (some 14) (some (11, false)) false (.call 14 89 [(.t 13)]) (.op 8 [] (some 15) (some (11, false)) false (.un .not (.t 14)) (.o 9 16 (.pick (.t 11) (.v (.bool true)) (.t 15)) (.o 10 17 (.mov (.t 16)) (.op 11 [] (some 18) (some (17, false)) false (.fad (.t 1) 2) (.op 12 [] (some 19) (some (17, false)) false (.load none (.t 18)) (.op 13 [] (some 20) (some (17, false)) false (.call 20 109 [(.t 19), (.i 0), (.i 100000)]) (.op 14 [] (some 21) (some (17, false)) false (.un .not (.t 20)) (.o 15 22 (.pick (.t 17) (.v (.bool true)) (.t 21)) .done)))))))))))))))) (.cond (.t 22) (.g (.o 0 2 (.mov (.v (.bool false))) .done) .ret) .skip)) (.g (.o 0 23 (.fad (.t 1) 6) (.o 1 24 (.load none (.t 23)) (.o 2 25 (.len (.t 24)) (.o 3 26 (.bin .eql (.t 25) (.i 0)) (.o 4 3 (.mov (.t 26)) .done))))) (.seq (.g (.o 0 27 (.fad (.t 1) 1) (.o 1 28 (.load none (.t 27)) (.o 2 29 (.bin .eql (.t 28) (.i 6)) .done))) (.cond (.t 29) (.reg false (.o 0 30 (.fad (.t 1) 6) (.o 1 31 (.load none (.t 30)) (.o 2 32 (.len (.t 31)) (.o 3 33 (.bin .eql (.t 32) (.i 2)) (.o 4 34 (.mov (.t 33)) (.op 5 [] (some 35) (some (34, true)) false (.fad (.t 1) 6) (.op 6 [] (some 36) (some (34, true)) false (.load none (.t 35)) (.op 7 [] (some 37) (some (34, true)) false (.iad 1 (.t 36) (.i 0)) (.op 8 [] (some 38) (some (34, true)) false (.load none (.t 37)) (.op 9 [] (some 39) (some (34, true)) false (.call 39 192 [(.t 38)]) (.o 10 40 (.pick (.t 34) (.t 39) (.v (.bool false))) (.o 11 41 (.mov (.t 40)) (.op 12 [] (some 42) (some (41, true)) false (.fad (.t 1) 6) (.op 13 [] (some 43) (some (41, true)) false (.load none (.t 42)) (.op 14 [] (some 44) (some (41, true)) false (.iad 1 (.t 43) (.i 1)) (.op 15 [] (some 45) (some (41, true)) false (.load none (.t 44)) (.op 16 [] (some 46) (some (41, true)) false (.call 46 109 [(.t 45), (.i 0), (.i 100000)]) (.o 17 47 (.pick (.t 41) (.t 46) (.v (.bool false))) (.o 18 3 (.mov (.t 47)) .done)))))))))))))))))))) .skip)) (.g (.o 0 48 (.fad (.t 1) 3) (.o 1 49 (.load none (.t 48)) (.o 2 50 (.bin .eql (.t 49) (.i 0)) (.o 3 51 (.mov (.t 50)) (.op 4 [] (some 52) (some (51, false)) false (.fad (.t 1) 1) (.op 5 [] (some 53) (some (51, false)) false (.load none (.t 52)) (.op 6 [] (some 54) (some (51, false)) false (.bin .eql (.t 53) (.i 1)) (.op 7 [] (some 55) (some (51, false)) false (.mov (.t 54)) (.op 8 [] (some 56) (some (55, true)) false (.fad (.t 1) 3) (.op 9 [] (some 57) (some (55, true)) false (.load none (.t 56)) (.op 10 [] (some 58) (some (55, true)) false (.call 58 192 [(.t 57)]) (.op 11 [] (some 59) (some (51, false)) false (.pick (.t 55) (.t 58) (.v (.bool false))) (.o 12 60 (.pick (.t 51) (.v (.bool true)) (.t 59)) (.o 13 4 (.mov (.t 60)) .done)))))))))))))) (.g (.o 0 61 (.fad (.t 1) 4) (.o 1 62 (.fad (.t 61) 0) (.o 2 63 (.load none (.t 62)) (.o 3 64 (.len (.t 63)) (.o 4 65 (.bin .eql (.t 64) (.i 0)) (.o 5 66 (.mov (.t 65)) (.op 6 [] (some 67) (some (66, false)) false (.fad (.t 1) 1) (.op 7 [] (some 68) (some (66, false)) false (.load none (.t 67)) (.op 8 [] (some 69) (some (66, false)) false (.call 69 239 [(.t 68)]) (.op 9 [] (some 70) (some (66, false)) false (.mov (.t 69)) (.op 10 [] (some 71) (some (70, true)) false (.fad (.t 1) 4) (.op 11 [] (some 72) (some (70, true)) false (.load (some 1) (.t 71)) (.op 12 [] (some 73) (some (70, true)) false (.call 73 71 [(.t 72)]) (.op 13 [] (some 74) (some (66, false)) false (.pick (.t 70) (.t 73) (.v (.bool false))) (.o 14 75 (.pick (.t 66) (.v (.bool true)) (.t 74)) (.o 15 5 (.mov (.t 75)) .done)))))))))))))))) (.g (.o 0 76 (.fad (.t 1) 5) (.o 1 77 (.load none (.t 76)) (.o 2 78 (.len (.t 77)) (.o 3 79 (.bin .eql (.t 78) (.i 0)) (.o 4 80 (.mov (.t 79)) (.op 5 [] (some 81) (some (80, false)) false (.fad (.t 1) 1) (.op 6 [] (some 82) (some (80, false)) false (.load none (.t 81)) (.op 7 [] (some 83) (some (80, false)) false (.call 83 240 [(.t 82)]) (.op 8 [] (some 84) (some (80, false)) false (.mov (.t 83)) (.op 9 [] (some 85) (some (84, true)) false (.fad (.t 1) 5) (.op 10 [] (some 86) (some (84, true)) false (.load none (.t 85)) (.op 11 [] (some 87) (some (84, true)) false (.len (.t 86)) (.op 12 [] (some 88) (some (84, true)) false (.bin .leq (.t 87) (.i 40)) (.op 13 [] (some 89) (some (80, false)) false (.pick (.t 84) (.t 88) (.v (.bool false))) (.o 14 90 (.pick (.t 80) (.v (.bool true)) (.t 89)) (.o 15 6 (.mov (.t 90)) .done)))))))))))))))) (.g (.o 0 91 (.mov (.t 3)) (.o 1 92 (.mov (.t 91)) (.op 2 [] (some 93) (some (92, true)) false (.mov (.t 4)) (.o 3 94 (.pick (.t 92) (.t 93) (.v (.bool false))) (.o 4 95 (.mov (.t 94)) (.op 5 [] (some 96) (some (95, true)) false (.mov (.t 5)) (.o 6 97 (.pick (.t 95) (.t 96) (.v (.bool false))) (.o 7 98 (.mov (.t 97)) (.op 8 [] (some 99) (some (98, true)) false (.mov (.t 6)) (.o 9 100 (.pick (.t 98) (.t 99) (.v (.bool false))) (.o 10 2 (.mov (.t 100)) .done))))))))))) .ret))))))))
theorem dg_impl_RrOk : Tryz.f159.body.bind (digC Tryz.prog Tryz.f159.ntmps []) = some c_impl_RrOk := by kernel_rfl
theorem rs_impl_RrOk : resSlots Tryz.prog Tryz.f159 = some [.s 2] := by kernel_rfl
theorem ok_impl_RrOk (r : Rr) (hs : SmallR r) :
    FnOK Tryz.prog 159 [.agg (r.cells.map .d)] (fun ra _ => ra = [.one (.d (.sc (.bool (rrOk r))))]) := by
  refine FnOK.ofK Tryz.func159 (by kernel_rfl) dg_impl_RrOk rs_impl_RrOk rfl rfl ?_
  delta c_impl_RrOk T.o X.i C.g
  have n1 := hs.n.len
  have n2 := hs.n.mem
  have t1 := hs.t.len
  have t2 := hs.t.mem
  have x1 := hs.x
  have m1 := hs.m
  refine Kbc (kBox Y Y Y Y Y (Ka Y (Kd ?_)))
  by_cases h0 : nameOk r.name = true ∧ tyOk r.ty = true ∧ (0 ≤ r.ttl ∧ r.ttl ≤ 100000)
  case neg =>
    rw [show rrOk r = false by simp only [rrOk]; revert h0; cases nameOk r.name <;> cases tyOk r.ty <;> simp <;> intros <;> omega]
    refine Kb ?_
    cases h1 : nameOk r.name
    case false => refine kSeq (kReg (kFadP rfl rfl (kLoadP rfl rfl rfl (kCallD (ok_impl_NameOk _ pr pr) ⟨⟨⟨rfl, trivial⟩, leb⟩, trivial⟩ rfl rfl rfl rfl rfl (kUn rfl rfl (kMovC rfl (kGN rfl (fun g0 => kGF rfl (kGF rfl (kGF rfl (kGF rfl (kPickT rfl (kMovC rfl (kMovC rfl (kGF rfl (kGF rfl (kGF rfl (kGF rfl (kPickT rfl (kMovC rfl (kDone (kCondT rfl (kSeq (kReg (kMovC rfl (kDone (kRet (endRetA (ra := [.one (.d _)]) rfl rfl))))))))))))))))))))) (fun g0 => (by (simp [*] at g0))))))))))
    cases h2 : tyOk r.ty
    case false => refine kSeq (kReg (kFadP rfl rfl (kLoadP rfl rfl rfl (kCallD (ok_impl_NameOk _ pr pr) ⟨⟨⟨rfl, trivial⟩, leb⟩, trivial⟩ rfl rfl rfl rfl rfl (kUn rfl rfl (kMovC rfl (kGN rfl (fun g0 => (by (simp [*] at g0))) (fun g0 => kGT rfl (kFadP rfl rfl (kGT rfl (kLoadP rfl rfl rfl (kGT rfl (kCallD (ok_impl_TypeOk _) ⟨rfl, trivial⟩ rfl rfl rfl rfl rfl (kGT rfl (kUn rfl rfl (kPickF rfl (kMovC rfl (kMovC rfl (kGN rfl (fun g1 => kGF rfl (kGF rfl (kGF rfl (kGF rfl (kPickT rfl (kMovC rfl (kDone (kCondT rfl (kSeq (kReg (kMovC rfl (kDone (kRet (endRetA (ra := [.one (.d _)]) rfl rfl)))))))))))))) (fun g1 => (by (simp [*] at g1))))))))))))))))))))))
    have h3 : ¬ (0 ≤ r.ttl ∧ r.ttl ≤ 100000) := fun h => h0 ⟨h1, h2, h⟩
    refine Kbc (Kf Y Y (Ke Y Y Y (Kp (ok_impl_NameOk _ pr pr) ⟨⟨⟨Y, trivial⟩, leb⟩, trivial⟩ Y Y Y Y Y (Kw Y Y (Ka Y (kGN Y (fun g0 => (by (simp [*] at g0))) (fun g0 => Ki Y (Kf Y Y (Ki Y (Ke Y Y Y (Ki Y (Kp (ok_impl_TypeOk _) ⟨Y, trivial⟩ Y Y Y Y Y (Ki Y (Kw Y Y (Kl Y (Ka Y (Ka Y (kGN Y (fun g1 => (by (simp [*] at g1))) (fun g1 => Ki Y (Kf Y Y (Ki Y (Ke Y Y Y (Ki Y (Kp (ok_impl_within _ _ _) ⟨Y, Y, Y, trivial⟩ Y Y Y Y Y (Ki Y (Kw Y Y (Kl Y (Ka Y (Kd (kCondN Y (fun g2 => Kbc (Ka Y (Kd (Kr (Er (ra := [.one (.d _)]) rfl rfl))))) (fun g2 => (by (simp [*] at g2)))))))))))))))))))))))))))))))))
  obtain ⟨h1, h2, h3⟩ := h0
  rw [show rrOk r = dataOk r by simp only [rrOk]; rw [h1, h2, decide_eq_true h3.1, decide_eq_true h3.2]; rfl]
  refine Kb (kCut ⟨tabSl [(1, .c (.ptr (rid 1 0) 1 0))], obTab 1 [(rid 1 0, ⟨1, 0, .box (r.cells.map .d)⟩)], []⟩ ?_ (fun x hc => ?_))
  case refine_2 =>
    refine Kbc (Kf Y Y (Ke Y Y Y (Kp (ok_impl_NameOk _ pr pr) ⟨⟨⟨Y, trivial⟩, leb⟩, trivial⟩ Y Y Y Y Y (Kw Y Y (Ka Y (kGN Y (fun g0 => (by (simp [*] at g0))) (fun g0 => Ki Y (Kf Y Y (Ki Y (Ke Y Y Y (Ki Y (Kp (ok_impl_TypeOk _) ⟨Y, trivial⟩ Y Y Y Y Y (Ki Y (Kw Y Y (Kl Y (Ka Y (Ka Y (kGN Y (fun g1 => (by (simp [*] at g1))) (fun g1 => Ki Y (Kf Y Y (Ki Y (Ke Y Y Y (Ki Y (Kp (ok_impl_within _ _ _) ⟨Y, Y, Y, trivial⟩ Y Y Y Y Y (Ki Y (Kw Y Y (Kl Y (Ka Y (Kd (kCondN Y (fun g2 => (by (simp [*] at g2))) (fun g2 => Kn (hc _ .normA))))))))))))))))))))))))))))))))
  refine Kb (kCut ⟨tabSl [(1, .c (.ptr (rid 1 0) 1 0)), (3, .b (((r.nums.length : Int) == 0)))], obTab 1 [(rid 1 0, ⟨1, 0, .box (r.cells.map .d)⟩)], []⟩ ?_ (fun x hc => ?_))
  case refine_2 => refine kReg (kFadP rfl rfl (kLoadP rfl rfl rfl (kLenR rfl rfl (kBin rfl rfl rfl (kMovC rfl (kDone (hc _ .normA)))))))
  refine Kb (kCut ⟨tabSl [(1, .c (.ptr (rid 1 0) 1 0)), (3, .b ((if r.ty == 6 then numsOk r.nums else ((r.nums.length : Int) == 0))))], obTab 1 [(rid 1 0, ⟨1, 0, .box (r.cells.map .d)⟩)], []⟩ ?_ (fun x hc => ?_))
  case refine_2 =>
    refine Kbc (Kf Y Y (Ke Y Y Y (Kj Y Y Y (Kd (Km Y (fun g0 => Kc (Kf Y Y (Ke Y Y Y (Kq Y Y (Kj Y Y Y (Ka Y (kGP Y (fun g1 => Ki Y (Kf Y Y (Ki Y (Ke Y Y Y (Ki Y (kIadR Y Y Y om (Ki Y (Ky Y Y (Ki Y (Kp (ok_impl_isWord _) ⟨Y, trivial⟩ Y Y Y Y Y (Kk Y (Ka Y (Ka Y (kGS Y (fun g2 => Ki Y (Kf Y Y (Ki Y (Ke Y Y Y (Ki Y (kIadR Y Y Y om (Ki Y (Ky Y Y (Ki Y (Kp (ok_impl_within _ _ _) ⟨Y, Y, Y, trivial⟩ Y Y Y Y Y (Kk Y (Ka Y (Ka Y (Kd (hc _ .normA))))))))))))))) (fun g2 => Kg Y (Kg Y (Kg Y (Kg Y (Kg Y (Kl Y (Ka Y (Ka Y (Kd (hc _ .normA)))))))))))))))))))))))) (fun g1 => Kg Y (Kg Y (Kg Y (Kg Y (Kg Y (Kl Y (Ka Y (Ka Y (Kg Y (Kg Y (Kg Y (Kg Y (Kg Y (Kl Y (Ka Y (Ka Y (Kd (hc _ .normA))))))))))))))))))))))))) (fun g0 => Kn (hc _ .normA)))))))
  refine Kb (kCut ⟨tabSl [(1, .c (.ptr (rid 1 0) 1 0)), (3, .b ((if r.ty == 6 then numsOk r.nums else ((r.nums.length : Int) == 0)))), (4, .b ((if r.ty == 1 then isW r.addr else r.addr == 0)))], obTab 1 [(rid 1 0, ⟨1, 0, .box (r.cells.map .d)⟩)], []⟩ ?_ (fun x hc => ?_))
  case refine_2 =>
    refine Kc (Kf Y Y (Ke Y Y Y (Kj Y Y Y (Ka Y (kGP Y (fun g0 => Kg Y (Kg Y (Kg Y (Kg Y (kGU Y (kGU Y (kGU Y (Kg Y (Kk Y (Ka Y (Ka Y (Kd (hc _ .normA))))))))))))) (fun g0 => Ki Y (Kf Y Y (Ki Y (Ke Y Y Y (Ki Y (Kj Y Y Y (Ki Y (Ka Y (kGP Y (fun g1 => Ki Y (Kf Y Y (Ki Y (Ke Y Y Y (Ki Y (Kp (ok_impl_isWord _) ⟨Y, trivial⟩ Y Y Y Y Y (Ki Y (Kk Y (Ka Y (Kl Y (Ka Y (Ka Y (Kd (hc _ .normA)))))))))))))) (fun g1 => Kg Y (Kg Y (Kg Y (Ki Y (Kl Y (Ka Y (Kl Y (Ka Y (Ka Y (Kd (hc _ .normA)))))))))))))))))))))))))
  refine Kb (kCut ⟨tabSl [(1, .c (.ptr (rid 1 0) 1 0)), (3, .b ((if r.ty == 6 then numsOk r.nums else ((r.nums.length : Int) == 0)))), (4, .b ((if r.ty == 1 then isW r.addr else r.addr == 0))), (5, .b ((if hasTo r.ty then nameOk r.to else ((r.to.length : Int) == 0))))], obTab 1 [(rid 1 0, ⟨1, 0, .box (r.cells.map .d)⟩)], []⟩ ?_ (fun x hc => ?_))
  case refine_2 =>
    refine Kc (Kf Y Y (Kf Y Y (Ke Y Y Y (Kq Y Y (Kj Y Y Y (Ka Y (kGP Y (fun g0 => Kg Y (Kg Y (Kg Y (Kg Y (kGU Y (kGU Y (kGU Y (Kg Y (Kk Y (Ka Y (Ka Y (Kd (hc _ .normA))))))))))))) (fun g0 => Ki Y (Kf Y Y (Ki Y (Ke Y Y Y (Ki Y (Kp (ok_impl_hasTo _) ⟨Y, trivial⟩ Y Y Y Y Y (Ki Y (Ka Y (kGS Y (fun g1 => Ki Y (Kf Y Y (Ki Y (Ke Y Y Y (Ki Y (Kp (ok_impl_NameOk _ pr pr) ⟨⟨⟨Y, trivial⟩, leb⟩, trivial⟩ Y Y Y Y Y (Ki Y (Kk Y (Ka Y (Kl Y (Ka Y (Ka Y (Kd (hc _ .normA)))))))))))))) (fun g1 => Kg Y (Kg Y (Kg Y (Ki Y (Kl Y (Ka Y (Kl Y (Ka Y (Ka Y (Kd (hc _ .normA)))))))))))))))))))))))))))
  refine Kb (kCut ⟨tabSl [(1, .c (.ptr (rid 1 0) 1 0)), (3, .b ((if r.ty == 6 then numsOk r.nums else ((r.nums.length : Int) == 0)))), (4, .b ((if r.ty == 1 then isW r.addr else r.addr == 0))), (5, .b ((if hasTo r.ty then nameOk r.to else ((r.to.length : Int) == 0)))), (6, .b ((if hasText r.ty then decide ((r.text.length : Int) ≤ 40) else ((r.text.length : Int) == 0))))], obTab 1 [(rid 1 0, ⟨1, 0, .box (r.cells.map .d)⟩)], []⟩ ?_ (fun x hc => ?_))
  case refine_2 =>
    refine Kc (Kf Y Y (Ke Y Y Y (Kq Y Y (Kj Y Y Y (Ka Y (kGP Y (fun g0 => Kg Y (Kg Y (Kg Y (Kg Y (kGU Y (kGU Y (kGU Y (kGU Y (Kg Y (Kk Y (Ka Y (Ka Y (Kd (hc _ .normA)))))))))))))) (fun g0 => Ki Y (Kf Y Y (Ki Y (Ke Y Y Y (Ki Y (Kp (ok_impl_hasText _) ⟨Y, trivial⟩ Y Y Y Y Y (Ki Y (Ka Y (kGS Y (fun g1 => Ki Y (Kf Y Y (Ki Y (Ke Y Y Y (Ki Y (Kq Y Y (Ki Y (Kj Y Y Y (Ki Y (Kk Y (Ka Y (Kl Y (Ka Y (Ka Y (Kd (hc _ .normA)))))))))))))))) (fun g1 => Kg Y (Kg Y (Kg Y (Kg Y (Ki Y (Kl Y (Ka Y (Kl Y (Ka Y (Ka Y (Kd (hc _ .normA)))))))))))))))))))))))))))
  refine Kbc (Ka Y (Ka Y (kGS Y (fun g0 => Ki Y (Ka Y (Kk Y (Ka Y (Ka Y (kGS Y (fun g1 => Ki Y (Ka Y (Kk Y (Ka Y (Ka Y (kGS Y (fun g2 => Ki Y (Ka Y (Kk Y (Ka Y (Ka Y (Kd (Kr (Er (ra := [.one (.d _)]) rfl ?_)))))))) (fun g2 => Kg Y (Kl Y (Ka Y (Ka Y (Kd (Kr (Er (ra := [.one (.d _)]) rfl ?_))))))))))))) (fun g1 => Kg Y (Kl Y (Ka Y (Ka Y (Kg Y (Kl Y (Ka Y (Ka Y (Kd (Kr (Er (ra := [.one (.d _)]) rfl ?_))))))))))))))))) (fun g0 => Kg Y (Kl Y (Ka Y (Ka Y (Kg Y (Kl Y (Ka Y (Ka Y (Kg Y (Kl Y (Ka Y (Ka Y (Kd (Kr (Er (ra := [.one (.d _)]) rfl ?_))))))))))))))))))
  all_goals simp only [dataOk, *, Bool.true_and, Bool.false_and, Bool.and_true, Bool.and_false]

def c_impl_all_impl_Rr_1 : C := (.g (.o 0 2 (.box 2 (.t 0)) (.o 1 3 (.mov (.v (.bool false))) .done)) (.g (.o 0 4 (.load none (.t 1)) (.o 1 5 (.load (some 7) (.t 2)) (.o 2 6 (.callv 6 (.t 4) [(.t 5)]) (.o 3 7 (.un .not (.t 6)) (.o 4 3 (.mov (.t 7)) .done))))) .ret))
theorem dg_impl_all_impl_Rr_1 : Tryz.f238.body.bind (digC Tryz.prog Tryz.f238.ntmps []) = some c_impl_all_impl_Rr_1 := by kernel_rfl
theorem rs_impl_all_impl_Rr_1 : resSlots Tryz.prog Tryz.f238 = some [.s 3] := by kernel_rfl
theorem ok_impl_all_impl_Rr_1 (x : Rr) (D : Rr → Prop) (g : Rr → Bool) (hx : D x) :
    FnOK Tryz.prog 238 [.agg (x.cells.map .d), .one (.ptr [.fv false (fcAgg D Rr.cells g)])] (fun ra _ => ra = [.one (.d (.sc (.bool (!g x))))]) := by
  refine FnOK.ofK Tryz.func238 (by kernel_rfl) dg_impl_all_impl_Rr_1 rs_impl_all_impl_Rr_1 rfl rfl ?_
  delta c_impl_all_impl_Rr_1 T.o X.i C.g
  refine Kbc (kBox Y Y Y Y Y (Ka Y (Kdb (Kc (kLoadC Y Y (Ke Y Y Y ?_))))))
  refine kCallv Y ⟨x, hx, rfl, rfl⟩ ⟨⟨⟨Y, Y, Y, Y, Y, Y, Y, trivial⟩, leb⟩, trivial⟩ (.inr ?_) rfl ?_ rfl ?_
  · rintro _ rfl; rfl
  · rintro _ rfl; exact leb
  rintro _ rfl
  refine Kw Y Y (Ka Y (Kd (Kr (Er (ra := [.one (.d _)]) rfl rfl))))

def c_slices_IndexFunc_Limpl_Rr_impl_Rr : C := (.g (.o 0 4 (.mov (.i 0)) .done) (.seq (.g (.o 0 6 (.mov (.t 0)) (.o 1 7 (.len (.t 6)) (.o 2 8 (.mov (.i 0)) .done))) (.block 0 (.loop (.g (.o 0 9 (.bin .lss (.t 8) (.t 7)) .done) (.seq (.cond (.t 9) .skip (.exit 0)) (.seq (.block 1 (.g (.o 0 10 (.mov (.t 8)) (.o 1 5 (.mov (.t 10)) .done)) (.g (.o 0 11 (.mov (.t 1)) (.o 1 12 (.mov (.t 0)) (.o 2 13 (.mov (.t 5)) (.o 3 14 (.iad 7 (.t 12) (.t 13)) (.o 4 15 (.load (some 7) (.t 14)) (.o 5 16 (.callv 16 (.t 11) [(.t 15)]) .done)))))) (.cond (.t 16) (.g (.o 0 17 (.mov (.t 5)) (.o 1 4 (.mov (.t 17)) .done)) .ret) .skip)))) (.reg false (.o 0 18 (.bin .add (.t 8) (.i 1)) (.o 1 8 (.mov (.t 18)) .done))))))))) (.g (.o 0 4 (.mov (.i (-1))) .done) .ret)))
theorem dg_slices_IndexFunc_Limpl_Rr_impl_Rr : Tryz.f270.body.bind (digC Tryz.prog Tryz.f270.ntmps []) = some c_slices_IndexFunc_Limpl_Rr_impl_Rr := by kernel_rfl
theorem rs_slices_IndexFunc_Limpl_Rr_impl_Rr : resSlots Tryz.prog Tryz.f270 = some [.s 4] := by kernel_rfl
theorem ok_slices_IndexFunc_Limpl_Rr_impl_Rr (l : List Rr) (D : Rr → Prop) (g : Rr → Bool) (hl : l.length ≤ 4194304) (hD : ∀ x ∈ l, D x) :
    FnOK Tryz.prog 270 [.one (.d (encR l)), .one (.fv false (fcAgg D Rr.cells g))] (fun ra _ => ra = [.one (.d (.sc (.int .i64 (idx g l))))]) := by
  refine FnOK.ofK Tryz.func270 (by kernel_rfl) dg_slices_IndexFunc_Limpl_Rr_impl_Rr rs_slices_IndexFunc_Limpl_Rr_impl_Rr rfl rfl ?_
  delta c_slices_IndexFunc_Limpl_Rr_impl_Rr T.o X.i C.g
  refine Kbc (Ka Y (Kdb (Kbc (Ka Y (Kq Y Y (Ka Y (Kd (Kt ?_))))))))
  refine kLoop (α := { i : Nat // i ≤ l.length ∧ ∀ x ∈ l.take i, g x = false })
    (fun y => ⟨tabSl [(0, .dv (encR l)), (1, .c (.fv false (fcAgg D Rr.cells g))), (7, .i l.length), (8, .i y.1)], obTab 1 [], []⟩) (fun y => l.length - y.1) ⟨0, by simp⟩
    .normA ?_
  rintro ⟨i, hi, hg⟩
  simp only
  rcases Nat.lt_or_ge i l.length with hlt | hge
  · refine Kbc (Kj Y Y Y (Kdb (Km Y (fun g0 => Kn (Kb (Kt (Kbc (Ka Y (Ka Y (Kdb (Kc (Ka Y (Ka Y (Ka Y (kIadR Y Y Y om (Ky Y Y ?_))))))))))))) (fun g0 => om))))
    refine kCallv Y ⟨l[i], hD _ (List.getElem_mem hlt), rfl, rfl⟩ ⟨⟨⟨Y, Y, Y, Y, Y, Y, Y, trivial⟩, leb⟩, trivial⟩ (.inr ?_) rfl ?_ rfl ?_
    · rintro _ rfl; rfl
    · rintro _ rfl; exact leb
    rintro _ rfl
    refine Kd (kCond Y (fun g0 => Kbc (Ka Y (Ka Y (Kd (Kr (Er (ra := [.one (.d _)]) rfl ?_)))))) (fun g0 => Kn (Kv (Kc (kAdd Y Y om (Ka Y (Kd ?_)))))))
    · have : l.findIdx? g = some i := by
        rw [List.findIdx?_eq_some_iff_getElem]
        refine ⟨hlt, by assumption, fun j hj => ?_⟩
        simpa using hg _ (by rw [List.mem_take_iff_getElem]; exact ⟨j, by omega, rfl⟩)
      simp [idx, this]
    · refine kInv ⟨⟨i + 1, hlt, ?_⟩, by simp only; omega, .normA⟩
      intro x hx
      rw [← List.take_append_getElem hlt, List.mem_append] at hx
      rcases hx with hx | hx
      · exact hg x hx
      · simp at hx; rw [hx]; assumption
  · refine Kbc (Kj Y Y Y (Kdb (Km Y (fun g0 => om) (fun g0 => kExit (kExC (kExI (kExB (Kbc (Ka Y (Kd (Kr (Er (ra := [.one (.d _)]) rfl ?_))))))))))))
    have : l.findIdx? g = none := by
      rw [List.findIdx?_eq_none_iff]
      intro x hx
      rw [show i = l.length by omega, List.take_length] at hg
      exact hg x hx
    simp [idx, this]

def c_slices_ContainsFunc_Limpl_Rr_impl_Rr : C := (.g (.o 0 4 (.mov (.v (.bool false))) .done) (.g (.o 0 5 (.mov (.t 0)) (.o 1 6 (.mov (.t 1)) (.o 2 7 (.call 7 270 [(.t 5), (.t 6)]) (.o 3 8 (.bin .geq (.t 7) (.i 0)) (.o 4 4 (.mov (.t 8)) .done))))) .ret))
theorem dg_slices_ContainsFunc_Limpl_Rr_impl_Rr : Tryz.f197.body.bind (digC Tryz.prog Tryz.f197.ntmps []) = some c_slices_ContainsFunc_Limpl_Rr_impl_Rr := by kernel_rfl
theorem rs_slices_ContainsFunc_Limpl_Rr_impl_Rr : resSlots Tryz.prog Tryz.f197 = some [.s 4] := by kernel_rfl
theorem ok_slices_ContainsFunc_Limpl_Rr_impl_Rr (l : List Rr) (D : Rr → Prop) (g : Rr → Bool) (hl : l.length ≤ 4194304) (hD : ∀ x ∈ l, D x) :
    FnOK Tryz.prog 197 [.one (.d (encR l)), .one (.fv false (fcAgg D Rr.cells g))] (fun ra _ => ra = [.one (.d (.sc (.bool (l.any g))))]) := by
  refine FnOK.ofK Tryz.func197 (by kernel_rfl) dg_slices_ContainsFunc_Limpl_Rr_impl_Rr rs_slices_ContainsFunc_Limpl_Rr_impl_Rr rfl rfl ?_
  delta c_slices_ContainsFunc_Limpl_Rr_impl_Rr T.o X.i C.g
  refine Kbc (Ka Y (Kdb (Kc (Ka Y (Ka Y ?_)))))
  refine Ku true (ok_slices_IndexFunc_Limpl_Rr_impl_Rr l D g hl hD) ⟨rfl, ⟨fun h => h, fun _ _ h => h⟩, trivial⟩ rfl rfl rfl fun os => ?_
  rw [← idx_ge g l]
  refine Kj Y Y Y (Ka Y (Kd (Kr (Er (ra := [.one (.d _)]) rfl rfl))))

def c_impl_all_impl_Rr : C := (.g (.o 0 3 (.box 3 (.t 1)) (.o 1 4 (.mov (.v (.bool false))) .done)) (.g (.o 0 5 (.mov (.t 0)) (.o 1 6 (.clo 238 [] [(.t 3)]) (.o 2 7 (.call 7 197 [(.t 5), (.t 6)]) (.o 3 8 (.un .not (.t 7)) (.o 4 4 (.mov (.t 8)) .done))))) .ret))
theorem dg_impl_all_impl_Rr : Tryz.f158.body.bind (digC Tryz.prog Tryz.f158.ntmps []) = some c_impl_all_impl_Rr := by kernel_rfl
theorem rs_impl_all_impl_Rr : resSlots Tryz.prog Tryz.f158 = some [.s 4] := by kernel_rfl
theorem ok_impl_all_impl_Rr (l : List Rr) (D : Rr → Prop) (g : Rr → Bool) (hl : l.length ≤ 4194304) (hD : ∀ x ∈ l, D x) :
    FnOK Tryz.prog 158 [.one (.d (encR l)), .one (.fv false (fcAgg D Rr.cells g))] (fun ra _ => ra = [.one (.d (.sc (.bool (l.all g))))]) := by
  refine FnOK.ofK Tryz.func158 (by kernel_rfl) dg_impl_all_impl_Rr rs_impl_all_impl_Rr rfl rfl ?_
  delta c_impl_all_impl_Rr T.o X.i C.g
  refine Kbc (kBox Y Y Y Y Y (Ka Y (Kdb (Kc (Ka Y (kClo Y Y ?_))))))
  refine Ku true (ok_slices_ContainsFunc_Limpl_Rr_impl_Rr l D (fun x => !g x) hl hD) ⟨rfl, ⟨rfl, ⟨_, Tryz.func238, rfl, by kernel_rfl⟩, _, rfl, ?_⟩, trivial⟩ rfl rfl rfl fun os => ?_
  · rintro _ R ⟨x, hx, rfl, rfl⟩
    exact ⟨by rintro _ rfl; rfl, ok_impl_all_impl_Rr_1 x D g hx⟩
  rw [List.all_eq_not_any_not]
  refine Kw Y Y (Ka Y (Kd (Kr (Er (ra := [.one (.d _)]) rfl rfl))))

def c_impl_areRrs : C := (.g (.o 0 2 (.mov (.v (.bool false))) .done) (.g (.o 0 3 (.mov (.t 0)) (.o 1 4 (.len (.t 3)) (.o 2 5 (.bin .leq (.t 4) (.i 12)) (.o 3 6 (.mov (.t 5)) (.op 4 [] (some 7) (some (6, true)) false (.mov (.t 0)) (.op 5 [] (some 8) (some (6, true)) false (.call 8 158 [(.t 7), (.fn 159)]) (.o 6 9 (.pick (.t 6) (.t 8) (.v (.bool false))) (.o 7 2 (.mov (.t 9)) .done)))))))) .ret))
theorem dg_impl_areRrs : Tryz.f112.body.bind (digC Tryz.prog Tryz.f112.ntmps []) = some c_impl_areRrs := by kernel_rfl
theorem rs_impl_areRrs : resSlots Tryz.prog Tryz.f112 = some [.s 2] := by kernel_rfl
theorem ok_impl_areRrs (l : List Rr) (hs : SmallRs l) :
    FnOK Tryz.prog 112 [.one (.d (encR l))] (fun ra _ => ra = [.one (.d (.sc (.bool (rrsOk l))))]) := by
  refine FnOK.ofK Tryz.func112 (by kernel_rfl) dg_impl_areRrs rs_impl_areRrs rfl rfl ?_
  delta c_impl_areRrs T.o X.i C.g
  have h1 := hs.len
  refine Kbc (Ka Y (Kdb (Kc (Ka Y (Kq Y Y (Kj Y Y Y (Ka Y (kGP Y (fun g0 => Ki Y (Ka Y (Ki Y ?_))) (fun g0 => Kg Y (Kg Y (Kl Y (Ka Y (Ka Y (Kd (Kr (Er (ra := [.one (.d _)]) rfl ?_))))))))))))))))
  · refine Kp (ok_impl_all_impl_Rr l SmallR rrOk h1 hs.mem) ⟨rfl, ⟨rfl, rfl, ⟨_, Tryz.func159, rfl, by kernel_rfl⟩, ?_⟩, trivial⟩ Y Y Y Y Y ?_
    · rintro _ R ⟨x, h, rfl, rfl⟩
      exact ok_impl_RrOk x h
    refine Kk Y (Ka Y (Ka Y (Kd (Kr (Er (ra := [.one (.d _)]) rfl ?_)))))
    rw [show rrsOk l = l.all rrOk by simp only [rrsOk]; rw [decide_eq_true (by omega)]; rfl]
  · rw [show rrsOk l = false by simp only [rrsOk]; rw [decide_eq_false (by omega)]; rfl]

def c_impl_TaskOk : C := (.g (.o 0 1 (.box 1 (.t 0)) (.o 1 2 (.mov (.v (.bool false))) .done)) (.seq (.g (.o 0 3 (.fad (.t 1) 0) (.o 1 4 (.load none (.t 3)) (.o 2 5 (.call 5 109 [(.t 4), (.i 0), (.i 1)]) (.o 3 6 (.un .not (.t 5)) (.o 4 7 (.mov (.t 6)) (.op 5 [] (some 8) (some (7, false)) false (.fad (.t 1) 1) (.op 6 [] (some 9) (some (7, false)) false (.load none (.t 8)) (.op 7 [] (some 10) (some (7, false)) false (.call 10 109 [(.t 9), (.i 0), (.i 65535)]) (.op 8 [] (some 11) (some (7, false)) false (.un .not (.t 10)) (.o 9 12 (.pick (.t 7) (.v (.bool true)) (.t 11)) (.o 10 13 (.mov (.t 12)) (.op 11 [] (some 14) (some (13, false)) false (.fad (.t 1) 2) (.op 12 [] (some 15) (some (13, false)) false (.fad (.t 14) 0) (.op 13 [] (some 16) (some (13, false)) false (.load (some 1) (.t 15)) (.op 14 [] (some 17) (some (13, false)) false (.call 17 71 [(.t 16)]) (.op 15 [] (some 18) (some (13, false)) false (.un .not (.t 17)) (.o 16 19 (.pick (.t 13) (.v (.bool true)) (.t 18)) (.o 17 20 (.mov (.t 19)) (.op 18 [] (some 21) (some (20, false)) false (.fad (.t 1) 2) (.op 19 [] (some 22) (some (20, false)) false (.fad (.t 21) 1) (.op 20 [] (some 23) (some (20, false)) false (.load none (.t 22)) (.op 21 [] (some 24) (some (20, false)) false (.call 24 89 [(.t 23)]) (.op 22 [] (some 25) (some (20, false)) false (.un .not (.t 24)) (.o 23 26 (.pick (.t 20) (.v (.bool true)) (.t 25)) (.o 24 27 (.mov (.t 26)) (.op 25 [] (some 28) (some (27, false)) false (.fad (.t 1) 4) (.op 26 [] (some 29) (some (27, false)) false (.load (some 1) (.t 28)) (.op 27 [] (some 30) (some (27, false)) false (.fad (.t 1) 5) (.op 28 [] (some 31) (some (27, false)) false (.load (some 1) (.t 30)) (.op 29 [] (some 32) (some (27, false)) false (.call 32 43 [(.t 29), (.t 31)]) (.op 30 [] (some 33) (some (27, false)) false (.un .not (.t 32)) (.o 31 34 (.pick (.t 27) (.v (.bool true)) (.t 33)) (.o 32 35 (.mov (.t 34)) (.op 33 [] (some 36) (some (35, false)) false (.fad (.t 1) 6) (.op 34 [] (some 37) (some (35, false)) false (.load none (.t 36)) (.op 35 [] (some 38) (some (35, false)) false (.call 38 110 [(.t 37)]) (.op 36 [] (some 39) (some (35, false)) false (.un .not (.t 38)) (.o 37 40 (.pick (.t 35) (.v (.bool true)) (.t 39)) (.o 38 41 (.mov (.t 40)) (.op 39 [] (some 42) (some (41, false)) false (.fad (.t 1) 7) (.op 40 [] (some 43) (some (41, false)) false (.load none (.t 42)) (.op 41 [] (some 44) (some (41, false)) false (.call 44 110 [(.t 43)]) (.op 42 [] (some 45) (some (41, false)) false (.un .not (.t 44)) (.o 43 46 (.pick (.t 41) (.v (.bool true)) (.t 45)) .done)))))))))))))))))))))))))))))))))))))))))))) (.cond (.t 46) (.g (.o 0 2 (.mov (.v (.bool false))) .done) .ret) .skip)) (.seq (.g (.o 0 47 (.fad (.t 1) 8) (.o 1 48 (.load none (.t 47)) (.o 2 49 (.fad (.t 1) 7) (.o 3 50 (.load none (.t 49)) (.o 4 51 (.len (.t 50)) (.o 5 52 (.bin .sub (.t 51) (.i 1)) (.o 6 53 (.call 53 109 [(.t 48), (.i 0), (.t 52)]) (.o 7 54 (.un .not (.t 53)) (.o 8 55 (.mov (.t 54)) (.op 9 [] (some 56) (some (55, false)) false (.fad (.t 1) 9) (.op 10 [] (some 57) (some (55, false)) false (.load none (.t 56)) (.op 11 [] (some 58) (some (55, false)) false (.call 58 109 [(.t 57), (.i 0), (.i 12)]) (.op 12 [] (some 59) (some (55, false)) false (.un .not (.t 58)) (.o 13 60 (.pick (.t 55) (.v (.bool true)) (.t 59)) (.o 14 61 (.mov (.t 60)) (.op 15 [] (some 62) (some (61, false)) false (.fad (.t 1) 10) (.op 16 [] (some 63) (some (61, false)) false (.load none (.t 62)) (.op 17 [] (some 64) (some (61, false)) false (.call 64 109 [(.t 63), (.i 0), (.i 6)]) (.op 18 [] (some 65) (some (61, false)) false (.un .not (.t 64)) (.o 19 66 (.pick (.t 61) (.v (.bool true)) (.t 65)) (.o 20 67 (.mov (.t 66)) (.op 21 [] (some 68) (some (67, false)) false (.fad (.t 1) 11) (.op 22 [] (some 69) (some (67, false)) false (.load none (.t 68)) (.op 23 [] (some 70) (some (67, false)) false (.call 70 111 [(.t 69)]) (.op 24 [] (some 71) (some (67, false)) false (.un .not (.t 70)) (.o 25 72 (.pick (.t 67) (.v (.bool true)) (.t 71)) (.o 26 73 (.mov (.t 72)) (.op 27 [] (some 74) (some (73, false)) false (.fad (.t 1) 12) (.op 28 [] (some 75) (some (73, false)) false (.load none (.t 74)) (.op 29 [] (some 76) (some (73, false)) false (.call 76 112 [(.t 75)]) (.op 30 [] (some 77) (some (73, false)) false (.un .not (.t 76)) (.o 31 78 (.pick (.t 73) (.v (.bool true)) (.t 77)) .done)))))))))))))))))))))))))))))))) (.cond (.t 78) (.g (.o 0 2 (.mov (.v (.bool false))) .done) .ret) .skip)) (.g (.o 0 79 (.fad (.t 1) 0) (.o 1 80 (.load none (.t 79)) (.o 2 81 (.bin .eql (.t 80) (.i 1)) (.o 3 82 (.mov (.t 81)) (.op 4 [] (some 83) (some (82, false)) false (.fad (.t 1) 11) (.op 5 [] (some 84) (some (82, false)) false (.load none (.t 83)) (.op 6 [] (some 85) (some (82, false)) false (.bin .eql (.t 84) (.i 0)) (.op 7 [] (some 86) (some (82, false)) false (.mov (.t 85)) (.op 8 [] (some 87) (some (86, true)) false (.fad (.t 1) 9) (.op 9 [] (some 88) (some (86, true)) false (.load none (.t 87)) (.op 10 [] (some 89) (some (86, true)) false (.bin .lss (.t 88) (.i 12)) (.op 11 [] (some 90) (some (82, false)) false (.pick (.t 86) (.t 89) (.v (.bool false))) (.op 12 [] (some 91) (some (82, false)) false (.mov (.t 90)) (.op 13 [] (some 92) (some (91, true)) false (.fad (.t 1) 10) (.op 14 [] (some 93) (some (91, true)) false (.load none (.t 92)) (.op 15 [] (some 94) (some (91, true)) false (.bin .lss (.t 93) (.i 6)) (.op 16 [] (some 95) (some (82, false)) false (.pick (.t 91) (.t 94) (.v (.bool false))) (.o 17 96 (.pick (.t 82) (.v (.bool true)) (.t 95)) (.o 18 2 (.mov (.t 96)) .done))))))))))))))))))) .ret))))
theorem dg_impl_TaskOk : Tryz.f35.body.bind (digC Tryz.prog Tryz.f35.ntmps []) = some c_impl_TaskOk := by kernel_rfl
theorem rs_impl_TaskOk : resSlots Tryz.prog Tryz.f35 = some [.s 2] := by kernel_rfl
theorem ok_impl_TaskOk (t : Task) (hs : SmallT t) :
    FnOK Tryz.prog 35 [.agg (t.cells.map .d)] (fun ra _ => ra = [.one (.d (.sc (.bool (taskOk t))))]) := by
  refine FnOK.ofK Tryz.func35 (by kernel_rfl) dg_impl_TaskOk rs_impl_TaskOk rfl rfl ?_
  delta c_impl_TaskOk T.o X.i C.g
  have n1 := hs.n.len
  have n2 := hs.n.mem
  have f1 := hs.f.len
  have f2 := hs.f.mem
  have z1 := hs.z.len
  have z2 := hs.z.mem
  have h1 := hs.h
  have s1 := hs.s
  have a1 := hs.a
  refine Kbc (kBox Y Y Y Y Y (Ka Y (Kdb (Kbc (Kf Y Y (Ke Y Y Y (Kp (ok_impl_within _ _ _) ⟨Y, Y, Y, trivial⟩ Y Y Y Y Y (Kw Y Y (Ka Y (kGN Y (fun g0 => Kg Y (Kg Y (Kg Y (Kg Y (Kk Y (Ka Y (Ka Y (Kg Y (Kg Y (Kg Y (Kg Y (Kg Y (Kk Y (Ka Y (Ka Y (Kg Y (Kg Y (Kg Y (Kg Y (Kg Y (Kk Y (Ka Y (Ka Y (Kg Y (Kg Y (Kg Y (Kg Y (Kg Y (Kg Y (Kk Y (Ka Y (Ka Y (Kg Y (Kg Y (Kg Y (Kg Y (Kk Y (Ka Y (Ka Y (Kg Y (Kg Y (Kg Y (Kg Y (Kk Y (Ka Y (Kd (kCondT Y (Kbc (Ka Y (Kd (Kr (Er (ra := [.one (.d _)]) rfl ?_)))))))))))))))))))))))))))))))))))))))))))))))))))) (fun g0 => Ki Y (Kf Y Y (Ki Y (Ke Y Y Y (Ki Y (Kp (ok_impl_within _ _ _) ⟨Y, Y, Y, trivial⟩ Y Y Y Y Y (Ki Y (Kw Y Y (Kl Y (Ka Y (Ka Y (kGN Y (fun g1 => Kg Y (Kg Y (Kg Y (Kg Y (Kg Y (Kk Y (Ka Y (Ka Y (Kg Y (Kg Y (Kg Y (Kg Y (Kg Y (Kk Y (Ka Y (Ka Y (Kg Y (Kg Y (Kg Y (Kg Y (Kg Y (Kg Y (Kk Y (Ka Y (Ka Y (Kg Y (Kg Y (Kg Y (Kg Y (Kk Y (Ka Y (Ka Y (Kg Y (Kg Y (Kg Y (Kg Y (Kk Y (Ka Y (Kd (kCondT Y (Kbc (Ka Y (Kd (Kr (Er (ra := [.one (.d _)]) rfl ?_))))))))))))))))))))))))))))))))))))))))))))) (fun g1 => Ki Y (Kf Y Y (Ki Y (Kf Y Y (Ki Y (Ke Y Y Y (Ki Y (Kp (ok_impl_NameOk _ pr pr) ⟨⟨⟨Y, trivial⟩, leb⟩, trivial⟩ Y Y Y Y Y (Ki Y (Kw Y Y (Kl Y (Ka Y (Ka Y (kGN Y (fun g2 => Kg Y (Kg Y (Kg Y (Kg Y (Kg Y (Kk Y (Ka Y (Ka Y (Kg Y (Kg Y (Kg Y (Kg Y (Kg Y (Kg Y (Kk Y (Ka Y (Ka Y (Kg Y (Kg Y (Kg Y (Kg Y (Kk Y (Ka Y (Ka Y (Kg Y (Kg Y (Kg Y (Kg Y (Kk Y (Ka Y (Kd (kCondT Y (Kbc (Ka Y (Kd (Kr (Er (ra := [.one (.d _)]) rfl ?_))))))))))))))))))))))))))))))))))))) (fun g2 => Ki Y (Kf Y Y (Ki Y (Kf Y Y (Ki Y (Ke Y Y Y (Ki Y (Kp (ok_impl_TypeOk _) ⟨Y, trivial⟩ Y Y Y Y Y (Ki Y (Kw Y Y (Kl Y (Ka Y (Ka Y (kGN Y (fun g3 => Kg Y (Kg Y (Kg Y (Kg Y (Kg Y (Kg Y (Kk Y (Ka Y (Ka Y (Kg Y (Kg Y (Kg Y (Kg Y (Kk Y (Ka Y (Ka Y (Kg Y (Kg Y (Kg Y (Kg Y (Kk Y (Ka Y (Kd (kCondT Y (Kbc (Ka Y (Kd (Kr (Er (ra := [.one (.d _)]) rfl ?_))))))))))))))))))))))))))))) (fun g3 => Ki Y (Kf Y Y (Ki Y (Ke Y Y Y (Ki Y (Kf Y Y (Ki Y (Ke Y Y Y (Ki Y (Kp (ok_impl_Under _ _ pr pr pr pr) ⟨⟨⟨Y, trivial⟩, leb⟩, ⟨⟨Y, trivial⟩, leb⟩, trivial⟩ Y Y Y Y Y (Ki Y (Kw Y Y (Kl Y (Ka Y (Ka Y (kGN Y (fun g4 => Kg Y (Kg Y (Kg Y (Kg Y (Kk Y (Ka Y (Ka Y (Kg Y (Kg Y (Kg Y (Kg Y (Kk Y (Ka Y (Kd (kCondT Y (Kbc (Ka Y (Kd (Kr (Er (ra := [.one (.d _)]) rfl ?_)))))))))))))))))))) (fun g4 => Ki Y (Kf Y Y (Ki Y (Ke Y Y Y (Ki Y (Kp (ok_impl_areServers _ pr) ⟨Y, trivial⟩ Y Y Y Y Y (Ki Y (Kw Y Y (Kl Y (Ka Y (Ka Y (kGN Y (fun g5 => Kg Y (Kg Y (Kg Y (Kg Y (Kk Y (Ka Y (Kd (kCondT Y (Kbc (Ka Y (Kd (Kr (Er (ra := [.one (.d _)]) rfl ?_))))))))))))) (fun g5 => Ki Y (Kf Y Y (Ki Y (Ke Y Y Y (Ki Y (Kp (ok_impl_areServers _ pr) ⟨Y, trivial⟩ Y Y Y Y Y (Ki Y (Kw Y Y (Kl Y (Ka Y (Kd (kCondN Y (fun g6 => Kbc (Ka Y (Kd (Kr (Er (ra := [.one (.d _)]) rfl ?_))))) (fun g6 => Kn (Kb (Kbc (Kf Y Y (Ke Y Y Y (Kf Y Y (Ke Y Y Y (Kq Y Y (kDif Y Y om (Kp (ok_impl_within _ _ _) ⟨Y, Y, Y, trivial⟩ Y Y Y Y Y (Kw Y Y (Ka Y (kGN Y (fun g7 => Kg Y (Kg Y (Kg Y (Kg Y (Kk Y (Ka Y (Ka Y (Kg Y (Kg Y (Kg Y (Kg Y (Kk Y (Ka Y (Ka Y (Kg Y (Kg Y (Kg Y (Kg Y (Kk Y (Ka Y (Ka Y (Kg Y (Kg Y (Kg Y (Kg Y (Kk Y (Ka Y (Kd (kCondT Y (Kbc (Ka Y (Kd (Kr (Er (ra := [.one (.d _)]) rfl ?_)))))))))))))))))))))))))))))))))) (fun g7 => Ki Y (Kf Y Y (Ki Y (Ke Y Y Y (Ki Y (Kp (ok_impl_within _ _ _) ⟨Y, Y, Y, trivial⟩ Y Y Y Y Y (Ki Y (Kw Y Y (Kl Y (Ka Y (Ka Y (kGN Y (fun g8 => Kg Y (Kg Y (Kg Y (Kg Y (Kk Y (Ka Y (Ka Y (Kg Y (Kg Y (Kg Y (Kg Y (Kk Y (Ka Y (Ka Y (Kg Y (Kg Y (Kg Y (Kg Y (Kk Y (Ka Y (Kd (kCondT Y (Kbc (Ka Y (Kd (Kr (Er (ra := [.one (.d _)]) rfl ?_))))))))))))))))))))))))))) (fun g8 => Ki Y (Kf Y Y (Ki Y (Ke Y Y Y (Ki Y (Kp (ok_impl_within _ _ _) ⟨Y, Y, Y, trivial⟩ Y Y Y Y Y (Ki Y (Kw Y Y (Kl Y (Ka Y (Ka Y (kGN Y (fun g9 => Kg Y (Kg Y (Kg Y (Kg Y (Kk Y (Ka Y (Ka Y (Kg Y (Kg Y (Kg Y (Kg Y (Kk Y (Ka Y (Kd (kCondT Y (Kbc (Ka Y (Kd (Kr (Er (ra := [.one (.d _)]) rfl ?_)))))))))))))))))))) (fun g9 => Ki Y (Kf Y Y (Ki Y (Ke Y Y Y (Ki Y (Kp (ok_impl_isCode _) ⟨Y, trivial⟩ Y Y Y Y Y (Ki Y (Kw Y Y (Kl Y (Ka Y (Ka Y (kGN Y (fun g10 => Kg Y (Kg Y (Kg Y (Kg Y (Kk Y (Ka Y (Kd (kCondT Y (Kbc (Ka Y (Kd (Kr (Er (ra := [.one (.d _)]) rfl ?_))))))))))))) (fun g10 => Ki Y (Kf Y Y (Ki Y (Ke Y Y Y (Ki Y (Kp (ok_impl_areRrs _ pr) ⟨Y, trivial⟩ Y Y Y Y Y (Ki Y (Kw Y Y (Kl Y (Ka Y (Kd (kCondN Y (fun g11 => Kbc (Ka Y (Kd (Kr (Er (ra := [.one (.d _)]) rfl ?_))))) (fun g11 => Kn (Kbc (Kf Y Y (Ke Y Y Y (Kj Y Y Y (Ka Y (kGP Y (fun g12 => Kg Y (Kg Y (Kg Y (Kg Y (kGU Y (kGU Y (kGU Y (Kg Y (Kg Y (kGU Y (kGU Y (kGU Y (Kg Y (Kk Y (Ka Y (Ka Y (Kd (Kr (Er (ra := [.one (.d _)]) rfl ?_))))))))))))))))))) (fun g12 => Ki Y (Kf Y Y (Ki Y (Ke Y Y Y (Ki Y (Kj Y Y Y (Ki Y (Ka Y (kGP Y (fun g13 => Ki Y (Kf Y Y (Ki Y (Ke Y Y Y (Ki Y (Kj Y Y Y (Ki Y (Kk Y (Ka Y (Ki Y (Ka Y (kGP Y (fun g14 => Ki Y (Kf Y Y (Ki Y (Ke Y Y Y (Ki Y (Kj Y Y Y (Ki Y (Kk Y (Ka Y (Kl Y (Ka Y (Ka Y (Kd (Kr (Er (ra := [.one (.d _)]) rfl ?_))))))))))))))) (fun g14 => Kg Y (Kg Y (Kg Y (Ki Y (Kl Y (Ka Y (Kl Y (Ka Y (Ka Y (Kd (Kr (Er (ra := [.one (.d _)]) rfl ?_)))))))))))))))))))))))) (fun g13 => Kg Y (Kg Y (Kg Y (Ki Y (Kl Y (Ka Y (Ki Y (Ka Y (Kg Y (Kg Y (Kg Y (Ki Y (Kl Y (Ka Y (Kl Y (Ka Y (Ka Y (Kd (Kr (Er (ra := [.one (.d _)]) rfl ?_)))))))))))))))))))))))))))))))))))))))))))))))))))))))))))))))))))))))))))))))))))))))))))))))))))))))))))))))))))))))))))))))))))))))))))))))))))))))))))))))))))))))))))))))))))))))))))
  all_goals (clear n1 n2 f1 f2 z1 z2 h1 s1 a1 hs; refine congrArg (fun z : Bool => [RA.one (RV.d (DV.sc (Value.bool z)))]) ?_)
  all_goals first
    | (simp [taskOk, *]; done)
    | (simp [taskOk, *]; omega)
    | (rw [Bool.eq_iff_iff]; simp [taskOk, *]; done)
    | (rw [Bool.eq_iff_iff]; simp [taskOk, *]; omega)
    | (simp_all [taskOk]; done)
    | (simp_all [taskOk]; omega)

def c_impl_Task_end : C := (.g (.o 0 4 (.mov (.t 0)) (.o 1 5 (.mov (.t 0)) (.o 2 6 (.mov (.t 1)) (.o 3 7 (.nck (.t 4)) (.o 4 8 (.fad (.t 7) 0) (.op 5 [] none none false (.store none (.t 8) (.i 1)) (.o 6 9 (.nck (.t 5)) (.o 7 10 (.fad (.t 9) 11) (.op 8 [] none none false (.store none (.t 10) (.t 6)) .done))))))))) (.g (.o 0 11 (.mov (.t 1)) (.o 1 12 (.bin .neq (.t 11) (.i 0)) (.o 2 13 (.mov (.t 12)) (.op 3 [] (some 14) (some (13, true)) false (.mov (.t 1)) (.op 4 [] (some 15) (some (13, true)) false (.bin .neq (.t 14) (.i 3)) (.o 5 16 (.pick (.t 13) (.t 15) (.v (.bool false))) .done)))))) (.cond (.t 16) (.reg false (.o 0 17 (.mov (.t 0)) (.o 1 18 (.nck (.t 17)) (.o 2 19 (.fad (.t 18) 12) (.op 3 [] none none false (.store none (.t 19) (.n 7)) .done))))) .skip)))
theorem dg_impl_Task_end : Tryz.f260.body.bind (digC Tryz.prog Tryz.f260.ntmps []) = some c_impl_Task_end := by kernel_rfl
theorem rs_impl_Task_end : resSlots Tryz.prog Tryz.f260 = some [] := by kernel_rfl
theorem ok_impl_Task_end (t : Task) (c : Int) :
    FnOK Tryz.prog 260 [.one (.box t.cells), .one (.d (.sc (.int .i64 c)))] (fun ra os => ∃ x : Unit, True ∧ ra = [] ∧ os.b 0 = (endT t c).cells) := by
  refine FnOK.ofK Tryz.func260 (by kernel_rfl) dg_impl_Task_end rs_impl_Task_end rfl rfl ?_
  delta c_impl_Task_end T.o X.i C.g
  refine Kbc (Ka Y (Ka Y (Ka Y (kNck Y Y (Kf Y Y (Ko Y Y Y Y (kNck Y Y (Kf Y Y (Ko Y Y Y Y (Kdb (Kc (Ka Y (Kj Y Y Y (Ka Y (kGIN Y (fun g0 => Ki Y (Ka Y (Ki Y (Kj Y Y Y (Kk Y (Ka Y (Kd (kCondIN Y (fun g1 => Kc (kMem [(0, ⟨0, 0, .box [.d _, .d _, .d _, .d _, .d _, .d _, .d _, .d _, .d _, .d _, .d _, .d _, .d _]⟩)] [(0, .c (.ptr 0 0 0)), (17, .c (.un)), (18, .c (.un)), (19, .c (.un))] [] ⟨Y, trivial⟩ ⟨Y, Y, Y, Y, trivial⟩ Y (Ka Y (kNck Y Y (Kf Y Y (Ko Y Y Y Y (Kd (kEnd (endNormalA (ra := []) rfl ?_))))))))) (fun g1 => Kn (kEnd (endNormalA (ra := []) rfl ?_))))))))))) (fun g0 => Kg Y (Kg Y (Kl Y (Ka Y (Kd (kCondF Y (Kn (kEnd (endNormalA (ra := []) rfl ?_))))))))))))))))))))))))
  all_goals first
    | exact ⟨(), trivial, rfl, by unfold endT; rw [if_pos ⟨by assumption, by assumption⟩]; rfl⟩
    | exact ⟨(), trivial, rfl, by unfold endT; rw [if_neg (by omega)]; rfl⟩

def c_impl_Task_send : C := (.g (.o 0 2 (.mov (.v (.bool false))) .done) (.g (.o 0 3 (.mov (.t 0)) (.o 1 4 (.nck (.t 3)) (.o 2 5 (.fad (.t 4) 9) (.o 3 6 (.load none (.t 5)) (.o 4 7 (.bin .add (.t 6) (.i 1)) (.o 5 8 (.nck (.t 3)) (.o 6 9 (.fad (.t 8) 9) (.op 7 [] none none false (.store none (.t 9) (.t 7)) .done)))))))) (.seq (.g (.o 0 10 (.mov (.t 0)) (.o 1 11 (.nck (.t 10)) (.o 2 12 (.fad (.t 11) 9) (.o 3 13 (.load none (.t 12)) (.o 4 14 (.bin .eql (.t 13) (.i 12)) .done))))) (.cond (.t 14) (.reg false (.o 0 15 (.mov (.t 0)) (.o 1 16 (.call 16 260 [(.t 15), (.i 2)]) .done))) .skip)) (.g (.o 0 17 (.mov (.t 0)) (.o 1 18 (.nck (.t 17)) (.o 2 19 (.fad (.t 18) 9) (.o 3 20 (.load none (.t 19)) (.o 4 21 (.bin .eql (.t 20) (.i 12)) (.o 5 2 (.mov (.t 21)) .done)))))) .ret))))
theorem dg_impl_Task_send : Tryz.f186.body.bind (digC Tryz.prog Tryz.f186.ntmps []) = some c_impl_Task_send := by kernel_rfl
theorem rs_impl_Task_send : resSlots Tryz.prog Tryz.f186 = some [.s 2] := by kernel_rfl
theorem ok_impl_Task_send (t : Task) (h : 0 ≤ t.sends ∧ t.sends < 12) :
    FnOK Tryz.prog 186 [.one (.box t.cells)] (fun ra os => ∃ x : Unit, True ∧ ra = [.one (.d (.sc (.bool (decide (t.sends + 1 = 12)))))] ∧ os.b 0 = (sentT t).cells) := by
  refine FnOK.ofK Tryz.func186 (by kernel_rfl) dg_impl_Task_send rs_impl_Task_send rfl rfl ?_
  delta c_impl_Task_send T.o X.i C.g
  unfold sentT
  split
  · refine Kbc (Ka Y (Kdb (Kc (Ka Y (kNck Y Y (Kf Y Y (Ke Y Y Y (kAdd Y Y om (kNck Y Y (Kf Y Y (Ko Y Y Y Y (Kdb (Kbc (Ka Y (kMem [(0, ⟨0, 0, .box [.d _, .d _, .d _, .d _, .d _, .d _, .d _, .d _, .d _, .d _, .d _, .d _, .d _]⟩)] [(10, .c (.ptr 0 0 0)), (11, .c (.un)), (12, .c (.un)), (13, .c (.un))] [] ⟨Y, trivial⟩ ⟨Y, Y, Y, Y, trivial⟩ Y (kNck Y Y (Kf Y Y (Ke Y Y Y (Kj Y Y Y (Kd (Km Y (fun g0 => Kc (Ka Y ?_)) (fun g0 => om))))))))))))))))))))))
    refine Kz (ok_impl_Task_end { t with sends := t.sends + 1 } 2) ⟨⟨rfl, _, rfl, rfl⟩, rfl, trivial⟩ Y Y Y (fun _ => rfl) (fun x0 hx0 => ?_)
    refine Kdb (Kc (Ka Y (kNck Y Y (Kf Y Y (Ke Y Y Y (Kj Y Y Y (Ka Y (Kd (Kr (Er (ra := [.one (.d _)]) rfl ?_))))))))))
    exact ⟨(), trivial, rfl, rfl⟩
  · refine Kbc (Ka Y (Kdb (Kc (Ka Y (kNck Y Y (Kf Y Y (Ke Y Y Y (kAdd Y Y om (kNck Y Y (Kf Y Y (Ko Y Y Y Y (Kdb (Kbc (Ka Y (kMem [(0, ⟨0, 0, .box [.d _, .d _, .d _, .d _, .d _, .d _, .d _, .d _, .d _, .d _, .d _, .d _, .d _]⟩)] [(10, .c (.ptr 0 0 0)), (11, .c (.un)), (12, .c (.un)), (13, .c (.un))] [] ⟨Y, trivial⟩ ⟨Y, Y, Y, Y, trivial⟩ Y (kNck Y Y (Kf Y Y (Ke Y Y Y (Kj Y Y Y (Kd (Km Y (fun g0 => om) (fun g0 => Kn (Kbc (Ka Y (kNck Y Y (Kf Y Y (Ke Y Y Y (Kj Y Y Y (Ka Y (Kd (Kr (Er (ra := [.one (.d _)]) rfl ?_))))))))))))))))))))))))))))))))
    exact ⟨(), trivial, rfl, rfl⟩

def c_impl_Task_next : C := (.reg true (.op 0 [] (some 2) none true (.mov (.t 0)) (.op 1 [] (some 3) none true (.mov (.t 0)) (.op 2 [] (some 4) none true (.nck (.t 3)) (.op 3 [] (some 5) none true (.fad (.t 4) 8) (.op 4 [] (some 6) none true (.load none (.t 5)) (.op 5 [] (some 7) none true (.bin .add (.t 6) (.i 1)) (.op 6 [] (some 8) none true (.mov (.t 0)) (.op 7 [] (some 9) none true (.nck (.t 8)) (.op 8 [] (some 10) none true (.fad (.t 9) 7) (.op 9 [] (some 11) none true (.load none (.t 10)) (.op 10 [] (some 12) none true (.len (.t 11)) (.op 11 [] (some 13) none true (.bin .rem (.t 7) (.t 12)) (.op 12 [] (some 14) none true (.nck (.t 2)) (.op 13 [] (some 15) none true (.fad (.t 14) 8) (.op 14 [4, 9] none none false (.store none (.t 15) (.t 13)) .done))))))))))))))))
theorem dg_impl_Task_next : Tryz.f187.body.bind (digC Tryz.prog Tryz.f187.ntmps []) = some c_impl_Task_next := by kernel_rfl
theorem rs_impl_Task_next : resSlots Tryz.prog Tryz.f187 = some [] := by kernel_rfl
theorem ok_impl_Task_next (t : Task) (h : 0 ≤ t.turn ∧ t.turn ≤ 3) (hl : 1 ≤ t.servers.length ∧ t.servers.length ≤ 4) :
    FnOK Tryz.prog 187 [.one (.box t.cells)] (fun ra os => ∃ x : Unit, True ∧ ra = [] ∧ os.b 0 = (nextT t).cells) := by
  refine FnOK.ofK Tryz.func187 (by kernel_rfl) dg_impl_Task_next rs_impl_Task_next rfl rfl ?_
  delta c_impl_Task_next T.o X.i C.g
  refine kRegD (Ka Y (Ka Y (kNck Y Y (Kf Y Y (Ke Y Y Y (kAdd Y Y om (Ka Y (kNck Y Y (Kf Y Y (Ke Y Y Y (kMem [(0, ⟨0, 0, .box [.d _, .d _, .d _, .d _, .d _, .d _, .d _, .d _, .d _, .d _, .d _, .d _, .d _]⟩)] [(11, .c (.d _)), (7, .c (.d _)), (12, .c (.un)), (2, .c (.ptr 0 0 0)), (14, .c (.un)), (15, .c (.un)), (13, .c (.un))] [0, 0] ⟨Y, trivial⟩ ⟨Y, Y, Y, Y, Y, Y, Y, trivial⟩ Y (Kq Y Y (kRem Y Y om (kNck Y Y (Kf Y Y (Ks Y Y (Ko Y Y Y Y (Kd (kH (kEnd (endNormalA (ra := []) rfl ?_)))))))))))))))))))))
  exact ⟨(), trivial, rfl, rfl⟩

def c_impl_Task_lost : C := (.g (.o 0 1 (.box 1 (.t 0)) (.o 1 2 (.alloc 2 [(.i 0), (.i 0), (.n 1), (.i 0), (.n 1), (.n 1), (.n 1), (.n 1), (.i 0), (.i 0), (.i 0), (.i 0), (.n 7)]) .done)) (.g (.o 0 3 (.call 3 186 [(.t 1)]) .done) (.g (.o 0 4 (.call 4 187 [(.t 1)]) .done) (.g (.o 0 5 (.load (some 13) (.t 1)) (.op 1 [] none none false (.store (some 13) (.t 2) (.t 5)) .done)) .ret))))
theorem dg_impl_Task_lost : Tryz.f104.body.bind (digC Tryz.prog Tryz.f104.ntmps []) = some c_impl_Task_lost := by kernel_rfl
theorem rs_impl_Task_lost : resSlots Tryz.prog Tryz.f104 = some [.m 2 (some 13)] := by kernel_rfl
theorem ok_impl_Task_lost (t : Task) (h : 0 ≤ t.sends ∧ t.sends < 12) (h2 : 0 ≤ t.turn ∧ t.turn ≤ 3) (hl : 1 ≤ t.servers.length ∧ t.servers.length ≤ 4) :
    FnOK Tryz.prog 104 [.agg (t.cells.map .d)] (fun ra _ => ra = [.agg [.d (.sc (.int .i64 (lostT t).state)), .d (.sc (.int .i64 (lostT t).id)), .d (encBB (lostT t).fname), .d (.sc (.int .i64 (lostT t).ftype)), .d (encBB (lostT t).name), .d (encBB (lostT t).zone), .d (encI (lostT t).hints), .d (encI (lostT t).servers), .d (.sc (.int .i64 (lostT t).turn)), .d (.sc (.int .i64 (lostT t).sends)), .d (.sc (.int .i64 (lostT t).steps)), .d (.sc (.int .i64 (lostT t).code)), .d (encR (lostT t).answers)]]) := by
  refine FnOK.ofK Tryz.func104 (by kernel_rfl) dg_impl_Task_lost rs_impl_Task_lost rfl rfl ?_
  delta c_impl_Task_lost T.o X.i C.g
  have h2' : 0 ≤ (sentT t).turn ∧ (sentT t).turn ≤ 3 := by rw [sentT_turn]; exact h2
  have hl' : 1 ≤ (sentT t).servers.length ∧ (sentT t).servers.length ≤ 4 := by rw [sentT_servers]; exact hl
  refine Kbc (kBox Y Y Y Y Y (kAlloc Y Y (Kdb (Kc (Kz (ok_impl_Task_send _ prx) ⟨⟨rfl, _, rfl, rfl⟩, trivial⟩ Y Y Y (fun _ => rfl) (fun x0 hx0 => (Kdb (Kc (Kz (ok_impl_Task_next _ prx prx) ⟨⟨rfl, _, rfl, rfl⟩, trivial⟩ Y Y Y (fun _ => rfl) (fun x1 hx1 => (Kdb (Kc (Ke Y Y Y (kMem [(12288, ⟨1, 0, .box [.d _, .d _, .nil 1, .d _, .nil 1, .nil 1, .nil 1, .nil 1, .d _, .d _, .d _, .d _, .nil 7]⟩)] [(2, .c (.ptr 12288 1 0)), (5, .g [.d _, .d _, .d _, .d _, .d _, .d _, .d _, .d _, .d _, .d _, .d _, .d _, .d _])] [] ⟨Y, trivial⟩ ⟨Y, Y, trivial⟩ Y (Ko Y Y Y Y (Kd (kMem [(12288, ⟨1, 0, .box [.d _, .d _, .d _, .d _, .d _, .d _, .d _, .d _, .d _, .d _, .d _, .d _, .d _]⟩)] [(2, .c (.ptr 12288 1 0))] [] ⟨Y, trivial⟩ ⟨Y, trivial⟩ Y (Kr (Er (ra := [.agg [(.d _), (.d _), (.d _), (.d _), (.d _), (.d _), (.d _), (.d _), (.d _), (.d _), (.d _), (.d _), (.d _)]]) rfl rfl)))))))))))))))))))

def c_bytes_Clone : C := (.g (.o 0 2 (.mov (.n 1)) .done) (.seq (.g (.o 0 3 (.mov (.t 0)) (.o 1 4 (.eqn false (.t 3)) .done)) (.cond (.t 4) (.g (.o 0 2 (.mov (.n 1)) .done) .ret) .skip)) (.g (.o 0 5 (.lit 5 1 [(.v (.int .u8 0))] 0 []) (.o 1 6 (.mov (.t 0)) (.o 2 7 (.app 7 1 1 (.t 5) (.t 6)) (.o 3 2 (.mov (.t 7)) .done)))) .ret)))
theorem dg_bytes_Clone : Tryz.f233.body.bind (digC Tryz.prog Tryz.f233.ntmps []) = some c_bytes_Clone := by kernel_rfl
theorem rs_bytes_Clone : resSlots Tryz.prog Tryz.f233 = some [.s 2] := by kernel_rfl
theorem ok_bytes_Clone (b : List UInt8) (hb : b.length ≤ 140737488355328) :
    FnOK Tryz.prog 233 [.one (.d (encB b))] (fun ra _ => ra = [.one (.own true (encB b))]) := by
  refine FnOK.ofK Tryz.func233 (by kernel_rfl) dg_bytes_Clone rs_bytes_Clone rfl rfl ?_
  delta c_bytes_Clone T.o X.i C.g
  refine Kbc (Ka Y (Kd ?_))
  refine Kb (Kbc (Ka Y (kEqn Y Y Y fun n hn => Kd ?_)))
  refine kCond Y (fun h => ?_) (fun h => ?_)
  · refine Kbc (Ka Y (Kd (Kr ?_)))
    refine endRet (ra := [.one (.own true (.sl 1 []))]) rfl ⟨⟨rfl, trivial⟩, nodupB_sound rfl, trivial, trivial⟩ ?_
    have : b = [] := by
      rw [len_encB] at hn
      cases b with
      | nil => rfl
      | cons x l => have := hn (by simp); simp [this] at h
    rw [this]; rfl
  · refine Kn (Kbc ?_)
    refine kLit Y Y Y Y (Ka Y ?_)
    refine kApp (cy := .d (encB b)) rfl rfl rfl (src_encB _ b) rfl rfl ⟨rfl, rfl, Nat.zero_lt_one⟩ Y ?_ (Ka Y (Kd (Kr ?_)))
    · show ((DV.sl 1 (chunk 1 0 [])).len + (encB b).len) * 1 ≤ _ ∧ _
      rw [len_encB]; simp [DV.len, chunk]; omega
    refine endRet (ra := [.one (.own true _)]) rfl ⟨⟨⟨⟨_, rfl, fun _ => rfl⟩, .inl (Nat.zero_lt_succ _)⟩, trivial⟩, nodupB_sound rfl, trivial, trivial⟩ ?_
    exact congrArg (fun x => [RA.one (RV.own true x)]) (app_nil_encB b)

def c_impl_Name_copied : C := (.g (.o 0 1 (.box 1 (.t 0)) (.o 1 2 (.alloc 2 [(.n 1)]) .done)) (.g (.o 0 6 (.build [(.n 1)] []) (.o 1 3 (.alloc 3 [(.n 1)]) (.op 2 [] none none false (.store (some 1) (.t 3) (.t 6)) .done))) (.seq (.g (.o 0 7 (.fad (.t 1) 0) (.o 1 8 (.load none (.t 7)) (.o 2 9 (.len (.t 8)) (.o 3 10 (.mov (.i 0)) .done)))) (.block 0 (.loop (.g (.o 0 11 (.bin .lss (.t 10) (.t 9)) .done) (.seq (.cond (.t 11) .skip (.exit 0)) (.seq (.block 1 (.g (.o 0 12 (.iad 1 (.t 8) (.t 10)) (.o 1 13 (.load none (.t 12)) (.o 2 5 (.mov (.t 13)) .done))) (.reg true (.op 0 [] (some 14) none true (.fad (.t 3) 0) (.op 1 [] (some 15) none true (.load none (.t 14)) (.op 2 [] (some 16) none true (.mov (.t 5)) (.o 3 17 (.call 17 233 [(.t 16)]) (.o 4 18 (.lit 18 1 [(.n 1)] 1 [(0, 1, (.t 17))]) (.op 5 [1] (some 19) none false (.app 19 1 24 (.t 15) (.t 18)) (.op 6 [] (some 20) none true (.fad (.t 3) 0) (.op 7 [1] none none false (.store none (.t 20) (.t 19)) .done))))))))))) (.reg false (.o 0 21 (.bin .add (.t 10) (.i 1)) (.o 1 10 (.mov (.t 21)) .done))))))))) (.g (.o 0 22 (.load (some 1) (.t 3)) (.op 1 [] none none false (.store (some 1) (.t 2) (.t 22)) .done)) .ret))))
theorem dg_impl_Name_copied : Tryz.f151.body.bind (digC Tryz.prog Tryz.f151.ntmps []) = some c_impl_Name_copied := by kernel_rfl
theorem rs_impl_Name_copied : resSlots Tryz.prog Tryz.f151 = some [.m 2 (some 1)] := by kernel_rfl
theorem ok_impl_Name_copied (a : List (List UInt8)) (ha : a.length ≤ 4194304) (hb : ∀ b ∈ a, b.length ≤ 4194304) :
    FnOK Tryz.prog 151 [.agg [.d (encBB a)]] (fun ra _ => ra = [.agg [.own true (encBB a)]]) := by
  refine FnOK.ofK Tryz.func151 (by kernel_rfl) dg_impl_Name_copied rs_impl_Name_copied rfl rfl ?_
  delta c_impl_Name_copied T.o X.i C.g
  refine Kbc (kBox Y Y Y Y Y (kAlloc Y Y (Kd ?_)))
  refine Kbc (kBuild Y (kAlloc Y Y (Ko Y Y Y Y (Kd ?_))))
  refine Kb (Kbc (Kf Y Y (Ke Y Y Y (kLen Y Y Y (Ka Y (Kd (Kt ?_)))))))
  rw [len_encBB]
  refine kSub (Sub.nilBox (id := rid 3 0) (id2 := rid 5000 0) (j := 0) rfl rfl rfl (by decide) (by decide)) ?_
  refine kLoop (α := { i : Nat // i ≤ a.length })
    (fun y => ⟨tabSl [(1, .c (.ptr (rid 1 0) 1 0)), (2, .c (.ptr (rid 2 0) 1 0)), (3, .c (.ptr (rid 3 0) 1 0)), (8, .dv (encBB a)), (9, .i a.length), (10, .i y.1)],
      obTab 1 [(rid 1 0, ⟨1, 0, .box [.d (encBB a)]⟩), (rid 2 0, ⟨1, 0, .box [.nil 1]⟩), (rid 3 0, ⟨1, 0, .box [.arr (rid 5000 0) 1]⟩), (rid 5000 0, ⟨1, 0, .arr true (encBB (a.take y.1))⟩)], []⟩) (fun y => a.length - y.1) ⟨0, by simp⟩
    (.norm ?_ ?_) ?_
  · repeat' first | exact trivial | exact rfl | exact .inl rfl | refine ⟨_, rfl, ?_⟩ | refine ⟨?_, ?_⟩ | fail
  · repeat' first | exact trivial | exact rfl | exact .inl rfl | refine ⟨_, rfl, ?_⟩ | refine ⟨?_, ?_⟩ | fail
  rintro ⟨i, hi⟩
  simp only at hi ⊢
  refine Kbc (Kj Y Y Y (Kdb ?_))
  refine kCond Y (fun h1 => ?_) (fun h1 => ?_)
  · have hlt : i < a.length := by simp at h1; omega
    refine Kn (Kb (Kt (Kbc ?_)))
    refine kIadD Y Y Y Y ?_ ?_
    · rw [len_encBB]; omega
    rw [show (encBB a).row (i : Int).toNat = [encB a[i]] from row_encBB a i hlt]
    refine Ky Y Y (Ka Y (Kd (kRegD (Kf Y Y (Ke Y Y Y (Ka Y ?_))))))
    refine Ku false (ok_bytes_Clone a[i] (Nat.le_trans (hb _ (List.getElem_mem hlt)) om)) ⟨Y, trivial⟩ rfl rfl rfl fun os => ?_
    refine kLit Y Y Y Y (Ks Y Y ?_)
    refine kApp Y Y Y Y Y Y ⟨rfl, rfl, Nat.zero_lt_one⟩ Y ?_ ?_
    · show ((encBB (a.take i)).len + (DV.sl 1 [[encB a[i]]]).len) * 24 ≤ _ ∧ (encBB (a.take i)).len + (DV.sl 1 [[encB a[i]]]).len ≤ _
      rw [len_encBB, List.length_take]; simp [DV.len, DV.rows]; omega
    refine Kf Y Y (Ks Y Y (Ko Y Y Y Y (Kd (kH (Kv (Kc (kAdd Y Y om (Ka Y (Kd ?_)))))))))
    refine kInv ⟨⟨i + 1, hlt⟩, by simp only; omega, .norm ?_ ?_⟩
    · repeat' first | exact trivial | exact rfl | exact .inl rfl | refine ⟨_, rfl, ?_⟩ | refine ⟨?_, ?_⟩ | fail
    · repeat' first | exact trivial | exact rfl | exact .inl rfl | refine ⟨_, rfl, ?_⟩ | refine ⟨?_, ?_⟩ | fail
      rw [← List.take_append_getElem hlt, ← app_encBB]
      rfl
  · refine kExit (kExC (kExI (kExB (Kbc (Ke Y Y Y (Ko Y Y Y Y (Kd ?_)))))))
    have hge : i = a.length := by simp at h1; omega
    subst hge
    refine Kr (endRet (ra := [.agg [.own true _]]) rfl ⟨⟨⟨⟨⟨⟨_, rfl, fun _ => rfl⟩, .inl Nat.zero_lt_one⟩, trivial⟩, leb⟩, trivial⟩, nodupB_sound rfl, ⟨trivial, trivial⟩, trivial⟩ ?_)
    rw [List.take_length]

def c_slices_Clone_Lint_int : C := (.g (.o 0 2 (.mov (.n 1)) .done) (.seq (.g (.o 0 3 (.mov (.t 0)) (.o 1 4 (.eqn false (.t 3)) .done)) (.cond (.t 4) (.g (.o 0 2 (.mov (.n 1)) .done) .ret) .skip)) (.g (.o 0 5 (.lit 5 1 [(.i 0)] 0 []) (.o 1 6 (.mov (.t 0)) (.o 2 7 (.app 7 1 8 (.t 5) (.t 6)) (.o 3 2 (.mov (.t 7)) .done)))) .ret)))
theorem dg_slices_Clone_Lint_int : Tryz.f188.body.bind (digC Tryz.prog Tryz.f188.ntmps []) = some c_slices_Clone_Lint_int := by kernel_rfl
theorem rs_slices_Clone_Lint_int : resSlots Tryz.prog Tryz.f188 = some [.s 2] := by kernel_rfl
theorem ok_slices_Clone_Lint_int (b : List Int) (hb : b.length ≤ 4194304) :
    FnOK Tryz.prog 188 [.one (.d (encI b))] (fun ra _ => ra = [.one (.own true (encI b))]) := by
  refine FnOK.ofK Tryz.func188 (by kernel_rfl) dg_slices_Clone_Lint_int rs_slices_Clone_Lint_int rfl rfl ?_
  delta c_slices_Clone_Lint_int T.o X.i C.g
  refine Kbc (Ka Y (Kd ?_))
  refine Kb (Kbc (Ka Y (kEqn Y Y Y fun n hn => Kd ?_)))
  refine kCond Y (fun h => ?_) (fun h => ?_)
  · refine Kbc (Ka Y (Kd (Kr ?_)))
    refine endRet (ra := [.one (.own true (.sl 1 []))]) rfl ⟨⟨rfl, trivial⟩, nodupB_sound rfl, trivial, trivial⟩ ?_
    have : b = [] := by
      rw [len_encI] at hn
      cases b with
      | nil => rfl
      | cons x l => have := hn (by simp); simp [this] at h
    rw [this]; rfl
  · refine Kn (Kbc ?_)
    refine kLit Y Y Y Y (Ka Y ?_)
    refine kApp (cy := .d (encI b)) rfl rfl rfl (src_encI _ b) rfl rfl ⟨rfl, rfl, Nat.zero_lt_one⟩ Y ?_ (Ka Y (Kd (Kr ?_)))
    · show ((DV.sl 1 (chunk 1 0 [])).len + (encI b).len) * 8 ≤ _ ∧ _
      rw [len_encI]; simp [DV.len, chunk]; omega
    refine endRet (ra := [.one (.own true _)]) rfl ⟨⟨⟨⟨_, rfl, fun _ => rfl⟩, .inl (Nat.zero_lt_succ _)⟩, trivial⟩, nodupB_sound rfl, trivial, trivial⟩ ?_
    exact congrArg (fun x => [RA.one (RV.own true x)]) (app_nil_encI b)

def c_impl_Rr_copied : C := (.g (.o 0 1 (.box 1 (.t 0)) (.o 1 2 (.alloc 2 [(.n 1), (.i 0), (.i 0), (.i 0), (.n 1), (.n 1), (.n 1)]) .done)) (.seq (.reg true (.op 0 [] (some 3) none true (.fad (.t 1) 0) (.op 1 [] (some 4) none true (.load (some 1) (.t 3)) (.op 3 [] (some 6) none true (.fad (.t 1) 4) (.op 4 [] (some 7) none true (.load (some 1) (.t 6)) (.op 6 [] (some 9) none true (.fad (.t 1) 5) (.op 7 [] (some 10) none true (.load none (.t 9)) (.op 9 [] (some 12) none true (.fad (.t 1) 6) (.op 10 [] (some 13) none true (.load none (.t 12)) (.op 2 [1] (some 5) none false (.call 5 151 [(.t 4)]) (.op 12 [] (some 15) none true (.fad (.t 1) 0) (.op 5 [4, 1] (some 8) none false (.call 8 151 [(.t 7)]) (.op 8 [7, 4, 1] (some 11) none false (.call 11 233 [(.t 10)]) (.op 11 [10, 7, 4, 1] (some 14) none false (.call 14 188 [(.t 13)]) (.op 13 [1, 4, 7, 10] none none false (.store (some 1) (.t 15) (.t 5)) (.op 14 [] (some 16) none true (.fad (.t 1) 4) (.op 15 [1, 4, 7, 10] none none false (.store (some 1) (.t 16) (.t 8)) (.op 16 [] (some 17) none true (.fad (.t 1) 5) (.op 17 [1, 4, 7, 10] none none false (.store none (.t 17) (.t 11)) (.op 18 [] (some 18) none true (.fad (.t 1) 6) (.op 19 [1, 4, 7, 10] none none false (.store none (.t 18) (.t 14)) .done))))))))))))))))))))) (.g (.o 0 19 (.load (some 7) (.t 1)) (.op 1 [] none none false (.store (some 7) (.t 2) (.t 19)) .done)) .ret)))
theorem dg_impl_Rr_copied : Tryz.f172.body.bind (digC Tryz.prog Tryz.f172.ntmps []) = some c_impl_Rr_copied := by kernel_rfl
theorem rs_impl_Rr_copied : resSlots Tryz.prog Tryz.f172 = some [.m 2 (some 7)] := by kernel_rfl
theorem ok_impl_Rr_copied (r : Rr) (hs : SmallR r) :
    FnOK Tryz.prog 172 [.agg (r.cells.map .d)] (fun ra _ => ra = [.agg [.own true (encBB r.name), .d (.sc (.int .i64 r.ty)), .d (.sc (.int .i64 r.ttl)), .d (.sc (.int .i64 r.addr)), .own true (encBB r.to), .own true (encB r.text), .own true (encI r.nums)]]) := by
  refine FnOK.ofK Tryz.func172 (by kernel_rfl) dg_impl_Rr_copied rs_impl_Rr_copied rfl rfl ?_
  delta c_impl_Rr_copied T.o X.i C.g
  have n1 := hs.n.len
  have n2 := hs.n.mem
  have t1 := hs.t.len
  have t2 := hs.t.mem
  have x1 := hs.x
  have m1 := hs.m
  refine Kb (kCut ⟨tabSl [(1, .c (.ptr (rid 1 0) 1 0)), (2, .c (.ptr (rid 2 0) 1 0))], obTab 1 [(rid 1 0, ⟨1, 0, .box (r.cells.map .d)⟩), (rid 2 0, ⟨1, 0, .box [.nil 1, .d (.sc (.int .i64 0)), .d (.sc (.int .i64 0)), .d (.sc (.int .i64 0)), .nil 1, .nil 1, .nil 1]⟩)], []⟩ ?_ (fun x hc => ?_))
  case refine_2 => refine kReg (kBox rfl rfl rfl rfl rfl (kAlloc rfl rfl (kDone (hc _ .normA))))
  refine Kb (kCut ⟨tabSl [(1, .c (.ptr (rid 1 0) 1 0)), (2, .c (.ptr (rid 2 0) 1 0))], obTab 1 [(rid 1 0, ⟨1, 0, .box [.arr (rid 5 0) 1, .d (.sc (.int .i64 r.ty)), .d (.sc (.int .i64 r.ttl)), .d (.sc (.int .i64 r.addr)), .arr (rid 8 0) 1, .arr (rid 11 0) 1, .arr (rid 14 0) 1]⟩), (rid 2 0, ⟨1, 0, .box [.nil 1, .d (.sc (.int .i64 0)), .d (.sc (.int .i64 0)), .d (.sc (.int .i64 0)), .nil 1, .nil 1, .nil 1]⟩), (rid 5 0, ⟨1, 0, .arr true (encBB r.name)⟩), (rid 8 0, ⟨1, 0, .arr true (encBB r.to)⟩), (rid 11 0, ⟨1, 0, .arr true (encB r.text)⟩), (rid 14 0, ⟨1, 0, .arr true (encI r.nums)⟩)], []⟩ ?_ (fun x hc => ?_))
  case refine_2 => refine kRegD (kFadP rfl rfl (kLoadP rfl rfl rfl (kFadP rfl rfl (kLoadP rfl rfl rfl (kFadP rfl rfl (kLoadP rfl rfl rfl (kFadP rfl rfl (kLoadP rfl rfl rfl (kRelK rfl rfl (kCall1 true (ok_impl_Name_copied _ pr pr) ⟨⟨⟨rfl, trivial⟩, leb⟩, trivial⟩ rfl rfl rfl (fun _ => (kFadP rfl rfl (kRelK rfl rfl (kCall1 true (ok_impl_Name_copied _ pr pr) ⟨⟨⟨rfl, trivial⟩, leb⟩, trivial⟩ rfl rfl rfl (fun _ => (kRelK rfl rfl (kCall1 true (ok_bytes_Clone _ pr) ⟨rfl, trivial⟩ rfl rfl rfl (fun _ => (kRelF rfl rfl (kCall1 true (ok_slices_Clone_Lint_int _ pr) ⟨rfl, trivial⟩ rfl rfl rfl (fun _ => (kRelF rfl rfl (kStoreP rfl rfl rfl rfl (kFadP rfl rfl (kRelF rfl rfl (kStoreP rfl rfl rfl rfl (kFadP rfl rfl (kRelF rfl rfl (kStoreP rfl rfl rfl rfl (kFadP rfl rfl (kRelF rfl rfl (kStoreP rfl rfl rfl rfl (kDone (kH (kMem [(8192, ⟨1, 0, .box [.arr 24576 2, .d _, .d _, .d _, .arr 36864 2, .arr 49152 2, .arr 61440 2]⟩), (12288, ⟨1, 0, .box [.nil 1, .d _, .d _, .d _, .nil 1, .nil 1, .nil 1]⟩), (24576, ⟨2, 0, .arr true _⟩), (36864, ⟨2, 0, .arr true _⟩), (49152, ⟨2, 0, .arr true _⟩), (61440, ⟨2, 0, .arr true _⟩)] [(1, .c (.ptr 8192 1 0)), (2, .c (.ptr 12288 1 0))] [] ⟨rfl, rfl, rfl, rfl, rfl, rfl, trivial⟩ ⟨rfl, rfl, trivial⟩ rfl (hc _ .normA))))))))))))))))))))))))))))))))))))
  refine Kb (kCut ⟨tabSl [(2, .c (.ptr (rid 2 0) 1 0))], obTab 1 [(rid 2 0, ⟨1, 0, .box [.arr (rid 5 0) 1, .d (.sc (.int .i64 r.ty)), .d (.sc (.int .i64 r.ttl)), .d (.sc (.int .i64 r.addr)), .arr (rid 8 0) 1, .arr (rid 11 0) 1, .arr (rid 14 0) 1]⟩), (rid 5 0, ⟨1, 0, .arr true (encBB r.name)⟩), (rid 8 0, ⟨1, 0, .arr true (encBB r.to)⟩), (rid 11 0, ⟨1, 0, .arr true (encB r.text)⟩), (rid 14 0, ⟨1, 0, .arr true (encI r.nums)⟩)], []⟩ ?_ (fun x hc => ?_))
  case refine_2 => refine kReg (kLoadP rfl rfl rfl (kStoreP rfl rfl rfl rfl (kDone (hc _ .normA))))
  refine (Kr (Er (ra := [.agg [(.own true _), (.d _), (.d _), (.d _), (.own true _), (.own true _), (.own true _)]]) rfl rfl))

def c_impl_copyRrs : C := (.g (.o 0 2 (.mov (.n 7)) .done) (.g (.o 0 6 (.lit 6 7 [(.n 1), (.i 0), (.i 0), (.i 0), (.n 1), (.n 1), (.n 1)] 0 []) (.o 1 3 (.mov (.t 6)) .done)) (.seq (.g (.o 0 7 (.mov (.t 0)) (.o 1 8 (.len (.t 7)) (.o 2 9 (.mov (.i 0)) .done))) (.block 0 (.loop (.g (.o 0 10 (.bin .lss (.t 9) (.t 8)) .done) (.seq (.cond (.t 10) .skip (.exit 0)) (.seq (.block 1 (.g (.o 0 11 (.iad 7 (.t 7) (.t 9)) (.o 1 12 (.load (some 7) (.t 11)) (.o 2 5 (.alloc 5 [(.n 1), (.i 0), (.i 0), (.i 0), (.n 1), (.n 1), (.n 1)]) (.op 3 [] none none false (.store (some 7) (.t 5) (.t 12)) .done)))) (.reg false (.o 0 13 (.mov (.t 3)) (.o 1 14 (.load (some 7) (.t 5)) (.o 2 15 (.call 15 172 [(.t 14)]) (.o 3 16 (.lit 16 7 [(.n 1), (.i 0), (.i 0), (.i 0), (.n 1), (.n 1), (.n 1)] 1 [(0, 7, (.t 15))]) (.o 4 17 (.app 17 7 120 (.t 13) (.t 16)) (.o 5 3 (.mov (.t 17)) .done))))))))) (.reg false (.o 0 18 (.bin .add (.t 9) (.i 1)) (.o 1 9 (.mov (.t 18)) .done))))))))) (.g (.o 0 19 (.mov (.t 3)) (.o 1 2 (.mov (.t 19)) .done)) .ret))))
theorem dg_impl_copyRrs : Tryz.f81.body.bind (digC Tryz.prog Tryz.f81.ntmps []) = some c_impl_copyRrs := by kernel_rfl
theorem rs_impl_copyRrs : resSlots Tryz.prog Tryz.f81 = some [.s 2] := by kernel_rfl
theorem ok_impl_copyRrs (l : List Rr) (hs : SmallRs l) :
    FnOK Tryz.prog 81 [.one (.d (encR l))] (fun ra _ => ra = [.one (.own true (encR l))]) := by
  refine FnOK.ofK Tryz.func81 (by kernel_rfl) dg_impl_copyRrs rs_impl_copyRrs rfl rfl ?_
  delta c_impl_copyRrs T.o X.i C.g
  have h1 := hs.len
  refine Kbc (Ka Y (Kdb (Kc (kLit Y Y Y Y (Ka Y (Kdb (Kbc (Ka Y (Kq Y Y (Ka Y (Kd (Kt ?_))))))))))))
  refine kLoop (α := { i : Nat // i ≤ l.length }) (fun y => ⟨tabSl [(3, .c (.arr (rid 6 0) 1)), (7, .dv (encR l)), (8, .i l.length), (9, .i y.1)], obTab 1 [(rid 6 0, ⟨1, 0, .arr true (encR (l.take y.1))⟩)], []⟩) (fun y => l.length - y.1) ⟨0, by simp⟩ .normA ?_
  rintro ⟨i, hi⟩
  simp only
  have hlen : (l.take i).length = i := by simp; omega
  rcases Nat.lt_or_ge i l.length with hlt | hge
  · have hbi := hs.mem _ (List.getElem_mem hlt)
    refine Kbc (Kj Y Y Y (Kdb (Km Y (fun g0 => Kn (Kb (Kt (Kbc (kIadR Y Y Y om (Ky Y Y (kAlloc Y Y (Ko Y Y Y Y (Kd (Kc (Ka Y (Ke Y Y Y (Ku true (ok_impl_Rr_copied _ pr) ⟨⟨⟨Y, Y, Y, Y, Y, Y, Y, trivial⟩, leb⟩, trivial⟩ Y Y Y (fun _ => (kLit Y Y Y Y (kAppRec Y Y Y Y Y Y Y om (Ka Y (Kd (Kv (Kc (kAdd Y Y om (Ka Y (Kd ?_))))))))))))))))))))))) (fun g0 => om))))
    exact kInv ⟨⟨i + 1, by omega⟩, by simp only; omega, .normA⟩
  · refine Kbc (Kj Y Y Y (Kdb (Km Y (fun g0 => om) (fun g0 => kExit (kExC (kExI (kExB (Kbc (Ka Y (Ka Y (Kd (Kr (Er (ra := [.one (.own true _)]) rfl ?_)))))))))))))
    rw [show i = l.length by omega, List.take_length]

def c_impl_Task_copied : C := (.g (.o 0 1 (.box 1 (.t 0)) (.o 1 2 (.alloc 2 [(.i 0), (.i 0), (.n 1), (.i 0), (.n 1), (.n 1), (.n 1), (.n 1), (.i 0), (.i 0), (.i 0), (.i 0), (.n 7)]) .done)) (.seq (.reg true (.op 0 [] (some 3) none true (.fad (.t 1) 2) (.op 1 [] (some 4) none true (.fad (.t 3) 0) (.op 2 [] (some 5) none true (.load (some 1) (.t 4)) (.op 4 [] (some 7) none true (.fad (.t 1) 4) (.op 5 [] (some 8) none true (.load (some 1) (.t 7)) (.op 7 [] (some 10) none true (.fad (.t 1) 5) (.op 8 [] (some 11) none true (.load (some 1) (.t 10)) (.op 3 [2] (some 6) none false (.call 6 151 [(.t 5)]) (.op 10 [] (some 13) none true (.fad (.t 1) 2) (.op 11 [] (some 14) none true (.fad (.t 13) 0) (.op 6 [5, 2] (some 9) none false (.call 9 151 [(.t 8)]) (.op 9 [8, 5, 2] (some 12) none false (.call 12 151 [(.t 11)]) (.op 12 [2, 5, 8] none none false (.store (some 1) (.t 14) (.t 6)) (.op 13 [] (some 15) none true (.fad (.t 1) 4) (.op 14 [2, 5, 8] none none false (.store (some 1) (.t 15) (.t 9)) (.op 15 [] (some 16) none true (.fad (.t 1) 5) (.op 16 [2, 5, 8] none none false (.store (some 1) (.t 16) (.t 12)) .done)))))))))))))))))) (.seq (.reg true (.op 0 [] (some 17) none true (.fad (.t 1) 6) (.op 1 [] (some 18) none true (.load none (.t 17)) (.op 3 [] (some 20) none true (.fad (.t 1) 7) (.op 4 [] (some 21) none true (.load none (.t 20)) (.op 6 [] (some 23) none true (.fad (.t 1) 12) (.op 7 [] (some 24) none true (.load none (.t 23)) (.op 2 [1] (some 19) none false (.call 19 188 [(.t 18)]) (.op 9 [] (some 26) none true (.fad (.t 1) 6) (.op 5 [4, 1] (some 22) none false (.call 22 188 [(.t 21)]) (.op 8 [7, 4, 1] (some 25) none false (.call 25 81 [(.t 24)]) (.op 10 [1, 4, 7] none none false (.store none (.t 26) (.t 19)) (.op 11 [] (some 27) none true (.fad (.t 1) 7) (.op 12 [1, 4, 7] none none false (.store none (.t 27) (.t 22)) (.op 13 [] (some 28) none true (.fad (.t 1) 12) (.op 14 [1, 4, 7] none none false (.store none (.t 28) (.t 25)) .done)))))))))))))))) (.g (.o 0 29 (.load (some 13) (.t 1)) (.op 1 [] none none false (.store (some 13) (.t 2) (.t 29)) .done)) .ret))))
theorem dg_impl_Task_copied : Tryz.f105.body.bind (digC Tryz.prog Tryz.f105.ntmps []) = some c_impl_Task_copied := by kernel_rfl
theorem rs_impl_Task_copied : resSlots Tryz.prog Tryz.f105 = some [.m 2 (some 13)] := by kernel_rfl
theorem ok_impl_Task_copied (t : Task) (hs : SmallT t) :
    FnOK Tryz.prog 105 [.agg (t.cells.map .d)] (fun ra _ => ra = [.agg [.d (.sc (.int .i64 t.state)), .d (.sc (.int .i64 t.id)), .own true (encBB t.fname), .d (.sc (.int .i64 t.ftype)), .own true (encBB t.name), .own true (encBB t.zone), .own true (encI t.hints), .own true (encI t.servers), .d (.sc (.int .i64 t.turn)), .d (.sc (.int .i64 t.sends)), .d (.sc (.int .i64 t.steps)), .d (.sc (.int .i64 t.code)), .own true (encR t.answers)]]) := by
  refine FnOK.ofK Tryz.func105 (by kernel_rfl) dg_impl_Task_copied rs_impl_Task_copied rfl rfl ?_
  delta c_impl_Task_copied T.o X.i C.g
  have n1 := hs.n.len
  have n2 := hs.n.mem
  have f1 := hs.f.len
  have f2 := hs.f.mem
  have z1 := hs.z.len
  have z2 := hs.z.mem
  have h1 := hs.h
  have s1 := hs.s
  have a1 := hs.a
  refine Kb (kCut ⟨tabSl [(1, .c (.ptr (rid 1 0) 1 0)), (2, .c (.ptr (rid 2 0) 1 0))], obTab 1 [(rid 1 0, ⟨1, 0, .box [.d (.sc (.int .i64 t.state)), .d (.sc (.int .i64 t.id)), .d (encBB t.fname), .d (.sc (.int .i64 t.ftype)), .d (encBB t.name), .d (encBB t.zone), .d (encI t.hints), .d (encI t.servers), .d (.sc (.int .i64 t.turn)), .d (.sc (.int .i64 t.sends)), .d (.sc (.int .i64 t.steps)), .d (.sc (.int .i64 t.code)), .d (encR t.answers)]⟩), (rid 2 0, ⟨1, 0, .box [.d (.sc (.int .i64 0)), .d (.sc (.int .i64 0)), .nil 1, .d (.sc (.int .i64 0)), .nil 1, .nil 1, .nil 1, .nil 1, .d (.sc (.int .i64 0)), .d (.sc (.int .i64 0)), .d (.sc (.int .i64 0)), .d (.sc (.int .i64 0)), .nil 7]⟩)], []⟩ ?_ (fun x hc => ?_))
  case refine_2 => refine kReg (kBox rfl rfl rfl rfl rfl (kAlloc rfl rfl (kDone (hc _ .normA))))
  refine Kb (kCut ⟨tabSl [(1, .c (.ptr (rid 1 0) 1 0)), (2, .c (.ptr (rid 2 0) 1 0))], obTab 1 [(rid 1 0, ⟨1, 0, .box [.d (.sc (.int .i64 t.state)), .d (.sc (.int .i64 t.id)), .arr (rid 6 0) 1, .d (.sc (.int .i64 t.ftype)), .arr (rid 9 0) 1, .arr (rid 12 0) 1, .d (encI t.hints), .d (encI t.servers), .d (.sc (.int .i64 t.turn)), .d (.sc (.int .i64 t.sends)), .d (.sc (.int .i64 t.steps)), .d (.sc (.int .i64 t.code)), .d (encR t.answers)]⟩), (rid 2 0, ⟨1, 0, .box [.d (.sc (.int .i64 0)), .d (.sc (.int .i64 0)), .nil 1, .d (.sc (.int .i64 0)), .nil 1, .nil 1, .nil 1, .nil 1, .d (.sc (.int .i64 0)), .d (.sc (.int .i64 0)), .d (.sc (.int .i64 0)), .d (.sc (.int .i64 0)), .nil 7]⟩), (rid 6 0, ⟨1, 0, .arr true (encBB t.fname)⟩), (rid 9 0, ⟨1, 0, .arr true (encBB t.name)⟩), (rid 12 0, ⟨1, 0, .arr true (encBB t.zone)⟩)], []⟩ ?_ (fun x hc => ?_))
  case refine_2 => refine kRegD (kFadP rfl rfl (kFadP rfl rfl (kLoadP rfl rfl rfl (kFadP rfl rfl (kLoadP rfl rfl rfl (kFadP rfl rfl (kLoadP rfl rfl rfl (kRelK rfl rfl (kCall1 true (ok_impl_Name_copied _ pr pr) ⟨⟨⟨rfl, trivial⟩, leb⟩, trivial⟩ rfl rfl rfl (fun _ => (kFadP rfl rfl (kFadP rfl rfl (kRelK rfl rfl (kCall1 true (ok_impl_Name_copied _ pr pr) ⟨⟨⟨rfl, trivial⟩, leb⟩, trivial⟩ rfl rfl rfl (fun _ => (kRelF rfl rfl (kCall1 true (ok_impl_Name_copied _ pr pr) ⟨⟨⟨rfl, trivial⟩, leb⟩, trivial⟩ rfl rfl rfl (fun _ => (kRelF rfl rfl (kStoreP rfl rfl rfl rfl (kFadP rfl rfl (kRelF rfl rfl (kStoreP rfl rfl rfl rfl (kFadP rfl rfl (kRelF rfl rfl (kStoreP rfl rfl rfl rfl (kDone (kH (hc _ .normA)))))))))))))))))))))))))))))
  refine Kb (kCut ⟨tabSl [(1, .c (.ptr (rid 1 0) 1 0)), (2, .c (.ptr (rid 2 0) 1 0))], obTab 1 [(rid 1 0, ⟨1, 0, .box [.d (.sc (.int .i64 t.state)), .d (.sc (.int .i64 t.id)), .arr (rid 6 0) 1, .d (.sc (.int .i64 t.ftype)), .arr (rid 9 0) 1, .arr (rid 12 0) 1, .arr (rid 19 0) 1, .arr (rid 22 0) 1, .d (.sc (.int .i64 t.turn)), .d (.sc (.int .i64 t.sends)), .d (.sc (.int .i64 t.steps)), .d (.sc (.int .i64 t.code)), .arr (rid 25 0) 1]⟩), (rid 2 0, ⟨1, 0, .box [.d (.sc (.int .i64 0)), .d (.sc (.int .i64 0)), .nil 1, .d (.sc (.int .i64 0)), .nil 1, .nil 1, .nil 1, .nil 1, .d (.sc (.int .i64 0)), .d (.sc (.int .i64 0)), .d (.sc (.int .i64 0)), .d (.sc (.int .i64 0)), .nil 7]⟩), (rid 6 0, ⟨1, 0, .arr true (encBB t.fname)⟩), (rid 9 0, ⟨1, 0, .arr true (encBB t.name)⟩), (rid 12 0, ⟨1, 0, .arr true (encBB t.zone)⟩), (rid 19 0, ⟨1, 0, .arr true (encI t.hints)⟩), (rid 22 0, ⟨1, 0, .arr true (encI t.servers)⟩), (rid 25 0, ⟨1, 0, .arr true (encR t.answers)⟩)], []⟩ ?_ (fun x hc => ?_))
  case refine_2 => refine kRegD (kFadP rfl rfl (kLoadP rfl rfl rfl (kFadP rfl rfl (kLoadP rfl rfl rfl (kFadP rfl rfl (kLoadP rfl rfl rfl (kRelK rfl rfl (kCall1 true (ok_slices_Clone_Lint_int _ pr) ⟨rfl, trivial⟩ rfl rfl rfl (fun _ => (kFadP rfl rfl (kRelK rfl rfl (kCall1 true (ok_slices_Clone_Lint_int _ pr) ⟨rfl, trivial⟩ rfl rfl rfl (fun _ => (kRelF rfl rfl (kCall1 true (ok_impl_copyRrs _ pr) ⟨rfl, trivial⟩ rfl rfl rfl (fun _ => (kRelF rfl rfl (kStoreP rfl rfl rfl rfl (kFadP rfl rfl (kRelF rfl rfl (kStoreP rfl rfl rfl rfl (kFadP rfl rfl (kRelF rfl rfl (kStoreP rfl rfl rfl rfl (kDone (kH (hc _ .normA)))))))))))))))))))))))))))
  refine Kb (kCut ⟨tabSl [(2, .c (.ptr (rid 2 0) 1 0))], obTab 1 [(rid 2 0, ⟨1, 0, .box [.d (.sc (.int .i64 t.state)), .d (.sc (.int .i64 t.id)), .arr (rid 6 0) 1, .d (.sc (.int .i64 t.ftype)), .arr (rid 9 0) 1, .arr (rid 12 0) 1, .arr (rid 19 0) 1, .arr (rid 22 0) 1, .d (.sc (.int .i64 t.turn)), .d (.sc (.int .i64 t.sends)), .d (.sc (.int .i64 t.steps)), .d (.sc (.int .i64 t.code)), .arr (rid 25 0) 1]⟩), (rid 6 0, ⟨1, 0, .arr true (encBB t.fname)⟩), (rid 9 0, ⟨1, 0, .arr true (encBB t.name)⟩), (rid 12 0, ⟨1, 0, .arr true (encBB t.zone)⟩), (rid 19 0, ⟨1, 0, .arr true (encI t.hints)⟩), (rid 22 0, ⟨1, 0, .arr true (encI t.servers)⟩), (rid 25 0, ⟨1, 0, .arr true (encR t.answers)⟩)], []⟩ ?_ (fun x hc => ?_))
  case refine_2 => refine kReg (kLoadP rfl rfl rfl (kStoreP rfl rfl rfl rfl (kDone (hc _ .normA))))
  refine (Kr (Er (ra := [.agg [(.d _), (.d _), (.own true _), (.d _), (.own true _), (.own true _), (.own true _), (.own true _), (.d _), (.d _), (.d _), (.d _), (.own true _)]]) rfl rfl))

end Go.Proofs.YtmdmlncdjdphdaaGreat.FnLostsFn
