/- What the functions that FnExactReplyTo reaches compute, one contract each; each with the bounds that it states. -/
import Derived.Test.YtbmagbgdpmgbmaaGreatFnExactReplyToFn2
import Derived.Test.YtbmagbgdpmgbmaaGreatProg
import Derived.KernelRfl
set_option maxRecDepth 100000
set_option maxHeartbeats 8000000
set_option linter.unusedVariables false
set_option linter.unusedSimpArgs false
namespace Go.Proofs.YtbmagbgdpmgbmaaGreat.FnExactReplyToFn
open Go Hearth Go.Proofs

theorem ok_slices_Grow_Lbyte_byte (n : Nat) (hn : n ≤ 1099511627776) : FnOK Tryz.prog 301 [.one (.arr true true (.sl 1 [])), .one (.d (.sc (.int .i64 n)))] (fun ra _ => ra = [.one (.own true (.sl 1 []))]) := by
  refine FnOK.ofWalkGrow Tryz.func301 rfl (by kernel_rfl) fun w v hv => ?_
  have hs : (Tryz.prog.info? 5).map (fun i => (i.size, i.bytes, i.zero)) = some (1, 1, some (.int .u8 0)) := by kernel_rfl
  obtain ⟨i0, hi0⟩ : ∃ i0, Tryz.prog.info? 5 = some i0 := by
    cases h : Tryz.prog.info? 5 with
    | none => rw [h] at hs; cases hs
    | some i => exact ⟨i, rfl⟩
  rw [hi0] at hs
  simp only [Option.map_some, Option.some.injEq, Prod.mk.injEq] at hs
  obtain ⟨s1, s2, s3⟩ := hs
  have t22 : Tryz.prog.underlying 22 = some (.slice 5) := by kernel_rfl
  have t3 : Tryz.prog.underlying 3 = some (.int .i64) := by kernel_rfl
  obtain ⟨base, c, cs, rfl, hnil, hcl, hmax, hcs⟩ : ∃ (base : Option Addr) (c : Nat) (cs : List Value), v = .slice base 0 c ∧ (base = none → c = 0) ∧ cs.length = c ∧ c ≤ maxLen ∧ (∀ a, base = some a → ∀ j v, cs[j]? = some v → w.cell? (a.add j) = some v) := by
    rcases hv with rfl | ⟨b, c, cur, e0, rfl, hb, hmax, hcur⟩
    · exact ⟨none, 0, [], rfl, fun _ => rfl, rfl, Nat.zero_le _, fun a ha => by cases ha⟩
    · refine ⟨some ⟨b, 0, none⟩, c, cur.toList, rfl, fun h => (by cases h), by simpa using hcur, hmax, fun a ha j v hj => ?_⟩
      cases ha
      rw [addr_add, Nat.zero_add]
      simp only [World.cell?, hb]
      simpa using hj
  have hc63 : c ≤ 9223372036854775807 := by simpa [maxLen] using hmax
  have h1 : ¬ ((n : Int) < 0) := by omega
  have h2 : Go.RowKit.wrap64 ((c : Int) - ((0 : Nat) : Int)) = (c : Int) - ((0 : Nat) : Int) := by unfold Go.RowKit.wrap64; omega
  have h3 : Go.RowKit.wrap64 ((n : Int) - ((c : Int) - ((0 : Nat) : Int))) = (n : Int) - ((c : Int) - ((0 : Nat) : Int)) := by unfold Go.RowKit.wrap64; omega
  by_cases hroom : n ≤ c
  · have h4 : ¬ ((n : Int) - ((c : Int) - ((0 : Nat) : Int)) > 0) := by omega
    have fin : Calls Tryz.prog 301 #[.slice base 0 c, .int .i64 n] w fun e w' => e = .returned (.slice base 0 c) ∧ w' = w := by
      go_enter Tryz.func301, Tryz.ntmps301
      go_wp2
      go_ret
      exact ⟨rfl, rfl⟩
    exact fin.mono fun e w' h => .inl h
  · have h4 : (n : Int) - ((c : Int) - ((0 : Nat) : Int)) > 0 := by omega
    have hold : (Builtin.firstCells i0.size c (.slice base c c)).run Tryz.prog w.drew = .ok cs.toArray w.drew := by
      cases base with
      | none =>
        have h0 := hnil rfl
        subst h0
        have hc0 : cs = [] := List.length_eq_zero_iff.1 (by simpa using hcl)
        rw [hc0]
        exact run_firstCells_none w.drew i0.size 0 0 0
      | some a => exact run_firstCells_some w.drew i0.size c a c c cs (by rw [s1, Nat.mul_one]; exact hcl) (fun j v hj => hcs a rfl j v hj)
    have hrz : ∀ ty, (Builtin.append_ #[22, 3] ty #[.slice base c c, .int .i64 ((n : Int) - ((c : Int) - ((0 : Nat) : Int)))]).run Tryz.prog w =
        .ok (.slice (some ⟨w.heap.size, 0, none⟩) n (grownCap w n c 5)) (w.drew.alloc (.cells (cs.toArray ++ Builtin.zeroCells (Value.int .u8 0).cells (n - c) ++ Builtin.zeroCells (Value.int .u8 0).cells (grownCap w n c 5 - n)) 5)) := fun ty => by
      have h := Lib.run_append_grow_zeros w 22 3 ty 5 i0 (.int .u8 0) .i64 .i64 t22 t3 hi0 s3 base c c cs hold (n - c) (by omega) (by omega) (by omega) (by omega) (by rw [s2]; omega) (by rw [show c + (n - c) = n by omega]; exact growslice_fits (by omega) (by rw [s2]; omega))
      rw [show c + (n - c) = n by omega] at h
      rw [show (n : Int) - ((c : Int) - ((0 : Nat) : Int)) = ((n - c : Nat) : Int) by omega]
      exact h
    have hGn : n ≤ grownCap w n c 5 := grownCap_ge w _ _ _
    have hGm : grownCap w n c 5 ≤ maxLen := grownCap_le_maxLen w n c 5 (by unfold maxLen; omega)
    obtain ⟨G, hG⟩ : ∃ G, G = grownCap w n c 5 := ⟨_, rfl⟩
    rw [← hG] at hrz hGn hGm
    have hG63 : G ≤ 9223372036854775807 := by unfold maxLen at hGm; omega
    have fin : Calls Tryz.prog 301 #[.slice base 0 c, .int .i64 n] w fun e w' => e = .returned (.slice (some ⟨w.heap.size, 0, none⟩) 0 G) ∧ w' = w.drew.alloc (.cells (cs.toArray ++ Builtin.zeroCells (Value.int .u8 0).cells (n - c) ++ Builtin.zeroCells (Value.int .u8 0).cells (G - n)) 5) := by
      clear hold hG hcs hGm
      go_enter Tryz.func301, Tryz.ntmps301
      cases base with
      | none =>
        have h0 := hnil rfl
        subst h0
        go_wp2_with (at_builtin; refine Lib.wpList_append_run _ rfl _ _ _ _ rfl _ _ rfl rfl _ _ (hrz _) ?_)
        all_goals (go_ret; exact ⟨rfl, rfl⟩)
      | some a =>
        obtain ⟨ab, ao, asp⟩ := a
        go_wp2_with (at_builtin; refine Lib.wpList_append_run _ rfl _ _ _ _ rfl _ _ rfl rfl _ _ (hrz _) ?_)
        all_goals (go_ret; exact ⟨rfl, rfl⟩)
    refine fin.mono fun e w' h => .inr ?_
    obtain ⟨rfl, rfl⟩ := h
    refine ⟨G, cs.toArray ++ Builtin.zeroCells (Value.int .u8 0).cells (n - c) ++ Builtin.zeroCells (Value.int .u8 0).cells (G - n), 5, rfl, (Go.RowKit.Below.refl _ w).drew.alloc (Nat.le_refl _) _, (by show (w.heap.push _)[w.heap.size]? = _; exact Array.getElem?_push_size), hGm, ?_⟩
    have hz : ∀ n, (Builtin.zeroCells (Value.int .u8 0).cells n).size = n := fun n => by rw [size_zeroCells]; exact Nat.mul_one n
    simp only [Array.size_append, List.size_toArray, hz, hcl]
    omega

def c_slices_Concat_Lbyte_byte : C := (.seq (.reg false (.o 0 2 (.mov (.n 1)) .done)) (.seq (.reg false (.o 0 3 (.mov (.i 0)) .done)) (.seq (.seq (.reg false (.o 0 9 (.mov (.t 0)) (.o 1 10 (.len (.t 9)) (.o 2 11 (.mov (.i 0)) .done)))) (.block 0 (.loop (.seq (.reg false (.o 0 12 (.bin .lss (.t 11) (.t 10)) .done)) (.seq (.cond (.t 12) .skip (.exit 0)) (.seq (.block 1 (.seq (.reg false (.o 0 13 (.iad 1 (.t 9) (.t 11)) (.o 1 14 (.load none (.t 13)) (.o 2 5 (.mov (.t 14)) .done)))) (.seq (.reg false (.o 0 15 (.mov (.t 3)) (.o 1 16 (.mov (.t 5)) (.o 2 17 (.len (.t 16)) (.o 3 18 (.bin .add (.t 15) (.t 17)) (.o 4 3 (.mov (.t 18)) .done)))))) (.seq (.reg false (.o 0 19 (.mov (.t 3)) (.o 1 20 (.bin .lss (.t 19) (.i 0)) .done))) (.cond (.t 20) (.reg false (.op 0 [] (some 21) none false .bad (.op 1 [] none none false .bad .done))) .skip))))) (.reg false (.o 0 22 (.bin .add (.t 11) (.i 1)) (.o 1 11 (.mov (.t 22)) .done))))))))) (.seq (.reg false (.o 0 23 (.mov (.t 3)) (.o 1 24 (.call 24 301 [(.n 1), (.t 23)]) (.o 2 6 (.mov (.t 24)) .done)))) (.seq (.seq (.reg false (.o 0 25 (.mov (.t 0)) (.o 1 26 (.len (.t 25)) (.o 2 27 (.mov (.i 0)) .done)))) (.block 2 (.loop (.seq (.reg false (.o 0 28 (.bin .lss (.t 27) (.t 26)) .done)) (.seq (.cond (.t 28) .skip (.exit 2)) (.seq (.block 3 (.seq (.reg false (.o 0 29 (.iad 1 (.t 25) (.t 27)) (.o 1 30 (.load none (.t 29)) (.o 2 8 (.mov (.t 30)) .done)))) (.reg false (.o 0 31 (.mov (.t 6)) (.o 1 32 (.mov (.t 8)) (.o 2 33 (.app 33 1 1 (.t 31) (.t 32)) (.o 3 6 (.mov (.t 33)) .done))))))) (.reg false (.o 0 34 (.bin .add (.t 27) (.i 1)) (.o 1 27 (.mov (.t 34)) .done))))))))) (.seq (.reg false (.o 0 35 (.mov (.t 6)) (.o 1 2 (.mov (.t 35)) .done))) .ret))))))
theorem dg_slices_Concat_Lbyte_byte : Tryz.f287.body.bind (digC Tryz.prog Tryz.f287.ntmps []) = some c_slices_Concat_Lbyte_byte := by kernel_rfl
theorem rs_slices_Concat_Lbyte_byte : resSlots Tryz.prog Tryz.f287 = some [.s 2] := by kernel_rfl
theorem ok_slices_Concat_Lbyte_byte (a : List (List UInt8)) (ha : a.length ≤ 4194304) (hf : a.flatten.length ≤ 1099511627776) :
    FnOK Tryz.prog 287 [.one (.d (encBB a))] (fun ra _ => ra = [.one (.own true (encB a.flatten))]) := by
  refine FnOK.ofK Tryz.func287 (by kernel_rfl) dg_slices_Concat_Lbyte_byte rs_slices_Concat_Lbyte_byte rfl rfl ?_
  delta c_slices_Concat_Lbyte_byte T.o X.i
  refine kSeq (kReg (kMovC rfl (kDone (kSeq (kReg (kMovC rfl (kDone (kSeq (kSeq (kReg (kMovC rfl (kLenR rfl rfl (kMovC rfl (kDone (kBlock ?_)))))))))))))))
  refine kLoop (α := { i : Nat // i ≤ a.length }) (fun y => ⟨tabSl [(0, .dv (encBB a)), (3, .i (a.take y.1).flatten.length), (9, .dv (encBB a)), (10, .i a.length), (11, .i y.1)], obTab 1 [], []⟩) (fun y => a.length - y.1) ⟨0, by simp⟩ .normA ?_
  rintro ⟨i, hi⟩
  simp only
  have hle := flat_le a i
  rcases Nat.lt_or_ge i a.length with hlt | hge
  · have hst : (a.take (i + 1)).flatten = (a.take i).flatten ++ a[i] := by rw [← List.take_append_getElem hlt, List.flatten_append]; simp
    have hle2 := flat_le a (i + 1)
    have hle3 : (a.take (i + 1)).flatten.length = (a.take i).flatten.length + a[i].length := by rw [hst, List.length_append]
    refine kSeq (kReg (kBin rfl rfl rfl (kDone (kSeq (kCondP rfl (fun g0 => kSkip (kSeq (kBlock (kSeq (kReg (kIadR rfl rfl rfl (by first | omega | (simp only [List.length_append, List.length_cons, List.length_nil]; omega)) (kLoadD rfl rfl (kMovC rfl (kDone (kSeq (kReg (kMovC rfl (kMovC rfl (kLenR rfl rfl (kAdd rfl rfl (by omega) (kMovC rfl (kDone (kSeq (kReg (kMovC rfl (kBin rfl rfl rfl (kDone (kCondF rfl (kSkip (kBk (kReg (kAdd rfl rfl (by omega) (kMovC rfl (kDone ?_))))))))))))))))))))))))))))) (fun g0 => (by omega)))))))
    refine kInv ⟨⟨i + 1, hlt⟩, by simp only; omega, ?_⟩
    simp only [hle3]
    exact .normA
  · have e : i = a.length := by omega
    subst e
    rw [List.take_length]
    refine kSeq (kReg (kBin rfl rfl rfl (kDone (kSeq (kCondP rfl (fun g0 => (by omega)) (fun g0 => kExit (kExC (kExI (kExB (kSeq (kReg (kMovC rfl (kCall1 true (ok_slices_Grow_Lbyte_byte _ (by first | assumption | omega | solve_by_elim [List.getElem_mem] | (simp only [szOut] at *; omega) | exact rfl | exact leb | exact rrOk_small (by assumption) | exact zoneOk_small (by assumption) | exact SmallBB.ok (by assumption) | exact (SmallBB.ok (by assumption)).len | exact (SmallBB.ok (by assumption)).mem | exact SmallBB.bent (by assumption))) ⟨⟨rfl, rfl⟩, rfl, trivial⟩ rfl rfl rfl (fun _ => (kMovC rfl (kDone (kSeq (kSeq (kReg (kMovC rfl (kLenR rfl rfl (kMovC rfl (kDone (kBlock ?_))))))))))))))))))))))))
    refine kLoop (α := { i : Nat // i ≤ a.length }) (fun y => ⟨tabSl [(6, .c (.arr (rid 24 0) 1)), (25, .dv (encBB a)), (26, .i a.length), (27, .i y.1)], obTab 1 [(rid 24 0, ⟨1, 0, .arr true (encB (a.take y.1).flatten)⟩)], []⟩) (fun y => a.length - y.1) ⟨0, by simp⟩ .normA ?_
    rintro ⟨i, hi⟩
    simp only
    have hle := flat_le a i
    rcases Nat.lt_or_ge i a.length with hlt | hge
    · have hst : (a.take (i + 1)).flatten = (a.take i).flatten ++ a[i] := by rw [← List.take_append_getElem hlt, List.flatten_append]; simp
      have hle2 := flat_le a (i + 1)
      have hle3 : (a.take (i + 1)).flatten.length = (a.take i).flatten.length + a[i].length := by rw [hst, List.length_append]
      refine kSeq (kReg (kBin rfl rfl rfl (kDone (kSeq (kCondP rfl (fun g0 => kSkip (kSeq (kBlock (kSeq (kReg (kIadR rfl rfl rfl (by first | omega | (simp only [List.length_append, List.length_cons, List.length_nil]; omega)) (kLoadD rfl rfl (kMovC rfl (kDone (kReg (kMovC rfl (kMovC rfl (kAppR rfl rfl rfl (src_encB _ _) rfl rfl rfl rfl (by first | omega | (simp only [List.length_append, List.length_cons, List.length_nil]; omega)) (kMovC rfl (kDone (kBk (kReg (kAdd rfl rfl (by omega) (kMovC rfl (kDone ?_)))))))))))))))))))) (fun g0 => (by omega)))))))
      refine kInv ⟨⟨i + 1, hlt⟩, by simp only; omega, ?_⟩
      simp only [hst]
      exact .normA
    · refine kSeq (kReg (kBin rfl rfl rfl (kDone (kSeq (kCondP rfl (fun g0 => (by omega)) (fun g0 => kExit (kExC (kExI (kExB (kSeq (kReg (kMovC rfl (kMovC rfl (kDone (kMem [(102400, ⟨1, 0, .arr true _⟩)] [(2, .c (.arr 102400 1))] [] ⟨rfl, trivial⟩ ⟨rfl, trivial⟩ rfl (kRet (endRetA (ra := [.one (.own true _)]) rfl ?_)))))))))))))))))
      rw [show i = a.length by omega, List.take_length]

def c_impl_four : C := (.seq (.reg false (.o 0 2 (.mov (.n 1)) .done)) (.seq (.reg false (.o 0 3 (.mov (.t 0)) (.o 1 4 (.bin .shr (.t 3) (.v (.int .u64 16))) (.o 2 5 (.call 5 286 [(.t 4)]) (.o 3 6 (.mov (.t 0)) (.o 4 7 (.call 7 286 [(.t 6)]) (.o 5 8 (.app 8 1 1 (.t 5) (.t 7)) (.o 6 2 (.mov (.t 8)) .done)))))))) .ret))
theorem dg_impl_four : Tryz.f265.body.bind (digC Tryz.prog Tryz.f265.ntmps []) = some c_impl_four := by kernel_rfl
theorem rs_impl_four : resSlots Tryz.prog Tryz.f265 = some [.s 2] := by kernel_rfl
theorem ok_impl_four (n : Int) :
    FnOK Tryz.prog 265 [.one (.d (.sc (.int .i64 n)))] (fun ra _ => ra = [.one (.own true (encB (w4 n)))]) := by
  refine FnOK.ofK Tryz.func265 (by kernel_rfl) dg_impl_four rs_impl_four rfl rfl ?_
  delta c_impl_four T.o X.i
  rw [← w4_two]
  have hl : ∀ m, (w2 m).length = 2 := fun _ => rfl
  have l1 := hl (sr n 16)
  have l2 := hl n
  refine kSeq (kReg (kMovC rfl (kDone (kSeq (kReg (kMovC rfl (kShr (m := 16) rfl rfl rfl (kCall1 true (ok_impl_two _) ⟨rfl, trivial⟩ rfl rfl rfl (fun _ => (kMovC rfl (kCall1 true (ok_impl_two _) ⟨rfl, trivial⟩ rfl rfl rfl (fun _ => (kAppR rfl rfl rfl rfl rfl rfl rfl rfl (by omega) (kMovC rfl (kDone (kRet (endRetA (ra := [.one (.own true _)]) rfl rfl)))))))))))))))))

def c_impl_recordBytes : C := (.seq (.reg false (.o 0 5 (.box 5 (.t 0)) (.o 1 10 (.mov (.n 1)) .done))) (.seq (.reg false (.o 0 11 (.load (some 1) (.t 5)) (.o 1 12 (.call 12 266 [(.t 11)]) (.o 2 13 (.mov (.t 1)) (.o 3 14 (.call 14 286 [(.t 13)]) (.o 4 15 (.mov (.t 2)) (.o 5 16 (.call 16 286 [(.t 15)]) (.o 6 17 (.mov (.t 3)) (.o 7 18 (.call 18 265 [(.t 17)]) (.o 8 19 (.mov (.t 4)) (.o 9 20 (.len (.t 19)) (.o 10 21 (.call 21 286 [(.t 20)]) (.o 11 22 (.mov (.t 4)) (.o 12 23 (.lit 23 1 [(.n 1)] 6 [(0, 1, (.t 12)), (1, 1, (.t 14)), (2, 1, (.t 16)), (3, 1, (.t 18)), (4, 1, (.t 21)), (5, 1, (.t 22))]) (.o 13 24 (.call 24 287 [(.t 23)]) (.o 14 10 (.mov (.t 24)) .done)))))))))))))))) .ret))
theorem dg_impl_recordBytes : Tryz.f302.body.bind (digC Tryz.prog Tryz.f302.ntmps []) = some c_impl_recordBytes := by kernel_rfl
theorem rs_impl_recordBytes : resSlots Tryz.prog Tryz.f302 = some [.s 10] := by kernel_rfl
theorem ok_impl_recordBytes (n : List (List UInt8)) (t c l : Int) (d : List UInt8) (hn : SmallBB n) (hd : d.length ≤ 4194304) :
    FnOK Tryz.prog 302 [.agg [.d (encBB n)], .one (.d (.sc (.int .i64 t))), .one (.d (.sc (.int .i64 c))), .one (.d (.sc (.int .i64 l))), .one (.d (encB d))] (fun ra _ => ra = [.one (.own true (encB (wireN n ++ w2 t ++ w2 c ++ w4 l ++ w2 (d.length : Int) ++ d)))]) := by
  refine FnOK.ofK Tryz.func302 (by kernel_rfl) dg_impl_recordBytes rs_impl_recordBytes rfl rfl ?_
  delta c_impl_recordBytes T.o X.i
  have n1 := hn.len
  have n2 := hn.flat
  have n3 := wireN_len n
  refine kSeq (kReg (kBox rfl rfl rfl rfl rfl (kMovC rfl (kDone (kSeq (kReg (kLoadP rfl rfl rfl (kCall1 true (ok_impl_Name_wire _ (by first | assumption | omega | solve_by_elim [List.getElem_mem] | (simp only [List.length_append, w2_len, w4_len]; omega) | (simp only [szOut] at *; omega) | exact rfl | exact leb | exact rrOk_small (by assumption) | exact zoneOk_small (by assumption) | exact SmallBB.ok (by assumption) | exact (SmallBB.ok (by assumption)).len | exact (SmallBB.ok (by assumption)).mem | exact SmallBB.bent (by assumption))) ⟨⟨⟨rfl, trivial⟩, leb⟩, trivial⟩ rfl rfl rfl (fun _ => (kMovC rfl (kCall1 true (ok_impl_two _) ⟨rfl, trivial⟩ rfl rfl rfl (fun _ => (kMovC rfl (kCall1 true (ok_impl_two _) ⟨rfl, trivial⟩ rfl rfl rfl (fun _ => (kMem [(53248, ⟨1, 0, .arr true _⟩), (61440, ⟨1, 0, .arr true _⟩), (69632, ⟨1, 0, .arr true _⟩)] [(3, .c (.d _)), (17, .c (.un)), (4, .c (.d _)), (19, .c (.un)), (20, .c (.un)), (12, .c (.arr 53248 1)), (14, .c (.arr 61440 1)), (16, .c (.arr 69632 1)), (18, .c (.un)), (21, .c (.un)), (22, .c (.un)), (23, .c (.un)), (24, .c (.un))] [] ⟨rfl, rfl, rfl, trivial⟩ ⟨rfl, rfl, rfl, rfl, rfl, rfl, rfl, rfl, rfl, rfl, rfl, rfl, rfl, trivial⟩ rfl (kMovC rfl (kCall1 true (ok_impl_four _) ⟨rfl, trivial⟩ rfl rfl rfl (fun _ => (kMovC rfl (kLenR rfl rfl (kCall1 true (ok_impl_two _) ⟨rfl, trivial⟩ rfl rfl rfl (fun _ => (kMovC rfl (kLitD rfl rfl rfl rfl ?_)))))))))))))))))))))))))
  refine kCall1 true (ok_slices_Concat_Lbyte_byte [wireN n, w2 t, w2 c, w4 l, w2 (d.length : Int), d] (by simp) (by simp [w2_len, w4_len]; omega)) ⟨rfl, trivial⟩ rfl rfl rfl (fun _ => ?_)
  refine kMem [(102400, ⟨1, 0, .arr true _⟩)] [(24, .c (.arr 102400 1))] [] ⟨rfl, trivial⟩ ⟨rfl, trivial⟩ rfl (kMovC rfl (kDone (kMem [(102400, ⟨1, 0, .arr true _⟩)] [(10, .c (.arr 102400 1))] [] ⟨rfl, trivial⟩ ⟨rfl, trivial⟩ rfl (kRet (endRetA (ra := [.one (.own true _)]) rfl ?_)))))
  simp

def c_impl_Rr_data : C := (.seq (.reg false (.o 0 1 (.box 1 (.t 0)) (.o 1 2 (.mov (.n 1)) .done))) (.seq (.block 0 (.seq (.reg false (.o 0 7 (.fad (.t 1) 1) (.o 1 8 (.load none (.t 7)) (.o 2 9 (.bin .eql (.t 8) (.i 1)) (.o 3 6 (.mov (.t 9)) .done))))) (.cond (.t 6) (.seq (.reg false (.o 0 10 (.fad (.t 1) 3) (.o 1 11 (.load none (.t 10)) (.o 2 12 (.call 12 265 [(.t 11)]) (.o 3 2 (.mov (.t 12)) .done))))) .ret) (.seq (.reg false (.o 0 14 (.fad (.t 1) 1) (.o 1 15 (.load none (.t 14)) (.o 2 16 (.call 16 193 [(.t 15)]) (.o 3 13 (.mov (.t 16)) .done))))) (.cond (.t 13) (.seq (.reg false (.o 0 17 (.fad (.t 1) 4) (.o 1 18 (.load (some 1) (.t 17)) (.o 2 19 (.call 19 266 [(.t 18)]) (.o 3 3 (.mov (.t 19)) .done))))) (.seq (.seq (.reg false (.o 0 20 (.fad (.t 1) 6) (.o 1 21 (.load none (.t 20)) (.o 2 22 (.len (.t 21)) (.o 3 23 (.mov (.i 0)) .done))))) (.block 1 (.loop (.seq (.reg false (.o 0 24 (.bin .lss (.t 23) (.t 22)) .done)) (.seq (.cond (.t 24) .skip (.exit 1)) (.seq (.block 2 (.seq (.reg false (.o 0 25 (.iad 1 (.t 21) (.t 23)) (.o 1 26 (.load none (.t 25)) (.o 2 5 (.mov (.t 26)) .done)))) (.reg false (.o 0 27 (.mov (.t 3)) (.o 1 28 (.mov (.t 5)) (.o 2 29 (.call 29 265 [(.t 28)]) (.o 3 30 (.app 30 1 1 (.t 27) (.t 29)) (.o 4 3 (.mov (.t 30)) .done)))))))) (.reg false (.o 0 31 (.bin .add (.t 23) (.i 1)) (.o 1 23 (.mov (.t 31)) .done))))))))) (.seq (.reg false (.o 0 32 (.mov (.t 3)) (.o 1 2 (.mov (.t 32)) .done))) .ret))) .skip))))) (.seq (.reg false (.o 0 33 (.fad (.t 1) 5) (.o 1 34 (.load none (.t 33)) (.o 2 35 (.len (.t 34)) (.o 3 36 (.conv .u8 (.t 35)) (.o 4 37 (.lit 37 1 [(.v (.int .u8 0))] 1 [(0, 1, (.t 36))]) (.o 5 38 (.fad (.t 1) 5) (.o 6 39 (.load none (.t 38)) (.o 7 40 (.app 40 1 1 (.t 37) (.t 39)) (.o 8 2 (.mov (.t 40)) .done)))))))))) .ret)))
theorem dg_impl_Rr_data : Tryz.f199.body.bind (digC Tryz.prog Tryz.f199.ntmps []) = some c_impl_Rr_data := by kernel_rfl
theorem rs_impl_Rr_data : resSlots Tryz.prog Tryz.f199 = some [.s 2] := by kernel_rfl
theorem ok_impl_Rr_data (r : Rr) (hs : SmallR r) :
    FnOK Tryz.prog 199 [.agg (r.cells.map .d)] (fun ra _ => ra = [.one (.own true (encB (rdata r)))]) := by
  refine FnOK.ofK Tryz.func199 (by kernel_rfl) dg_impl_Rr_data rs_impl_Rr_data rfl rfl ?_
  delta c_impl_Rr_data T.o X.i
  have ht := hs.t
  have t1 := hs.t.len
  have t2 := hs.t.flat
  have x1 := hs.x
  have m1 := hs.m
  by_cases h1 : r.ty = 1
  · rw [rdata_A h1]
    refine kSeq (kReg (kBox rfl rfl rfl rfl rfl (kMovC rfl (kDone (kSeq (kBlock (kSeq (kReg (kFadP rfl rfl (kLoadP rfl rfl rfl (kBin rfl rfl rfl (kMovC rfl (kDone (kCondP rfl (fun g0 => kSeq (kReg (kFadP rfl rfl (kLoadP rfl rfl rfl (kCall1 true (ok_impl_four _) ⟨rfl, trivial⟩ rfl rfl rfl (fun _ => (kMovC rfl (kDone (kRet (endRetA (ra := [.one (.own true _)]) rfl rfl)))))))))) (fun g0 => (by omega))))))))))))))))
  cases h2 : hasTo r.ty
  · rw [rdata_text h1 h2]
    refine kSeq (kReg (kBox rfl rfl rfl rfl rfl (kMovC rfl (kDone (kSeq (kBlock (kSeq (kReg (kFadP rfl rfl (kLoadP rfl rfl rfl (kBin rfl rfl rfl (kMovC rfl (kDone (kCondP rfl (fun g0 => (by omega)) (fun g0 => kSeq (kReg (kFadP rfl rfl (kLoadP rfl rfl rfl (kCallD (ok_impl_hasTo _) ⟨rfl, trivial⟩ rfl rfl rfl rfl rfl (kMovC rfl (kDone (kCond rfl (fun g1 => (by (simp [*] at g1))) (fun g1 => kSkip (kBk (kSeq (kReg (kFadP rfl rfl (kLoadP rfl rfl rfl (kLenR rfl rfl (kConvU8 rfl (kLit rfl rfl rfl rfl (kFadP rfl rfl (kLoadP rfl rfl rfl (kApp1R rfl rfl (src_encB _ _) rfl rfl rfl rfl rfl (by omega) (kMovC rfl (kDone (kRet (endRetA (ra := [.one (.own true _)]) rfl rfl))))))))))))))))))))))))))))))))))))))
  · rw [rdata_to h1 h2]
    refine kSeq (kReg (kBox rfl rfl rfl rfl rfl (kMovC rfl (kDone (kSeq (kBlock (kSeq (kReg (kFadP rfl rfl (kLoadP rfl rfl rfl (kBin rfl rfl rfl (kMovC rfl (kDone (kCondP rfl (fun g0 => (by omega)) (fun g0 => kSeq (kReg (kFadP rfl rfl (kLoadP rfl rfl rfl (kCallD (ok_impl_hasTo _) ⟨rfl, trivial⟩ rfl rfl rfl rfl rfl (kMovC rfl (kDone (kCond rfl (fun g1 => kSeq (kReg (kFadP rfl rfl (kLoadP rfl rfl rfl (kCall1 true (ok_impl_Name_wire _ pr) ⟨⟨⟨rfl, trivial⟩, leb⟩, trivial⟩ rfl rfl rfl (fun _ => (kMovC rfl (kDone (kSeq (kSeq (kReg (kFadP rfl rfl (kLoadP rfl rfl rfl (kLenR rfl rfl (kMovC rfl (kDone (kBlock ?_))))))))))))))))) (fun g1 => (by (simp [*] at g1)))))))))))))))))))))))))
    refine kLoop (α := { i : Nat // i ≤ r.nums.length }) (fun y => ⟨tabSl [(3, .c (.arr (rid 19 0) 1)), (21, .dv (encI r.nums)), (22, .i r.nums.length), (23, .i y.1)], obTab 1 [(rid 19 0, ⟨1, 0, .arr true (encB (wireN r.to ++ (r.nums.take y.1).flatMap w4))⟩)], []⟩) (fun y => r.nums.length - y.1) ⟨0, by simp⟩ (by simp only [List.take_zero, List.flatMap_nil, List.append_nil]; exact .normA) ?_
    rintro ⟨i, hi⟩
    simp only
    have hl : (wireN r.to ++ (r.nums.take i).flatMap w4).length ≤ 33554432 := by
      rw [List.length_append, wireN_len, w4s_len, List.length_take]; omega
    have hl4 : ∀ n, (w4 n).length = 4 := w4_len
    rcases Nat.lt_or_ge i r.nums.length with hlt | hge
    · have hst : wireN r.to ++ (r.nums.take (i + 1)).flatMap w4 = wireN r.to ++ (r.nums.take i).flatMap w4 ++ w4 r.nums[i] := by rw [flatMap_take _ _ _ hlt, List.append_assoc]
      have h4 := hl4 r.nums[i]
      refine kSeq (kReg (kBin rfl rfl rfl (kDone (kSeq (kCondP rfl (fun g0 => kSkip (kSeq (kBlock (kSeq (kReg (kIadR rfl rfl rfl (by omega) (kLoadD rfl rfl (kMovC rfl (kDone (kReg (kMovC rfl (kMovC rfl (kCall1 true (ok_impl_four _) ⟨rfl, trivial⟩ rfl rfl rfl (fun _ => (kAppR rfl rfl rfl rfl rfl rfl rfl rfl (by omega) (kMovC rfl (kDone (kBk (kReg (kAdd rfl rfl (by omega) (kMovC rfl (kDone ?_)))))))))))))))))))))) (fun g0 => (by omega)))))))
      refine kInv ⟨⟨i + 1, by omega⟩, by simp only; omega, ?_⟩
      simp only [hst]
      exact .normA
    · rw [show i = r.nums.length by omega, List.take_length]
      refine kSeq (kReg (kBin rfl rfl rfl (kDone (kSeq (kCondP rfl (fun g0 => (by omega)) (fun g0 => kExit (kExC (kExI (kExB (kSeq (kReg (kMovC rfl (kMovC rfl (kDone (kRet (endRetA (ra := [.one (.own true _)]) rfl rfl))))))))))))))))

def c_impl_Want_wire : C := (.seq (.reg false (.o 0 1 (.box 1 (.t 0)) (.o 1 2 (.mov (.n 1)) .done))) (.seq (.seq (.reg false (.o 0 3 (.fad (.t 1) 8) (.o 1 4 (.load none (.t 3)) .done))) (.cond (.t 4) (.seq (.reg false (.o 0 5 (.fad (.t 1) 0) (.o 1 6 (.fad (.t 5) 0) (.o 2 7 (.load (some 1) (.t 6)) (.o 3 8 (.fad (.t 1) 0) (.o 4 9 (.fad (.t 8) 1) (.o 5 10 (.load none (.t 9)) (.o 6 11 (.fad (.t 1) 7) (.o 7 12 (.load none (.t 11)) (.o 8 13 (.call 13 302 [(.t 7), (.t 10), (.t 12), (.i 0), (.n 1)]) (.o 9 2 (.mov (.t 13)) .done))))))))))) .ret) .skip)) (.seq (.reg true (.op 0 [] (some 14) none true (.fad (.t 1) 0) (.op 1 [] (some 15) none true (.fad (.t 14) 0) (.op 2 [] (some 16) none true (.load (some 1) (.t 15)) (.op 3 [] (some 17) none true (.fad (.t 1) 0) (.op 4 [] (some 18) none true (.fad (.t 17) 1) (.op 5 [] (some 19) none true (.load none (.t 18)) (.op 6 [] (some 20) none true (.fad (.t 1) 7) (.op 7 [] (some 21) none true (.load none (.t 20)) (.op 8 [] (some 22) none true (.fad (.t 1) 0) (.op 9 [] (some 23) none true (.fad (.t 22) 2) (.op 10 [] (some 24) none true (.load none (.t 23)) (.op 11 [] (some 25) none true (.fad (.t 1) 0) (.op 12 [] (some 26) none true (.load (some 7) (.t 25)) (.op 13 [12] (some 27) none false (.call 27 199 [(.t 26)]) (.op 14 [2, 5, 7, 10, 12] (some 28) none false (.call 28 302 [(.t 16), (.t 19), (.t 21), (.t 24), (.t 27)]) (.op 15 [] (some 2) none true (.mov (.t 28)) .done))))))))))))))))) .ret)))
theorem dg_impl_Want_wire : Tryz.f288.body.bind (digC Tryz.prog Tryz.f288.ntmps []) = some c_impl_Want_wire := by kernel_rfl
theorem rs_impl_Want_wire : resSlots Tryz.prog Tryz.f288 = some [.s 2] := by kernel_rfl
theorem ok_impl_Want_wire (w : Want) (hs : SmallW w) (hk : wantOk w = true) :
    FnOK Tryz.prog 288 [.agg (w.cells.map .d)] (fun ra _ => ra = [.one (.own true (encB (wantB w)))]) := by
  refine FnOK.ofK Tryz.func288 (by kernel_rfl) dg_impl_Want_wire rs_impl_Want_wire rfl rfl ?_
  delta c_impl_Want_wire T.o X.i
  have k9 := hs.r.n
  have k8 := hs.r
  cases hb2 : w.bare
  · have k2 := rdata_small (want_rr hk hb2)
    refine kSeq (kReg (kBox rfl rfl rfl rfl rfl (kMovC rfl (kDone (kSeq (kSeq (kReg (kFadP rfl rfl (kLoadP rfl rfl rfl (kDone (kCond rfl (fun g0 => (by (simp [*] at g0))) (fun g0 => kSkip (kSeq (kRegD (kFadP rfl rfl (kFadP rfl rfl (kLoadP rfl rfl rfl (kFadP rfl rfl (kFadP rfl rfl (kLoadP rfl rfl rfl (kFadP rfl rfl (kLoadP rfl rfl rfl (kFadP rfl rfl (kFadP rfl rfl (kLoadP rfl rfl rfl (kFadP rfl rfl (kLoadP rfl rfl rfl (kRelK rfl rfl (kCall1 true (ok_impl_Rr_data _ (by first | assumption | omega | solve_by_elim [List.getElem_mem] | (simp only [List.length_append, w2_len, w4_len]; omega) | (simp only [szOut] at *; omega) | exact rfl | exact leb | exact rrOk_small (by assumption) | exact zoneOk_small (by assumption) | exact SmallBB.ok (by assumption) | exact (SmallBB.ok (by assumption)).len | exact (SmallBB.ok (by assumption)).mem | exact SmallBB.bent (by assumption))) ⟨⟨⟨rfl, rfl, rfl, rfl, rfl, rfl, rfl, trivial⟩, leb⟩, trivial⟩ rfl rfl rfl (fun _ => (kRelF rfl rfl (kCall1 true (ok_impl_recordBytes _ _ _ _ _ (by first | assumption | omega | solve_by_elim [List.getElem_mem] | (simp only [List.length_append, w2_len, w4_len]; omega) | (simp only [szOut] at *; omega) | exact rfl | exact leb | exact rrOk_small (by assumption) | exact zoneOk_small (by assumption) | exact SmallBB.ok (by assumption) | exact (SmallBB.ok (by assumption)).len | exact (SmallBB.ok (by assumption)).mem | exact SmallBB.bent (by assumption)) (by first | assumption | omega | solve_by_elim [List.getElem_mem] | (simp only [List.length_append, w2_len, w4_len]; omega) | (simp only [szOut] at *; omega) | exact rfl | exact leb | exact rrOk_small (by assumption) | exact zoneOk_small (by assumption) | exact SmallBB.ok (by assumption) | exact (SmallBB.ok (by assumption)).len | exact (SmallBB.ok (by assumption)).mem | exact SmallBB.bent (by assumption))) ⟨⟨⟨rfl, trivial⟩, leb⟩, rfl, rfl, rfl, rfl, trivial⟩ rfl rfl rfl (fun _ => (kMovC rfl (kDone (kH (kRet (endRetA (ra := [.one (.own true _)]) rfl ?_))))))))))))))))))))))))))))))))))))))
    exact congrArg (fun z => [RA.one (RV.own true (encB z))]) (by unfold wantB; rw [if_neg (by simp [hb2])]; rfl)
  · refine kSeq (kReg (kBox rfl rfl rfl rfl rfl (kMovC rfl (kDone (kSeq (kSeq (kReg (kFadP rfl rfl (kLoadP rfl rfl rfl (kDone (kCond rfl (fun g0 => kSeq (kReg (kFadP rfl rfl (kFadP rfl rfl (kLoadP rfl rfl rfl (kFadP rfl rfl (kFadP rfl rfl (kLoadP rfl rfl rfl (kFadP rfl rfl (kLoadP rfl rfl rfl ?_)))))))))) (fun g0 => (by (simp [*] at g0))))))))))))))
    refine kCall1 true (ok_impl_recordBytes w.rr.name w.rr.ty w.cls 0 [] k9 (by simp)) ⟨⟨⟨rfl, trivial⟩, leb⟩, rfl, rfl, rfl, rfl, trivial⟩ rfl rfl rfl (fun _ => ?_)
    refine kMovC rfl (kDone (kRet (endRetA (ra := [.one (.own true _)]) rfl ?_)))
    exact congrArg (fun z => [RA.one (RV.own true (encB z))]) (by unfold wantB; rw [if_pos hb2]; simp)

def c_impl_Rr_wire : C := (.seq (.reg false (.o 0 1 (.box 1 (.t 0)) (.o 1 2 (.mov (.n 1)) .done))) (.seq (.reg true (.op 0 [] (some 3) none true (.fad (.t 1) 0) (.op 1 [] (some 4) none true (.load (some 1) (.t 3)) (.op 2 [] (some 5) none true (.fad (.t 1) 1) (.op 3 [] (some 6) none true (.load none (.t 5)) (.op 4 [] (some 7) none true (.fad (.t 1) 2) (.op 5 [] (some 8) none true (.load none (.t 7)) (.op 6 [] (some 9) none true (.load (some 7) (.t 1)) (.op 7 [6] (some 10) none false (.call 10 199 [(.t 9)]) (.op 8 [1, 3, 5, 6] (some 11) none false (.call 11 302 [(.t 4), (.t 6), (.i 1), (.t 8), (.t 10)]) (.op 9 [] (some 2) none true (.mov (.t 11)) .done))))))))))) .ret))
theorem dg_impl_Rr_wire : Tryz.f289.body.bind (digC Tryz.prog Tryz.f289.ntmps []) = some c_impl_Rr_wire := by kernel_rfl
theorem rs_impl_Rr_wire : resSlots Tryz.prog Tryz.f289 = some [.s 2] := by kernel_rfl
theorem ok_impl_Rr_wire (r : Rr) (hs : SmallR r) (hk : rrOk r = true) :
    FnOK Tryz.prog 289 [.agg (r.cells.map .d)] (fun ra _ => ra = [.one (.own true (encB (rrB r 1)))]) := by
  refine FnOK.ofK Tryz.func289 (by kernel_rfl) dg_impl_Rr_wire rs_impl_Rr_wire rfl rfl ?_
  delta c_impl_Rr_wire T.o X.i
  have k9 := hs.n
  have k2 := rdata_small hk
  refine kSeq (kReg (kBox rfl rfl rfl rfl rfl (kMovC rfl (kDone (kSeq (kRegD (kFadP rfl rfl (kLoadP rfl rfl rfl (kFadP rfl rfl (kLoadP rfl rfl rfl (kFadP rfl rfl (kLoadP rfl rfl rfl (kMem [(8192, ⟨1, 0, .box [.d _, .d _, .d _, .d _, .d _, .d _, .d _]⟩)] [(1, .c (.ptr 8192 1 0)), (9, .c (.un)), (4, .g [.d _]), (6, .c (.d _)), (8, .c (.d _)), (10, .c (.un)), (11, .c (.un))] [8192, 8192, 8192] ⟨rfl, trivial⟩ ⟨rfl, rfl, rfl, rfl, rfl, rfl, rfl, trivial⟩ rfl (kLoadP rfl rfl rfl (kRelK rfl rfl (kCall1 true (ok_impl_Rr_data _ (by first | assumption | omega | solve_by_elim [List.getElem_mem] | (simp only [List.length_append, w2_len, w4_len]; omega) | (simp only [szOut] at *; omega) | exact rfl | exact leb | exact rrOk_small (by assumption) | exact zoneOk_small (by assumption) | exact SmallBB.ok (by assumption) | exact (SmallBB.ok (by assumption)).len | exact (SmallBB.ok (by assumption)).mem | exact SmallBB.bent (by assumption))) ⟨⟨⟨rfl, rfl, rfl, rfl, rfl, rfl, rfl, trivial⟩, leb⟩, trivial⟩ rfl rfl rfl (fun _ => (kRelF rfl rfl (kCall1 true (ok_impl_recordBytes _ _ _ _ _ (by first | assumption | omega | solve_by_elim [List.getElem_mem] | (simp only [List.length_append, w2_len, w4_len]; omega) | (simp only [szOut] at *; omega) | exact rfl | exact leb | exact rrOk_small (by assumption) | exact zoneOk_small (by assumption) | exact SmallBB.ok (by assumption) | exact (SmallBB.ok (by assumption)).len | exact (SmallBB.ok (by assumption)).mem | exact SmallBB.bent (by assumption)) (by first | assumption | omega | solve_by_elim [List.getElem_mem] | (simp only [List.length_append, w2_len, w4_len]; omega) | (simp only [szOut] at *; omega) | exact rfl | exact leb | exact rrOk_small (by assumption) | exact zoneOk_small (by assumption) | exact SmallBB.ok (by assumption) | exact (SmallBB.ok (by assumption)).len | exact (SmallBB.ok (by assumption)).mem | exact SmallBB.bent (by assumption))) ⟨⟨⟨rfl, trivial⟩, leb⟩, rfl, rfl, rfl, rfl, trivial⟩ rfl rfl rfl (fun _ => (kMovC rfl (kDone (kH (kMem [(49152, ⟨1, 0, .arr true _⟩)] [(2, .c (.arr 49152 1))] [] ⟨rfl, trivial⟩ ⟨rfl, trivial⟩ rfl (kRet (endRetA (ra := [.one (.own true _)]) rfl rfl))))))))))))))))))))))))))

def c_impl_Msg_wire : C := (.seq (.reg false (.o 0 1 (.box 1 (.t 0)) (.o 1 2 (.mov (.n 1)) .done))) (.seq (.reg false (.o 0 15 (.fad (.t 1) 2) (.o 1 16 (.load none (.t 15)) (.o 2 17 (.bin .shl (.t 16) (.v (.int .u64 11))) (.o 3 18 (.fad (.t 1) 4) (.o 4 19 (.load none (.t 18)) (.o 5 20 (.bin .or (.t 17) (.t 19)) (.o 6 3 (.mov (.t 20)) .done)))))))) (.seq (.seq (.reg false (.o 0 21 (.fad (.t 1) 1) (.o 1 22 (.load none (.t 21)) .done))) (.cond (.t 22) (.reg false (.o 0 23 (.mov (.t 3)) (.o 1 24 (.bin .or (.t 23) (.i 32768)) (.o 2 3 (.mov (.t 24)) .done)))) .skip)) (.seq (.seq (.reg false (.o 0 25 (.fad (.t 1) 3) (.o 1 26 (.load none (.t 25)) .done))) (.cond (.t 26) (.reg false (.o 0 27 (.mov (.t 3)) (.o 1 28 (.bin .or (.t 27) (.i 1024)) (.o 2 3 (.mov (.t 28)) .done)))) .skip)) (.seq (.reg false (.o 0 29 (.lit 29 1 [(.v (.int .u8 0))] 0 []) (.o 1 4 (.mov (.t 29)) .done))) (.seq (.seq (.reg false (.o 0 30 (.fad (.t 1) 0) (.o 1 31 (.load none (.t 30)) (.o 2 32 (.mov (.t 3)) (.o 3 33 (.fad (.t 1) 6) (.o 4 34 (.load none (.t 33)) (.o 5 35 (.len (.t 34)) (.o 6 36 (.fad (.t 1) 9) (.o 7 37 (.load none (.t 36)) (.o 8 38 (.len (.t 37)) (.o 9 39 (.bin .add (.t 35) (.t 38)) (.o 10 40 (.fad (.t 1) 7) (.o 11 41 (.load none (.t 40)) (.o 12 42 (.len (.t 41)) (.o 13 43 (.fad (.t 1) 10) (.o 14 44 (.load none (.t 43)) (.o 15 45 (.len (.t 44)) (.o 16 46 (.bin .add (.t 42) (.t 45)) (.o 17 47 (.fad (.t 1) 8) (.o 18 48 (.load none (.t 47)) (.o 19 49 (.len (.t 48)) (.o 20 50 (.lit 50 1 [(.i 0)] 6 [(0, 1, (.t 31)), (1, 1, (.t 32)), (2, 1, (.i 1)), (3, 1, (.t 39)), (4, 1, (.t 46)), (5, 1, (.t 49))]) (.o 21 51 (.len (.t 50)) (.o 22 52 (.mov (.i 0)) .done)))))))))))))))))))))))) (.block 0 (.loop (.seq (.reg false (.o 0 53 (.bin .lss (.t 52) (.t 51)) .done)) (.seq (.cond (.t 53) .skip (.exit 0)) (.seq (.block 1 (.seq (.reg false (.o 0 54 (.iad 1 (.t 50) (.t 52)) (.o 1 55 (.load none (.t 54)) (.o 2 6 (.mov (.t 55)) .done)))) (.reg false (.o 0 56 (.mov (.t 4)) (.o 1 57 (.mov (.t 6)) (.o 2 58 (.call 58 286 [(.t 57)]) (.o 3 59 (.app 59 1 1 (.t 56) (.t 58)) (.o 4 4 (.mov (.t 59)) .done)))))))) (.reg false (.o 0 60 (.bin .add (.t 52) (.i 1)) (.o 1 52 (.mov (.t 60)) .done))))))))) (.seq (.reg true (.op 0 [] (some 61) none true (.mov (.t 4)) (.op 1 [] (some 62) none true (.fad (.t 1) 5) (.op 2 [] (some 63) none true (.load none (.t 62)) (.op 3 [] (some 64) none true (.iad 2 (.t 63) (.i 0)) (.op 4 [] (some 65) none true (.fad (.t 64) 0) (.op 5 [] (some 66) none true (.load (some 1) (.t 65)) (.op 7 [] (some 68) none true (.fad (.t 1) 5) (.op 8 [] (some 69) none true (.load none (.t 68)) (.op 9 [] (some 70) none true (.iad 2 (.t 69) (.i 0)) (.op 10 [] (some 71) none true (.fad (.t 70) 1) (.op 11 [] (some 72) none true (.load none (.t 71)) (.op 6 [5, 2] (some 67) none false (.call 67 266 [(.t 66)]) (.op 12 [11, 8, 5, 2] (some 73) none false (.call 73 286 [(.t 72)]) (.op 13 [11, 8, 5, 2] (some 74) none false (.call 74 286 [(.i 1)]) (.op 14 [5, 2, 11, 8] (some 75) none false (.lit 75 1 [(.n 1)] 4 [(0, 1, (.t 61)), (1, 1, (.t 67)), (2, 1, (.t 73)), (3, 1, (.t 74))]) (.op 15 [5, 2, 11, 8] (some 76) none false (.call 76 287 [(.t 75)]) (.op 16 [] (some 4) none true (.mov (.t 76)) .done)))))))))))))))))) (.seq (.seq (.reg false (.o 0 77 (.fad (.t 1) 9) (.o 1 78 (.load none (.t 77)) (.o 2 79 (.fad (.t 1) 10) (.o 3 80 (.load none (.t 79)) (.o 4 81 (.lit 81 1 [(.n 9)] 2 [(0, 1, (.t 78)), (1, 1, (.t 80))]) (.o 5 82 (.len (.t 81)) (.o 6 83 (.mov (.i 0)) .done)))))))) (.block 2 (.loop (.seq (.reg false (.o 0 84 (.bin .lss (.t 83) (.t 82)) .done)) (.seq (.cond (.t 84) .skip (.exit 2)) (.seq (.block 3 (.seq (.reg false (.o 0 85 (.iad 1 (.t 81) (.t 83)) (.o 1 86 (.load none (.t 85)) (.o 2 8 (.mov (.t 86)) .done)))) (.seq (.reg false (.o 0 87 (.mov (.t 8)) (.o 1 88 (.len (.t 87)) (.o 2 89 (.mov (.i 0)) .done)))) (.block 4 (.loop (.seq (.reg false (.o 0 90 (.bin .lss (.t 89) (.t 88)) .done)) (.seq (.cond (.t 90) .skip (.exit 4)) (.seq (.block 5 (.seq (.reg false (.o 0 91 (.iad 9 (.t 87) (.t 89)) (.o 1 92 (.load (some 9) (.t 91)) (.o 2 10 (.alloc 10 [(.n 1), (.i 0), (.i 0), (.i 0), (.n 1), (.n 1), (.n 1), (.i 0), (.v (.bool false))]) (.op 3 [] none none false (.store (some 9) (.t 10) (.t 92)) .done))))) (.reg false (.o 0 93 (.mov (.t 4)) (.o 1 94 (.load (some 9) (.t 10)) (.o 2 95 (.call 95 288 [(.t 94)]) (.o 3 96 (.app 96 1 1 (.t 93) (.t 95)) (.o 4 4 (.mov (.t 96)) .done)))))))) (.reg false (.o 0 97 (.bin .add (.t 89) (.i 1)) (.o 1 89 (.mov (.t 97)) .done))))))))))) (.reg false (.o 0 98 (.bin .add (.t 83) (.i 1)) (.o 1 83 (.mov (.t 98)) .done))))))))) (.seq (.seq (.reg false (.o 0 99 (.fad (.t 1) 6) (.o 1 100 (.load none (.t 99)) (.o 2 101 (.fad (.t 1) 7) (.o 3 102 (.load none (.t 101)) (.o 4 103 (.fad (.t 1) 8) (.o 5 104 (.load none (.t 103)) (.o 6 105 (.lit 105 1 [(.n 7)] 3 [(0, 1, (.t 100)), (1, 1, (.t 102)), (2, 1, (.t 104))]) (.o 7 106 (.len (.t 105)) (.o 8 107 (.mov (.i 0)) .done)))))))))) (.block 6 (.loop (.seq (.reg false (.o 0 108 (.bin .lss (.t 107) (.t 106)) .done)) (.seq (.cond (.t 108) .skip (.exit 6)) (.seq (.block 7 (.seq (.reg false (.o 0 109 (.iad 1 (.t 105) (.t 107)) (.o 1 110 (.load none (.t 109)) (.o 2 12 (.mov (.t 110)) .done)))) (.seq (.reg false (.o 0 111 (.mov (.t 12)) (.o 1 112 (.len (.t 111)) (.o 2 113 (.mov (.i 0)) .done)))) (.block 8 (.loop (.seq (.reg false (.o 0 114 (.bin .lss (.t 113) (.t 112)) .done)) (.seq (.cond (.t 114) .skip (.exit 8)) (.seq (.block 9 (.seq (.reg false (.o 0 115 (.iad 7 (.t 111) (.t 113)) (.o 1 116 (.load (some 7) (.t 115)) (.o 2 14 (.alloc 14 [(.n 1), (.i 0), (.i 0), (.i 0), (.n 1), (.n 1), (.n 1)]) (.op 3 [] none none false (.store (some 7) (.t 14) (.t 116)) .done))))) (.reg false (.o 0 117 (.mov (.t 4)) (.o 1 118 (.load (some 7) (.t 14)) (.o 2 119 (.call 119 289 [(.t 118)]) (.o 3 120 (.app 120 1 1 (.t 117) (.t 119)) (.o 4 4 (.mov (.t 120)) .done)))))))) (.reg false (.o 0 121 (.bin .add (.t 113) (.i 1)) (.o 1 113 (.mov (.t 121)) .done))))))))))) (.reg false (.o 0 122 (.bin .add (.t 107) (.i 1)) (.o 1 107 (.mov (.t 122)) .done))))))))) (.seq (.reg false (.o 0 123 (.mov (.t 4)) (.o 1 2 (.mov (.t 123)) .done))) .ret))))))))))
theorem dg_impl_Msg_wire : Tryz.f249.body.bind (digC Tryz.prog Tryz.f249.ntmps []) = some c_impl_Msg_wire := by kernel_rfl
theorem rs_impl_Msg_wire : resSlots Tryz.prog Tryz.f249 = some [.s 2] := by kernel_rfl
theorem ok_impl_Msg_wire (m : Msg) (hs : SmallM m) (hk : msgMay m = true) :
    FnOK Tryz.prog 249 [.agg (m.cells.map .d)] (fun ra _ => ra = [.one (.own true (encB (msgB m (flagsI m) ((m.an.length : Int) + m.pr.length) ((m.au.length : Int) + m.up.length))))]) := by
  refine FnOK.ofK Tryz.func249 (by kernel_rfl) dg_impl_Msg_wire rs_impl_Msg_wire rfl rfl ?_
  delta c_impl_Msg_wire T.o X.i
  have p := MayP.of hk
  have b1 := hs.q
  have b2 := hs.a
  have b3 := hs.b
  have b4 := hs.c
  have b5 := hs.p
  have b6 := hs.u
  obtain ⟨p1, p2⟩ := p.id
  obtain ⟨p3, p4⟩ := p.cd
  have p5 := p.q1
  have p6 := p.qn
  obtain ⟨p7, p8⟩ := p.qt
  obtain ⟨p9, p10⟩ := p.an
  obtain ⟨p11, p12⟩ := p.au
  obtain ⟨p13, p14⟩ := p.mo
  obtain ⟨p15, p16⟩ := p.pr
  obtain ⟨p17, p18⟩ := p.up
  have hop : m.op = 0 ∨ m.op = 5 := p.op.imp (fun h => h.1) (fun h => h.1)
  refine kSeq (kCut ⟨tabSl [(1, .c (.ptr (rid 1 0) 1 0)), (2, .c (.nil 1))], obTab 1 [(rid 1 0, ⟨1, 0, .box (m.cells.map .d)⟩)], []⟩ ?_ (fun x hc => ?_))
  case refine_2 => refine kReg (kBox rfl rfl rfl rfl rfl (kMovC rfl (kDone (hc _ .normA))))
  refine kSeq (kCut ⟨tabSl [(1, .c (.ptr (rid 1 0) 1 0)), (2, .c (.nil 1)), (3, .i (orI (m.op * 2048) m.code))], obTab 1 [(rid 1 0, ⟨1, 0, .box (m.cells.map .d)⟩)], []⟩ ?_ (fun x hc => ?_))
  case refine_2 =>
    refine kReg (kFadP rfl rfl (kLoadP rfl rfl rfl (kShl11 rfl rfl (by omega) ?_)))
    refine kFadP rfl rfl (kLoadP rfl rfl rfl (kBin rfl rfl rfl (kMovC rfl (kDone (hc _ .normA)))))
  refine kSeq (kCut ⟨tabSl [(1, .c (.ptr (rid 1 0) 1 0)), (2, .c (.nil 1)), (3, .i (if m.reply then orI (orI (m.op * 2048) m.code) 32768 else orI (m.op * 2048) m.code))], obTab 1 [(rid 1 0, ⟨1, 0, .box (m.cells.map .d)⟩)], []⟩ ?_ (fun x hc => ?_))
  case refine_2 =>
    revert hc
    cases hr : m.reply
    · intro hc
      refine kSeq (kReg (kFadP rfl rfl (kLoadP rfl rfl rfl (kDone (kCond rfl (fun g0 => (by (simp [*] at g0))) (fun g0 => kSkip (hc _ .normA)))))))
    · intro hc
      refine kSeq (kReg (kFadP rfl rfl (kLoadP rfl rfl rfl (kDone (kCond rfl (fun g0 => kReg (kMovC rfl (kBin rfl rfl rfl (kMovC rfl (kDone (hc _ .normA)))))) (fun g0 => (by (simp [*] at g0))))))))
  refine kSeq (kCut ⟨tabSl [(1, .c (.ptr (rid 1 0) 1 0)), (2, .c (.nil 1)), (3, .i (flagsI m))], obTab 1 [(rid 1 0, ⟨1, 0, .box (m.cells.map .d)⟩)], []⟩ ?_ (fun x hc => ?_))
  case refine_2 =>
    revert hc
    unfold flagsI
    cases hr : m.auth
    · intro hc
      refine kSeq (kReg (kFadP rfl rfl (kLoadP rfl rfl rfl (kDone (kCond rfl (fun g0 => (by (simp [*] at g0))) (fun g0 => kSkip (hc _ .normA)))))))
    · intro hc
      refine kSeq (kReg (kFadP rfl rfl (kLoadP rfl rfl rfl (kDone (kCond rfl (fun g0 => kReg (kMovC rfl (kBin rfl rfl rfl (kMovC rfl (kDone (hc _ .normA)))))) (fun g0 => (by (simp [*] at g0))))))))
  generalize flagsI m = F at *
  have hq0 : 0 < m.qs.length := by omega
  have hqd : m.qs.getD 0 ⟨[], 0⟩ = m.qs[0] := by simp [List.getD_eq_getElem?_getD, hq0]
  rw [hqd] at p6 p7 p8
  have hqs := b1.mem _ (List.getElem_mem hq0)
  have hqw := wireN_small p6
  refine kSeq (kCut ⟨tabSl [(1, .c (.ptr (rid 1 0) 1 0)), (2, .c (.nil 1)), (3, .i F), (4, .c (.arr (rid 29 0) 1))], obTab 1 [(rid 1 0, ⟨1, 0, .box (m.cells.map .d)⟩), (rid 29 0, ⟨1, 0, .arr true (encB ([]))⟩)], []⟩ ?_ (fun x hc => ?_))
  case refine_2 => refine kReg (kLitG rfl rfl rfl rfl (kMovC rfl (kDone (hc _ .normA))))
  refine kSeq (kCut ⟨tabSl [(1, .c (.ptr (rid 1 0) 1 0)), (2, .c (.nil 1)), (4, .c (.arr (rid 5000 0) 1))], obTab 1 [(rid 1 0, ⟨1, 0, .box (m.cells.map .d)⟩), (rid 5000 0, ⟨1, 0, .arr true (encB (w2 m.id ++ w2 F ++ w2 1 ++ w2 ((m.an.length : Int) + m.pr.length) ++ w2 ((m.au.length : Int) + m.up.length) ++ w2 m.mo.length))⟩)], []⟩ ?_ (fun x hc => ?_))
  case refine_2 =>
    refine kSeq (kReg (kFadP rfl rfl (kLoadP rfl rfl rfl (kMovC rfl (kFadP rfl rfl (kLoadP rfl rfl rfl (kLenR rfl rfl (kFadP rfl rfl (kLoadP rfl rfl rfl (kLenR rfl rfl (kAdd rfl rfl (by omega) (kFadP rfl rfl (kLoadP rfl rfl rfl (kLenR rfl rfl (kFadP rfl rfl (kLoadP rfl rfl rfl (kLenR rfl rfl (kAdd rfl rfl (by omega) (kFadP rfl rfl (kLoadP rfl rfl rfl (kLenR rfl rfl (kLitG rfl rfl rfl rfl (kLen rfl rfl rfl (kMovC rfl (kDone (kBlock ?_))))))))))))))))))))))))))
    refine kLoop (α := { i : Nat // i ≤ 6 }) (fun y => ⟨tabSl [(1, .c (.ptr (rid 1 0) 1 0)), (2, .c (.nil 1)), (4, .c (.arr (rid 5000 0) 1)), (50, .dv (encI [m.id, F, 1, (m.an.length : Int) + m.pr.length, (m.au.length : Int) + m.up.length, m.mo.length])), (51, .i 6), (52, .i y.1)], obTab 1 [(rid 1 0, ⟨1, 0, .box (m.cells.map .d)⟩), (rid 5000 0, ⟨1, 0, .arr true (encB (([m.id, F, 1, (m.an.length : Int) + m.pr.length, (m.au.length : Int) + m.up.length, (m.mo.length : Int)].take y.1).flatMap w2))⟩)], []⟩) (fun y => 6 - y.1) ⟨0, by simp⟩ (by
      refine Sub.trans (Sub.frz (j := 50) (id := rid 50 0) rfl rfl (by decide)) ?_
      refine Sub.trans (Sub.renSlot 4 (rid 29 0) (rid 5000 0) rfl rfl rfl rfl) ?_
      exact .normA) ?_
    rintro ⟨i, hi⟩
    simp only
    have hl6 : ([m.id, F, 1, (m.an.length : Int) + m.pr.length, (m.au.length : Int) + m.up.length, (m.mo.length : Int)]).length = 6 := rfl
    have hle : (([m.id, F, 1, (m.an.length : Int) + m.pr.length, (m.au.length : Int) + m.up.length, (m.mo.length : Int)].take i).flatMap w2).length ≤ 12 := by
      refine Nat.le_trans (flatMap_le (k := 2) fun x _ => by rw [w2_len]; exact Nat.le_refl _) ?_
      simp only [List.length_take]; omega
    rcases Nat.lt_or_ge i 6 with hlt | hge
    · have hst := flatMap_take w2 [m.id, F, 1, (m.an.length : Int) + m.pr.length, (m.au.length : Int) + m.up.length, (m.mo.length : Int)] i hlt
      refine kSeq (kReg (kBin rfl rfl rfl (kDone (kSeq (kCondP rfl (fun g0 => kSkip (kSeq (kBlock (kSeq (kReg (kIadR rfl rfl rfl (by first | omega | (simp only [List.length_append, List.length_cons, List.length_nil]; omega)) (kLoadD rfl rfl (kMovC rfl (kDone (kReg (kMovC rfl (kMovC rfl (kCall1 true (ok_impl_two _) ⟨rfl, trivial⟩ rfl rfl rfl (fun _ => (kAppR2 rfl rfl rfl rfl rfl rfl rfl rfl (by first | omega | (simp only [List.length_append, List.length_cons, List.length_nil]; omega)) (kMovC rfl (kDone (kBk (kReg (kAdd rfl rfl (by omega) (kMovC rfl (kDone ?_)))))))))))))))))))))) (fun g0 => (by omega)))))))
      refine kInv ⟨⟨i + 1, hlt⟩, by simp only; omega, ?_⟩
      simp only [hst]
      exact .normA
    · refine kSeq (kReg (kBin rfl rfl rfl (kDone (kSeq (kCondP rfl (fun g0 => (by omega)) (fun g0 => kExit (kExC (kExI (kExB ?_)))))))))
      refine hc _ ?_
      rw [show i = 6 by omega, show ([m.id, F, 1, (m.an.length : Int) + m.pr.length, (m.au.length : Int) + m.up.length, (m.mo.length : Int)].take 6).flatMap w2 = w2 m.id ++ w2 F ++ w2 1 ++ w2 ((m.an.length : Int) + m.pr.length) ++ w2 ((m.au.length : Int) + m.up.length) ++ w2 m.mo.length by simp [List.flatMap_cons]]
      exact .normA
  refine kSeq (kCut ⟨tabSl [(1, .c (.ptr (rid 1 0) 1 0)), (2, .c (.nil 1)), (4, .c (.arr (rid 76 0) 1))], obTab 1 [(rid 1 0, ⟨1, 0, .box (m.cells.map .d)⟩), (rid 76 0, ⟨1, 0, .arr true (encB (headB m F ((m.an.length : Int) + m.pr.length) ((m.au.length : Int) + m.up.length)))⟩)], []⟩ ?_ (fun x hc => ?_))
  case refine_2 =>
    refine kRegD (kMovC rfl (kFadP rfl rfl (kLoadP rfl rfl rfl (kIadR (m := 0) rfl rfl rfl (by first | omega | (simp only [List.length_append, List.length_cons, List.length_nil]; omega)) (kFadD rfl (kLoadD rfl rfl (kFadP rfl rfl (kLoadP rfl rfl rfl (kIadR (m := 0) rfl rfl rfl (by first | omega | (simp only [List.length_append, List.length_cons, List.length_nil]; omega)) (kFadD rfl (kLoadD rfl rfl (kRelK rfl rfl (kCall1 true (ok_impl_Name_wire _ (by first | assumption | omega | solve_by_elim [List.getElem_mem] | (simp only [List.length_append, w2_len, w4_len]; omega) | (simp only [szOut] at *; omega) | exact rfl | exact leb | exact rrOk_small (by assumption) | exact zoneOk_small (by assumption) | exact SmallBB.ok (by assumption) | exact (SmallBB.ok (by assumption)).len | exact (SmallBB.ok (by assumption)).mem | exact SmallBB.bent (by assumption))) ⟨⟨⟨rfl, trivial⟩, leb⟩, trivial⟩ rfl rfl rfl (fun _ => (kRelF rfl rfl (kCall1 true (ok_impl_two _) ⟨rfl, trivial⟩ rfl rfl rfl (fun _ => (kRelF rfl rfl (kCall1 true (ok_impl_two _) ⟨rfl, trivial⟩ rfl rfl rfl (fun _ => (kRelF rfl rfl (kLitD rfl rfl rfl rfl (kRelF rfl rfl ?_)))))))))))))))))))))))
    refine kCall1 true (ok_slices_Concat_Lbyte_byte [w2 m.id ++ w2 F ++ w2 1 ++ w2 ((m.an.length : Int) + m.pr.length) ++ w2 ((m.au.length : Int) + m.up.length) ++ w2 m.mo.length, wireN (m.qs[0]).name, w2 (m.qs[0]).ty, w2 1] (by simp) (by simp only [List.flatten_cons, List.flatten_nil, List.length_append, List.length_nil, w2_len]; omega)) ⟨rfl, trivial⟩ rfl rfl rfl (fun _ => ?_)
    refine kMovC rfl (kDone (kH ?_))
    refine hc _ ?_
    rw [show headB m F ((m.an.length : Int) + m.pr.length) ((m.au.length : Int) + m.up.length) = [w2 m.id ++ w2 F ++ w2 1 ++ w2 ((m.an.length : Int) + m.pr.length) ++ w2 ((m.au.length : Int) + m.up.length) ++ w2 m.mo.length, wireN (m.qs[0]).name, w2 (m.qs[0]).ty, w2 1].flatten by unfold headB; rw [hqd]; simp [List.flatten_cons]]
    exact .normA
  have hH : (headB m F ((m.an.length : Int) + m.pr.length) ((m.au.length : Int) + m.up.length)).length ≤ 200 := by rw [headB_len, hqd]; omega
  generalize hH1 : headB m F ((m.an.length : Int) + m.pr.length) ((m.au.length : Int) + m.up.length) = H at *
  have hWs : ∀ w ∈ ([m.pr, m.up]).flatten, wantOk w = true ∧ SmallW w := fun w hw => by
    simp only [List.flatten_cons, List.flatten_nil, List.append_nil, List.mem_append] at hw
    rcases hw with hw | hw
    · exact ⟨p16 w hw, b5.mem w hw⟩
    · exact ⟨p18 w hw, b6.mem w hw⟩
  have hWn : ([m.pr, m.up]).flatten.length ≤ 24 := by simp; omega
  have hWf := flatMap_le (f := wantB) (l := ([m.pr, m.up]).flatten) (k := 307) fun w hw => wantB_small (hWs w hw).1
  have hWf2 := Nat.le_trans hWf (Nat.mul_le_mul_right _ hWn)
  refine kSub (t := ⟨tabSl [(1, .c (.ptr (rid 1 0) 1 0)), (2, .c (.nil 1)), (4, .c (.arr (rid 5000 0) 1))], obTab 1 [(rid 1 0, ⟨1, 0, .box (m.cells.map .d)⟩), (rid 5000 0, ⟨1, 0, .arr true (encB (H))⟩)], []⟩) ((Sub.renSlot 4 (rid 76 0) (rid 5000 0) rfl rfl rfl rfl).trans .normA) ?_
  refine kSeq (kCut ⟨tabSl [(1, .c (.ptr (rid 1 0) 1 0)), (2, .c (.nil 1)), (4, .c (.arr (rid 5000 0) 1))], obTab 1 [(rid 1 0, ⟨1, 0, .box (m.cells.map .d)⟩), (rid 5000 0, ⟨1, 0, .arr true (encB (H ++ ([m.pr, m.up].flatten).flatMap wantB))⟩)], []⟩ ?_ (fun x hc => ?_))
  case refine_2 =>
    have hlen : ∀ i (h : i < 2), (([m.pr, m.up])[i]).length ≤ 12 := fun i h => by
      rcases i with _ | _ | i
      · exact p15
      · exact p17
      · omega
    refine kSeq (kReg (kFadP rfl rfl (kLoadP rfl rfl rfl (kFadP rfl rfl (kLoadP rfl rfl rfl (kLitG rfl rfl rfl rfl (kLen rfl rfl rfl (kMovC rfl (kDone (kBlock ?_))))))))))
    refine kLoop (α := { i : Nat // i ≤ 2 }) (fun y => ⟨tabSl [(1, .c (.ptr (rid 1 0) 1 0)), (2, .c (.nil 1)), (4, .c (.arr (rid 5000 0) 1)), (81, .dv (.sl 1 ([m.pr, m.up].map fun l => [encW l]))), (82, .i 2), (83, .i y.1)], obTab 1 [(rid 1 0, ⟨1, 0, .box (m.cells.map .d)⟩), (rid 5000 0, ⟨1, 0, .arr true (encB (H ++ (([m.pr, m.up].take y.1).flatten).flatMap wantB))⟩)], []⟩) (fun y => 2 - y.1) ⟨0, by simp⟩ (by
      refine Sub.trans (Sub.frz (j := 81) (id := rid 81 0) rfl rfl (by decide)) ?_
      simp only [List.take_zero, List.flatten_nil, List.flatMap_nil, List.append_nil]
      exact .normA) ?_
    rintro ⟨i, hi⟩
    simp only
    have hlL : ([m.pr, m.up] : List (List Want)).length = 2 := rfl
    have hle0 := flat_inner0 wantB [m.pr, m.up] i
    have hLi : (H ++ (([m.pr, m.up].take i).flatten).flatMap wantB).length ≤ 10000 := by rw [List.length_append]; omega
    rcases Nat.lt_or_ge i 2 with hlt | hge
    · have hst := flat_step wantB [m.pr, m.up] i hlt
      have hmem : ∀ x ∈ [m.pr, m.up][i], x ∈ ([m.pr, m.up]).flatten := fun x hx => List.mem_flatten.2 ⟨_, List.getElem_mem hlt, hx⟩
      have hin := fun j => flat_inner wantB [m.pr, m.up] i j hlt
      have hll : ([m.pr, m.up][i]).length ≤ 12 := hlen i hlt
      refine kSeq (kReg (kBin rfl rfl rfl (kDone (kSeq (kCondP rfl (fun g0 => kSkip (kSeq (kBlock (kSeq (kReg (kIadR rfl rfl rfl (by first | omega | (simp only [List.length_append, List.length_cons, List.length_nil]; omega)) (kLoadD rfl rfl (kMovC rfl (kDone (kSeq (kReg (kMovC rfl (kLenR rfl rfl (kMovC rfl (kDone (kBlock ?_)))))))))))))))) (fun g0 => (by omega)))))))
      refine kLoop (α := { j : Nat // j ≤ ([m.pr, m.up][i]).length }) (fun y => ⟨tabSl [(1, .c (.ptr (rid 1 0) 1 0)), (2, .c (.nil 1)), (4, .c (.arr (rid 5000 0) 1)), (81, .dv (.sl 1 ([m.pr, m.up].map fun l => [encW l]))), (82, .i 2), (83, .i i), (87, .dv (encW [m.pr, m.up][i])), (88, .i ([m.pr, m.up][i]).length), (89, .i y.1)], obTab 1 [(rid 1 0, ⟨1, 0, .box (m.cells.map .d)⟩), (rid 5000 0, ⟨1, 0, .arr true (encB (H ++ ((([m.pr, m.up].take i).flatten).flatMap wantB ++ ([m.pr, m.up][i].take y.1).flatMap wantB)))⟩)], []⟩) (fun y => ([m.pr, m.up][i]).length - y.1) ⟨0, by simp⟩ (by
        simp only [List.take_zero, List.flatMap_nil, List.append_nil]
        exact .normA) ?_
      rintro ⟨j, hj⟩
      simp only
      have hin := hin j
      have hLj : (H ++ ((([m.pr, m.up].take i).flatten).flatMap wantB ++ ([m.pr, m.up][i].take j).flatMap wantB)).length ≤ 10000 := by rw [List.length_append]; omega
      rcases Nat.lt_or_ge j ([m.pr, m.up][i]).length with hlt2 | hge2
      · have hw := hWs _ (hmem _ (List.getElem_mem hlt2))
        obtain ⟨hw1, hw2⟩ := hw
        have hwb := wantB_small hw1
        have hst2 := flatMap_take wantB [m.pr, m.up][i] j hlt2
        refine kSeq (kReg (kBin rfl rfl rfl (kDone (kSeq (kCondP rfl (fun g0 => kSkip (kSeq (kBlock (kSeq (kReg (kIadR rfl rfl rfl (by first | omega | (simp only [List.length_append, List.length_cons, List.length_nil]; omega)) (kLoadD rfl rfl (kAlloc rfl rfl (kStoreP rfl rfl rfl rfl (kDone (kReg (kMovC rfl (kLoadP rfl rfl rfl (kCall1 true (ok_impl_Want_wire _ (by first | assumption | omega | solve_by_elim [List.getElem_mem] | (simp only [List.length_append, w2_len, w4_len]; omega) | (simp only [szOut] at *; omega) | exact rfl | exact leb | exact rrOk_small (by assumption) | exact zoneOk_small (by assumption) | exact SmallBB.ok (by assumption) | exact (SmallBB.ok (by assumption)).len | exact (SmallBB.ok (by assumption)).mem | exact SmallBB.bent (by assumption)) (by first | assumption | omega | solve_by_elim [List.getElem_mem] | (simp only [List.length_append, w2_len, w4_len]; omega) | (simp only [szOut] at *; omega) | exact rfl | exact leb | exact rrOk_small (by assumption) | exact zoneOk_small (by assumption) | exact SmallBB.ok (by assumption) | exact (SmallBB.ok (by assumption)).len | exact (SmallBB.ok (by assumption)).mem | exact SmallBB.bent (by assumption))) ⟨⟨⟨rfl, rfl, rfl, rfl, rfl, rfl, rfl, rfl, rfl, trivial⟩, leb⟩, trivial⟩ rfl rfl rfl (fun _ => (kAppR rfl rfl rfl (src_ownB rfl) rfl rfl rfl rfl (by first | omega | (simp only [List.length_append, List.length_cons, List.length_nil]; omega)) (kMovC rfl (kDone (kBk (kReg (kAdd rfl rfl (by omega) (kMovC rfl (kDone ?_))))))))))))))))))))))) (fun g0 => (by omega)))))))
        refine kInv ⟨⟨j + 1, hlt2⟩, by simp only; omega, ?_⟩
        simp only [hst2, ← List.append_assoc]
        exact .normA
      · refine kSeq (kReg (kBin rfl rfl rfl (kDone (kSeq (kCondP rfl (fun g0 => (by omega)) (fun g0 => kExit (kExC (kExI (kExB (kBk (kReg (kAdd rfl rfl (by omega) (kMovC rfl (kDone ?_))))))))))))))
        refine kInv ⟨⟨i + 1, hlt⟩, by simp only; omega, ?_⟩
        rw [hst, show j = ([m.pr, m.up][i]).length by omega, List.take_length]
        exact .normA
    · refine kSeq (kReg (kBin rfl rfl rfl (kDone (kSeq (kCondP rfl (fun g0 => (by omega)) (fun g0 => kExit (kExC (kExI (kExB ?_)))))))))
      refine hc _ ?_
      rw [show i = 2 by omega]
      exact .normA
  have hHl : (H ++ ([m.pr, m.up].flatten).flatMap wantB).length ≤ 10000 := by rw [List.length_append]; omega
  generalize hH2 : H ++ ([m.pr, m.up].flatten).flatMap wantB = H2 at *
  have hRs : ∀ r ∈ ([m.an, m.au, m.mo]).flatten, rrOk r = true ∧ SmallR r := fun r hr => by
    simp only [List.flatten_cons, List.flatten_nil, List.append_nil, List.mem_append] at hr
    rcases hr with hr | hr | hr
    · exact ⟨p10 r hr, b2.mem r hr⟩
    · exact ⟨p12 r hr, b3.mem r hr⟩
    · exact ⟨p14 r hr, b4.mem r hr⟩
  have hRn : ([m.an, m.au, m.mo]).flatten.length ≤ 36 := by simp; omega
  have hRf := flatMap_le (f := fun r => rrB r 1) (l := ([m.an, m.au, m.mo]).flatten) (k := 307) fun r hr => rrB_small (hRs r hr).1 1
  have hRf2 := Nat.le_trans hRf (Nat.mul_le_mul_right _ hRn)
  refine kSeq (kCut ⟨tabSl [(1, .c (.ptr (rid 1 0) 1 0)), (2, .c (.nil 1)), (4, .c (.arr (rid 5000 0) 1))], obTab 1 [(rid 1 0, ⟨1, 0, .box (m.cells.map .d)⟩), (rid 5000 0, ⟨1, 0, .arr true (encB (H2 ++ ([m.an, m.au, m.mo].flatten).flatMap fun r => rrB r 1))⟩)], []⟩ ?_ (fun x hc => ?_))
  case refine_2 =>
    have hlen : ∀ i (h : i < 3), (([m.an, m.au, m.mo])[i]).length ≤ 12 := fun i h => by
      rcases i with _ | _ | _ | i
      · exact p9
      · exact p11
      · exact p13
      · omega
    refine kSeq (kReg (kFadP rfl rfl (kLoadP rfl rfl rfl (kFadP rfl rfl (kLoadP rfl rfl rfl (kFadP rfl rfl (kLoadP rfl rfl rfl (kLitG rfl rfl rfl rfl (kLen rfl rfl rfl (kMovC rfl (kDone (kBlock ?_))))))))))))
    refine kLoop (α := { i : Nat // i ≤ 3 }) (fun y => ⟨tabSl [(1, .c (.ptr (rid 1 0) 1 0)), (2, .c (.nil 1)), (4, .c (.arr (rid 5000 0) 1)), (105, .dv (.sl 1 ([m.an, m.au, m.mo].map fun l => [encR l]))), (106, .i 3), (107, .i y.1)], obTab 1 [(rid 1 0, ⟨1, 0, .box (m.cells.map .d)⟩), (rid 5000 0, ⟨1, 0, .arr true (encB (H2 ++ (([m.an, m.au, m.mo].take y.1).flatten).flatMap (fun r => rrB r 1)))⟩)], []⟩) (fun y => 3 - y.1) ⟨0, by simp⟩ (by
      refine Sub.trans (Sub.frz (j := 105) (id := rid 105 0) rfl rfl (by decide)) ?_
      simp only [List.take_zero, List.flatten_nil, List.flatMap_nil, List.append_nil]
      exact .normA) ?_
    rintro ⟨i, hi⟩
    simp only
    have hlL : ([m.an, m.au, m.mo] : List (List Rr)).length = 3 := rfl
    have hle0 := flat_inner0 (fun r => rrB r 1) [m.an, m.au, m.mo] i
    have hLi : (H2 ++ (([m.an, m.au, m.mo].take i).flatten).flatMap (fun r => rrB r 1)).length ≤ 30000 := by rw [List.length_append]; omega
    rcases Nat.lt_or_ge i 3 with hlt | hge
    · have hst := flat_step (fun r => rrB r 1) [m.an, m.au, m.mo] i hlt
      have hmem : ∀ x ∈ [m.an, m.au, m.mo][i], x ∈ ([m.an, m.au, m.mo]).flatten := fun x hx => List.mem_flatten.2 ⟨_, List.getElem_mem hlt, hx⟩
      have hin := fun j => flat_inner (fun r => rrB r 1) [m.an, m.au, m.mo] i j hlt
      have hll : ([m.an, m.au, m.mo][i]).length ≤ 12 := hlen i hlt
      refine kSeq (kReg (kBin rfl rfl rfl (kDone (kSeq (kCondP rfl (fun g0 => kSkip (kSeq (kBlock (kSeq (kReg (kIadR rfl rfl rfl (by first | omega | (simp only [List.length_append, List.length_cons, List.length_nil]; omega)) (kLoadD rfl rfl (kMovC rfl (kDone (kSeq (kReg (kMovC rfl (kLenR rfl rfl (kMovC rfl (kDone (kBlock ?_)))))))))))))))) (fun g0 => (by omega)))))))
      refine kLoop (α := { j : Nat // j ≤ ([m.an, m.au, m.mo][i]).length }) (fun y => ⟨tabSl [(1, .c (.ptr (rid 1 0) 1 0)), (2, .c (.nil 1)), (4, .c (.arr (rid 5000 0) 1)), (105, .dv (.sl 1 ([m.an, m.au, m.mo].map fun l => [encR l]))), (106, .i 3), (107, .i i), (111, .dv (encR [m.an, m.au, m.mo][i])), (112, .i ([m.an, m.au, m.mo][i]).length), (113, .i y.1)], obTab 1 [(rid 1 0, ⟨1, 0, .box (m.cells.map .d)⟩), (rid 5000 0, ⟨1, 0, .arr true (encB (H2 ++ ((([m.an, m.au, m.mo].take i).flatten).flatMap (fun r => rrB r 1) ++ ([m.an, m.au, m.mo][i].take y.1).flatMap (fun r => rrB r 1))))⟩)], []⟩) (fun y => ([m.an, m.au, m.mo][i]).length - y.1) ⟨0, by simp⟩ (by
        simp only [List.take_zero, List.flatMap_nil, List.append_nil]
        exact .normA) ?_
      rintro ⟨j, hj⟩
      simp only
      have hin := hin j
      have hLj : (H2 ++ ((([m.an, m.au, m.mo].take i).flatten).flatMap (fun r => rrB r 1) ++ ([m.an, m.au, m.mo][i].take j).flatMap (fun r => rrB r 1))).length ≤ 30000 := by rw [List.length_append]; omega
      rcases Nat.lt_or_ge j ([m.an, m.au, m.mo][i]).length with hlt2 | hge2
      · have hw := hRs _ (hmem _ (List.getElem_mem hlt2))
        obtain ⟨hw1, hw2⟩ := hw
        have hwb := rrB_small hw1 1
        have hst2 := flatMap_take (fun r => rrB r 1) [m.an, m.au, m.mo][i] j hlt2
        refine kSeq (kReg (kBin rfl rfl rfl (kDone (kSeq (kCondP rfl (fun g0 => kSkip (kSeq (kBlock (kSeq (kReg (kIadR rfl rfl rfl (by first | omega | (simp only [List.length_append, List.length_cons, List.length_nil]; omega)) (kLoadD rfl rfl (kAlloc rfl rfl (kStoreP rfl rfl rfl rfl (kDone (kReg (kMovC rfl (kLoadP rfl rfl rfl (kCall1 true (ok_impl_Rr_wire _ (by first | assumption | omega | solve_by_elim [List.getElem_mem] | (simp only [List.length_append, w2_len, w4_len]; omega) | (simp only [szOut] at *; omega) | exact rfl | exact leb | exact rrOk_small (by assumption) | exact zoneOk_small (by assumption) | exact SmallBB.ok (by assumption) | exact (SmallBB.ok (by assumption)).len | exact (SmallBB.ok (by assumption)).mem | exact SmallBB.bent (by assumption)) (by first | assumption | omega | solve_by_elim [List.getElem_mem] | (simp only [List.length_append, w2_len, w4_len]; omega) | (simp only [szOut] at *; omega) | exact rfl | exact leb | exact rrOk_small (by assumption) | exact zoneOk_small (by assumption) | exact SmallBB.ok (by assumption) | exact (SmallBB.ok (by assumption)).len | exact (SmallBB.ok (by assumption)).mem | exact SmallBB.bent (by assumption))) ⟨⟨⟨rfl, rfl, rfl, rfl, rfl, rfl, rfl, trivial⟩, leb⟩, trivial⟩ rfl rfl rfl (fun _ => (kAppR rfl rfl rfl (src_ownB rfl) rfl rfl rfl rfl (by first | omega | (simp only [List.length_append, List.length_cons, List.length_nil]; omega)) (kMovC rfl (kDone (kBk (kReg (kAdd rfl rfl (by omega) (kMovC rfl (kDone ?_))))))))))))))))))))))) (fun g0 => (by omega)))))))
        refine kInv ⟨⟨j + 1, hlt2⟩, by simp only; omega, ?_⟩
        simp only [hst2, ← List.append_assoc]
        exact .normA
      · refine kSeq (kReg (kBin rfl rfl rfl (kDone (kSeq (kCondP rfl (fun g0 => (by omega)) (fun g0 => kExit (kExC (kExI (kExB (kBk (kReg (kAdd rfl rfl (by omega) (kMovC rfl (kDone ?_))))))))))))))
        refine kInv ⟨⟨i + 1, hlt⟩, by simp only; omega, ?_⟩
        rw [hst, show j = ([m.an, m.au, m.mo][i]).length by omega, List.take_length]
        exact .normA
    · refine kSeq (kReg (kBin rfl rfl rfl (kDone (kSeq (kCondP rfl (fun g0 => (by omega)) (fun g0 => kExit (kExC (kExI (kExB ?_)))))))))
      refine hc _ ?_
      rw [show i = 3 by omega]
      exact .normA
  refine kSeq (kReg (kMovC rfl (kMovC rfl (kDone (kRet (endRetA (ra := [.one (.own true _)]) rfl ?_))))))
  refine congrArg (fun z => [RA.one (RV.own true (encB z))]) ?_
  unfold msgB
  rw [hH1, ← hH2, flat2, flat3]
  simp only [List.append_assoc]

def c_impl_MsgOk : C := (.seq (.reg false (.o 0 1 (.box 1 (.t 0)) (.o 1 2 (.mov (.v (.bool false))) .done))) (.seq (.reg false (.o 0 3 (.load (some 11) (.t 1)) (.o 1 4 (.call 4 248 [(.t 3)]) (.o 2 5 (.mov (.t 4)) (.op 3 [] (some 6) (some (5, true)) false (.load (some 11) (.t 1)) (.op 4 [] (some 7) (some (5, true)) false (.call 7 249 [(.t 6)]) (.op 5 [] (some 8) (some (5, true)) false (.len (.t 7)) (.op 6 [] (some 9) (some (5, true)) false (.bin .leq (.t 8) (.i 512)) (.o 7 10 (.pick (.t 5) (.t 9) (.v (.bool false))) (.o 8 2 (.mov (.t 10)) .done)))))))))) .ret))
theorem dg_impl_MsgOk : Tryz.f167.body.bind (digC Tryz.prog Tryz.f167.ntmps []) = some c_impl_MsgOk := by kernel_rfl
theorem rs_impl_MsgOk : resSlots Tryz.prog Tryz.f167 = some [.s 2] := by kernel_rfl
theorem ok_impl_MsgOk (m : Msg) (hs : SmallM m) :
    FnOK Tryz.prog 167 [.agg (m.cells.map .d)] (fun ra _ => ra = [.one (.d (.sc (.bool (msgOk m))))]) := by
  refine FnOK.ofK Tryz.func167 (by kernel_rfl) dg_impl_MsgOk rs_impl_MsgOk rfl rfl ?_
  delta c_impl_MsgOk T.o X.i
  cases hk : msgMay m
  · refine kSeq (kReg (kBox rfl rfl rfl rfl rfl (kMovC rfl (kDone (kSeq (kReg (kLoadP rfl rfl rfl (kCallD (ok_impl_Msg_shaped _ (by first | assumption | omega | solve_by_elim [List.getElem_mem] | (simp only [List.length_append, w2_len, w4_len]; omega) | (simp only [szOut] at *; omega) | exact rfl | exact leb | exact rrOk_small (by assumption) | exact zoneOk_small (by assumption) | exact SmallBB.ok (by assumption) | exact (SmallBB.ok (by assumption)).len | exact (SmallBB.ok (by assumption)).mem | exact SmallBB.bent (by assumption))) ⟨⟨⟨rfl, rfl, rfl, rfl, rfl, rfl, rfl, rfl, rfl, rfl, rfl, trivial⟩, leb⟩, trivial⟩ rfl rfl rfl rfl rfl (kMovC rfl (kGS rfl (fun g0 => (by (simp [*] at g0))) (fun g0 => kGF rfl (kGF rfl (kGF rfl (kGF rfl (kPickF rfl (kMovC rfl (kMovC rfl (kDone (kRet (endRetA (ra := [.one (.d _)]) rfl ?_))))))))))))))))))))
    rw [show msgOk m = false by unfold msgOk; rw [hk]; rfl]
  · refine kSeq (kReg (kBox rfl rfl rfl rfl rfl (kMovC rfl (kDone (kSeq (kReg (kLoadP rfl rfl rfl (kCallD (ok_impl_Msg_shaped _ (by first | assumption | omega | solve_by_elim [List.getElem_mem] | (simp only [List.length_append, w2_len, w4_len]; omega) | (simp only [szOut] at *; omega) | exact rfl | exact leb | exact rrOk_small (by assumption) | exact zoneOk_small (by assumption) | exact SmallBB.ok (by assumption) | exact (SmallBB.ok (by assumption)).len | exact (SmallBB.ok (by assumption)).mem | exact SmallBB.bent (by assumption))) ⟨⟨⟨rfl, rfl, rfl, rfl, rfl, rfl, rfl, rfl, rfl, rfl, rfl, trivial⟩, leb⟩, trivial⟩ rfl rfl rfl rfl rfl (kMovC rfl (kGS rfl (fun g0 => kGT rfl (kLoadP rfl rfl rfl (kGT rfl (kCall1 true (ok_impl_Msg_wire _ (by first | assumption | omega | solve_by_elim [List.getElem_mem] | (simp only [List.length_append, w2_len, w4_len]; omega) | (simp only [szOut] at *; omega) | exact rfl | exact leb | exact rrOk_small (by assumption) | exact zoneOk_small (by assumption) | exact SmallBB.ok (by assumption) | exact (SmallBB.ok (by assumption)).len | exact (SmallBB.ok (by assumption)).mem | exact SmallBB.bent (by assumption)) (by first | assumption | omega | solve_by_elim [List.getElem_mem] | (simp only [List.length_append, w2_len, w4_len]; omega) | (simp only [szOut] at *; omega) | exact rfl | exact leb | exact rrOk_small (by assumption) | exact zoneOk_small (by assumption) | exact SmallBB.ok (by assumption) | exact (SmallBB.ok (by assumption)).len | exact (SmallBB.ok (by assumption)).mem | exact SmallBB.bent (by assumption))) ⟨⟨⟨rfl, rfl, rfl, rfl, rfl, rfl, rfl, rfl, rfl, rfl, rfl, trivial⟩, leb⟩, trivial⟩ rfl rfl rfl (fun _ => (kMem [(32768, ⟨1, 0, .arr true _⟩)] [(7, .c (.arr 32768 1)), (8, .c (.un)), (5, .c (.d _)), (9, .c (.un)), (10, .c (.un))] [] ⟨rfl, trivial⟩ ⟨rfl, rfl, rfl, rfl, rfl, trivial⟩ rfl (kGT rfl (kLenR rfl rfl (kGT rfl (kBin rfl rfl rfl (kPickT rfl (kMovC rfl (kMovC rfl (kDone (kRet (endRetA (ra := [.one (.d _)]) rfl ?_)))))))))))))))) (fun g0 => (by (simp [*] at g0)))))))))))))
    rw [msgB_len]
    rw [show msgOk m = decide (msgLen m ≤ 512) by unfold msgOk; rw [hk]; rfl]
    refine congrArg (fun z : Bool => [RA.one (RV.d (DV.sc (Value.bool z)))]) ?_
    rw [Bool.eq_iff_iff]
    simp
    omega

def c_bytes_Clone : C := (.seq (.reg false (.o 0 2 (.mov (.n 1)) .done)) (.seq (.seq (.reg false (.o 0 3 (.mov (.t 0)) (.o 1 4 (.eqn false (.t 3)) .done))) (.cond (.t 4) (.seq (.reg false (.o 0 2 (.mov (.n 1)) .done)) .ret) .skip)) (.seq (.reg false (.o 0 5 (.lit 5 1 [(.v (.int .u8 0))] 0 []) (.o 1 6 (.mov (.t 0)) (.o 2 7 (.app 7 1 1 (.t 5) (.t 6)) (.o 3 2 (.mov (.t 7)) .done))))) .ret)))
theorem dg_bytes_Clone : Tryz.f222.body.bind (digC Tryz.prog Tryz.f222.ntmps []) = some c_bytes_Clone := by kernel_rfl
theorem rs_bytes_Clone : resSlots Tryz.prog Tryz.f222 = some [.s 2] := by kernel_rfl
theorem ok_bytes_Clone (b : List UInt8) (hb : b.length ≤ 140737488355328) :
    FnOK Tryz.prog 222 [.one (.d (encB b))] (fun ra _ => ra = [.one (.own true (encB b))]) := by
  refine FnOK.ofK Tryz.func222 (by kernel_rfl) dg_bytes_Clone rs_bytes_Clone rfl rfl ?_
  delta c_bytes_Clone T.o X.i
  refine kSeq (kReg (kMovC rfl (kDone ?_)))
  refine kSeq (kSeq (kReg (kMovC rfl (kEqn rfl rfl rfl fun n hn => kDone ?_))))
  refine kCond rfl (fun h => ?_) (fun h => ?_)
  · refine kSeq (kReg (kMovC rfl (kDone (kRet ?_))))
    refine endRet (ra := [.one (.own true (.sl 1 []))]) rfl ⟨⟨rfl, trivial⟩, nodupB_sound rfl, trivial, trivial⟩ ?_
    have : b = [] := by
      rw [len_encB] at hn
      cases b with
      | nil => rfl
      | cons x l => have := hn (by simp); simp [this] at h
    rw [this]; rfl
  · refine kSkip (kSeq (kReg ?_))
    refine kLit rfl rfl rfl rfl (kMovC rfl ?_)
    refine kApp (cy := .d (encB b)) rfl rfl rfl (src_encB _ b) rfl rfl ⟨rfl, rfl, Nat.zero_lt_one⟩ rfl ?_ (kMovC rfl (kDone (kRet ?_)))
    · show ((DV.sl 1 (chunk 1 0 [])).len + (encB b).len) * 1 ≤ _ ∧ _
      rw [len_encB]; simp [DV.len, chunk]; omega
    refine endRet (ra := [.one (.own true _)]) rfl ⟨⟨⟨⟨_, rfl, fun _ => rfl⟩, .inl (Nat.zero_lt_succ _)⟩, trivial⟩, nodupB_sound rfl, trivial, trivial⟩ ?_
    exact congrArg (fun x => [RA.one (RV.own true x)]) (app_nil_encB b)

def c_impl_Name_copied : C := (.seq (.reg false (.o 0 1 (.box 1 (.t 0)) (.o 1 2 (.alloc 2 [(.n 1)]) .done))) (.seq (.reg false (.o 0 6 (.build [(.n 1)] []) (.o 1 3 (.alloc 3 [(.n 1)]) (.op 2 [] none none false (.store (some 1) (.t 3) (.t 6)) .done)))) (.seq (.seq (.reg false (.o 0 7 (.fad (.t 1) 0) (.o 1 8 (.load none (.t 7)) (.o 2 9 (.len (.t 8)) (.o 3 10 (.mov (.i 0)) .done))))) (.block 0 (.loop (.seq (.reg false (.o 0 11 (.bin .lss (.t 10) (.t 9)) .done)) (.seq (.cond (.t 11) .skip (.exit 0)) (.seq (.block 1 (.seq (.reg false (.o 0 12 (.iad 1 (.t 8) (.t 10)) (.o 1 13 (.load none (.t 12)) (.o 2 5 (.mov (.t 13)) .done)))) (.reg true (.op 0 [] (some 14) none true (.fad (.t 3) 0) (.op 1 [] (some 15) none true (.load none (.t 14)) (.op 2 [] (some 16) none true (.mov (.t 5)) (.o 3 17 (.call 17 222 [(.t 16)]) (.o 4 18 (.lit 18 1 [(.n 1)] 1 [(0, 1, (.t 17))]) (.op 5 [1] (some 19) none false (.app 19 1 24 (.t 15) (.t 18)) (.op 6 [] (some 20) none true (.fad (.t 3) 0) (.op 7 [1] none none false (.store none (.t 20) (.t 19)) .done))))))))))) (.reg false (.o 0 21 (.bin .add (.t 10) (.i 1)) (.o 1 10 (.mov (.t 21)) .done))))))))) (.seq (.reg false (.o 0 22 (.load (some 1) (.t 3)) (.op 1 [] none none false (.store (some 1) (.t 2) (.t 22)) .done))) .ret))))
theorem dg_impl_Name_copied : Tryz.f110.body.bind (digC Tryz.prog Tryz.f110.ntmps []) = some c_impl_Name_copied := by kernel_rfl
theorem rs_impl_Name_copied : resSlots Tryz.prog Tryz.f110 = some [.m 2 (some 1)] := by kernel_rfl
theorem ok_impl_Name_copied (a : List (List UInt8)) (ha : a.length ≤ 4194304) (hb : ∀ b ∈ a, b.length ≤ 4194304) :
    FnOK Tryz.prog 110 [.agg [.d (encBB a)]] (fun ra _ => ra = [.agg [.own true (encBB a)]]) := by
  refine FnOK.ofK Tryz.func110 (by kernel_rfl) dg_impl_Name_copied rs_impl_Name_copied rfl rfl ?_
  delta c_impl_Name_copied T.o X.i
  refine kSeq (kReg (kBox rfl rfl rfl rfl rfl (kAlloc rfl rfl (kDone ?_))))
  refine kSeq (kReg (kBuild rfl (kAlloc rfl rfl (kStoreP rfl rfl rfl rfl (kDone ?_)))))
  refine kSeq (kSeq (kReg (kFadP rfl rfl (kLoadP rfl rfl rfl (kLen rfl rfl rfl (kMovC rfl (kDone (kBlock ?_))))))))
  rw [len_encBB]
  refine kSub (Sub.nilBox (id := rid 3 0) (id2 := rid 5000 0) (j := 0) rfl rfl rfl (by decide) (by decide)) ?_
  refine kLoop (α := { i : Nat // i ≤ a.length })
    (fun y => ⟨tabSl [(1, .c (.ptr (rid 1 0) 1 0)), (2, .c (.ptr (rid 2 0) 1 0)), (3, .c (.ptr (rid 3 0) 1 0)), (8, .dv (encBB a)), (9, .i a.length), (10, .i y.1)],
      obTab 1 [(rid 1 0, ⟨1, 0, .box [.d (encBB a)]⟩), (rid 2 0, ⟨1, 0, .box [.nil 1]⟩), (rid 3 0, ⟨1, 0, .box [.arr (rid 5000 0) 1]⟩), (rid 5000 0, ⟨1, 0, .arr true (encBB (a.take y.1))⟩)], []⟩) (fun y => a.length - y.1) ⟨0, by simp⟩
    (.norm ?_ ?_) ?_
  · repeat' first | exact trivial | exact rfl | exact .inl rfl | refine ⟨_, rfl, ?_⟩ | refine ⟨?_, ?_⟩ | fail
  · repeat' first | exact trivial | exact rfl | exact .inl rfl | refine ⟨_, rfl, ?_⟩ | refine ⟨?_, ?_⟩ | fail
  rintro ⟨i, hi⟩
  simp only at hi ⊢
  refine kSeq (kReg (kBin rfl rfl rfl (kDone (kSeq ?_))))
  refine kCond rfl (fun h1 => ?_) (fun h1 => ?_)
  · have hlt : i < a.length := by simp at h1; omega
    refine kSkip (kSeq (kBlock (kSeq (kReg ?_))))
    refine kIadD rfl rfl rfl rfl ?_ ?_
    · rw [len_encBB]; omega
    rw [show (encBB a).row (i : Int).toNat = [encB a[i]] from row_encBB a i hlt]
    refine kLoadD rfl rfl (kMovC rfl (kDone (kRegD (kFadP rfl rfl (kLoadP rfl rfl rfl (kMovC rfl ?_))))))
    refine kCall1 false (ok_bytes_Clone a[i] (Nat.le_trans (hb _ (List.getElem_mem hlt)) (by omega))) ⟨rfl, trivial⟩ rfl rfl rfl fun os => ?_
    refine kLit rfl rfl rfl rfl (kRelF rfl rfl ?_)
    refine kApp rfl rfl rfl rfl rfl rfl ⟨rfl, rfl, Nat.zero_lt_one⟩ rfl ?_ ?_
    · show ((encBB (a.take i)).len + (DV.sl 1 [[encB a[i]]]).len) * 24 ≤ _ ∧ (encBB (a.take i)).len + (DV.sl 1 [[encB a[i]]]).len ≤ _
      rw [len_encBB, List.length_take]; simp [DV.len, DV.rows]; omega
    refine kFadP rfl rfl (kRelF rfl rfl (kStoreP rfl rfl rfl rfl (kDone (kH (kBk (kReg (kAdd rfl rfl (by omega) (kMovC rfl (kDone ?_)))))))))
    refine kInv ⟨⟨i + 1, hlt⟩, by simp only; omega, .norm ?_ ?_⟩
    · repeat' first | exact trivial | exact rfl | exact .inl rfl | refine ⟨_, rfl, ?_⟩ | refine ⟨?_, ?_⟩ | fail
    · repeat' first | exact trivial | exact rfl | exact .inl rfl | refine ⟨_, rfl, ?_⟩ | refine ⟨?_, ?_⟩ | fail
      rw [← List.take_append_getElem hlt, ← app_encBB]
      rfl
  · refine kExit (kExC (kExI (kExB (kSeq (kReg (kLoadP rfl rfl rfl (kStoreP rfl rfl rfl rfl (kDone ?_))))))))
    have hge : i = a.length := by simp at h1; omega
    subst hge
    refine kRet (endRet (ra := [.agg [.own true _]]) rfl ⟨⟨⟨⟨⟨⟨_, rfl, fun _ => rfl⟩, .inl Nat.zero_lt_one⟩, trivial⟩, leb⟩, trivial⟩, nodupB_sound rfl, ⟨trivial, trivial⟩, trivial⟩ ?_)
    rw [List.take_length]

def c_impl_Msg_reply : C := (.seq (.reg false (.o 0 2 (.box 2 (.t 0)) (.o 1 4 (.alloc 4 [(.i 0), (.v (.bool false)), (.i 0), (.v (.bool false)), (.i 0), (.n 2), (.n 7), (.n 7), (.n 7), (.n 9), (.n 9)]) .done))) (.seq (.reg true (.op 0 [] (some 5) none true (.fad (.t 2) 0) (.op 1 [] (some 6) none true (.load none (.t 5)) (.op 2 [] (some 7) none true (.fad (.t 2) 2) (.op 3 [] (some 8) none true (.load none (.t 7)) (.op 4 [] (some 9) none true (.mov (.t 1)) (.op 5 [] (some 10) none true (.fad (.t 2) 5) (.op 6 [] (some 11) none true (.load none (.t 10)) (.op 7 [] (some 12) none true (.iad 2 (.t 11) (.i 0)) (.op 8 [] (some 13) none true (.fad (.t 12) 0) (.op 9 [] (some 14) none true (.load (some 1) (.t 13)) (.op 11 [] (some 16) none true (.fad (.t 2) 5) (.op 12 [] (some 17) none true (.load none (.t 16)) (.op 13 [] (some 18) none true (.iad 2 (.t 17) (.i 0)) (.op 14 [] (some 19) none true (.fad (.t 18) 1) (.op 15 [] (some 20) none true (.load none (.t 19)) (.op 10 [9, 6] (some 15) none false (.call 15 110 [(.t 14)]) (.op 16 [] (some 21) none true (.build [(.n 1), (.i 0)] [(0, 1, (.t 15)), (1, 1, (.t 20))]) (.op 17 [9, 6, 15, 12] (some 22) none false (.lit 22 2 [(.n 1), (.i 0)] 1 [(0, 2, (.t 21))]) (.op 18 [] (some 23) none true (.build [(.i 0), (.v (.bool false)), (.i 0), (.v (.bool false)), (.i 0), (.n 2), (.n 7), (.n 7), (.n 7), (.n 9), (.n 9)] [(0, 1, (.t 6)), (1, 1, (.v (.bool true))), (2, 1, (.t 8)), (4, 1, (.t 9)), (5, 1, (.t 22))]) (.op 19 [1, 3, 9, 15, 6, 12] none none false (.store (some 11) (.t 4) (.t 23)) .done))))))))))))))))))))) .ret))
theorem dg_impl_Msg_reply : Tryz.f169.body.bind (digC Tryz.prog Tryz.f169.ntmps []) = some c_impl_Msg_reply := by kernel_rfl
theorem rs_impl_Msg_reply : resSlots Tryz.prog Tryz.f169 = some [.m 4 (some 11)] := by kernel_rfl
theorem ok_impl_Msg_reply (m : Msg) (c : Int) (hs : SmallM m) (hq : m.qs.length = 1) :
    FnOK Tryz.prog 169 [.agg (m.cells.map .d), .one (.d (.sc (.int .i64 c)))] (fun ra _ => ra = [.agg [.d (.sc (.int .i64 m.id)), .d (.sc (.bool true)), .d (.sc (.int .i64 m.op)), .d (.sc (.bool false)), .d (.sc (.int .i64 c)), .own true (encQ [m.qs.getD 0 ⟨[], 0⟩]), .own true (encR []), .own true (encR []), .own true (encR []), .own true (encW []), .own true (encW [])]]) := by
  refine FnOK.ofK Tryz.func169 (by kernel_rfl) dg_impl_Msg_reply rs_impl_Msg_reply rfl rfl ?_
  delta c_impl_Msg_reply T.o X.i
  have b1 := hs.q
  have hq0 : 0 < m.qs.length := by omega
  have hqd : m.qs.getD 0 ⟨[], 0⟩ = m.qs[0] := by simp [List.getD_eq_getElem?_getD, hq0]
  have hqs := b1.mem _ (List.getElem_mem hq0)
  have q1 := hqs.len
  have q2 := hqs.mem
  have q3 := hqs.flat
  rw [hqd]
  refine kSeq (kReg (kBox rfl rfl rfl rfl rfl (kAlloc rfl rfl (kDone (kSeq (kRegD (kFadP rfl rfl (kLoadP rfl rfl rfl (kFadP rfl rfl (kLoadP rfl rfl rfl (kMovC rfl (kFadP rfl rfl (kLoadP rfl rfl rfl (kIadR (m := 0) rfl rfl rfl (by first | omega | (simp only [List.length_append, List.length_cons, List.length_nil]; omega)) (kFadD rfl (kLoadD rfl rfl (kFadP rfl rfl (kLoadP rfl rfl rfl (kIadR (m := 0) rfl rfl rfl (by first | omega | (simp only [List.length_append, List.length_cons, List.length_nil]; omega)) (kFadD rfl (kLoadD rfl rfl (kRelK rfl rfl (kCall1 true (ok_impl_Name_copied _ (by first | assumption | omega | solve_by_elim [List.getElem_mem] | (simp only [List.length_append, w2_len, w4_len]; omega) | (simp only [szOut] at *; omega) | exact rfl | exact leb | exact rrOk_small (by assumption) | exact zoneOk_small (by assumption) | exact SmallBB.ok (by assumption) | exact (SmallBB.ok (by assumption)).len | exact (SmallBB.ok (by assumption)).mem | exact SmallBB.bent (by assumption)) (by first | assumption | omega | solve_by_elim [List.getElem_mem] | (simp only [List.length_append, w2_len, w4_len]; omega) | (simp only [szOut] at *; omega) | exact rfl | exact leb | exact rrOk_small (by assumption) | exact zoneOk_small (by assumption) | exact SmallBB.ok (by assumption) | exact (SmallBB.ok (by assumption)).len | exact (SmallBB.ok (by assumption)).mem | exact SmallBB.bent (by assumption))) ⟨⟨⟨rfl, trivial⟩, leb⟩, trivial⟩ rfl rfl rfl (fun _ => (kBuildG rfl (kRelK rfl rfl (kLitG rfl rfl rfl rfl (kBuildG rfl (kRelF rfl rfl (kStoreP rfl rfl rfl rfl (kDone (kH (kRet (endRetA (ra := [.agg [(.d _), (.d _), (.d _), (.d _), (.d _), (.own true _), (.own true _), (.own true _), (.own true _), (.own true _), (.own true _)]]) rfl rfl))))))))))))))))))))))))))))))))))

def c_impl_ReplyTo : C := (.seq (.reg false (.o 0 2 (.box 2 (.t 0)) (.o 1 4 (.alloc 4 [(.i 0), (.v (.bool false)), (.i 0), (.v (.bool false)), (.i 0), (.n 2), (.n 7), (.n 7), (.n 7), (.n 9), (.n 9)]) .done))) (.seq (.seq (.reg false (.o 0 5 (.load (some 11) (.t 2)) (.o 1 6 (.call 6 167 [(.t 5)]) (.o 2 7 (.un .not (.t 6)) (.o 3 8 (.mov (.t 7)) (.op 4 [] (some 9) (some (8, false)) false (.mov (.t 1)) (.op 5 [] (some 10) (some (8, false)) false (.call 10 168 [(.t 9)]) (.op 6 [] (some 11) (some (8, false)) false (.un .not (.t 10)) (.o 7 12 (.pick (.t 8) (.v (.bool true)) (.t 11)) .done))))))))) (.cond (.t 12) (.seq (.reg false (.o 0 13 (.build [(.i 0), (.v (.bool false)), (.i 0), (.v (.bool false)), (.i 0), (.n 2), (.n 7), (.n 7), (.n 7), (.n 9), (.n 9)] []) (.op 1 [] none none false (.store (some 11) (.t 4) (.t 13)) .done))) .ret) .skip)) (.seq (.reg false (.o 0 14 (.load (some 11) (.t 2)) (.o 1 15 (.mov (.t 1)) (.o 2 16 (.call 16 169 [(.t 14), (.t 15)]) (.op 3 [] none none false (.store (some 11) (.t 4) (.t 16)) .done))))) .ret)))
theorem dg_impl_ReplyTo : Tryz.f67.body.bind (digC Tryz.prog Tryz.f67.ntmps []) = some c_impl_ReplyTo := by kernel_rfl
theorem rs_impl_ReplyTo : resSlots Tryz.prog Tryz.f67 = some [.m 4 (some 11)] := by kernel_rfl
theorem ok_impl_ReplyTo (m : Msg) (c : Int) (hs : SmallM m) :
    FnOK Tryz.prog 67 [.agg (m.cells.map .d), .one (.d (.sc (.int .i64 c)))] (fun ra _ => ra = [.agg [.d (.sc (.int .i64 (replyM m c).id)), .d (.sc (.bool (replyM m c).reply)), .d (.sc (.int .i64 (replyM m c).op)), .d (.sc (.bool false)), .d (.sc (.int .i64 (replyM m c).code)), .own true (encQ (replyM m c).qs), .own true (encR []), .own true (encR []), .own true (encR []), .own true (encW []), .own true (encW [])]]) := by
  refine FnOK.ofK Tryz.func67 (by kernel_rfl) dg_impl_ReplyTo rs_impl_ReplyTo rfl rfl ?_
  delta c_impl_ReplyTo T.o X.i
  have hz : replyOk m c = false → replyM m c = ⟨0, false, 0, false, 0, [], [], [], [], [], []⟩ := fun h => by unfold replyM; rw [h]; rfl
  have hy : replyOk m c = true → replyM m c = ⟨m.id, true, m.op, false, c, [m.qs.getD 0 ⟨[], 0⟩], [], [], [], [], []⟩ := fun h => by unfold replyM; rw [h]; rfl
  cases hk : msgOk m
  · refine kSeq (kReg (kBox rfl rfl rfl rfl rfl (kAlloc rfl rfl (kDone (kSeq (kSeq (kReg (kLoadP rfl rfl rfl (kCallD (ok_impl_MsgOk _ (by first | assumption | omega | solve_by_elim [List.getElem_mem] | (simp only [List.length_append, w2_len, w4_len]; omega) | (simp only [szOut] at *; omega) | exact rfl | exact leb | exact rrOk_small (by assumption) | exact zoneOk_small (by assumption) | exact SmallBB.ok (by assumption) | exact (SmallBB.ok (by assumption)).len | exact (SmallBB.ok (by assumption)).mem | exact SmallBB.bent (by assumption))) ⟨⟨⟨rfl, rfl, rfl, rfl, rfl, rfl, rfl, rfl, rfl, rfl, rfl, trivial⟩, leb⟩, trivial⟩ rfl rfl rfl rfl rfl (kUn rfl rfl (kMovC rfl (kGN rfl (fun g0 => kGF rfl (kGF rfl (kGF rfl (kPickT rfl (kMovC rfl (kDone (kCondT rfl (kSeq (kReg (kBuildG rfl (kStoreP rfl rfl rfl rfl (kDone (kRet (endRetA (ra := [.agg [(.d _), (.d _), (.d _), (.d _), (.d _), (.own true _), (.own true _), (.own true _), (.own true _), (.own true _), (.own true _)]]) rfl ?_)))))))))))))) (fun g0 => (by (simp [*] at g0)))))))))))))))
    rw [hz (by unfold replyOk; rw [hk]; rfl)]
    rfl
  · have hq := msgOk_q hk
    refine kSeq (kReg (kBox rfl rfl rfl rfl rfl (kAlloc rfl rfl (kDone (kSeq (kSeq (kReg (kLoadP rfl rfl rfl (kCallD (ok_impl_MsgOk _ (by first | assumption | omega | solve_by_elim [List.getElem_mem] | (simp only [List.length_append, w2_len, w4_len]; omega) | (simp only [szOut] at *; omega) | exact rfl | exact leb | exact rrOk_small (by assumption) | exact zoneOk_small (by assumption) | exact SmallBB.ok (by assumption) | exact (SmallBB.ok (by assumption)).len | exact (SmallBB.ok (by assumption)).mem | exact SmallBB.bent (by assumption))) ⟨⟨⟨rfl, rfl, rfl, rfl, rfl, rfl, rfl, rfl, rfl, rfl, rfl, trivial⟩, leb⟩, trivial⟩ rfl rfl rfl rfl rfl (kUn rfl rfl (kMovC rfl (kGN rfl (fun g0 => (by (simp [*] at g0))) (fun g0 => kGT rfl (kMovC rfl (kGT rfl (kCallD (ok_impl_isCode _) ⟨rfl, trivial⟩ rfl rfl rfl rfl rfl (kGT rfl (kUn rfl rfl (kPickF rfl (kMovC rfl (kDone (kCondN rfl (fun g1 => kSeq (kReg (kBuildG rfl (kStoreP rfl rfl rfl rfl (kDone (kRet (endRetA (ra := [.agg [(.d _), (.d _), (.d _), (.d _), (.d _), (.own true _), (.own true _), (.own true _), (.own true _), (.own true _), (.own true _)]]) rfl ?_))))))) (fun g1 => kSkip (kSeq (kReg (kLoadP rfl rfl rfl (kMovC rfl (kCall1 true (ok_impl_Msg_reply _ _ (by first | assumption | omega | solve_by_elim [List.getElem_mem] | (simp only [List.length_append, w2_len, w4_len]; omega) | (simp only [szOut] at *; omega) | exact rfl | exact leb | exact rrOk_small (by assumption) | exact zoneOk_small (by assumption) | exact SmallBB.ok (by assumption) | exact (SmallBB.ok (by assumption)).len | exact (SmallBB.ok (by assumption)).mem | exact SmallBB.bent (by assumption)) (by first | assumption | omega | solve_by_elim [List.getElem_mem] | (simp only [List.length_append, w2_len, w4_len]; omega) | (simp only [szOut] at *; omega) | exact rfl | exact leb | exact rrOk_small (by assumption) | exact zoneOk_small (by assumption) | exact SmallBB.ok (by assumption) | exact (SmallBB.ok (by assumption)).len | exact (SmallBB.ok (by assumption)).mem | exact SmallBB.bent (by assumption))) ⟨⟨⟨rfl, rfl, rfl, rfl, rfl, rfl, rfl, rfl, rfl, rfl, rfl, trivial⟩, leb⟩, rfl, trivial⟩ rfl rfl rfl (fun _ => (kStoreP rfl rfl rfl rfl (kDone (kRet (endRetA (ra := [.agg [(.d _), (.d _), (.d _), (.d _), (.d _), (.own true _), (.own true _), (.own true _), (.own true _), (.own true _), (.own true _)]]) rfl ?_)))))))))))))))))))))))))))))))))
    all_goals first
      | (rw [hz (by unfold replyOk; rw [hk]; exact g1)]; rfl)
      | rw [hy (by unfold replyOk; rw [hk]; exact g1)]

def c_laws_eqByteS : C := (.seq (.reg false (.o 0 4 (.mov (.v (.bool false))) .done)) (.seq (.seq (.reg false (.o 0 6 (.mov (.t 0)) (.o 1 7 (.len (.t 6)) (.o 2 8 (.mov (.t 1)) (.o 3 9 (.len (.t 8)) (.o 4 10 (.bin .neq (.t 7) (.t 9)) .done)))))) (.cond (.t 10) (.seq (.reg false (.o 0 4 (.mov (.v (.bool false))) .done)) .ret) .skip)) (.seq (.seq (.reg false (.o 0 5 (.mov (.i 0)) .done)) (.block 0 (.loop (.seq (.seq (.reg false (.o 0 11 (.mov (.t 5)) (.o 1 12 (.mov (.t 0)) (.o 2 13 (.len (.t 12)) (.o 3 14 (.bin .lss (.t 11) (.t 13)) .done))))) (.cond (.t 14) .skip (.exit 0))) (.seq (.block 1 (.seq (.reg true (.op 0 [] (some 17) none true (.mov (.t 0)) (.op 1 [] (some 18) none true (.mov (.t 5)) (.op 2 [] (some 19) none true (.iad 1 (.t 17) (.t 18)) (.op 3 [] (some 20) none true (.load none (.t 19)) (.op 4 [] (some 21) none true (.mov (.t 1)) (.op 5 [] (some 22) none true (.mov (.t 5)) (.op 6 [] (some 23) none true (.iad 1 (.t 21) (.t 22)) (.op 7 [] (some 24) none true (.load none (.t 23)) (.op 8 [] (some 25) none true (.bin .neq (.t 20) (.t 24)) .done)))))))))) (.cond (.t 25) (.seq (.reg false (.o 0 4 (.mov (.v (.bool false))) .done)) .ret) .skip))) (.reg false (.o 0 15 (.mov (.t 5)) (.o 1 16 (.bin .add (.t 15) (.i 1)) (.o 2 5 (.mov (.t 16)) .done))))))))) (.seq (.reg false (.o 0 4 (.mov (.v (.bool true))) .done)) .ret))))
theorem dg_laws_eqByteS : Tryz.f243.body.bind (digC Tryz.prog Tryz.f243.ntmps []) = some c_laws_eqByteS := by kernel_rfl
theorem rs_laws_eqByteS : resSlots Tryz.prog Tryz.f243 = some [.s 4] := by kernel_rfl
theorem ok_laws_eqByteS (a b : List UInt8) (ha : a.length ≤ 4194304) :
    FnOK Tryz.prog 243 [.one (.d (encB a)), .one (.d (encB b))] (fun ra _ => ra = [.one (.d (.sc (.bool (decide (a = b)))))]) := by
  refine FnOK.ofK Tryz.func243 (by kernel_rfl) dg_laws_eqByteS rs_laws_eqByteS rfl rfl ?_
  delta c_laws_eqByteS T.o X.i
  refine kSeq (kReg (kMovC rfl (kDone ?_)))
  refine kSeq (kSeq (kReg ?_))
  refine kMovC rfl (kLen rfl rfl rfl (kMovC rfl (kLen rfl rfl rfl (kBin rfl rfl rfl (kDone ?_)))))
  refine kCond rfl (fun h => ?_) (fun h => ?_)
  · refine kSeq (kReg (kMovC rfl (kDone (kRet ?_))))
    refine endRet (ra := [.one (.d _)]) rfl ⟨⟨⟨rfl, .inl rfl⟩, trivial⟩, .nil, trivial, trivial, trivial⟩ ?_
    have : a ≠ b := by rintro rfl; simp at h
    simp [this]
  refine kSkip (kSeq (kSeq (kReg (kMovC rfl (kDone ?_)))))
  have hl : a.length = b.length := by simp [len_encB] at h; omega
  refine kBlock ?_
  refine kLoop (α := { i : Nat // i ≤ a.length ∧ a.take i = b.take i })
    (fun y => ⟨tabSl [(0, .dv (encB a)), (1, .dv (encB b)), (5, .i y.1)], (St.init [.one (.d (encB a)), .one (.d (encB b))]).ob, []⟩) (fun y => a.length - y.1) ⟨0, by simp⟩ (.tab rfl ⟨.refl _, .refl _, .refl _, trivial⟩) ?_
  rintro ⟨i, hi, he⟩
  refine kSeq (kSeq (kReg ?_))
  refine kMovC rfl (kMovC rfl (kLen rfl rfl rfl (kBin rfl rfl rfl (kDone ?_))))
  refine kCond rfl (fun h1 => ?_) (fun h1 => ?_)
  · have hlt : i < a.length := by simp [len_encB] at h1; omega
    refine kSkip (kSeq (kBlock (kSeq (kRegD ?_))))
    refine kMovC rfl (kMovC rfl (kIadD rfl rfl rfl rfl ?_ ?_))
    · simp [len_encB]; omega
    rw [show (encB a).row (i : Int).toNat = _ from row_encB a i hlt]
    refine kLoadD rfl rfl ?_
    refine kMovC rfl (kMovC rfl (kIadD rfl rfl rfl rfl ?_ ?_))
    · simp [len_encB]; omega
    rw [show (encB b).row (i : Int).toNat = _ from row_encB b i (by omega)]
    refine kLoadD rfl rfl ?_
    refine kBin rfl rfl rfl (kDone (kH ?_))
    refine kCond rfl (fun h2 => ?_) (fun h2 => ?_)
    · refine kSeq (kReg (kMovC rfl (kDone (kRet ?_))))
      refine endRet (ra := [.one (.d _)]) rfl ⟨⟨⟨rfl, .inl rfl⟩, trivial⟩, .nil, trivial, trivial, trivial⟩ ?_
      have : a ≠ b := by rintro rfl; simp at h2
      simp [this]
    · refine kSkip (kBk (kReg (kMovC rfl (kAdd rfl rfl ?_ (kMovC rfl (kDone (kInv ?_)))))))
      · simp only; omega
      · have h3 : a[i] = b[i] := by
          simp at h2
          exact UInt8.toNat_inj.1 (by omega)
        refine ⟨⟨i + 1, hlt, ?_⟩, ?_, .tab rfl ⟨.refl _, .refl _, .refl _, trivial⟩⟩
        · rw [List.take_add_one, List.take_add_one, he, List.getElem?_eq_getElem hlt, List.getElem?_eq_getElem (by omega), h3]
        · simp only; omega
  · refine kExit (kExC (kExI (kExB ?_)))
    have hge : i = a.length := by simp [len_encB] at h1; omega
    refine kSeq (kReg (kMovC rfl (kDone (kRet ?_))))
    refine endRet (ra := [.one (.d _)]) rfl ⟨⟨⟨rfl, .inl rfl⟩, trivial⟩, .nil, trivial, trivial, trivial⟩ ?_
    have : a = b := by
      rw [hge, List.take_length] at he
      rw [he, hl, List.take_length]
    simp [this]

def c_laws_eqByteSS : C := (.seq (.reg false (.o 0 4 (.mov (.v (.bool false))) .done)) (.seq (.seq (.reg false (.o 0 6 (.mov (.t 0)) (.o 1 7 (.len (.t 6)) (.o 2 8 (.mov (.t 1)) (.o 3 9 (.len (.t 8)) (.o 4 10 (.bin .neq (.t 7) (.t 9)) .done)))))) (.cond (.t 10) (.seq (.reg false (.o 0 4 (.mov (.v (.bool false))) .done)) .ret) .skip)) (.seq (.seq (.reg false (.o 0 5 (.mov (.i 0)) .done)) (.block 0 (.loop (.seq (.seq (.reg false (.o 0 11 (.mov (.t 5)) (.o 1 12 (.mov (.t 0)) (.o 2 13 (.len (.t 12)) (.o 3 14 (.bin .lss (.t 11) (.t 13)) .done))))) (.cond (.t 14) .skip (.exit 0))) (.seq (.block 1 (.seq (.reg true (.op 0 [] (some 17) none true (.mov (.t 0)) (.op 1 [] (some 18) none true (.mov (.t 5)) (.op 2 [] (some 19) none true (.iad 1 (.t 17) (.t 18)) (.op 3 [] (some 20) none true (.load none (.t 19)) (.op 4 [] (some 21) none true (.mov (.t 1)) (.op 5 [] (some 22) none true (.mov (.t 5)) (.op 6 [] (some 23) none true (.iad 1 (.t 21) (.t 22)) (.op 7 [] (some 24) none true (.load none (.t 23)) (.op 8 [3, 7] (some 25) none false (.call 25 243 [(.t 20), (.t 24)]) (.op 9 [] (some 26) none true (.un .not (.t 25)) .done))))))))))) (.cond (.t 26) (.seq (.reg false (.o 0 4 (.mov (.v (.bool false))) .done)) .ret) .skip))) (.reg false (.o 0 15 (.mov (.t 5)) (.o 1 16 (.bin .add (.t 15) (.i 1)) (.o 2 5 (.mov (.t 16)) .done))))))))) (.seq (.reg false (.o 0 4 (.mov (.v (.bool true))) .done)) .ret))))
theorem dg_laws_eqByteSS : Tryz.f158.body.bind (digC Tryz.prog Tryz.f158.ntmps []) = some c_laws_eqByteSS := by kernel_rfl
theorem rs_laws_eqByteSS : resSlots Tryz.prog Tryz.f158 = some [.s 4] := by kernel_rfl
theorem ok_laws_eqByteSS (a b : List (List UInt8)) (ha : a.length ≤ 4194304) (ha2 : ∀ x ∈ a, x.length ≤ 4194304) :
    FnOK Tryz.prog 158 [.one (.d (encBB a)), .one (.d (encBB b))] (fun ra _ => ra = [.one (.d (.sc (.bool (decide (a = b)))))]) := by
  refine FnOK.ofK Tryz.func158 (by kernel_rfl) dg_laws_eqByteSS rs_laws_eqByteSS rfl rfl ?_
  delta c_laws_eqByteSS T.o X.i
  refine kSeq (kReg (kMovC rfl (kDone (kSeq (kSeq (kReg (kMovC rfl (kLenR rfl rfl (kMovC rfl (kLenR rfl rfl (kBin rfl rfl rfl (kDone (kCondN rfl (fun g0 => kSeq (kReg (kMovC rfl (kDone (kRet (endRetA (ra := [.one (.d _)]) rfl ?_)))))) (fun g0 => kSkip (kSeq (kSeq (kReg (kMovC rfl (kDone (kBlock ?_))))))))))))))))))))
  · rw [decide_eq_false (by rintro rfl; simp_all)]
  have hab : a.length = b.length := by simp at *; omega
  refine kLoop (α := { i : Nat // i ≤ a.length ∧ a.take i = b.take i })
    (fun y => ⟨tabSl [(0, .dv (encBB a)), (1, .dv (encBB b)), (5, .i y.1)], obTab 1 [], []⟩) (fun y => a.length - y.1) ⟨0, by simp⟩
    .normA ?_
  rintro ⟨i, hi, he⟩
  simp only
  refine kSeq (kSeq (kReg (kMovC rfl (kMovC rfl (kLenR rfl rfl (kBin rfl rfl rfl (kDone (kCondP rfl (fun g0 => kSkip (kSeq (kBlock (kSeq (kRegD (kMovC rfl (kMovC rfl (kIadR rfl rfl rfl (by omega) (kLoadD rfl rfl (kMovC rfl (kMovC rfl (kIadR rfl rfl rfl (by omega) (kLoadD rfl rfl (kRelF rfl rfl (kCallD (ok_laws_eqByteS _ _ (by first | assumption | omega | solve_by_elim [List.getElem_mem])) ⟨rfl, rfl, trivial⟩ rfl rfl rfl rfl rfl (kUn rfl rfl (kDone (kH (kCondN rfl (fun g1 => kSeq (kReg (kMovC rfl (kDone (kRet (endRetA (ra := [.one (.d _)]) rfl ?_)))))) (fun g1 => kSkip (kBk (kReg (kMovC rfl (kAdd rfl rfl (by omega) (kMovC rfl (kDone ?_)))))))))))))))))))))))))) (fun g0 => kExit (kExC (kExI (kExB (kSeq (kReg (kMovC rfl (kDone (kRet (endRetA (ra := [.one (.d _)]) rfl ?_))))))))))))))))))
  · rw [decide_eq_false]
    rintro rfl
    simp_all
  · refine kInv ⟨⟨i + 1, by omega, ?_⟩, by simp only; omega, .normA⟩
    rw [← List.take_append_getElem (by omega), ← List.take_append_getElem (by omega), he]
    simp_all
  · have hge : i = a.length := by omega
    rw [hge, List.take_length, hab, List.take_length] at he
    rw [he, decide_eq_true rfl]

def c_laws_eqName : C := (.seq (.reg false (.o 0 2 (.box 2 (.t 0)) (.o 1 3 (.box 3 (.t 1)) (.o 2 4 (.mov (.v (.bool false))) .done)))) (.seq (.seq (.reg false (.o 0 5 (.fad (.t 2) 0) (.o 1 6 (.load none (.t 5)) (.o 2 7 (.fad (.t 3) 0) (.o 3 8 (.load none (.t 7)) (.o 4 9 (.call 9 158 [(.t 6), (.t 8)]) (.o 5 10 (.un .not (.t 9)) .done))))))) (.cond (.t 10) (.seq (.reg false (.o 0 4 (.mov (.v (.bool false))) .done)) .ret) .skip)) (.seq (.reg false (.o 0 4 (.mov (.v (.bool true))) .done)) .ret)))
theorem dg_laws_eqName : Tryz.f60.body.bind (digC Tryz.prog Tryz.f60.ntmps []) = some c_laws_eqName := by kernel_rfl
theorem rs_laws_eqName : resSlots Tryz.prog Tryz.f60 = some [.s 4] := by kernel_rfl
theorem ok_laws_eqName (a b : List (List UInt8)) (ha : a.length ≤ 4194304) (ha2 : ∀ x ∈ a, x.length ≤ 4194304) :
    FnOK Tryz.prog 60 [.agg [.d (encBB a)], .agg [.d (encBB b)]] (fun ra _ => ra = [.one (.d (.sc (.bool (decide (a = b)))))]) := by
  refine FnOK.ofK Tryz.func60 (by kernel_rfl) dg_laws_eqName rs_laws_eqName rfl rfl ?_
  delta c_laws_eqName T.o X.i
  refine kSeq (kReg (kBox rfl rfl rfl rfl rfl (kBox rfl rfl rfl rfl rfl (kMovC rfl (kDone (kSeq (kSeq (kReg (kFadP rfl rfl (kLoadP rfl rfl rfl (kFadP rfl rfl (kLoadP rfl rfl rfl (kCallD (ok_laws_eqByteSS _ _ (by first | assumption | omega | solve_by_elim [List.getElem_mem]) (by first | assumption | omega | solve_by_elim [List.getElem_mem])) ⟨rfl, rfl, trivial⟩ rfl rfl rfl rfl rfl (kUn rfl rfl (kDone (kCondN rfl (fun g0 => kSeq (kReg (kMovC rfl (kDone (kRet (endRetA (ra := [.one (.d _)]) rfl ?_)))))) (fun g0 => kSkip (kSeq (kReg (kMovC rfl (kDone (kRet (endRetA (ra := [.one (.d _)]) rfl ?_)))))))))))))))))))))))
  all_goals simp_all

def c_laws_eqQuestion : C := (.seq (.reg false (.o 0 2 (.box 2 (.t 0)) (.o 1 3 (.box 3 (.t 1)) (.o 2 4 (.mov (.v (.bool false))) .done)))) (.seq (.seq (.reg false (.o 0 5 (.fad (.t 2) 0) (.o 1 6 (.load (some 1) (.t 5)) (.o 2 7 (.fad (.t 3) 0) (.o 3 8 (.load (some 1) (.t 7)) (.o 4 9 (.call 9 60 [(.t 6), (.t 8)]) (.o 5 10 (.un .not (.t 9)) .done))))))) (.cond (.t 10) (.seq (.reg false (.o 0 4 (.mov (.v (.bool false))) .done)) .ret) .skip)) (.seq (.seq (.reg false (.o 0 11 (.fad (.t 2) 1) (.o 1 12 (.load none (.t 11)) (.o 2 13 (.fad (.t 3) 1) (.o 3 14 (.load none (.t 13)) (.o 4 15 (.bin .neq (.t 12) (.t 14)) .done)))))) (.cond (.t 15) (.seq (.reg false (.o 0 4 (.mov (.v (.bool false))) .done)) .ret) .skip)) (.seq (.reg false (.o 0 4 (.mov (.v (.bool true))) .done)) .ret))))
theorem dg_laws_eqQuestion : Tryz.f127.body.bind (digC Tryz.prog Tryz.f127.ntmps []) = some c_laws_eqQuestion := by kernel_rfl
theorem rs_laws_eqQuestion : resSlots Tryz.prog Tryz.f127 = some [.s 4] := by kernel_rfl
theorem ok_laws_eqQuestion (a b : List (List UInt8)) (t u : Int) (ha : a.length ≤ 4194304) (ha2 : ∀ x ∈ a, x.length ≤ 4194304) :
    FnOK Tryz.prog 127 [.agg [.d (encBB a), .d (.sc (.int .i64 t))], .agg [.d (encBB b), .d (.sc (.int .i64 u))]] (fun ra _ => ra = [.one (.d (.sc (.bool (decide (a = b) && decide (t = u)))))]) := by
  refine FnOK.ofK Tryz.func127 (by kernel_rfl) dg_laws_eqQuestion rs_laws_eqQuestion rfl rfl ?_
  delta c_laws_eqQuestion T.o X.i
  refine kSeq (kReg (kBox rfl rfl rfl rfl rfl (kBox rfl rfl rfl rfl rfl (kMovC rfl (kDone (kSeq (kSeq (kReg (kFadP rfl rfl (kLoadP rfl rfl rfl (kFadP rfl rfl (kLoadP rfl rfl rfl (kCallD (ok_laws_eqName _ _ pr pr) ⟨⟨⟨rfl, trivial⟩, leb⟩, ⟨⟨rfl, trivial⟩, leb⟩, trivial⟩ rfl rfl rfl rfl rfl (kUn rfl rfl (kDone (kCondN rfl (fun g0 => kSeq (kReg (kMovC rfl (kDone (kRet (endRetA (ra := [.one (.d _)]) rfl ?_)))))) (fun g0 => kSkip (kSeq (kSeq (kReg (kFadP rfl rfl (kLoadP rfl rfl rfl (kFadP rfl rfl (kLoadP rfl rfl rfl (kBin rfl rfl rfl (kDone (kCondIN rfl (fun g1 => kSeq (kReg (kMovC rfl (kDone (kRet (endRetA (ra := [.one (.d _)]) rfl ?_)))))) (fun g1 => kSkip (kSeq (kReg (kMovC rfl (kDone (kRet (endRetA (ra := [.one (.d _)]) rfl ?_))))))))))))))))))))))))))))))))))
  all_goals simp_all

def c_laws_eqQuestionS : C := (.seq (.reg false (.o 0 4 (.mov (.v (.bool false))) .done)) (.seq (.seq (.reg false (.o 0 6 (.mov (.t 0)) (.o 1 7 (.len (.t 6)) (.o 2 8 (.mov (.t 1)) (.o 3 9 (.len (.t 8)) (.o 4 10 (.bin .neq (.t 7) (.t 9)) .done)))))) (.cond (.t 10) (.seq (.reg false (.o 0 4 (.mov (.v (.bool false))) .done)) .ret) .skip)) (.seq (.seq (.reg false (.o 0 5 (.mov (.i 0)) .done)) (.block 0 (.loop (.seq (.seq (.reg false (.o 0 11 (.mov (.t 5)) (.o 1 12 (.mov (.t 0)) (.o 2 13 (.len (.t 12)) (.o 3 14 (.bin .lss (.t 11) (.t 13)) .done))))) (.cond (.t 14) .skip (.exit 0))) (.seq (.block 1 (.seq (.reg true (.op 0 [] (some 17) none true (.mov (.t 0)) (.op 1 [] (some 18) none true (.mov (.t 5)) (.op 2 [] (some 19) none true (.iad 2 (.t 17) (.t 18)) (.op 3 [] (some 20) none true (.load (some 2) (.t 19)) (.op 4 [] (some 21) none true (.mov (.t 1)) (.op 5 [] (some 22) none true (.mov (.t 5)) (.op 6 [] (some 23) none true (.iad 2 (.t 21) (.t 22)) (.op 7 [] (some 24) none true (.load (some 2) (.t 23)) (.op 8 [3, 7] (some 25) none false (.call 25 127 [(.t 20), (.t 24)]) (.op 9 [] (some 26) none true (.un .not (.t 25)) .done))))))))))) (.cond (.t 26) (.seq (.reg false (.o 0 4 (.mov (.v (.bool false))) .done)) .ret) .skip))) (.reg false (.o 0 15 (.mov (.t 5)) (.o 1 16 (.bin .add (.t 15) (.i 1)) (.o 2 5 (.mov (.t 16)) .done))))))))) (.seq (.reg false (.o 0 4 (.mov (.v (.bool true))) .done)) .ret))))
theorem dg_laws_eqQuestionS : Tryz.f170.body.bind (digC Tryz.prog Tryz.f170.ntmps []) = some c_laws_eqQuestionS := by kernel_rfl
theorem rs_laws_eqQuestionS : resSlots Tryz.prog Tryz.f170 = some [.s 4] := by kernel_rfl
theorem ok_laws_eqQuestionS (a b : List Qn) (hs : SmallQs a) :
    FnOK Tryz.prog 170 [.one (.d (encQ a)), .one (.d (encQ b))] (fun ra _ => ra = [.one (.d (.sc (.bool (decide (a = b)))))]) := by
  refine FnOK.ofK Tryz.func170 (by kernel_rfl) dg_laws_eqQuestionS rs_laws_eqQuestionS rfl rfl ?_
  delta c_laws_eqQuestionS T.o X.i
  have ha := hs.len
  refine kSeq (kReg (kMovC rfl (kDone (kSeq (kSeq (kReg (kMovC rfl (kLenR rfl rfl (kMovC rfl (kLenR rfl rfl (kBin rfl rfl rfl (kDone (kCondIN rfl (fun g0 => kSeq (kReg (kMovC rfl (kDone (kRet (endRetA (ra := [.one (.d _)]) rfl ?_)))))) (fun g0 => kSkip (kSeq (kSeq (kReg (kMovC rfl (kDone (kBlock ?_))))))))))))))))))))
  · rw [decide_eq_false (by rintro rfl; simp_all)]
  have hab : a.length = b.length := by omega
  refine kLoop (α := { i : Nat // i ≤ a.length ∧ a.take i = b.take i })
    (fun y => ⟨tabSl [(0, .dv (encQ a)), (1, .dv (encQ b)), (5, .i y.1)], obTab 1 [], []⟩) (fun y => a.length - y.1) ⟨0, by simp⟩
    .normA ?_
  rintro ⟨i, hi, he⟩
  simp only
  rcases Nat.lt_or_ge i a.length with hlt | hge
  · have hbi := hs.mem _ (List.getElem_mem hlt)
    have n1 := hbi.len
    have n2 := hbi.mem
    have hq := Qn.eq_dec a[i] (b[i]'(by omega))
    refine kSeq (kSeq (kReg (kMovC rfl (kMovC rfl (kLenR rfl rfl (kBin rfl rfl rfl (kDone (kCondP rfl (fun g0 => kSkip (kSeq (kBlock (kSeq (kRegD (kMovC rfl (kMovC rfl (kIadR rfl rfl rfl (by omega) (kLoadD rfl rfl (kMovC rfl (kMovC rfl (kIadR rfl rfl rfl (by omega) (kLoadD rfl rfl (kRelF rfl rfl (kCallD (ok_laws_eqQuestion _ _ _ _ pr pr) ⟨⟨⟨rfl, rfl, trivial⟩, leb⟩, ⟨⟨rfl, rfl, trivial⟩, leb⟩, trivial⟩ rfl rfl rfl rfl rfl (kUn rfl rfl (kDone (kH (kCondN rfl (fun g1 => kSeq (kReg (kMovC rfl (kDone (kRet (endRetA (ra := [.one (.d _)]) rfl ?_)))))) (fun g1 => kSkip (kBk (kReg (kMovC rfl (kAdd rfl rfl (by omega) (kMovC rfl (kDone ?_)))))))))))))))))))))))))) (fun g0 => (by omega))))))))))
    · rw [decide_eq_false]
      rintro rfl
      simp_all
    · refine kInv ⟨⟨i + 1, by omega, ?_⟩, by simp only; omega, .normA⟩
      rw [← List.take_append_getElem (by omega), ← List.take_append_getElem (by omega), he]
      simp_all
  · refine kSeq (kSeq (kReg (kMovC rfl (kMovC rfl (kLenR rfl rfl (kBin rfl rfl rfl (kDone (kCondP rfl (fun g0 => (by omega)) (fun g0 => kExit (kExC (kExI (kExB (kSeq (kReg (kMovC rfl (kDone (kRet (endRetA (ra := [.one (.d _)]) rfl ?_))))))))))))))))))
    have hge : i = a.length := by omega
    rw [hge, List.take_length, hab, List.take_length] at he
    rw [he, decide_eq_true rfl]

def c_laws_eqIntS : C := (.seq (.reg false (.o 0 4 (.mov (.v (.bool false))) .done)) (.seq (.seq (.reg false (.o 0 6 (.mov (.t 0)) (.o 1 7 (.len (.t 6)) (.o 2 8 (.mov (.t 1)) (.o 3 9 (.len (.t 8)) (.o 4 10 (.bin .neq (.t 7) (.t 9)) .done)))))) (.cond (.t 10) (.seq (.reg false (.o 0 4 (.mov (.v (.bool false))) .done)) .ret) .skip)) (.seq (.seq (.reg false (.o 0 5 (.mov (.i 0)) .done)) (.block 0 (.loop (.seq (.seq (.reg false (.o 0 11 (.mov (.t 5)) (.o 1 12 (.mov (.t 0)) (.o 2 13 (.len (.t 12)) (.o 3 14 (.bin .lss (.t 11) (.t 13)) .done))))) (.cond (.t 14) .skip (.exit 0))) (.seq (.block 1 (.seq (.reg true (.op 0 [] (some 17) none true (.mov (.t 0)) (.op 1 [] (some 18) none true (.mov (.t 5)) (.op 2 [] (some 19) none true (.iad 1 (.t 17) (.t 18)) (.op 3 [] (some 20) none true (.load none (.t 19)) (.op 4 [] (some 21) none true (.mov (.t 1)) (.op 5 [] (some 22) none true (.mov (.t 5)) (.op 6 [] (some 23) none true (.iad 1 (.t 21) (.t 22)) (.op 7 [] (some 24) none true (.load none (.t 23)) (.op 8 [] (some 25) none true (.bin .neq (.t 20) (.t 24)) .done)))))))))) (.cond (.t 25) (.seq (.reg false (.o 0 4 (.mov (.v (.bool false))) .done)) .ret) .skip))) (.reg false (.o 0 15 (.mov (.t 5)) (.o 1 16 (.bin .add (.t 15) (.i 1)) (.o 2 5 (.mov (.t 16)) .done))))))))) (.seq (.reg false (.o 0 4 (.mov (.v (.bool true))) .done)) .ret))))
theorem dg_laws_eqIntS : Tryz.f128.body.bind (digC Tryz.prog Tryz.f128.ntmps []) = some c_laws_eqIntS := by kernel_rfl
theorem rs_laws_eqIntS : resSlots Tryz.prog Tryz.f128 = some [.s 4] := by kernel_rfl
theorem ok_laws_eqIntS (a b : List Int) (ha : a.length ≤ 4194304) :
    FnOK Tryz.prog 128 [.one (.d (encI a)), .one (.d (encI b))] (fun ra _ => ra = [.one (.d (.sc (.bool (decide (a = b)))))]) := by
  refine FnOK.ofK Tryz.func128 (by kernel_rfl) dg_laws_eqIntS rs_laws_eqIntS rfl rfl ?_
  delta c_laws_eqIntS T.o X.i
  refine kSeq (kReg (kMovC rfl (kDone (kSeq (kSeq (kReg (kMovC rfl (kLenR rfl rfl (kMovC rfl (kLenR rfl rfl (kBin rfl rfl rfl (kDone (kCondIN rfl (fun g0 => kSeq (kReg (kMovC rfl (kDone (kRet (endRetA (ra := [.one (.d _)]) rfl ?_)))))) (fun g0 => kSkip (kSeq (kSeq (kReg (kMovC rfl (kDone (kBlock ?_))))))))))))))))))))
  · rw [decide_eq_false (by rintro rfl; simp_all)]
  have hab : a.length = b.length := by omega
  refine kLoop (α := { i : Nat // i ≤ a.length ∧ a.take i = b.take i })
    (fun y => ⟨tabSl [(0, .dv (encI a)), (1, .dv (encI b)), (5, .i y.1)], obTab 1 [], []⟩) (fun y => a.length - y.1) ⟨0, by simp⟩
    .normA ?_
  rintro ⟨i, hi, he⟩
  simp only
  refine kSeq (kSeq (kReg (kMovC rfl (kMovC rfl (kLenR rfl rfl (kBin rfl rfl rfl (kDone (kCondP rfl (fun g0 => kSkip (kSeq (kBlock (kSeq (kRegD (kMovC rfl (kMovC rfl (kIadR rfl rfl rfl (by omega) (kLoadD rfl rfl (kMovC rfl (kMovC rfl (kIadR rfl rfl rfl (by omega) (kLoadD rfl rfl (kBin rfl rfl rfl (kDone (kH (kCondIN rfl (fun g1 => kSeq (kReg (kMovC rfl (kDone (kRet (endRetA (ra := [.one (.d _)]) rfl ?_)))))) (fun g1 => kSkip (kBk (kReg (kMovC rfl (kAdd rfl rfl (by omega) (kMovC rfl (kDone ?_)))))))))))))))))))))))) (fun g0 => kExit (kExC (kExI (kExB (kSeq (kReg (kMovC rfl (kDone (kRet (endRetA (ra := [.one (.d _)]) rfl ?_))))))))))))))))))
  · rw [decide_eq_false]
    rintro rfl
    simp_all
  · refine kInv ⟨⟨i + 1, by omega, ?_⟩, by simp only; omega, .normA⟩
    rw [← List.take_append_getElem (by omega), ← List.take_append_getElem (by omega), he]
    simp_all
  · have hge : i = a.length := by omega
    rw [hge, List.take_length, hab, List.take_length] at he
    rw [he, decide_eq_true rfl]

def c_laws_eqRr : C := (.seq (.reg false (.o 0 2 (.box 2 (.t 0)) (.o 1 3 (.box 3 (.t 1)) (.o 2 4 (.mov (.v (.bool false))) .done)))) (.seq (.seq (.reg false (.o 0 5 (.fad (.t 2) 0) (.o 1 6 (.load (some 1) (.t 5)) (.o 2 7 (.fad (.t 3) 0) (.o 3 8 (.load (some 1) (.t 7)) (.o 4 9 (.call 9 60 [(.t 6), (.t 8)]) (.o 5 10 (.un .not (.t 9)) .done))))))) (.cond (.t 10) (.seq (.reg false (.o 0 4 (.mov (.v (.bool false))) .done)) .ret) .skip)) (.seq (.seq (.reg false (.o 0 11 (.fad (.t 2) 1) (.o 1 12 (.load none (.t 11)) (.o 2 13 (.fad (.t 3) 1) (.o 3 14 (.load none (.t 13)) (.o 4 15 (.bin .neq (.t 12) (.t 14)) .done)))))) (.cond (.t 15) (.seq (.reg false (.o 0 4 (.mov (.v (.bool false))) .done)) .ret) .skip)) (.seq (.seq (.reg false (.o 0 16 (.fad (.t 2) 2) (.o 1 17 (.load none (.t 16)) (.o 2 18 (.fad (.t 3) 2) (.o 3 19 (.load none (.t 18)) (.o 4 20 (.bin .neq (.t 17) (.t 19)) .done)))))) (.cond (.t 20) (.seq (.reg false (.o 0 4 (.mov (.v (.bool false))) .done)) .ret) .skip)) (.seq (.seq (.reg false (.o 0 21 (.fad (.t 2) 3) (.o 1 22 (.load none (.t 21)) (.o 2 23 (.fad (.t 3) 3) (.o 3 24 (.load none (.t 23)) (.o 4 25 (.bin .neq (.t 22) (.t 24)) .done)))))) (.cond (.t 25) (.seq (.reg false (.o 0 4 (.mov (.v (.bool false))) .done)) .ret) .skip)) (.seq (.seq (.reg false (.o 0 26 (.fad (.t 2) 4) (.o 1 27 (.load (some 1) (.t 26)) (.o 2 28 (.fad (.t 3) 4) (.o 3 29 (.load (some 1) (.t 28)) (.o 4 30 (.call 30 60 [(.t 27), (.t 29)]) (.o 5 31 (.un .not (.t 30)) .done))))))) (.cond (.t 31) (.seq (.reg false (.o 0 4 (.mov (.v (.bool false))) .done)) .ret) .skip)) (.seq (.seq (.reg false (.o 0 32 (.fad (.t 2) 5) (.o 1 33 (.load none (.t 32)) (.o 2 34 (.fad (.t 3) 5) (.o 3 35 (.load none (.t 34)) (.o 4 36 (.call 36 243 [(.t 33), (.t 35)]) (.o 5 37 (.un .not (.t 36)) .done))))))) (.cond (.t 37) (.seq (.reg false (.o 0 4 (.mov (.v (.bool false))) .done)) .ret) .skip)) (.seq (.seq (.reg false (.o 0 38 (.fad (.t 2) 6) (.o 1 39 (.load none (.t 38)) (.o 2 40 (.fad (.t 3) 6) (.o 3 41 (.load none (.t 40)) (.o 4 42 (.call 42 128 [(.t 39), (.t 41)]) (.o 5 43 (.un .not (.t 42)) .done))))))) (.cond (.t 43) (.seq (.reg false (.o 0 4 (.mov (.v (.bool false))) .done)) .ret) .skip)) (.seq (.reg false (.o 0 4 (.mov (.v (.bool true))) .done)) .ret)))))))))
theorem dg_laws_eqRr : Tryz.f157.body.bind (digC Tryz.prog Tryz.f157.ntmps []) = some c_laws_eqRr := by kernel_rfl
theorem rs_laws_eqRr : resSlots Tryz.prog Tryz.f157 = some [.s 4] := by kernel_rfl
theorem ok_laws_eqRr (a b : Rr) (hs : SmallR a) :
    FnOK Tryz.prog 157 [.agg (a.cells.map .d), .agg (b.cells.map .d)] (fun ra _ => ra = [.one (.d (.sc (.bool (decide (a = b)))))]) := by
  refine FnOK.ofK Tryz.func157 (by kernel_rfl) dg_laws_eqRr rs_laws_eqRr rfl rfl ?_
  delta c_laws_eqRr T.o X.i
  have n1 := hs.n.len
  have n2 := hs.n.mem
  have t1 := hs.t.len
  have t2 := hs.t.mem
  have x1 := hs.x
  have m1 := hs.m
  refine kSeq (kReg (kBox rfl rfl rfl rfl rfl (kBox rfl rfl rfl rfl rfl (kMovC rfl (kDone (kSeq (kSeq (kReg (kFadP rfl rfl (kLoadP rfl rfl rfl (kFadP rfl rfl (kLoadP rfl rfl rfl (kCallD (ok_laws_eqName _ _ pr pr) ⟨⟨⟨rfl, trivial⟩, leb⟩, ⟨⟨rfl, trivial⟩, leb⟩, trivial⟩ rfl rfl rfl rfl rfl (kUn rfl rfl (kDone (kCondN rfl (fun g0 => kSeq (kReg (kMovC rfl (kDone (kRet (endRetA (ra := [.one (.d _)]) rfl ?_)))))) (fun g0 => kSkip (kSeq (kSeq (kReg (kFadP rfl rfl (kLoadP rfl rfl rfl (kFadP rfl rfl (kLoadP rfl rfl rfl (kBin rfl rfl rfl (kDone (kCondIN rfl (fun g1 => kSeq (kReg (kMovC rfl (kDone (kRet (endRetA (ra := [.one (.d _)]) rfl ?_)))))) (fun g1 => kSkip (kSeq (kSeq (kReg (kFadP rfl rfl (kLoadP rfl rfl rfl (kFadP rfl rfl (kLoadP rfl rfl rfl (kBin rfl rfl rfl (kDone (kCondIN rfl (fun g2 => kSeq (kReg (kMovC rfl (kDone (kRet (endRetA (ra := [.one (.d _)]) rfl ?_)))))) (fun g2 => kSkip (kSeq (kSeq (kReg (kFadP rfl rfl (kLoadP rfl rfl rfl (kFadP rfl rfl (kLoadP rfl rfl rfl (kBin rfl rfl rfl (kDone (kCondIN rfl (fun g3 => kSeq (kReg (kMovC rfl (kDone (kRet (endRetA (ra := [.one (.d _)]) rfl ?_)))))) (fun g3 => kSkip (kSeq (kSeq (kReg (kFadP rfl rfl (kLoadP rfl rfl rfl (kFadP rfl rfl (kLoadP rfl rfl rfl (kCallD (ok_laws_eqName _ _ pr pr) ⟨⟨⟨rfl, trivial⟩, leb⟩, ⟨⟨rfl, trivial⟩, leb⟩, trivial⟩ rfl rfl rfl rfl rfl (kUn rfl rfl (kDone (kCondN rfl (fun g4 => kSeq (kReg (kMovC rfl (kDone (kRet (endRetA (ra := [.one (.d _)]) rfl ?_)))))) (fun g4 => kSkip (kSeq (kSeq (kReg (kFadP rfl rfl (kLoadP rfl rfl rfl (kFadP rfl rfl (kLoadP rfl rfl rfl (kCallD (ok_laws_eqByteS _ _ pr) ⟨rfl, rfl, trivial⟩ rfl rfl rfl rfl rfl (kUn rfl rfl (kDone (kCondN rfl (fun g5 => kSeq (kReg (kMovC rfl (kDone (kRet (endRetA (ra := [.one (.d _)]) rfl ?_)))))) (fun g5 => kSkip (kSeq (kSeq (kReg (kFadP rfl rfl (kLoadP rfl rfl rfl (kFadP rfl rfl (kLoadP rfl rfl rfl (kCallD (ok_laws_eqIntS _ _ pr) ⟨rfl, rfl, trivial⟩ rfl rfl rfl rfl rfl (kUn rfl rfl (kDone (kCondN rfl (fun g6 => kSeq (kReg (kMovC rfl (kDone (kRet (endRetA (ra := [.one (.d _)]) rfl ?_)))))) (fun g6 => kSkip (kSeq (kReg (kMovC rfl (kDone (kRet (endRetA (ra := [.one (.d _)]) rfl ?_))))))))))))))))))))))))))))))))))))))))))))))))))))))))))))))))))))))))))))))))))))))))))))
  all_goals (refine congrArg (fun z : Bool => [RA.one (RV.d (DV.sc (Value.bool z)))]) ?_; clear n1 n2 t1 t2 x1 m1 hs; cases a; cases b; simp_all)

def c_laws_eqRrS : C := (.seq (.reg false (.o 0 4 (.mov (.v (.bool false))) .done)) (.seq (.seq (.reg false (.o 0 6 (.mov (.t 0)) (.o 1 7 (.len (.t 6)) (.o 2 8 (.mov (.t 1)) (.o 3 9 (.len (.t 8)) (.o 4 10 (.bin .neq (.t 7) (.t 9)) .done)))))) (.cond (.t 10) (.seq (.reg false (.o 0 4 (.mov (.v (.bool false))) .done)) .ret) .skip)) (.seq (.seq (.reg false (.o 0 5 (.mov (.i 0)) .done)) (.block 0 (.loop (.seq (.seq (.reg false (.o 0 11 (.mov (.t 5)) (.o 1 12 (.mov (.t 0)) (.o 2 13 (.len (.t 12)) (.o 3 14 (.bin .lss (.t 11) (.t 13)) .done))))) (.cond (.t 14) .skip (.exit 0))) (.seq (.block 1 (.seq (.reg true (.op 0 [] (some 17) none true (.mov (.t 0)) (.op 1 [] (some 18) none true (.mov (.t 5)) (.op 2 [] (some 19) none true (.iad 7 (.t 17) (.t 18)) (.op 3 [] (some 20) none true (.load (some 7) (.t 19)) (.op 4 [] (some 21) none true (.mov (.t 1)) (.op 5 [] (some 22) none true (.mov (.t 5)) (.op 6 [] (some 23) none true (.iad 7 (.t 21) (.t 22)) (.op 7 [] (some 24) none true (.load (some 7) (.t 23)) (.op 8 [3, 7] (some 25) none false (.call 25 157 [(.t 20), (.t 24)]) (.op 9 [] (some 26) none true (.un .not (.t 25)) .done))))))))))) (.cond (.t 26) (.seq (.reg false (.o 0 4 (.mov (.v (.bool false))) .done)) .ret) .skip))) (.reg false (.o 0 15 (.mov (.t 5)) (.o 1 16 (.bin .add (.t 15) (.i 1)) (.o 2 5 (.mov (.t 16)) .done))))))))) (.seq (.reg false (.o 0 4 (.mov (.v (.bool true))) .done)) .ret))))
theorem dg_laws_eqRrS : Tryz.f59.body.bind (digC Tryz.prog Tryz.f59.ntmps []) = some c_laws_eqRrS := by kernel_rfl
theorem rs_laws_eqRrS : resSlots Tryz.prog Tryz.f59 = some [.s 4] := by kernel_rfl
theorem ok_laws_eqRrS (a b : List Rr) (hs : SmallRs a) :
    FnOK Tryz.prog 59 [.one (.d (encR a)), .one (.d (encR b))] (fun ra _ => ra = [.one (.d (.sc (.bool (decide (a = b)))))]) := by
  refine FnOK.ofK Tryz.func59 (by kernel_rfl) dg_laws_eqRrS rs_laws_eqRrS rfl rfl ?_
  delta c_laws_eqRrS T.o X.i
  have ha := hs.len
  refine kSeq (kReg (kMovC rfl (kDone (kSeq (kSeq (kReg (kMovC rfl (kLenR rfl rfl (kMovC rfl (kLenR rfl rfl (kBin rfl rfl rfl (kDone (kCondIN rfl (fun g0 => kSeq (kReg (kMovC rfl (kDone (kRet (endRetA (ra := [.one (.d _)]) rfl ?_)))))) (fun g0 => kSkip (kSeq (kSeq (kReg (kMovC rfl (kDone (kBlock ?_))))))))))))))))))))
  · rw [decide_eq_false (by rintro rfl; simp_all)]
  have hab : a.length = b.length := by omega
  refine kLoop (α := { i : Nat // i ≤ a.length ∧ a.take i = b.take i })
    (fun y => ⟨tabSl [(0, .dv (encR a)), (1, .dv (encR b)), (5, .i y.1)], obTab 1 [], []⟩) (fun y => a.length - y.1) ⟨0, by simp⟩
    .normA ?_
  rintro ⟨i, hi, he⟩
  simp only
  rcases Nat.lt_or_ge i a.length with hlt | hge
  · have hbi := hs.mem _ (List.getElem_mem hlt)
    refine kSeq (kSeq (kReg (kMovC rfl (kMovC rfl (kLenR rfl rfl (kBin rfl rfl rfl (kDone (kCondP rfl (fun g0 => kSkip (kSeq (kBlock (kSeq (kRegD (kMovC rfl (kMovC rfl (kIadR rfl rfl rfl (by omega) (kLoadD rfl rfl (kMovC rfl (kMovC rfl (kIadR rfl rfl rfl (by omega) (kLoadD rfl rfl (kRelF rfl rfl (kCallD (ok_laws_eqRr _ _ pr) ⟨⟨⟨rfl, rfl, rfl, rfl, rfl, rfl, rfl, trivial⟩, leb⟩, ⟨⟨rfl, rfl, rfl, rfl, rfl, rfl, rfl, trivial⟩, leb⟩, trivial⟩ rfl rfl rfl rfl rfl (kUn rfl rfl (kDone (kH (kCondN rfl (fun g1 => kSeq (kReg (kMovC rfl (kDone (kRet (endRetA (ra := [.one (.d _)]) rfl ?_)))))) (fun g1 => kSkip (kBk (kReg (kMovC rfl (kAdd rfl rfl (by omega) (kMovC rfl (kDone ?_)))))))))))))))))))))))))) (fun g0 => (by omega))))))))))
    · rw [decide_eq_false]
      rintro rfl
      simp_all
    · refine kInv ⟨⟨i + 1, by omega, ?_⟩, by simp only; omega, .normA⟩
      rw [← List.take_append_getElem (by omega), ← List.take_append_getElem (by omega), he]
      simp_all
  · refine kSeq (kSeq (kReg (kMovC rfl (kMovC rfl (kLenR rfl rfl (kBin rfl rfl rfl (kDone (kCondP rfl (fun g0 => (by omega)) (fun g0 => kExit (kExC (kExI (kExB (kSeq (kReg (kMovC rfl (kDone (kRet (endRetA (ra := [.one (.d _)]) rfl ?_))))))))))))))))))
    have hge : i = a.length := by omega
    rw [hge, List.take_length, hab, List.take_length] at he
    rw [he, decide_eq_true rfl]

def c_laws_eqWant : C := (.seq (.reg false (.o 0 2 (.box 2 (.t 0)) (.o 1 3 (.box 3 (.t 1)) (.o 2 4 (.mov (.v (.bool false))) .done)))) (.seq (.seq (.reg false (.o 0 5 (.fad (.t 2) 0) (.o 1 6 (.load (some 7) (.t 5)) (.o 2 7 (.fad (.t 3) 0) (.o 3 8 (.load (some 7) (.t 7)) (.o 4 9 (.call 9 157 [(.t 6), (.t 8)]) (.o 5 10 (.un .not (.t 9)) .done))))))) (.cond (.t 10) (.seq (.reg false (.o 0 4 (.mov (.v (.bool false))) .done)) .ret) .skip)) (.seq (.seq (.reg false (.o 0 11 (.fad (.t 2) 7) (.o 1 12 (.load none (.t 11)) (.o 2 13 (.fad (.t 3) 7) (.o 3 14 (.load none (.t 13)) (.o 4 15 (.bin .neq (.t 12) (.t 14)) .done)))))) (.cond (.t 15) (.seq (.reg false (.o 0 4 (.mov (.v (.bool false))) .done)) .ret) .skip)) (.seq (.seq (.reg false (.o 0 16 (.fad (.t 2) 8) (.o 1 17 (.load none (.t 16)) (.o 2 18 (.fad (.t 3) 8) (.o 3 19 (.load none (.t 18)) (.o 4 20 (.beq true (.t 17) (.t 19)) .done)))))) (.cond (.t 20) (.seq (.reg false (.o 0 4 (.mov (.v (.bool false))) .done)) .ret) .skip)) (.seq (.reg false (.o 0 4 (.mov (.v (.bool true))) .done)) .ret)))))
theorem dg_laws_eqWant : Tryz.f250.body.bind (digC Tryz.prog Tryz.f250.ntmps []) = some c_laws_eqWant := by kernel_rfl
theorem rs_laws_eqWant : resSlots Tryz.prog Tryz.f250 = some [.s 4] := by kernel_rfl
theorem ok_laws_eqWant (a b : Want) (hs : SmallW a) :
    FnOK Tryz.prog 250 [.agg (a.cells.map .d), .agg (b.cells.map .d)] (fun ra _ => ra = [.one (.d (.sc (.bool (decide (a = b)))))]) := by
  refine FnOK.ofK Tryz.func250 (by kernel_rfl) dg_laws_eqWant rs_laws_eqWant rfl rfl ?_
  delta c_laws_eqWant T.o X.i
  have h2 := hs.r
  refine kSeq (kReg (kBox rfl rfl rfl rfl rfl (kBox rfl rfl rfl rfl rfl (kMovC rfl (kDone (kSeq (kSeq (kReg (kFadP rfl rfl (kLoadP rfl rfl rfl (kFadP rfl rfl (kLoadP rfl rfl rfl (kCallD (ok_laws_eqRr _ _ (by first | assumption | omega | solve_by_elim [List.getElem_mem] | (simp only [szOut] at *; omega) | exact rfl | exact leb | exact rrOk_small (by assumption) | exact zoneOk_small (by assumption) | exact SmallBB.ok (by assumption) | exact (SmallBB.ok (by assumption)).len | exact (SmallBB.ok (by assumption)).mem | exact SmallBB.bent (by assumption))) ⟨⟨⟨rfl, rfl, rfl, rfl, rfl, rfl, rfl, trivial⟩, leb⟩, ⟨⟨rfl, rfl, rfl, rfl, rfl, rfl, rfl, trivial⟩, leb⟩, trivial⟩ rfl rfl rfl rfl rfl (kUn rfl rfl (kDone (kCondN rfl (fun g0 => kSeq (kReg (kMovC rfl (kDone (kRet (endRetA (ra := [.one (.d _)]) rfl ?_)))))) (fun g0 => kSkip (kSeq (kSeq (kReg (kMem [(12288, ⟨1, 0, .box [.d _, .d _, .d _, .d _, .d _, .d _, .d _, .d _, .d _]⟩), (16384, ⟨1, 0, .box [.d _, .d _, .d _, .d _, .d _, .d _, .d _, .d _, .d _]⟩)] [(2, .c (.ptr 12288 1 0)), (11, .c (.un)), (3, .c (.ptr 16384 1 0)), (13, .c (.un)), (12, .c (.un)), (14, .c (.un))] [] ⟨rfl, rfl, trivial⟩ ⟨rfl, rfl, rfl, rfl, rfl, rfl, trivial⟩ rfl (kFadP rfl rfl (kLoadP rfl rfl rfl (kFadP rfl rfl (kLoadP rfl rfl rfl (kBin rfl rfl rfl (kDone (kCondIN rfl (fun g1 => kSeq (kReg (kMovC rfl (kDone (kRet (endRetA (ra := [.one (.d _)]) rfl ?_)))))) (fun g1 => kSkip (kSeq (kSeq (kReg (kFadP rfl rfl (kLoadP rfl rfl rfl (kFadP rfl rfl (kLoadP rfl rfl rfl (kBeq rfl rfl (kDone (kCondN rfl (fun g2 => kSeq (kReg (kMovC rfl (kDone (kRet (endRetA (ra := [.one (.d _)]) rfl ?_)))))) (fun g2 => kSkip (kSeq (kReg (kMovC rfl (kDone (kRet (endRetA (ra := [.one (.d _)]) rfl ?_))))))))))))))))))))))))))))))))))))))))))))))
  all_goals (refine congrArg (fun z : Bool => [RA.one (RV.d (DV.sc (Value.bool z)))]) ?_; clear h2 hs; cases a; cases b; simp_all)

def c_laws_eqWantS : C := (.seq (.reg false (.o 0 4 (.mov (.v (.bool false))) .done)) (.seq (.seq (.reg false (.o 0 6 (.mov (.t 0)) (.o 1 7 (.len (.t 6)) (.o 2 8 (.mov (.t 1)) (.o 3 9 (.len (.t 8)) (.o 4 10 (.bin .neq (.t 7) (.t 9)) .done)))))) (.cond (.t 10) (.seq (.reg false (.o 0 4 (.mov (.v (.bool false))) .done)) .ret) .skip)) (.seq (.seq (.reg false (.o 0 5 (.mov (.i 0)) .done)) (.block 0 (.loop (.seq (.seq (.reg false (.o 0 11 (.mov (.t 5)) (.o 1 12 (.mov (.t 0)) (.o 2 13 (.len (.t 12)) (.o 3 14 (.bin .lss (.t 11) (.t 13)) .done))))) (.cond (.t 14) .skip (.exit 0))) (.seq (.block 1 (.seq (.reg true (.op 0 [] (some 17) none true (.mov (.t 0)) (.op 1 [] (some 18) none true (.mov (.t 5)) (.op 2 [] (some 19) none true (.iad 9 (.t 17) (.t 18)) (.op 3 [] (some 20) none true (.load (some 9) (.t 19)) (.op 4 [] (some 21) none true (.mov (.t 1)) (.op 5 [] (some 22) none true (.mov (.t 5)) (.op 6 [] (some 23) none true (.iad 9 (.t 21) (.t 22)) (.op 7 [] (some 24) none true (.load (some 9) (.t 23)) (.op 8 [3, 7] (some 25) none false (.call 25 250 [(.t 20), (.t 24)]) (.op 9 [] (some 26) none true (.un .not (.t 25)) .done))))))))))) (.cond (.t 26) (.seq (.reg false (.o 0 4 (.mov (.v (.bool false))) .done)) .ret) .skip))) (.reg false (.o 0 15 (.mov (.t 5)) (.o 1 16 (.bin .add (.t 15) (.i 1)) (.o 2 5 (.mov (.t 16)) .done))))))))) (.seq (.reg false (.o 0 4 (.mov (.v (.bool true))) .done)) .ret))))
theorem dg_laws_eqWantS : Tryz.f171.body.bind (digC Tryz.prog Tryz.f171.ntmps []) = some c_laws_eqWantS := by kernel_rfl
theorem rs_laws_eqWantS : resSlots Tryz.prog Tryz.f171 = some [.s 4] := by kernel_rfl
theorem ok_laws_eqWantS (a b : List (Want)) (hs : SmallWs a) :
    FnOK Tryz.prog 171 [.one (.d (encW a)), .one (.d (encW b))] (fun ra _ => ra = [.one (.d (.sc (.bool (decide (a = b)))))]) := by
  refine FnOK.ofK Tryz.func171 (by kernel_rfl) dg_laws_eqWantS rs_laws_eqWantS rfl rfl ?_
  delta c_laws_eqWantS T.o X.i
  have ha := hs.len
  refine kSeq (kReg (kMovC rfl (kDone (kSeq (kSeq (kReg (kMovC rfl (kLenR rfl rfl (kMovC rfl (kLenR rfl rfl (kBin rfl rfl rfl (kDone (kCondIN rfl (fun g0 => kSeq (kReg (kMovC rfl (kDone (kRet (endRetA (ra := [.one (.d _)]) rfl ?_)))))) (fun g0 => kSkip (kSeq (kSeq (kReg (kMovC rfl (kDone (kBlock ?_))))))))))))))))))))
  · rw [decide_eq_false (by rintro rfl; simp_all)]
  have hab : a.length = b.length := by omega
  refine kLoop (α := { i : Nat // i ≤ a.length ∧ a.take i = b.take i })
    (fun y => ⟨tabSl [(0, .dv (encW a)), (1, .dv (encW b)), (5, .i y.1)], obTab 1 [], []⟩) (fun y => a.length - y.1) ⟨0, by simp⟩
    .normA ?_
  rintro ⟨i, hi, he⟩
  simp only
  rcases Nat.lt_or_ge i a.length with hlt | hge
  · have hbi := hs.mem _ (List.getElem_mem hlt)
    have n1 := hbi.r.n.len
    have n2 := hbi.r.n.mem
    have n3 := hbi.r.t.len
    have n4 := hbi.r.t.mem
    have n5 := hbi.r.x
    have n6 := hbi.r.m
    refine kSeq (kSeq (kReg (kMovC rfl (kMovC rfl (kLenR rfl rfl (kBin rfl rfl rfl (kDone (kCondP rfl (fun g0 => kSkip (kSeq (kBlock (kSeq (kRegD (kMovC rfl (kMovC rfl (kIadR rfl rfl rfl (by first | omega | (simp only [List.length_append, List.length_cons, List.length_nil]; omega)) (kLoadD rfl rfl (kMovC rfl (kMovC rfl (kIadR rfl rfl rfl (by first | omega | (simp only [List.length_append, List.length_cons, List.length_nil]; omega)) (kLoadD rfl rfl (kRelF rfl rfl (kCallD (ok_laws_eqWant _ _ (by first | assumption | omega | solve_by_elim [List.getElem_mem] | (simp only [szOut] at *; omega) | exact rfl | exact leb | exact rrOk_small (by assumption) | exact zoneOk_small (by assumption) | exact SmallBB.ok (by assumption) | exact (SmallBB.ok (by assumption)).len | exact (SmallBB.ok (by assumption)).mem | exact SmallBB.bent (by assumption))) ⟨⟨⟨rfl, rfl, rfl, rfl, rfl, rfl, rfl, rfl, rfl, trivial⟩, leb⟩, ⟨⟨rfl, rfl, rfl, rfl, rfl, rfl, rfl, rfl, rfl, trivial⟩, leb⟩, trivial⟩ rfl rfl rfl rfl rfl (kUn rfl rfl (kDone (kH (kCondN rfl (fun g1 => kSeq (kReg (kMovC rfl (kDone (kRet (endRetA (ra := [.one (.d _)]) rfl ?_)))))) (fun g1 => kSkip (kBk (kReg (kMovC rfl (kAdd rfl rfl (by omega) (kMovC rfl (kDone ?_)))))))))))))))))))))))))) (fun g0 => (by omega))))))))))
    · rw [decide_eq_false]
      rintro rfl
      simp_all
    · refine kInv ⟨⟨i + 1, by omega, ?_⟩, by simp only; omega, .normA⟩
      rw [← List.take_append_getElem (by omega), ← List.take_append_getElem (by omega), he]
      simp_all
  · refine kSeq (kSeq (kReg (kMovC rfl (kMovC rfl (kLenR rfl rfl (kBin rfl rfl rfl (kDone (kCondP rfl (fun g0 => (by omega)) (fun g0 => kExit (kExC (kExI (kExB (kSeq (kReg (kMovC rfl (kDone (kRet (endRetA (ra := [.one (.d _)]) rfl ?_))))))))))))))))))
    have hge : i = a.length := by omega
    rw [hge, List.take_length, hab, List.take_length] at he
    rw [he, decide_eq_true rfl]

def c_laws_eqMsg : C := (.seq (.reg false (.o 0 2 (.box 2 (.t 0)) (.o 1 3 (.box 3 (.t 1)) (.o 2 4 (.mov (.v (.bool false))) .done)))) (.seq (.seq (.reg false (.o 0 5 (.fad (.t 2) 0) (.o 1 6 (.load none (.t 5)) (.o 2 7 (.fad (.t 3) 0) (.o 3 8 (.load none (.t 7)) (.o 4 9 (.bin .neq (.t 6) (.t 8)) .done)))))) (.cond (.t 9) (.seq (.reg false (.o 0 4 (.mov (.v (.bool false))) .done)) .ret) .skip)) (.seq (.seq (.reg false (.o 0 10 (.fad (.t 2) 1) (.o 1 11 (.load none (.t 10)) (.o 2 12 (.fad (.t 3) 1) (.o 3 13 (.load none (.t 12)) (.o 4 14 (.beq true (.t 11) (.t 13)) .done)))))) (.cond (.t 14) (.seq (.reg false (.o 0 4 (.mov (.v (.bool false))) .done)) .ret) .skip)) (.seq (.seq (.reg false (.o 0 15 (.fad (.t 2) 2) (.o 1 16 (.load none (.t 15)) (.o 2 17 (.fad (.t 3) 2) (.o 3 18 (.load none (.t 17)) (.o 4 19 (.bin .neq (.t 16) (.t 18)) .done)))))) (.cond (.t 19) (.seq (.reg false (.o 0 4 (.mov (.v (.bool false))) .done)) .ret) .skip)) (.seq (.seq (.reg false (.o 0 20 (.fad (.t 2) 3) (.o 1 21 (.load none (.t 20)) (.o 2 22 (.fad (.t 3) 3) (.o 3 23 (.load none (.t 22)) (.o 4 24 (.beq true (.t 21) (.t 23)) .done)))))) (.cond (.t 24) (.seq (.reg false (.o 0 4 (.mov (.v (.bool false))) .done)) .ret) .skip)) (.seq (.seq (.reg false (.o 0 25 (.fad (.t 2) 4) (.o 1 26 (.load none (.t 25)) (.o 2 27 (.fad (.t 3) 4) (.o 3 28 (.load none (.t 27)) (.o 4 29 (.bin .neq (.t 26) (.t 28)) .done)))))) (.cond (.t 29) (.seq (.reg false (.o 0 4 (.mov (.v (.bool false))) .done)) .ret) .skip)) (.seq (.seq (.reg false (.o 0 30 (.fad (.t 2) 5) (.o 1 31 (.load none (.t 30)) (.o 2 32 (.fad (.t 3) 5) (.o 3 33 (.load none (.t 32)) (.o 4 34 (.call 34 170 [(.t 31), (.t 33)]) (.o 5 35 (.un .not (.t 34)) .done))))))) (.cond (.t 35) (.seq (.reg false (.o 0 4 (.mov (.v (.bool false))) .done)) .ret) .skip)) (.seq (.seq (.reg false (.o 0 36 (.fad (.t 2) 6) (.o 1 37 (.load none (.t 36)) (.o 2 38 (.fad (.t 3) 6) (.o 3 39 (.load none (.t 38)) (.o 4 40 (.call 40 59 [(.t 37), (.t 39)]) (.o 5 41 (.un .not (.t 40)) .done))))))) (.cond (.t 41) (.seq (.reg false (.o 0 4 (.mov (.v (.bool false))) .done)) .ret) .skip)) (.seq (.seq (.reg false (.o 0 42 (.fad (.t 2) 7) (.o 1 43 (.load none (.t 42)) (.o 2 44 (.fad (.t 3) 7) (.o 3 45 (.load none (.t 44)) (.o 4 46 (.call 46 59 [(.t 43), (.t 45)]) (.o 5 47 (.un .not (.t 46)) .done))))))) (.cond (.t 47) (.seq (.reg false (.o 0 4 (.mov (.v (.bool false))) .done)) .ret) .skip)) (.seq (.seq (.reg false (.o 0 48 (.fad (.t 2) 8) (.o 1 49 (.load none (.t 48)) (.o 2 50 (.fad (.t 3) 8) (.o 3 51 (.load none (.t 50)) (.o 4 52 (.call 52 59 [(.t 49), (.t 51)]) (.o 5 53 (.un .not (.t 52)) .done))))))) (.cond (.t 53) (.seq (.reg false (.o 0 4 (.mov (.v (.bool false))) .done)) .ret) .skip)) (.seq (.seq (.reg false (.o 0 54 (.fad (.t 2) 9) (.o 1 55 (.load none (.t 54)) (.o 2 56 (.fad (.t 3) 9) (.o 3 57 (.load none (.t 56)) (.o 4 58 (.call 58 171 [(.t 55), (.t 57)]) (.o 5 59 (.un .not (.t 58)) .done))))))) (.cond (.t 59) (.seq (.reg false (.o 0 4 (.mov (.v (.bool false))) .done)) .ret) .skip)) (.seq (.seq (.reg false (.o 0 60 (.fad (.t 2) 10) (.o 1 61 (.load none (.t 60)) (.o 2 62 (.fad (.t 3) 10) (.o 3 63 (.load none (.t 62)) (.o 4 64 (.call 64 171 [(.t 61), (.t 63)]) (.o 5 65 (.un .not (.t 64)) .done))))))) (.cond (.t 65) (.seq (.reg false (.o 0 4 (.mov (.v (.bool false))) .done)) .ret) .skip)) (.seq (.reg false (.o 0 4 (.mov (.v (.bool true))) .done)) .ret)))))))))))))
theorem dg_laws_eqMsg : Tryz.f68.body.bind (digC Tryz.prog Tryz.f68.ntmps []) = some c_laws_eqMsg := by kernel_rfl
theorem rs_laws_eqMsg : resSlots Tryz.prog Tryz.f68 = some [.s 4] := by kernel_rfl
theorem ok0_laws_eqMsg (a b : Msg) (hs : SmallM a) :
    FnOK Tryz.prog 68 [.agg (a.cells.map .d), .agg (b.cells.map .d)] (fun ra _ => ra = [.one (.d (.sc (.bool (decide (a = b)))))]) := by
  refine FnOK.ofK Tryz.func68 (by kernel_rfl) dg_laws_eqMsg rs_laws_eqMsg rfl rfl ?_
  delta c_laws_eqMsg T.o X.i
  have b1 := hs.q
  have b2 := hs.a
  have b3 := hs.b
  have b4 := hs.c
  have b5 := hs.p
  have b6 := hs.u
  refine kSeq (kReg (kBox rfl rfl rfl rfl rfl (kBox rfl rfl rfl rfl rfl (kMovC rfl (kDone (kSeq (kSeq (kReg (kFadP rfl rfl (kLoadP rfl rfl rfl (kFadP rfl rfl (kLoadP rfl rfl rfl (kBin rfl rfl rfl (kDone (kCondIN rfl (fun g0 => kSeq (kReg (kMovC rfl (kDone (kRet (endRetA (ra := [.one (.d _)]) rfl ?_)))))) (fun g0 => kSkip (kSeq (kSeq (kReg (kFadP rfl rfl (kLoadP rfl rfl rfl (kFadP rfl rfl (kLoadP rfl rfl rfl (kBeq rfl rfl (kDone (kCondN rfl (fun g1 => kSeq (kReg (kMovC rfl (kDone (kRet (endRetA (ra := [.one (.d _)]) rfl ?_)))))) (fun g1 => kSkip (kSeq (kSeq (kReg (kFadP rfl rfl (kLoadP rfl rfl rfl (kFadP rfl rfl (kLoadP rfl rfl rfl (kBin rfl rfl rfl (kDone (kCondIN rfl (fun g2 => kSeq (kReg (kMovC rfl (kDone (kRet (endRetA (ra := [.one (.d _)]) rfl ?_)))))) (fun g2 => kSkip (kSeq (kSeq (kReg (kFadP rfl rfl (kLoadP rfl rfl rfl (kFadP rfl rfl (kLoadP rfl rfl rfl (kBeq rfl rfl (kDone (kCondN rfl (fun g3 => kSeq (kReg (kMovC rfl (kDone (kRet (endRetA (ra := [.one (.d _)]) rfl ?_)))))) (fun g3 => kSkip (kSeq (kSeq (kReg (kFadP rfl rfl (kLoadP rfl rfl rfl (kFadP rfl rfl (kLoadP rfl rfl rfl (kBin rfl rfl rfl (kDone (kCondIN rfl (fun g4 => kSeq (kReg (kMovC rfl (kDone (kRet (endRetA (ra := [.one (.d _)]) rfl ?_)))))) (fun g4 => kSkip (kSeq (kSeq (kReg (kFadP rfl rfl (kLoadP rfl rfl rfl (kFadP rfl rfl (kLoadP rfl rfl rfl (kCallD (ok_laws_eqQuestionS _ _ (by first | assumption | omega | solve_by_elim [List.getElem_mem] | (simp only [szOut] at *; omega) | exact rfl | exact leb | exact rrOk_small (by assumption) | exact zoneOk_small (by assumption) | exact SmallBB.ok (by assumption) | exact (SmallBB.ok (by assumption)).len | exact (SmallBB.ok (by assumption)).mem | exact SmallBB.bent (by assumption))) ⟨rfl, rfl, trivial⟩ rfl rfl rfl rfl rfl (kUn rfl rfl (kDone (kCondN rfl (fun g5 => kSeq (kReg (kMovC rfl (kDone (kRet (endRetA (ra := [.one (.d _)]) rfl ?_)))))) (fun g5 => kSkip (kSeq (kSeq (kReg (kFadP rfl rfl (kLoadP rfl rfl rfl (kFadP rfl rfl (kLoadP rfl rfl rfl (kCallD (ok_laws_eqRrS _ _ (by first | assumption | omega | solve_by_elim [List.getElem_mem] | (simp only [szOut] at *; omega) | exact rfl | exact leb | exact rrOk_small (by assumption) | exact zoneOk_small (by assumption) | exact SmallBB.ok (by assumption) | exact (SmallBB.ok (by assumption)).len | exact (SmallBB.ok (by assumption)).mem | exact SmallBB.bent (by assumption))) ⟨rfl, rfl, trivial⟩ rfl rfl rfl rfl rfl (kUn rfl rfl (kDone (kCondN rfl (fun g6 => kSeq (kReg (kMovC rfl (kDone (kRet (endRetA (ra := [.one (.d _)]) rfl ?_)))))) (fun g6 => kSkip (kSeq (kSeq (kReg (kFadP rfl rfl (kLoadP rfl rfl rfl (kFadP rfl rfl (kLoadP rfl rfl rfl (kCallD (ok_laws_eqRrS _ _ (by first | assumption | omega | solve_by_elim [List.getElem_mem] | (simp only [szOut] at *; omega) | exact rfl | exact leb | exact rrOk_small (by assumption) | exact zoneOk_small (by assumption) | exact SmallBB.ok (by assumption) | exact (SmallBB.ok (by assumption)).len | exact (SmallBB.ok (by assumption)).mem | exact SmallBB.bent (by assumption))) ⟨rfl, rfl, trivial⟩ rfl rfl rfl rfl rfl (kUn rfl rfl (kDone (kCondN rfl (fun g7 => kSeq (kReg (kMovC rfl (kDone (kRet (endRetA (ra := [.one (.d _)]) rfl ?_)))))) (fun g7 => kSkip (kSeq (kSeq (kReg (kFadP rfl rfl (kLoadP rfl rfl rfl (kFadP rfl rfl (kLoadP rfl rfl rfl (kCallD (ok_laws_eqRrS _ _ (by first | assumption | omega | solve_by_elim [List.getElem_mem] | (simp only [szOut] at *; omega) | exact rfl | exact leb | exact rrOk_small (by assumption) | exact zoneOk_small (by assumption) | exact SmallBB.ok (by assumption) | exact (SmallBB.ok (by assumption)).len | exact (SmallBB.ok (by assumption)).mem | exact SmallBB.bent (by assumption))) ⟨rfl, rfl, trivial⟩ rfl rfl rfl rfl rfl (kUn rfl rfl (kDone (kCondN rfl (fun g8 => kSeq (kReg (kMovC rfl (kDone (kRet (endRetA (ra := [.one (.d _)]) rfl ?_)))))) (fun g8 => kSkip (kSeq (kSeq (kReg (kFadP rfl rfl (kLoadP rfl rfl rfl (kFadP rfl rfl (kLoadP rfl rfl rfl (kCallD (ok_laws_eqWantS _ _ (by first | assumption | omega | solve_by_elim [List.getElem_mem] | (simp only [szOut] at *; omega) | exact rfl | exact leb | exact rrOk_small (by assumption) | exact zoneOk_small (by assumption) | exact SmallBB.ok (by assumption) | exact (SmallBB.ok (by assumption)).len | exact (SmallBB.ok (by assumption)).mem | exact SmallBB.bent (by assumption))) ⟨rfl, rfl, trivial⟩ rfl rfl rfl rfl rfl (kUn rfl rfl (kDone (kCondN rfl (fun g9 => kSeq (kReg (kMovC rfl (kDone (kRet (endRetA (ra := [.one (.d _)]) rfl ?_)))))) (fun g9 => kSkip (kSeq (kSeq (kReg (kFadP rfl rfl (kLoadP rfl rfl rfl (kFadP rfl rfl (kLoadP rfl rfl rfl (kCallD (ok_laws_eqWantS _ _ (by first | assumption | omega | solve_by_elim [List.getElem_mem] | (simp only [szOut] at *; omega) | exact rfl | exact leb | exact rrOk_small (by assumption) | exact zoneOk_small (by assumption) | exact SmallBB.ok (by assumption) | exact (SmallBB.ok (by assumption)).len | exact (SmallBB.ok (by assumption)).mem | exact SmallBB.bent (by assumption))) ⟨rfl, rfl, trivial⟩ rfl rfl rfl rfl rfl (kUn rfl rfl (kDone (kCondN rfl (fun g10 => kSeq (kReg (kMovC rfl (kDone (kRet (endRetA (ra := [.one (.d _)]) rfl ?_)))))) (fun g10 => kSkip (kSeq (kReg (kMovC rfl (kDone (kRet (endRetA (ra := [.one (.d _)]) rfl ?_))))))))))))))))))))))))))))))))))))))))))))))))))))))))))))))))))))))))))))))))))))))))))))))))))))))))))))))))))))))))))))))))))))))))))
  all_goals (refine congrArg (fun z : Bool => [RA.one (RV.d (DV.sc (Value.bool z)))]) ?_; clear b1 b2 b3 b4 b5 b6 hs; cases a; cases b; simp_all)
theorem ok_laws_eqMsg (i1 o1 c1 : Int) (r1 u1 : Bool) (q1 : List Qn) (an1 au1 mo1 : List Rr) (pr1 up1 : List Want) (i2 o2 c2 : Int) (r2 u2 : Bool) (q2 : List Qn) (an2 au2 mo2 : List Rr) (pr2 up2 : List Want) (hs : SmallM (⟨i1, r1, o1, u1, c1, q1, an1, au1, mo1, pr1, up1⟩ : Msg)) :
    FnOK Tryz.prog 68 [.agg [.d (.sc (.int .i64 i1)), .d (.sc (.bool r1)), .d (.sc (.int .i64 o1)), .d (.sc (.bool u1)), .d (.sc (.int .i64 c1)), .d (encQ q1), .d (encR an1), .d (encR au1), .d (encR mo1), .d (encW pr1), .d (encW up1)], .agg [.d (.sc (.int .i64 i2)), .d (.sc (.bool r2)), .d (.sc (.int .i64 o2)), .d (.sc (.bool u2)), .d (.sc (.int .i64 c2)), .d (encQ q2), .d (encR an2), .d (encR au2), .d (encR mo2), .d (encW pr2), .d (encW up2)]] (fun ra _ => ra = [.one (.d (.sc (.bool (decide ((⟨i1, r1, o1, u1, c1, q1, an1, au1, mo1, pr1, up1⟩ : Msg) = (⟨i2, r2, o2, u2, c2, q2, an2, au2, mo2, pr2, up2⟩ : Msg))))))]) :=
  ok0_laws_eqMsg (⟨i1, r1, o1, u1, c1, q1, an1, au1, mo1, pr1, up1⟩ : Msg) (⟨i2, r2, o2, u2, c2, q2, an2, au2, mo2, pr2, up2⟩ : Msg) hs

def c_laws_markByteS : C := (.seq (.reg false (.o 0 4 (.mov (.i 0)) .done)) (.seq (.seq (.reg false (.o 0 5 (.mov (.i 0)) .done)) (.block 0 (.loop (.seq (.seq (.reg false (.o 0 6 (.mov (.t 5)) (.o 1 7 (.mov (.t 0)) (.o 2 8 (.len (.t 7)) (.o 3 9 (.bin .lss (.t 6) (.t 8)) .done))))) (.cond (.t 9) .skip (.exit 0))) (.seq (.block 1 (.seq (.reg false (.o 0 12 (.mov (.t 0)) (.o 1 13 (.mov (.t 5)) (.o 2 14 (.mov (.t 1)) (.o 3 15 (.conv .u8 (.t 14)) (.o 4 16 (.iad 1 (.t 12) (.t 13)) (.op 5 [] none none false (.store none (.t 16) (.t 15)) .done))))))) (.reg false (.o 0 17 (.mov (.t 1)) (.o 1 18 (.bin .add (.t 17) (.i 1)) (.o 2 1 (.mov (.t 18)) .done)))))) (.reg false (.o 0 10 (.mov (.t 5)) (.o 1 11 (.bin .add (.t 10) (.i 1)) (.o 2 5 (.mov (.t 11)) .done))))))))) (.seq (.reg false (.o 0 19 (.mov (.t 1)) (.o 1 4 (.mov (.t 19)) .done))) .ret)))
theorem dg_laws_markByteS : Tryz.f159.body.bind (digC Tryz.prog Tryz.f159.ntmps []) = some c_laws_markByteS := by kernel_rfl
theorem rs_laws_markByteS : resSlots Tryz.prog Tryz.f159 = some [.s 4] := by kernel_rfl
theorem ok_laws_markByteS (a : List UInt8) (k : Int) (h0 : 0 ≤ k) (hk : k + a.length ≤ 9223372036854775807) :
    FnOK Tryz.prog 159 [.one (.arr false true (encB a)), .one (.d (.sc (.int .i64 k)))] (fun ra os => ra = [.one (.d (.sc (.int .i64 (k + a.length))))] ∧ os.a 0 = encB (marks a.length k)) := by
  refine FnOK.ofK Tryz.func159 (by kernel_rfl) dg_laws_markByteS rs_laws_markByteS rfl rfl ?_
  delta c_laws_markByteS T.o X.i
  generalize hgas : [GA.one (.arr false true (encB a)), GA.one (.d (.sc (.int .i64 k)))] = gas
  have hob : (St.init gas).ob 0 = ⟨0, 0, .arr true (encB a)⟩ := by rw [← hgas]; rfl
  have s0 : (St.init gas).sl 0 = .c (.arr 0 0) := by rw [← hgas]; rfl
  have s1 : (St.init gas).sl 1 = .i k := by rw [← hgas]; rfl
  refine kSub (t := ⟨tabSl [(0, .c (.arr 0 0)), (1, .i k)], (St.init gas).ob, []⟩) (.tab rfl ⟨s0 ▸ .refl _, s1 ▸ .refl _, trivial⟩) ?_
  refine kSeq (kReg (kMovC rfl (kDone ?_)))
  refine kSeq (kSeq (kReg (kMovC rfl (kDone (kBlock ?_)))))
  refine kLoop (α := { i : Nat // i ≤ a.length })
    (fun y => ⟨tabSl [(0, .c (.arr 0 0)), (1, .i (k + (y.1 : Int))), (5, .i y.1)], upd (St.init gas).ob 0 ⟨0, y.1, .arr true (encB (marks y.1 k ++ a.drop y.1))⟩, []⟩) (fun y => a.length - y.1) ⟨0, by simp⟩
    (.tab (upd_self (by rw [hob]; rfl)) ⟨.refl _, by simpa using .refl _, .refl _, trivial⟩) ?_
  rintro ⟨i, hi⟩
  simp only
  have hlen : (marks i k ++ a.drop i).length = a.length := by simp [marks_len]; omega
  refine kSeq (kSeq (kReg ?_))
  refine kMovC rfl (kMovC rfl (kLen rfl rfl rfl (kBin rfl rfl rfl (kDone ?_))))
  rw [len_encB, hlen]
  refine kCond rfl (fun h1 => ?_) (fun h1 => ?_)
  · have hlt : i < a.length := by simp at h1; omega
    refine kSkip (kSeq (kBlock (kSeq (kReg ?_))))
    refine kMovC rfl (kMovC rfl (kMovC rfl (kConv rfl (kIadA rfl rfl rfl rfl ?_ ?_))))
    · rw [len_encB, hlen]; omega
    refine kStoreE1 rfl rfl rfl rfl (by simp [encB, DV.esz]) (kDone ?_)
    rw [show (Int.toNat (i : Int)) = i from rfl, setRow_encB _ _ _ (by omega)]
    refine kReg (kMovC rfl (kAdd rfl rfl ?_ (kMovC rfl (kDone (kBk ?_)))))
    · omega
    refine kReg (kMovC rfl (kAdd rfl rfl ?_ (kMovC rfl (kDone (kInv ?_)))))
    · omega
    refine ⟨⟨i + 1, hlt⟩, by simp only; omega, .tab ?_ ⟨.refl _, ?_, .refl _, trivial⟩⟩
    · show _ = upd (upd (St.init gas).ob 0 _) 0 _
      rw [upd_upd, take_set_succ _ _ _ _ hlt (marks_len i k), marks_succ]
      rfl
    · show WkV (.i (k + i + 1)) (.i (k + ((i + 1 : Nat) : Int)))
      rw [show k + ((i + 1 : Nat) : Int) = k + i + 1 by omega]
      exact .refl _
  · refine kExit (kExC (kExI (kExB ?_)))
    have hge : i = a.length := by simp at h1; omega
    subst hge
    refine kSeq (kReg (kMovC rfl (kMovC rfl (kDone (kRet ?_)))))
    rw [← hgas]
    refine endRet (ra := [.one (.d _)]) rfl ⟨⟨⟨rfl, .inl rfl⟩, trivial⟩, .nil, ⟨rfl, fun _ => rfl, rfl⟩, trivial, trivial⟩ ?_
    refine ⟨rfl, ?_⟩
    show encB (marks a.length k ++ a.drop a.length) = _
    simp

def c_laws_markByteSS : C := (.seq (.reg false (.o 0 4 (.mov (.i 0)) .done)) (.seq (.seq (.reg false (.o 0 5 (.mov (.i 0)) .done)) (.block 0 (.loop (.seq (.seq (.reg false (.o 0 6 (.mov (.t 5)) (.o 1 7 (.mov (.t 0)) (.o 2 8 (.len (.t 7)) (.o 3 9 (.bin .lss (.t 6) (.t 8)) .done))))) (.cond (.t 9) .skip (.exit 0))) (.seq (.block 1 (.reg false (.o 0 12 (.mov (.t 0)) (.o 1 13 (.mov (.t 5)) (.o 2 14 (.iad 1 (.t 12) (.t 13)) (.o 3 15 (.load none (.t 14)) (.o 4 16 (.mov (.t 1)) (.o 5 17 (.call 17 159 [(.t 15), (.t 16)]) (.o 6 1 (.mov (.t 17)) .done))))))))) (.reg false (.o 0 10 (.mov (.t 5)) (.o 1 11 (.bin .add (.t 10) (.i 1)) (.o 2 5 (.mov (.t 11)) .done))))))))) (.seq (.reg false (.o 0 18 (.mov (.t 1)) (.o 1 4 (.mov (.t 18)) .done))) .ret)))
theorem dg_laws_markByteSS : Tryz.f113.body.bind (digC Tryz.prog Tryz.f113.ntmps []) = some c_laws_markByteSS := by kernel_rfl
theorem rs_laws_markByteSS : resSlots Tryz.prog Tryz.f113 = some [.s 4] := by kernel_rfl
theorem ok_laws_markByteSS (a : List (List UInt8)) (k : Int) (h0 : 0 ≤ k) (hk : k + a.flatten.length ≤ 9223372036854775807) (hl : a.length ≤ 4194304) :
    FnOK Tryz.prog 113 [.one (.arr false true (encBB a)), .one (.d (.sc (.int .i64 k)))] (fun ra os => ra = [.one (.d (.sc (.int .i64 (k + a.flatten.length))))] ∧ os.a 0 = encBB (markss a k)) := by
  refine FnOK.ofK Tryz.func113 (by kernel_rfl) dg_laws_markByteSS rs_laws_markByteSS rfl rfl ?_
  delta c_laws_markByteSS T.o X.i
  refine kSeq (kReg (kMovC rfl (kDone ?_)))
  refine kSeq (kSeq (kReg (kMovC rfl (kDone (kBlock ?_)))))
  refine kLoop (α := { i : Nat // i ≤ a.length })
    (fun y => ⟨tabSl [(0, .c (.arr 0 0)), (1, .i (k + (a.take y.1).flatten.length)), (5, .i y.1)], upd (St.init [.one (.arr false true (encBB a)), .one (.d (.sc (.int .i64 k)))]).ob 0 ⟨0, y.1, .arr true (encBB (markss (a.take y.1) k ++ a.drop y.1))⟩, []⟩) (fun y => a.length - y.1) ⟨0, by simp⟩
    (.tab (upd_self rfl) ⟨.refl _, by simpa using .refl _, .refl _, trivial⟩) ?_
  rintro ⟨i, hi⟩
  simp only
  have hlen : (markss (a.take i) k).length = i := by rw [markss_len]; simp; omega
  have hlen' : (markss (a.take i) k ++ a.drop i).length = a.length := by simp [hlen]; omega
  refine kSeq (kSeq (kReg ?_))
  refine kMovC rfl (kMovC rfl (kLen rfl rfl rfl (kBin rfl rfl rfl (kDone ?_))))
  rw [len_encBB, hlen']
  refine kCond rfl (fun h1 => ?_) (fun h1 => ?_)
  · have hlt : i < a.length := by simp at h1; omega
    have hget : (markss (a.take i) k ++ a.drop i)[i]'(by omega) = a[i] := by
      rw [List.getElem_append_right (by omega)]; simp [hlen]
    have hat : (encBB (markss (a.take i) k ++ a.drop i)).at i 0 = encB a[i] := by rw [at_encBB _ _ (by omega), hget]
    have hfl : (a.take (i + 1)).flatten.length = (a.take i).flatten.length + a[i].length := by
      rw [← List.take_append_getElem hlt, List.flatten_append, List.length_append]; simp only [List.flatten_cons, List.flatten_nil, List.append_nil]
    have htot : (a.take (i + 1)).flatten.length ≤ a.flatten.length := by
      have := congrArg (fun l => (List.flatten l).length) (List.take_append_drop (i + 1) a)
      simp only [List.flatten_append, List.length_append] at this
      omega
    refine kSkip (kSeq (kBlock (kReg ?_)))
    refine kMovC rfl (kMovC rfl (kIadA rfl rfl rfl rfl ?_ ?_))
    · rw [len_encBB, hlen']; omega
    refine kLoadE rfl rfl (v := .c (.sub 0 0 i i 0)) ?_ (kMovC rfl ?_)
    · show pickCells none (AC.ofCells 0 0 i i 0 (((encBB (markss (a.take i) k ++ a.drop i)).row i).drop 0)) = _
      rw [row_encBB _ _ (by omega)]
      rfl
    refine kCallS (ok_laws_markByteS a[i] (k + (a.take i).flatten.length) (by omega) (by omega)) rfl ⟨⟨rfl, rfl, rfl, rfl, rfl, rfl, hat.symm, rfl⟩, rfl, trivial⟩ ?_ rfl ?_
    · simp [encBB, DV.rows, hlen]; omega
    rintro ra os ⟨rfl, ho⟩
    refine ⟨_, rfl, ?_⟩
    refine kMovC rfl (kDone (kBk ?_))
    refine kReg (kMovC rfl (kAdd rfl rfl ?_ (kMovC rfl (kDone (kInv ?_)))))
    · omega
    refine ⟨⟨i + 1, hlt⟩, by simp only; omega, .tab ?_ ⟨.refl _, ?_, .refl _, trivial⟩⟩
    · refine Eq.trans ?_ (upd_upd _ _ _ _).symm
      refine congrArg (upd _ _) ?_
      show _ = Ob.mk _ _ (OK.arr _ ((encBB (markss (a.take i) k ++ a.drop i)).setCell i 0 (os.a 0)))
      rw [ho, setCell_encBB _ _ _ (by omega), take_set_succ _ _ _ _ hlt hlen, ← List.take_append_getElem hlt, markss_append]
    · show WkV (.i (k + ((a.take i).flatten.length : Int) + a[i].length)) (.i (k + ((a.take (i + 1)).flatten.length : Int)))
      rw [hfl, show k + (((a.take i).flatten.length + a[i].length : Nat) : Int) = k + ((a.take i).flatten.length : Int) + a[i].length by omega]
      exact .refl _
  · refine kExit (kExC (kExI (kExB ?_)))
    have hge : i = a.length := by simp at h1; omega
    subst hge
    refine kSeq (kReg (kMovC rfl (kMovC rfl (kDone (kRet ?_)))))
    refine endRet (ra := [.one (.d _)]) rfl ⟨⟨⟨rfl, .inl rfl⟩, trivial⟩, .nil, ⟨rfl, fun _ => rfl, rfl⟩, trivial, trivial⟩ ?_
    refine ⟨by simp, ?_⟩
    show encBB (markss (a.take a.length) k ++ a.drop a.length) = _
    simp

def c_laws_markQuestionS : C := (.seq (.reg false (.o 0 4 (.mov (.i 0)) .done)) (.seq (.seq (.reg false (.o 0 5 (.mov (.i 0)) .done)) (.block 0 (.loop (.seq (.seq (.reg false (.o 0 6 (.mov (.t 5)) (.o 1 7 (.mov (.t 0)) (.o 2 8 (.len (.t 7)) (.o 3 9 (.bin .lss (.t 6) (.t 8)) .done))))) (.cond (.t 9) .skip (.exit 0))) (.seq (.block 1 (.seq (.reg false (.o 0 12 (.mov (.t 0)) (.o 1 13 (.mov (.t 5)) (.o 2 14 (.iad 2 (.t 12) (.t 13)) (.o 3 15 (.fad (.t 14) 0) (.o 4 16 (.fad (.t 15) 0) (.o 5 17 (.load none (.t 16)) (.o 6 18 (.mov (.t 1)) (.o 7 19 (.call 19 113 [(.t 17), (.t 18)]) (.o 8 1 (.mov (.t 19)) .done)))))))))) (.seq (.reg false (.o 0 20 (.mov (.t 0)) (.o 1 21 (.mov (.t 5)) (.o 2 22 (.mov (.t 1)) (.o 3 23 (.iad 2 (.t 20) (.t 21)) (.o 4 24 (.fad (.t 23) 1) (.op 5 [] none none false (.store none (.t 24) (.t 22)) .done))))))) (.reg false (.o 0 25 (.mov (.t 1)) (.o 1 26 (.bin .add (.t 25) (.i 1)) (.o 2 1 (.mov (.t 26)) .done))))))) (.reg false (.o 0 10 (.mov (.t 5)) (.o 1 11 (.bin .add (.t 10) (.i 1)) (.o 2 5 (.mov (.t 11)) .done))))))))) (.seq (.reg false (.o 0 27 (.mov (.t 1)) (.o 1 4 (.mov (.t 27)) .done))) .ret)))
theorem dg_laws_markQuestionS : Tryz.f172.body.bind (digC Tryz.prog Tryz.f172.ntmps []) = some c_laws_markQuestionS := by kernel_rfl
theorem rs_laws_markQuestionS : resSlots Tryz.prog Tryz.f172 = some [.s 4] := by kernel_rfl
theorem ok_laws_markQuestionS (l : List Qn) (k : Int) (h0 : 0 ≤ k) (hk : k + cntQs l ≤ 9223372036854775807) (hs : SmallQs l) :
    FnOK Tryz.prog 172 [.one (.arr false true (encQ l)), .one (.d (.sc (.int .i64 k)))] (fun ra os => ra = [.one (.d (.sc (.int .i64 (k + cntQs l))))] ∧ os.a 0 = encQ (markQs l k)) := by
  refine FnOK.ofK Tryz.func172 (by kernel_rfl) dg_laws_markQuestionS rs_laws_markQuestionS rfl rfl ?_
  delta c_laws_markQuestionS T.o X.i
  have h1 := hs.len
  refine kSeq (kReg (kMovC rfl (kDone (kSeq (kSeq (kReg (kMovC rfl (kDone (kBlock ?_)))))))))
  generalize hF : (St.init [.one (.arr false true (encQ l)), .one (.d (.sc (.int .i64 k)))]).ob = F
  refine kLoop (α := { i : Nat // i ≤ l.length })
    (fun y => ⟨tabSl [(0, .c (.arr 0 0)), (1, .i (k + (cntQs (l.take y.1) : Int))), (5, .i y.1)], upd F 0 ⟨0, 2 * y.1, .arr true (encQ (markQs (l.take y.1) k ++ l.drop y.1))⟩, []⟩) (fun y => l.length - y.1) ⟨0, by simp⟩
    (.tab (by subst hF; exact upd_self rfl) ⟨.refl _, by simpa using .refl _, .refl _, trivial⟩) ?_
  rintro ⟨i, hi⟩
  simp only
  have hlen : (markQs (l.take i) k).length = i := by rw [markQs_len]; simp; omega
  have hlen' : (markQs (l.take i) k ++ l.drop i).length = l.length := by simp [hlen]; omega
  have hle := cntQs_le l i
  have hle2 := cntQs_le l (i + 1)
  rcases Nat.lt_or_ge i l.length with hlt | hge
  · have hbi := hs.mem _ (List.getElem_mem hlt)
    have hsuc := cntQs_take l i hlt
    have hget : (markQs (l.take i) k ++ l.drop i)[i]'(by omega) = l[i] := by
      rw [List.getElem_append_right (by omega)]; simp [hlen]
    have hset := set_selfQ (markQs (l.take i) k ++ l.drop i) i (by omega)
    rw [hget] at hset
    have hfin : ∀ R : Qn, R = markQ1 l[i] (k + cntQs (l.take i)) → (markQs (l.take i) k ++ l.drop i).set i R = markQs (l.take (i + 1)) k ++ l.drop (i + 1) := by
      rintro R rfl
      rw [take_set_succ _ _ _ _ hlt hlen, ← List.take_append_getElem hlt, markQs_append]
    have hc : cntQ1 l[i] = l[i].name.flatten.length + 1 := rfl
    clear hget
    revert hset hfin hlen'
    generalize markQs (l.take i) k ++ l.drop i = L
    generalize hr : l[i] = r at hc hbi hsuc
    generalize hK : k + (cntQs (l.take i) : Int) = K
    intro hlen' hset hfin
    have n1 := hbi.len
    have hiL : i < L.length := by omega
    have hKn : 0 ≤ K := by omega
    have hKm : K + cntQ1 r ≤ 9223372036854775807 := by omega
    refine kSub (t := ⟨tabSl [(0, .c (.arr 0 0)), (1, .i (K)), (5, .i i)], upd F 0 ⟨0, 2 * i, .arr true (encQ (L.set i r))⟩, []⟩) (.tab (by rw [hset]) ⟨.refl _, .refl _, .refl _, trivial⟩) ?_
    refine kSeq (kSeq (kReg (kMovC rfl (kMovC rfl (kLen rfl rfl rfl (kBin rfl rfl rfl (kDone ?_)))))))
    rw [len_encQ, List.length_set]
    refine kCond rfl (fun h1 => ?_) (fun h1 => by exfalso; simp at h1; omega)
    refine kSkip (kSeq (kBlock ?_))
    refine kSeq (kReg ?_)
    refine kMovC rfl (kMovC rfl (kIadA rfl rfl rfl rfl ?_ ?_))
    · rw [len_encQ, List.length_set]; omega
    refine kFadE rfl rfl (kFadE rfl rfl (?_))
    refine kLoadE rfl rfl (v := .c (.sub 0 0 (2 * i) i 0)) ?_ (kMovC rfl ?_)
    · show pickCells none (AC.ofCells 0 0 (2 * i) i 0 (((encQ (L.set i ⟨r.name, r.ty⟩)).row i).drop 0)) = _
      rw [row_encQS _ _ _ hiL]
      rfl
    refine kCallS (ok_laws_markByteSS r.name K (by omega) (by omega) n1) rfl ⟨⟨rfl, rfl, rfl, rfl, rfl, rfl, (at_encQS L i 0 ⟨r.name, r.ty⟩ hiL).symm, rfl⟩, rfl, trivial⟩ ?_ rfl ?_
    · simp [encQ, DV.rows]; omega
    rintro ra os ⟨rfl, ho⟩
    refine ⟨_, rfl, ?_⟩
    refine kMovC rfl (kDone ?_)
    refine kSub (t := ⟨tabSl [(0, .c (.arr 0 0)), (1, .i (K + (r.name.flatten.length : Int))), (5, .i i)], upd F 0 ⟨0, (2 * i + 1), .arr true (encQ (L.set i ⟨markss r.name (K), r.ty⟩))⟩, []⟩) (.tab ?_ ⟨.refl _, .refl _, .refl _, trivial⟩) ?_
    · refine Eq.trans ?_ (upd_upd _ _ _ _).symm
      refine congrArg (upd _ _) ?_
      show _ = Ob.mk _ _ (OK.arr _ ((encQ (L.set i ⟨r.name, r.ty⟩)).setCell i 0 (os.a 0)))
      rw [ho, setCell_encQS L i 0 ⟨r.name, r.ty⟩ ⟨markss r.name (K), r.ty⟩ _ hiL rfl]
      try rfl
    refine kSeq (kReg ?_)
    refine kMovC rfl (kMovC rfl (kMovC rfl (kIadA rfl rfl rfl rfl ?_ (kFadE rfl rfl ?_))))
    · rw [len_encQ, List.length_set]; omega
    refine kStoreE1 rfl rfl rfl rfl (by simp [encQ, DV.esz]) (kDone ?_)
    refine kSub (t := ⟨tabSl [(0, .c (.arr 0 0)), (1, .i (K + (r.name.flatten.length : Int))), (5, .i i)], upd F 0 ⟨0, (2 * i + 2), .arr true (encQ (L.set i ⟨markss r.name (K), (K + (r.name.flatten.length : Int))⟩))⟩, []⟩) (.tab ?_ ⟨.refl _, .refl _, .refl _, trivial⟩) ?_
    · refine Eq.trans ?_ (upd_upd _ _ _ _).symm
      refine congrArg (upd _ _) ?_
      show _ = Ob.mk _ _ (OK.arr _ (setRow (encQ (L.set i ⟨markss r.name (K), r.ty⟩)) i 1 _))
      rw [setRow_encQS L i 1 ⟨markss r.name (K), r.ty⟩ ⟨markss r.name (K), (K + (r.name.flatten.length : Int))⟩ _ hiL rfl]
      try rfl
    refine kReg (kMovC rfl (kAdd rfl rfl (by omega) (kMovC rfl (kDone (kBk ?_)))))
    rw [hfin _ (by rw [← hr, ← hK]; rfl)]
    refine kReg (kMovC rfl (kAdd rfl rfl (by omega) (kMovC rfl (kDone (kInv ?_)))))
    refine ⟨⟨i + 1, hlt⟩, by simp only; omega, .tab rfl ⟨.refl _, ?_, .refl _, trivial⟩⟩
    refine Eq.mp (congrArg (fun z => WkV _ (.i z)) ?_) (.refl _)
    show _ = k + ((cntQs (l.take (i + 1)) : Nat) : Int)
    omega
  · refine kSeq (kSeq (kReg (kMovC rfl (kMovC rfl (kLen rfl rfl rfl (kBin rfl rfl rfl (kDone ?_)))))))
    rw [len_encQ, hlen']
    refine kCond rfl (fun h1 => by exfalso; simp at h1; omega) (fun h1 => ?_)
    refine kExit (kExC (kExI (kExB ?_)))
    obtain rfl : i = l.length := by omega
    refine kSeq (kReg (kMovC rfl (kMovC rfl (kDone (kRet ?_)))))
    subst hF
    refine endRet (ra := [.one (.d _)]) rfl ⟨⟨⟨rfl, .inl rfl⟩, trivial⟩, .nil, ⟨rfl, fun _ => rfl, rfl⟩, trivial, trivial⟩ ?_
    refine ⟨by simp, ?_⟩
    show encQ (markQs (l.take l.length) k ++ l.drop l.length) = _
    simp

def c_laws_markIntS : C := (.seq (.reg false (.o 0 4 (.mov (.i 0)) .done)) (.seq (.seq (.reg false (.o 0 5 (.mov (.i 0)) .done)) (.block 0 (.loop (.seq (.seq (.reg false (.o 0 6 (.mov (.t 5)) (.o 1 7 (.mov (.t 0)) (.o 2 8 (.len (.t 7)) (.o 3 9 (.bin .lss (.t 6) (.t 8)) .done))))) (.cond (.t 9) .skip (.exit 0))) (.seq (.block 1 (.seq (.reg false (.o 0 12 (.mov (.t 0)) (.o 1 13 (.mov (.t 5)) (.o 2 14 (.mov (.t 1)) (.o 3 15 (.iad 1 (.t 12) (.t 13)) (.op 4 [] none none false (.store none (.t 15) (.t 14)) .done)))))) (.reg false (.o 0 16 (.mov (.t 1)) (.o 1 17 (.bin .add (.t 16) (.i 1)) (.o 2 1 (.mov (.t 17)) .done)))))) (.reg false (.o 0 10 (.mov (.t 5)) (.o 1 11 (.bin .add (.t 10) (.i 1)) (.o 2 5 (.mov (.t 11)) .done))))))))) (.seq (.reg false (.o 0 18 (.mov (.t 1)) (.o 1 4 (.mov (.t 18)) .done))) .ret)))
theorem dg_laws_markIntS : Tryz.f130.body.bind (digC Tryz.prog Tryz.f130.ntmps []) = some c_laws_markIntS := by kernel_rfl
theorem rs_laws_markIntS : resSlots Tryz.prog Tryz.f130 = some [.s 4] := by kernel_rfl
theorem ok_laws_markIntS (a : List Int) (k : Int) (h0 : 0 ≤ k) (hk : k + a.length ≤ 9223372036854775807) :
    FnOK Tryz.prog 130 [.one (.arr false true (encI a)), .one (.d (.sc (.int .i64 k)))] (fun ra os => ra = [.one (.d (.sc (.int .i64 (k + a.length))))] ∧ os.a 0 = encI (marksI a.length k)) := by
  refine FnOK.ofK Tryz.func130 (by kernel_rfl) dg_laws_markIntS rs_laws_markIntS rfl rfl ?_
  delta c_laws_markIntS T.o X.i
  refine kSeq (kReg (kMovC rfl (kDone (kSeq (kSeq (kReg (kMovC rfl (kDone (kBlock ?_)))))))))
  refine kLoop (α := { i : Nat // i ≤ a.length })
    (fun y => ⟨tabSl [(0, .c (.arr 0 0)), (1, .i (k + (y.1 : Int))), (5, .i y.1)], upd (St.init [.one (.arr false true (encI a)), .one (.d (.sc (.int .i64 k)))]).ob 0 ⟨0, y.1, .arr true (encI (marksI y.1 k ++ a.drop y.1))⟩, []⟩) (fun y => a.length - y.1) ⟨0, by simp⟩
    (.tab (upd_self rfl) ⟨.refl _, by simpa using .refl _, .refl _, trivial⟩) ?_
  rintro ⟨i, hi⟩
  simp only
  have hlen : (marksI i k ++ a.drop i).length = a.length := by simp [marksI_len]; omega
  rcases Nat.lt_or_ge i a.length with hlt | hge
  · refine kSeq (kSeq (kReg (kMovC rfl (kMovC rfl (kLenR rfl rfl (kBin rfl rfl rfl (kDone (kCondP rfl (fun g0 => kSkip (kSeq (kBlock (kSeq (kReg (kMovC rfl (kMovC rfl (kMovC rfl (kIadAR rfl rfl rfl rfl (by omega) (kStoreER rfl rfl rfl rfl rfl rfl rfl (by omega) rfl (kDone (kReg (kMovC rfl (kAdd rfl rfl (by omega) (kMovC rfl (kDone (kBk (kReg (kMovC rfl (kAdd rfl rfl (by omega) (kMovC rfl (kDone ?_)))))))))))))))))))))) (fun g0 => (by omega))))))))))
    refine kInv ⟨⟨i + 1, hlt⟩, by simp only; omega, .tab ?_ ⟨.refl _, ?_, .refl _, trivial⟩⟩
    · show _ = upd (upd _ 0 _) 0 _
      rw [upd_upd]
      refine congrArg (upd _ _) ?_
      rw [marksI_succ]
      exact congrArg (fun z => Ob.mk 0 (i + 1) (OK.arr true (encI z))) (take_set_succ _ _ _ _ hlt (marksI_len i k)).symm
    · show WkV (.i (k + i + 1)) (.i (k + ((i + 1 : Nat) : Int)))
      rw [show k + ((i + 1 : Nat) : Int) = k + i + 1 by omega]
      exact .refl _
  · refine kSeq (kSeq (kReg (kMovC rfl (kMovC rfl (kLenR rfl rfl (kBin rfl rfl rfl (kDone (kCondP rfl (fun g0 => (by omega)) (fun g0 => kExit (kExC (kExI (kExB (kSeq (kReg (kMovC rfl (kMovC rfl (kDone (kRet (endRetA (ra := [.one (.d _)]) rfl ?_)))))))))))))))))))
    obtain rfl : i = a.length := by omega
    refine ⟨rfl, ?_⟩
    show encI (marksI a.length k ++ a.drop a.length) = _
    simp

def c_laws_markRrS : C := (.seq (.reg false (.o 0 4 (.mov (.i 0)) .done)) (.seq (.seq (.reg false (.o 0 5 (.mov (.i 0)) .done)) (.block 0 (.loop (.seq (.seq (.reg false (.o 0 6 (.mov (.t 5)) (.o 1 7 (.mov (.t 0)) (.o 2 8 (.len (.t 7)) (.o 3 9 (.bin .lss (.t 6) (.t 8)) .done))))) (.cond (.t 9) .skip (.exit 0))) (.seq (.block 1 (.seq (.reg false (.o 0 12 (.mov (.t 0)) (.o 1 13 (.mov (.t 5)) (.o 2 14 (.iad 7 (.t 12) (.t 13)) (.o 3 15 (.fad (.t 14) 0) (.o 4 16 (.fad (.t 15) 0) (.o 5 17 (.load none (.t 16)) (.o 6 18 (.mov (.t 1)) (.o 7 19 (.call 19 113 [(.t 17), (.t 18)]) (.o 8 1 (.mov (.t 19)) .done)))))))))) (.seq (.reg false (.o 0 20 (.mov (.t 0)) (.o 1 21 (.mov (.t 5)) (.o 2 22 (.mov (.t 1)) (.o 3 23 (.iad 7 (.t 20) (.t 21)) (.o 4 24 (.fad (.t 23) 1) (.op 5 [] none none false (.store none (.t 24) (.t 22)) .done))))))) (.seq (.reg false (.o 0 25 (.mov (.t 1)) (.o 1 26 (.bin .add (.t 25) (.i 1)) (.o 2 1 (.mov (.t 26)) .done)))) (.seq (.reg false (.o 0 27 (.mov (.t 0)) (.o 1 28 (.mov (.t 5)) (.o 2 29 (.mov (.t 1)) (.o 3 30 (.iad 7 (.t 27) (.t 28)) (.o 4 31 (.fad (.t 30) 2) (.op 5 [] none none false (.store none (.t 31) (.t 29)) .done))))))) (.seq (.reg false (.o 0 32 (.mov (.t 1)) (.o 1 33 (.bin .add (.t 32) (.i 1)) (.o 2 1 (.mov (.t 33)) .done)))) (.seq (.reg false (.o 0 34 (.mov (.t 0)) (.o 1 35 (.mov (.t 5)) (.o 2 36 (.mov (.t 1)) (.o 3 37 (.iad 7 (.t 34) (.t 35)) (.o 4 38 (.fad (.t 37) 3) (.op 5 [] none none false (.store none (.t 38) (.t 36)) .done))))))) (.seq (.reg false (.o 0 39 (.mov (.t 1)) (.o 1 40 (.bin .add (.t 39) (.i 1)) (.o 2 1 (.mov (.t 40)) .done)))) (.seq (.reg false (.o 0 41 (.mov (.t 0)) (.o 1 42 (.mov (.t 5)) (.o 2 43 (.iad 7 (.t 41) (.t 42)) (.o 3 44 (.fad (.t 43) 4) (.o 4 45 (.fad (.t 44) 0) (.o 5 46 (.load none (.t 45)) (.o 6 47 (.mov (.t 1)) (.o 7 48 (.call 48 113 [(.t 46), (.t 47)]) (.o 8 1 (.mov (.t 48)) .done)))))))))) (.seq (.reg false (.o 0 49 (.mov (.t 0)) (.o 1 50 (.mov (.t 5)) (.o 2 51 (.iad 7 (.t 49) (.t 50)) (.o 3 52 (.fad (.t 51) 5) (.o 4 53 (.load none (.t 52)) (.o 5 54 (.mov (.t 1)) (.o 6 55 (.call 55 159 [(.t 53), (.t 54)]) (.o 7 1 (.mov (.t 55)) .done))))))))) (.reg false (.o 0 56 (.mov (.t 0)) (.o 1 57 (.mov (.t 5)) (.o 2 58 (.iad 7 (.t 56) (.t 57)) (.o 3 59 (.fad (.t 58) 6) (.o 4 60 (.load none (.t 59)) (.o 5 61 (.mov (.t 1)) (.o 6 62 (.call 62 130 [(.t 60), (.t 61)]) (.o 7 1 (.mov (.t 62)) .done))))))))))))))))))) (.reg false (.o 0 10 (.mov (.t 5)) (.o 1 11 (.bin .add (.t 10) (.i 1)) (.o 2 5 (.mov (.t 11)) .done))))))))) (.seq (.reg false (.o 0 63 (.mov (.t 1)) (.o 1 4 (.mov (.t 63)) .done))) .ret)))
theorem dg_laws_markRrS : Tryz.f62.body.bind (digC Tryz.prog Tryz.f62.ntmps []) = some c_laws_markRrS := by kernel_rfl
theorem rs_laws_markRrS : resSlots Tryz.prog Tryz.f62 = some [.s 4] := by kernel_rfl
theorem ok_laws_markRrS (l : List Rr) (k : Int) (h0 : 0 ≤ k) (hk : k + cntRs l ≤ 9223372036854775807) (hs : SmallRs l) :
    FnOK Tryz.prog 62 [.one (.arr false true (encR l)), .one (.d (.sc (.int .i64 k)))] (fun ra os => ra = [.one (.d (.sc (.int .i64 (k + cntRs l))))] ∧ os.a 0 = encR (markRs l k)) := by
  refine FnOK.ofK Tryz.func62 (by kernel_rfl) dg_laws_markRrS rs_laws_markRrS rfl rfl ?_
  delta c_laws_markRrS T.o X.i
  have h1 := hs.len
  refine kSeq (kReg (kMovC rfl (kDone (kSeq (kSeq (kReg (kMovC rfl (kDone (kBlock ?_)))))))))
  generalize hF : (St.init [.one (.arr false true (encR l)), .one (.d (.sc (.int .i64 k)))]).ob = F
  refine kLoop (α := { i : Nat // i ≤ l.length })
    (fun y => ⟨tabSl [(0, .c (.arr 0 0)), (1, .i (k + (cntRs (l.take y.1) : Int))), (5, .i y.1)], upd F 0 ⟨0, 7 * y.1, .arr true (encR (markRs (l.take y.1) k ++ l.drop y.1))⟩, []⟩) (fun y => l.length - y.1) ⟨0, by simp⟩
    (.tab (by subst hF; exact upd_self rfl) ⟨.refl _, by simpa using .refl _, .refl _, trivial⟩) ?_
  rintro ⟨i, hi⟩
  simp only
  have hlen : (markRs (l.take i) k).length = i := by rw [markRs_len]; simp; omega
  have hlen' : (markRs (l.take i) k ++ l.drop i).length = l.length := by simp [hlen]; omega
  have hle := cntRs_le l i
  have hle2 := cntRs_le l (i + 1)
  rcases Nat.lt_or_ge i l.length with hlt | hge
  · have hbi := hs.mem _ (List.getElem_mem hlt)
    have hsuc := cntRs_take l i hlt
    have hget : (markRs (l.take i) k ++ l.drop i)[i]'(by omega) = l[i] := by
      rw [List.getElem_append_right (by omega)]; simp [hlen]
    have hset := set_self (markRs (l.take i) k ++ l.drop i) i (by omega)
    rw [hget] at hset
    have hfin : ∀ R : Rr, R = markR l[i] (k + cntRs (l.take i)) → (markRs (l.take i) k ++ l.drop i).set i R = markRs (l.take (i + 1)) k ++ l.drop (i + 1) := by
      rintro R rfl
      rw [take_set_succ _ _ _ _ hlt hlen, ← List.take_append_getElem hlt, markRs_append]
    have hc : cntR l[i] = l[i].name.flatten.length + 3 + l[i].to.flatten.length + l[i].text.length + l[i].nums.length := rfl
    clear hget
    revert hset hfin hlen'
    generalize markRs (l.take i) k ++ l.drop i = L
    generalize hr : l[i] = r at hc hbi hsuc
    generalize hK : k + (cntRs (l.take i) : Int) = K
    intro hlen' hset hfin
    have n1 := hbi.n.len
    have t1 := hbi.t.len
    have x1 := hbi.x
    have m1 := hbi.m
    have hiL : i < L.length := by omega
    have hKn : 0 ≤ K := by omega
    have hKm : K + cntR r ≤ 9223372036854775807 := by omega
    refine kSub (t := ⟨tabSl [(0, .c (.arr 0 0)), (1, .i (K)), (5, .i i)], upd F 0 ⟨0, 7 * i, .arr true (encR (L.set i r))⟩, []⟩) (.tab (by rw [hset]) ⟨.refl _, .refl _, .refl _, trivial⟩) ?_
    refine kSeq (kSeq (kReg (kMovC rfl (kMovC rfl (kLen rfl rfl rfl (kBin rfl rfl rfl (kDone ?_)))))))
    rw [len_encR, List.length_set]
    refine kCond rfl (fun h1 => ?_) (fun h1 => by exfalso; simp at h1; omega)
    refine kSkip (kSeq (kBlock ?_))
    refine kSeq (kReg ?_)
    refine kMovC rfl (kMovC rfl (kIadA rfl rfl rfl rfl ?_ ?_))
    · rw [len_encR, List.length_set]; omega
    refine kFadE rfl rfl (kFadE rfl rfl (?_))
    refine kLoadE rfl rfl (v := .c (.sub 0 0 (7 * i) i 0)) ?_ (kMovC rfl ?_)
    · show pickCells none (AC.ofCells 0 0 (7 * i) i 0 (((encR (L.set i ⟨r.name, r.ty, r.ttl, r.addr, r.to, r.text, r.nums⟩)).row i).drop 0)) = _
      rw [row_encRS _ _ _ hiL]
      rfl
    refine kCallS (ok_laws_markByteSS r.name K (by omega) (by omega) n1) rfl ⟨⟨rfl, rfl, rfl, rfl, rfl, rfl, (at_encRS L i 0 ⟨r.name, r.ty, r.ttl, r.addr, r.to, r.text, r.nums⟩ hiL).symm, rfl⟩, rfl, trivial⟩ ?_ rfl ?_
    · simp [encR, DV.rows]; omega
    rintro ra os ⟨rfl, ho⟩
    refine ⟨_, rfl, ?_⟩
    refine kMovC rfl (kDone ?_)
    refine kSub (t := ⟨tabSl [(0, .c (.arr 0 0)), (1, .i (K + (r.name.flatten.length : Int))), (5, .i i)], upd F 0 ⟨0, (7 * i + 1), .arr true (encR (L.set i ⟨markss r.name (K), r.ty, r.ttl, r.addr, r.to, r.text, r.nums⟩))⟩, []⟩) (.tab ?_ ⟨.refl _, .refl _, .refl _, trivial⟩) ?_
    · refine Eq.trans ?_ (upd_upd _ _ _ _).symm
      refine congrArg (upd _ _) ?_
      show _ = Ob.mk _ _ (OK.arr _ ((encR (L.set i ⟨r.name, r.ty, r.ttl, r.addr, r.to, r.text, r.nums⟩)).setCell i 0 (os.a 0)))
      rw [ho, setCell_encRS L i 0 ⟨r.name, r.ty, r.ttl, r.addr, r.to, r.text, r.nums⟩ ⟨markss r.name (K), r.ty, r.ttl, r.addr, r.to, r.text, r.nums⟩ _ hiL rfl]
      try rfl
    refine kSeq (kReg ?_)
    refine kMovC rfl (kMovC rfl (kMovC rfl (kIadA rfl rfl rfl rfl ?_ (kFadE rfl rfl ?_))))
    · rw [len_encR, List.length_set]; omega
    refine kStoreE1 rfl rfl rfl rfl (by simp [encR, DV.esz]) (kDone ?_)
    refine kSub (t := ⟨tabSl [(0, .c (.arr 0 0)), (1, .i (K + (r.name.flatten.length : Int))), (5, .i i)], upd F 0 ⟨0, (7 * i + 2), .arr true (encR (L.set i ⟨markss r.name (K), (K + (r.name.flatten.length : Int)), r.ttl, r.addr, r.to, r.text, r.nums⟩))⟩, []⟩) (.tab ?_ ⟨.refl _, .refl _, .refl _, trivial⟩) ?_
    · refine Eq.trans ?_ (upd_upd _ _ _ _).symm
      refine congrArg (upd _ _) ?_
      show _ = Ob.mk _ _ (OK.arr _ (setRow (encR (L.set i ⟨markss r.name (K), r.ty, r.ttl, r.addr, r.to, r.text, r.nums⟩)) i 1 _))
      rw [setRow_encRS L i 1 ⟨markss r.name (K), r.ty, r.ttl, r.addr, r.to, r.text, r.nums⟩ ⟨markss r.name (K), (K + (r.name.flatten.length : Int)), r.ttl, r.addr, r.to, r.text, r.nums⟩ _ hiL rfl]
      try rfl
    refine kSeq (kReg (kMovC rfl (kAdd rfl rfl (by omega) (kMovC rfl (kDone ?_)))))
    refine kSeq (kReg ?_)
    refine kMovC rfl (kMovC rfl (kMovC rfl (kIadA rfl rfl rfl rfl ?_ (kFadE rfl rfl ?_))))
    · rw [len_encR, List.length_set]; omega
    refine kStoreE1 rfl rfl rfl rfl (by simp [encR, DV.esz]) (kDone ?_)
    refine kSub (t := ⟨tabSl [(0, .c (.arr 0 0)), (1, .i (K + (r.name.flatten.length : Int) + 1)), (5, .i i)], upd F 0 ⟨0, (7 * i + 3), .arr true (encR (L.set i ⟨markss r.name (K), (K + (r.name.flatten.length : Int)), (K + (r.name.flatten.length : Int) + 1), r.addr, r.to, r.text, r.nums⟩))⟩, []⟩) (.tab ?_ ⟨.refl _, .refl _, .refl _, trivial⟩) ?_
    · refine Eq.trans ?_ (upd_upd _ _ _ _).symm
      refine congrArg (upd _ _) ?_
      show _ = Ob.mk _ _ (OK.arr _ (setRow (encR (L.set i ⟨markss r.name (K), (K + (r.name.flatten.length : Int)), r.ttl, r.addr, r.to, r.text, r.nums⟩)) i 2 _))
      rw [setRow_encRS L i 2 ⟨markss r.name (K), (K + (r.name.flatten.length : Int)), r.ttl, r.addr, r.to, r.text, r.nums⟩ ⟨markss r.name (K), (K + (r.name.flatten.length : Int)), (K + (r.name.flatten.length : Int) + 1), r.addr, r.to, r.text, r.nums⟩ _ hiL rfl]
      try rfl
    refine kSeq (kReg (kMovC rfl (kAdd rfl rfl (by omega) (kMovC rfl (kDone ?_)))))
    refine kSeq (kReg ?_)
    refine kMovC rfl (kMovC rfl (kMovC rfl (kIadA rfl rfl rfl rfl ?_ (kFadE rfl rfl ?_))))
    · rw [len_encR, List.length_set]; omega
    refine kStoreE1 rfl rfl rfl rfl (by simp [encR, DV.esz]) (kDone ?_)
    refine kSub (t := ⟨tabSl [(0, .c (.arr 0 0)), (1, .i (K + (r.name.flatten.length : Int) + 1 + 1)), (5, .i i)], upd F 0 ⟨0, (7 * i + 4), .arr true (encR (L.set i ⟨markss r.name (K), (K + (r.name.flatten.length : Int)), (K + (r.name.flatten.length : Int) + 1), (K + (r.name.flatten.length : Int) + 1 + 1), r.to, r.text, r.nums⟩))⟩, []⟩) (.tab ?_ ⟨.refl _, .refl _, .refl _, trivial⟩) ?_
    · refine Eq.trans ?_ (upd_upd _ _ _ _).symm
      refine congrArg (upd _ _) ?_
      show _ = Ob.mk _ _ (OK.arr _ (setRow (encR (L.set i ⟨markss r.name (K), (K + (r.name.flatten.length : Int)), (K + (r.name.flatten.length : Int) + 1), r.addr, r.to, r.text, r.nums⟩)) i 3 _))
      rw [setRow_encRS L i 3 ⟨markss r.name (K), (K + (r.name.flatten.length : Int)), (K + (r.name.flatten.length : Int) + 1), r.addr, r.to, r.text, r.nums⟩ ⟨markss r.name (K), (K + (r.name.flatten.length : Int)), (K + (r.name.flatten.length : Int) + 1), (K + (r.name.flatten.length : Int) + 1 + 1), r.to, r.text, r.nums⟩ _ hiL rfl]
      try rfl
    refine kSeq (kReg (kMovC rfl (kAdd rfl rfl (by omega) (kMovC rfl (kDone ?_)))))
    refine kSeq (kReg ?_)
    refine kMovC rfl (kMovC rfl (kIadA rfl rfl rfl rfl ?_ ?_))
    · rw [len_encR, List.length_set]; omega
    refine kFadE rfl rfl (kFadE rfl rfl (?_))
    refine kLoadE rfl rfl (v := .c (.sub 0 0 (7 * i + 4) i 4)) ?_ (kMovC rfl ?_)
    · show pickCells none (AC.ofCells 0 0 (7 * i + 4) i 4 (((encR (L.set i ⟨markss r.name (K), (K + (r.name.flatten.length : Int)), (K + (r.name.flatten.length : Int) + 1), (K + (r.name.flatten.length : Int) + 1 + 1), r.to, r.text, r.nums⟩)).row i).drop 4)) = _
      rw [row_encRS _ _ _ hiL]
      rfl
    refine kCallS (ok_laws_markByteSS r.to _ (by omega) (by omega) t1) rfl ⟨⟨rfl, rfl, rfl, rfl, rfl, rfl, (at_encRS L i 4 ⟨markss r.name (K), (K + (r.name.flatten.length : Int)), (K + (r.name.flatten.length : Int) + 1), (K + (r.name.flatten.length : Int) + 1 + 1), r.to, r.text, r.nums⟩ hiL).symm, rfl⟩, rfl, trivial⟩ ?_ rfl ?_
    · simp [encR, DV.rows]; omega
    rintro ra os ⟨rfl, ho⟩
    refine ⟨_, rfl, ?_⟩
    refine kMovC rfl (kDone ?_)
    refine kSub (t := ⟨tabSl [(0, .c (.arr 0 0)), (1, .i (K + (r.name.flatten.length : Int) + 1 + 1 + 1 + (r.to.flatten.length : Int))), (5, .i i)], upd F 0 ⟨0, (7 * i + 5), .arr true (encR (L.set i ⟨markss r.name (K), (K + (r.name.flatten.length : Int)), (K + (r.name.flatten.length : Int) + 1), (K + (r.name.flatten.length : Int) + 1 + 1), markss r.to (K + (r.name.flatten.length : Int) + 1 + 1 + 1), r.text, r.nums⟩))⟩, []⟩) (.tab ?_ ⟨.refl _, .refl _, .refl _, trivial⟩) ?_
    · refine Eq.trans ?_ (upd_upd _ _ _ _).symm
      refine congrArg (upd _ _) ?_
      show _ = Ob.mk _ _ (OK.arr _ ((encR (L.set i ⟨markss r.name (K), (K + (r.name.flatten.length : Int)), (K + (r.name.flatten.length : Int) + 1), (K + (r.name.flatten.length : Int) + 1 + 1), r.to, r.text, r.nums⟩)).setCell i 4 (os.a 0)))
      rw [ho, setCell_encRS L i 4 ⟨markss r.name (K), (K + (r.name.flatten.length : Int)), (K + (r.name.flatten.length : Int) + 1), (K + (r.name.flatten.length : Int) + 1 + 1), r.to, r.text, r.nums⟩ ⟨markss r.name (K), (K + (r.name.flatten.length : Int)), (K + (r.name.flatten.length : Int) + 1), (K + (r.name.flatten.length : Int) + 1 + 1), markss r.to (K + (r.name.flatten.length : Int) + 1 + 1 + 1), r.text, r.nums⟩ _ hiL rfl]
      try rfl
    refine kSeq (kReg ?_)
    refine kMovC rfl (kMovC rfl (kIadA rfl rfl rfl rfl ?_ ?_))
    · rw [len_encR, List.length_set]; omega
    refine kFadE rfl rfl (?_)
    refine kLoadE rfl rfl (v := .c (.sub 0 0 (7 * i + 5) i 5)) ?_ (kMovC rfl ?_)
    · show pickCells none (AC.ofCells 0 0 (7 * i + 5) i 5 (((encR (L.set i ⟨markss r.name (K), (K + (r.name.flatten.length : Int)), (K + (r.name.flatten.length : Int) + 1), (K + (r.name.flatten.length : Int) + 1 + 1), markss r.to (K + (r.name.flatten.length : Int) + 1 + 1 + 1), r.text, r.nums⟩)).row i).drop 5)) = _
      rw [row_encRS _ _ _ hiL]
      rfl
    refine kCallS (ok_laws_markByteS r.text _ (by omega) (by omega)) rfl ⟨⟨rfl, rfl, rfl, rfl, rfl, rfl, (at_encRS L i 5 ⟨markss r.name (K), (K + (r.name.flatten.length : Int)), (K + (r.name.flatten.length : Int) + 1), (K + (r.name.flatten.length : Int) + 1 + 1), markss r.to (K + (r.name.flatten.length : Int) + 1 + 1 + 1), r.text, r.nums⟩ hiL).symm, rfl⟩, rfl, trivial⟩ ?_ rfl ?_
    · simp [encR, DV.rows]; omega
    rintro ra os ⟨rfl, ho⟩
    refine ⟨_, rfl, ?_⟩
    refine kMovC rfl (kDone ?_)
    refine kSub (t := ⟨tabSl [(0, .c (.arr 0 0)), (1, .i (K + (r.name.flatten.length : Int) + 1 + 1 + 1 + (r.to.flatten.length : Int) + (r.text.length : Int))), (5, .i i)], upd F 0 ⟨0, (7 * i + 6), .arr true (encR (L.set i ⟨markss r.name (K), (K + (r.name.flatten.length : Int)), (K + (r.name.flatten.length : Int) + 1), (K + (r.name.flatten.length : Int) + 1 + 1), markss r.to (K + (r.name.flatten.length : Int) + 1 + 1 + 1), marks r.text.length (K + (r.name.flatten.length : Int) + 1 + 1 + 1 + (r.to.flatten.length : Int)), r.nums⟩))⟩, []⟩) (.tab ?_ ⟨.refl _, .refl _, .refl _, trivial⟩) ?_
    · refine Eq.trans ?_ (upd_upd _ _ _ _).symm
      refine congrArg (upd _ _) ?_
      show _ = Ob.mk _ _ (OK.arr _ ((encR (L.set i ⟨markss r.name (K), (K + (r.name.flatten.length : Int)), (K + (r.name.flatten.length : Int) + 1), (K + (r.name.flatten.length : Int) + 1 + 1), markss r.to (K + (r.name.flatten.length : Int) + 1 + 1 + 1), r.text, r.nums⟩)).setCell i 5 (os.a 0)))
      rw [ho, setCell_encRS L i 5 ⟨markss r.name (K), (K + (r.name.flatten.length : Int)), (K + (r.name.flatten.length : Int) + 1), (K + (r.name.flatten.length : Int) + 1 + 1), markss r.to (K + (r.name.flatten.length : Int) + 1 + 1 + 1), r.text, r.nums⟩ ⟨markss r.name (K), (K + (r.name.flatten.length : Int)), (K + (r.name.flatten.length : Int) + 1), (K + (r.name.flatten.length : Int) + 1 + 1), markss r.to (K + (r.name.flatten.length : Int) + 1 + 1 + 1), marks r.text.length (K + (r.name.flatten.length : Int) + 1 + 1 + 1 + (r.to.flatten.length : Int)), r.nums⟩ _ hiL rfl]
      try rfl
    refine kReg ?_
    refine kMovC rfl (kMovC rfl (kIadA rfl rfl rfl rfl ?_ ?_))
    · rw [len_encR, List.length_set]; omega
    refine kFadE rfl rfl (?_)
    refine kLoadE rfl rfl (v := .c (.sub 0 0 (7 * i + 6) i 6)) ?_ (kMovC rfl ?_)
    · show pickCells none (AC.ofCells 0 0 (7 * i + 6) i 6 (((encR (L.set i ⟨markss r.name (K), (K + (r.name.flatten.length : Int)), (K + (r.name.flatten.length : Int) + 1), (K + (r.name.flatten.length : Int) + 1 + 1), markss r.to (K + (r.name.flatten.length : Int) + 1 + 1 + 1), marks r.text.length (K + (r.name.flatten.length : Int) + 1 + 1 + 1 + (r.to.flatten.length : Int)), r.nums⟩)).row i).drop 6)) = _
      rw [row_encRS _ _ _ hiL]
      rfl
    refine kCallS (ok_laws_markIntS r.nums _ (by omega) (by omega)) rfl ⟨⟨rfl, rfl, rfl, rfl, rfl, rfl, (at_encRS L i 6 ⟨markss r.name (K), (K + (r.name.flatten.length : Int)), (K + (r.name.flatten.length : Int) + 1), (K + (r.name.flatten.length : Int) + 1 + 1), markss r.to (K + (r.name.flatten.length : Int) + 1 + 1 + 1), marks r.text.length (K + (r.name.flatten.length : Int) + 1 + 1 + 1 + (r.to.flatten.length : Int)), r.nums⟩ hiL).symm, rfl⟩, rfl, trivial⟩ ?_ rfl ?_
    · simp [encR, DV.rows]; omega
    rintro ra os ⟨rfl, ho⟩
    refine ⟨_, rfl, ?_⟩
    refine kMovC rfl (kDone (kBk ?_))
    refine kSub (t := ⟨tabSl [(0, .c (.arr 0 0)), (1, .i (K + (r.name.flatten.length : Int) + 1 + 1 + 1 + (r.to.flatten.length : Int) + (r.text.length : Int) + (r.nums.length : Int))), (5, .i i)], upd F 0 ⟨0, (7 * i + 7), .arr true (encR (L.set i ⟨markss r.name (K), (K + (r.name.flatten.length : Int)), (K + (r.name.flatten.length : Int) + 1), (K + (r.name.flatten.length : Int) + 1 + 1), markss r.to (K + (r.name.flatten.length : Int) + 1 + 1 + 1), marks r.text.length (K + (r.name.flatten.length : Int) + 1 + 1 + 1 + (r.to.flatten.length : Int)), marksI r.nums.length (K + (r.name.flatten.length : Int) + 1 + 1 + 1 + (r.to.flatten.length : Int) + (r.text.length : Int))⟩))⟩, []⟩) (.tab ?_ ⟨.refl _, .refl _, .refl _, trivial⟩) ?_
    · refine Eq.trans ?_ (upd_upd _ _ _ _).symm
      refine congrArg (upd _ _) ?_
      show _ = Ob.mk _ _ (OK.arr _ ((encR (L.set i ⟨markss r.name (K), (K + (r.name.flatten.length : Int)), (K + (r.name.flatten.length : Int) + 1), (K + (r.name.flatten.length : Int) + 1 + 1), markss r.to (K + (r.name.flatten.length : Int) + 1 + 1 + 1), marks r.text.length (K + (r.name.flatten.length : Int) + 1 + 1 + 1 + (r.to.flatten.length : Int)), r.nums⟩)).setCell i 6 (os.a 0)))
      rw [ho, setCell_encRS L i 6 ⟨markss r.name (K), (K + (r.name.flatten.length : Int)), (K + (r.name.flatten.length : Int) + 1), (K + (r.name.flatten.length : Int) + 1 + 1), markss r.to (K + (r.name.flatten.length : Int) + 1 + 1 + 1), marks r.text.length (K + (r.name.flatten.length : Int) + 1 + 1 + 1 + (r.to.flatten.length : Int)), r.nums⟩ ⟨markss r.name (K), (K + (r.name.flatten.length : Int)), (K + (r.name.flatten.length : Int) + 1), (K + (r.name.flatten.length : Int) + 1 + 1), markss r.to (K + (r.name.flatten.length : Int) + 1 + 1 + 1), marks r.text.length (K + (r.name.flatten.length : Int) + 1 + 1 + 1 + (r.to.flatten.length : Int)), marksI r.nums.length (K + (r.name.flatten.length : Int) + 1 + 1 + 1 + (r.to.flatten.length : Int) + (r.text.length : Int))⟩ _ hiL rfl]
      try rfl
    rw [hfin _ (by rw [← hr, ← hK]; rfl)]
    refine kReg (kMovC rfl (kAdd rfl rfl (by omega) (kMovC rfl (kDone (kInv ?_)))))
    refine ⟨⟨i + 1, hlt⟩, by simp only; omega, .tab rfl ⟨.refl _, ?_, .refl _, trivial⟩⟩
    refine Eq.mp (congrArg (fun z => WkV _ (.i z)) ?_) (.refl _)
    show _ = k + ((cntRs (l.take (i + 1)) : Nat) : Int)
    omega
  · refine kSeq (kSeq (kReg (kMovC rfl (kMovC rfl (kLen rfl rfl rfl (kBin rfl rfl rfl (kDone ?_)))))))
    rw [len_encR, hlen']
    refine kCond rfl (fun h1 => by exfalso; simp at h1; omega) (fun h1 => ?_)
    refine kExit (kExC (kExI (kExB ?_)))
    obtain rfl : i = l.length := by omega
    refine kSeq (kReg (kMovC rfl (kMovC rfl (kDone (kRet ?_)))))
    subst hF
    refine endRet (ra := [.one (.d _)]) rfl ⟨⟨⟨rfl, .inl rfl⟩, trivial⟩, .nil, ⟨rfl, fun _ => rfl, rfl⟩, trivial, trivial⟩ ?_
    refine ⟨by simp, ?_⟩
    show encR (markRs (l.take l.length) k ++ l.drop l.length) = _
    simp


def c_laws_markWantS : C := (.seq (.reg false (.o 0 4 (.mov (.i 0)) .done)) (.seq (.seq (.reg false (.o 0 5 (.mov (.i 0)) .done)) (.block 0 (.loop (.seq (.seq (.reg false (.o 0 6 (.mov (.t 5)) (.o 1 7 (.mov (.t 0)) (.o 2 8 (.len (.t 7)) (.o 3 9 (.bin .lss (.t 6) (.t 8)) .done))))) (.cond (.t 9) .skip (.exit 0))) (.seq (.block 1 (.seq (.reg false (.o 0 12 (.mov (.t 0)) (.o 1 13 (.mov (.t 5)) (.o 2 14 (.iad 9 (.t 12) (.t 13)) (.o 3 15 (.fad (.t 14) 0) (.o 4 16 (.fad (.t 15) 0) (.o 5 17 (.fad (.t 16) 0) (.o 6 18 (.load none (.t 17)) (.o 7 19 (.mov (.t 1)) (.o 8 20 (.call 20 113 [(.t 18), (.t 19)]) (.o 9 1 (.mov (.t 20)) .done))))))))))) (.seq (.reg false (.o 0 21 (.mov (.t 0)) (.o 1 22 (.mov (.t 5)) (.o 2 23 (.mov (.t 1)) (.o 3 24 (.iad 9 (.t 21) (.t 22)) (.o 4 25 (.fad (.t 24) 0) (.o 5 26 (.fad (.t 25) 1) (.op 6 [] none none false (.store none (.t 26) (.t 23)) .done)))))))) (.seq (.reg false (.o 0 27 (.mov (.t 1)) (.o 1 28 (.bin .add (.t 27) (.i 1)) (.o 2 1 (.mov (.t 28)) .done)))) (.seq (.reg false (.o 0 29 (.mov (.t 0)) (.o 1 30 (.mov (.t 5)) (.o 2 31 (.mov (.t 1)) (.o 3 32 (.iad 9 (.t 29) (.t 30)) (.o 4 33 (.fad (.t 32) 0) (.o 5 34 (.fad (.t 33) 2) (.op 6 [] none none false (.store none (.t 34) (.t 31)) .done)))))))) (.seq (.reg false (.o 0 35 (.mov (.t 1)) (.o 1 36 (.bin .add (.t 35) (.i 1)) (.o 2 1 (.mov (.t 36)) .done)))) (.seq (.reg false (.o 0 37 (.mov (.t 0)) (.o 1 38 (.mov (.t 5)) (.o 2 39 (.mov (.t 1)) (.o 3 40 (.iad 9 (.t 37) (.t 38)) (.o 4 41 (.fad (.t 40) 0) (.o 5 42 (.fad (.t 41) 3) (.op 6 [] none none false (.store none (.t 42) (.t 39)) .done)))))))) (.seq (.reg false (.o 0 43 (.mov (.t 1)) (.o 1 44 (.bin .add (.t 43) (.i 1)) (.o 2 1 (.mov (.t 44)) .done)))) (.seq (.reg false (.o 0 45 (.mov (.t 0)) (.o 1 46 (.mov (.t 5)) (.o 2 47 (.iad 9 (.t 45) (.t 46)) (.o 3 48 (.fad (.t 47) 0) (.o 4 49 (.fad (.t 48) 4) (.o 5 50 (.fad (.t 49) 0) (.o 6 51 (.load none (.t 50)) (.o 7 52 (.mov (.t 1)) (.o 8 53 (.call 53 113 [(.t 51), (.t 52)]) (.o 9 1 (.mov (.t 53)) .done))))))))))) (.seq (.reg false (.o 0 54 (.mov (.t 0)) (.o 1 55 (.mov (.t 5)) (.o 2 56 (.iad 9 (.t 54) (.t 55)) (.o 3 57 (.fad (.t 56) 0) (.o 4 58 (.fad (.t 57) 5) (.o 5 59 (.load none (.t 58)) (.o 6 60 (.mov (.t 1)) (.o 7 61 (.call 61 159 [(.t 59), (.t 60)]) (.o 8 1 (.mov (.t 61)) .done)))))))))) (.seq (.reg false (.o 0 62 (.mov (.t 0)) (.o 1 63 (.mov (.t 5)) (.o 2 64 (.iad 9 (.t 62) (.t 63)) (.o 3 65 (.fad (.t 64) 0) (.o 4 66 (.fad (.t 65) 6) (.o 5 67 (.load none (.t 66)) (.o 6 68 (.mov (.t 1)) (.o 7 69 (.call 69 130 [(.t 67), (.t 68)]) (.o 8 1 (.mov (.t 69)) .done)))))))))) (.seq (.reg false (.o 0 70 (.mov (.t 0)) (.o 1 71 (.mov (.t 5)) (.o 2 72 (.mov (.t 1)) (.o 3 73 (.iad 9 (.t 70) (.t 71)) (.o 4 74 (.fad (.t 73) 7) (.op 5 [] none none false (.store none (.t 74) (.t 72)) .done))))))) (.seq (.reg false (.o 0 75 (.mov (.t 1)) (.o 1 76 (.bin .add (.t 75) (.i 1)) (.o 2 1 (.mov (.t 76)) .done)))) (.seq (.reg false (.o 0 77 (.mov (.t 0)) (.o 1 78 (.mov (.t 5)) (.o 2 79 (.mov (.t 1)) (.o 3 80 (.bin .rem (.t 79) (.i 3)) (.o 4 81 (.bin .eql (.t 80) (.i 0)) (.o 5 82 (.iad 9 (.t 77) (.t 78)) (.o 6 83 (.fad (.t 82) 8) (.op 7 [] none none false (.store none (.t 83) (.t 81)) .done))))))))) (.reg false (.o 0 84 (.mov (.t 1)) (.o 1 85 (.bin .add (.t 84) (.i 1)) (.o 2 1 (.mov (.t 85)) .done)))))))))))))))))) (.reg false (.o 0 10 (.mov (.t 5)) (.o 1 11 (.bin .add (.t 10) (.i 1)) (.o 2 5 (.mov (.t 11)) .done))))))))) (.seq (.reg false (.o 0 86 (.mov (.t 1)) (.o 1 4 (.mov (.t 86)) .done))) .ret)))
theorem dg_laws_markWantS : Tryz.f173.body.bind (digC Tryz.prog Tryz.f173.ntmps []) = some c_laws_markWantS := by kernel_rfl
theorem rs_laws_markWantS : resSlots Tryz.prog Tryz.f173 = some [.s 4] := by kernel_rfl
theorem ok_laws_markWantS (l : List (Want)) (k : Int) (h0 : 0 ≤ k) (hk : k + cntL cntW l ≤ 9223372036854775807) (hs : SmallWs l) :
    FnOK Tryz.prog 173 [.one (.arr false true (encW l)), .one (.d (.sc (.int .i64 k)))] (fun ra os => ra = [.one (.d (.sc (.int .i64 (k + cntL cntW l))))] ∧ os.a 0 = encW (markL cntW markW l k)) := by
  refine FnOK.ofK Tryz.func173 (by kernel_rfl) dg_laws_markWantS rs_laws_markWantS rfl rfl ?_
  delta c_laws_markWantS T.o X.i
  have h1 := hs.len
  refine kSeq (kReg (kMovC rfl (kDone (kSeq (kSeq (kReg (kMovC rfl (kDone (kBlock ?_)))))))))
  generalize hF : (St.init [.one (.arr false true (encW l)), .one (.d (.sc (.int .i64 k)))]).ob = F
  refine kLoop (α := { i : Nat // i ≤ l.length })
    (fun y => ⟨tabSl [(0, .c (.arr 0 0)), (1, .i (k + (cntL cntW (l.take y.1) : Int))), (5, .i y.1)], upd F 0 ⟨0, 9 * y.1, .arr true (encW (markL cntW markW (l.take y.1) k ++ l.drop y.1))⟩, []⟩) (fun y => l.length - y.1) ⟨0, by simp⟩
    (.tab (by subst hF; exact upd_self rfl) ⟨.refl _, by simpa using .refl _, .refl _, trivial⟩) ?_
  rintro ⟨i, hi⟩
  simp only
  have hlen : (markL cntW markW (l.take i) k).length = i := by rw [markL_len]; simp; omega
  have hlen' : (markL cntW markW (l.take i) k ++ l.drop i).length = l.length := by simp [hlen]; omega
  have hle := cntL_le cntW l i
  have hle2 := cntL_le cntW l (i + 1)
  rcases Nat.lt_or_ge i l.length with hlt | hge
  · have hbi := hs.mem _ (List.getElem_mem hlt)
    have hsuc := cntL_take cntW l i hlt
    have hget : (markL cntW markW (l.take i) k ++ l.drop i)[i]'(by omega) = l[i] := by
      rw [List.getElem_append_right (by omega)]; simp [hlen]
    have hset := set_selfL (markL cntW markW (l.take i) k ++ l.drop i) i (by omega)
    rw [hget] at hset
    have hfin : ∀ R : Want, R = markW l[i] (k + cntL cntW (l.take i)) → (markL cntW markW (l.take i) k ++ l.drop i).set i R = markL cntW markW (l.take (i + 1)) k ++ l.drop (i + 1) := by
      rintro R rfl
      rw [take_set_succ _ _ _ _ hlt hlen, ← List.take_append_getElem hlt, markL_append]
    have hc : cntW l[i] = l[i].rr.name.flatten.length + 3 + l[i].rr.to.flatten.length + l[i].rr.text.length + l[i].rr.nums.length + 2 := rfl
    clear hget
    revert hset hfin hlen'
    generalize markL cntW markW (l.take i) k ++ l.drop i = L
    generalize hr : l[i] = r at hc hbi hsuc
    generalize hK : k + (cntL cntW (l.take i) : Int) = K
    intro hlen' hset hfin
    have n1 := hbi.r.n.len
    have n2 := hbi.r.n.mem
    have n3 := hbi.r.t.len
    have n4 := hbi.r.t.mem
    have n5 := hbi.r.x
    have n6 := hbi.r.m
    have hiL : i < L.length := by omega
    have hKn : 0 ≤ K := by omega
    have hKm : K + cntW r ≤ 9223372036854775807 := by omega
    refine kSub (t := ⟨tabSl [(0, .c (.arr 0 0)), (1, .i (K)), (5, .i i)], upd F 0 ⟨0, 9 * i, .arr true (encW (L.set i r))⟩, []⟩) (.tab (by rw [hset]) ⟨.refl _, .refl _, .refl _, trivial⟩) ?_
    refine kSeq (kSeq (kReg (kMovC rfl (kMovC rfl (kLen rfl rfl rfl (kBin rfl rfl rfl (kDone ?_)))))))
    rw [len_encL, List.length_set]
    refine kCond rfl (fun h1 => ?_) (fun h1 => by exfalso; simp at h1; omega)
    refine kSkip (kSeq (kBlock ?_))
    refine kSeq (kReg ?_)
    refine kMovC rfl (kMovC rfl (kIadA rfl rfl rfl rfl ?_ ?_))
    · rw [len_encL, List.length_set]; omega
    refine kFadE rfl rfl (kFadE rfl rfl (kFadE rfl rfl (?_)))
    refine kLoadE rfl rfl (v := .c (.sub 0 0 (9 * i) i 0)) ?_ (kMovC rfl ?_)
    · show pickCells none (AC.ofCells 0 0 (9 * i) i 0 (((encW (L.set i ⟨⟨r.rr.name, r.rr.ty, r.rr.ttl, r.rr.addr, r.rr.to, r.rr.text, r.rr.nums⟩, r.cls, r.bare⟩)).row i).drop 0)) = _
      rw [row_encLS 9 Want.cells _ _ _ hiL]
      rfl
    refine kCallS (ok_laws_markByteSS r.rr.name _ (by omega) (by omega) n1) rfl ⟨⟨rfl, rfl, rfl, rfl, rfl, rfl, (at_encLS 9 Want.cells L i 0 ⟨⟨r.rr.name, r.rr.ty, r.rr.ttl, r.rr.addr, r.rr.to, r.rr.text, r.rr.nums⟩, r.cls, r.bare⟩ hiL).symm, rfl⟩, rfl, trivial⟩ ?_ rfl ?_
    · simp [encL, DV.rows]; omega
    rintro ra os ⟨rfl, ho⟩
    refine ⟨_, rfl, ?_⟩
    refine kMovC rfl (kDone ?_)
    refine kSub (t := ⟨tabSl [(0, .c (.arr 0 0)), (1, .i (K + (r.rr.name.flatten.length : Int))), (5, .i i)], upd F 0 ⟨0, (9 * i + 1), .arr true (encW (L.set i ⟨⟨markss r.rr.name (K), r.rr.ty, r.rr.ttl, r.rr.addr, r.rr.to, r.rr.text, r.rr.nums⟩, r.cls, r.bare⟩))⟩, []⟩) (.tab ?_ ⟨.refl _, .refl _, .refl _, trivial⟩) ?_
    · refine Eq.trans ?_ (upd_upd _ _ _ _).symm
      refine congrArg (upd _ _) ?_
      show _ = Ob.mk _ _ (OK.arr _ ((encW (L.set i ⟨⟨r.rr.name, r.rr.ty, r.rr.ttl, r.rr.addr, r.rr.to, r.rr.text, r.rr.nums⟩, r.cls, r.bare⟩)).setCell i 0 (os.a 0)))
      rw [ho, setCell_encLS 9 Want.cells L i 0 ⟨⟨r.rr.name, r.rr.ty, r.rr.ttl, r.rr.addr, r.rr.to, r.rr.text, r.rr.nums⟩, r.cls, r.bare⟩ ⟨⟨markss r.rr.name (K), r.rr.ty, r.rr.ttl, r.rr.addr, r.rr.to, r.rr.text, r.rr.nums⟩, r.cls, r.bare⟩ _ hiL rfl]
      try rfl
    refine kSeq (kReg ?_)
    refine kMovC rfl (kMovC rfl (kMovC rfl (kIadA rfl rfl rfl rfl ?_ (kFadE rfl rfl (kFadE rfl rfl ?_)))))
    · rw [len_encL, List.length_set]; omega
    refine kStoreE1 rfl rfl rfl rfl (by simp [encL, DV.esz]) (kDone ?_)
    refine kSub (t := ⟨tabSl [(0, .c (.arr 0 0)), (1, .i (K + (r.rr.name.flatten.length : Int))), (5, .i i)], upd F 0 ⟨0, (9 * i + 2), .arr true (encW (L.set i ⟨⟨markss r.rr.name (K), (K + (r.rr.name.flatten.length : Int)), r.rr.ttl, r.rr.addr, r.rr.to, r.rr.text, r.rr.nums⟩, r.cls, r.bare⟩))⟩, []⟩) (.tab ?_ ⟨.refl _, .refl _, .refl _, trivial⟩) ?_
    · refine Eq.trans ?_ (upd_upd _ _ _ _).symm
      refine congrArg (upd _ _) ?_
      show _ = Ob.mk _ _ (OK.arr _ (setRow (encW (L.set i ⟨⟨markss r.rr.name (K), r.rr.ty, r.rr.ttl, r.rr.addr, r.rr.to, r.rr.text, r.rr.nums⟩, r.cls, r.bare⟩)) i 1 _))
      rw [setRow_encLS 9 Want.cells L i 1 ⟨⟨markss r.rr.name (K), r.rr.ty, r.rr.ttl, r.rr.addr, r.rr.to, r.rr.text, r.rr.nums⟩, r.cls, r.bare⟩ ⟨⟨markss r.rr.name (K), (K + (r.rr.name.flatten.length : Int)), r.rr.ttl, r.rr.addr, r.rr.to, r.rr.text, r.rr.nums⟩, r.cls, r.bare⟩ _ hiL rfl]
      try rfl
    refine kSeq (kReg ?_)
    refine kMovC rfl (kAdd rfl rfl (by omega) (kMovC rfl (kDone ?_)))
    refine kSeq (kReg ?_)
    refine kMovC rfl (kMovC rfl (kMovC rfl (kIadA rfl rfl rfl rfl ?_ (kFadE rfl rfl (kFadE rfl rfl ?_)))))
    · rw [len_encL, List.length_set]; omega
    refine kStoreE1 rfl rfl rfl rfl (by simp [encL, DV.esz]) (kDone ?_)
    refine kSub (t := ⟨tabSl [(0, .c (.arr 0 0)), (1, .i (K + (r.rr.name.flatten.length : Int) + 1)), (5, .i i)], upd F 0 ⟨0, (9 * i + 3), .arr true (encW (L.set i ⟨⟨markss r.rr.name (K), (K + (r.rr.name.flatten.length : Int)), (K + (r.rr.name.flatten.length : Int) + 1), r.rr.addr, r.rr.to, r.rr.text, r.rr.nums⟩, r.cls, r.bare⟩))⟩, []⟩) (.tab ?_ ⟨.refl _, .refl _, .refl _, trivial⟩) ?_
    · refine Eq.trans ?_ (upd_upd _ _ _ _).symm
      refine congrArg (upd _ _) ?_
      show _ = Ob.mk _ _ (OK.arr _ (setRow (encW (L.set i ⟨⟨markss r.rr.name (K), (K + (r.rr.name.flatten.length : Int)), r.rr.ttl, r.rr.addr, r.rr.to, r.rr.text, r.rr.nums⟩, r.cls, r.bare⟩)) i 2 _))
      rw [setRow_encLS 9 Want.cells L i 2 ⟨⟨markss r.rr.name (K), (K + (r.rr.name.flatten.length : Int)), r.rr.ttl, r.rr.addr, r.rr.to, r.rr.text, r.rr.nums⟩, r.cls, r.bare⟩ ⟨⟨markss r.rr.name (K), (K + (r.rr.name.flatten.length : Int)), (K + (r.rr.name.flatten.length : Int) + 1), r.rr.addr, r.rr.to, r.rr.text, r.rr.nums⟩, r.cls, r.bare⟩ _ hiL rfl]
      try rfl
    refine kSeq (kReg ?_)
    refine kMovC rfl (kAdd rfl rfl (by omega) (kMovC rfl (kDone ?_)))
    refine kSeq (kReg ?_)
    refine kMovC rfl (kMovC rfl (kMovC rfl (kIadA rfl rfl rfl rfl ?_ (kFadE rfl rfl (kFadE rfl rfl ?_)))))
    · rw [len_encL, List.length_set]; omega
    refine kStoreE1 rfl rfl rfl rfl (by simp [encL, DV.esz]) (kDone ?_)
    refine kSub (t := ⟨tabSl [(0, .c (.arr 0 0)), (1, .i (K + (r.rr.name.flatten.length : Int) + 1 + 1)), (5, .i i)], upd F 0 ⟨0, (9 * i + 4), .arr true (encW (L.set i ⟨⟨markss r.rr.name (K), (K + (r.rr.name.flatten.length : Int)), (K + (r.rr.name.flatten.length : Int) + 1), (K + (r.rr.name.flatten.length : Int) + 1 + 1), r.rr.to, r.rr.text, r.rr.nums⟩, r.cls, r.bare⟩))⟩, []⟩) (.tab ?_ ⟨.refl _, .refl _, .refl _, trivial⟩) ?_
    · refine Eq.trans ?_ (upd_upd _ _ _ _).symm
      refine congrArg (upd _ _) ?_
      show _ = Ob.mk _ _ (OK.arr _ (setRow (encW (L.set i ⟨⟨markss r.rr.name (K), (K + (r.rr.name.flatten.length : Int)), (K + (r.rr.name.flatten.length : Int) + 1), r.rr.addr, r.rr.to, r.rr.text, r.rr.nums⟩, r.cls, r.bare⟩)) i 3 _))
      rw [setRow_encLS 9 Want.cells L i 3 ⟨⟨markss r.rr.name (K), (K + (r.rr.name.flatten.length : Int)), (K + (r.rr.name.flatten.length : Int) + 1), r.rr.addr, r.rr.to, r.rr.text, r.rr.nums⟩, r.cls, r.bare⟩ ⟨⟨markss r.rr.name (K), (K + (r.rr.name.flatten.length : Int)), (K + (r.rr.name.flatten.length : Int) + 1), (K + (r.rr.name.flatten.length : Int) + 1 + 1), r.rr.to, r.rr.text, r.rr.nums⟩, r.cls, r.bare⟩ _ hiL rfl]
      try rfl
    refine kSeq (kReg ?_)
    refine kMovC rfl (kAdd rfl rfl (by omega) (kMovC rfl (kDone ?_)))
    refine kSeq (kReg ?_)
    refine kMovC rfl (kMovC rfl (kIadA rfl rfl rfl rfl ?_ ?_))
    · rw [len_encL, List.length_set]; omega
    refine kFadE rfl rfl (kFadE rfl rfl (kFadE rfl rfl (?_)))
    refine kLoadE rfl rfl (v := .c (.sub 0 0 (9 * i + 4) i 4)) ?_ (kMovC rfl ?_)
    · show pickCells none (AC.ofCells 0 0 (9 * i + 4) i 4 (((encW (L.set i ⟨⟨markss r.rr.name (K), (K + (r.rr.name.flatten.length : Int)), (K + (r.rr.name.flatten.length : Int) + 1), (K + (r.rr.name.flatten.length : Int) + 1 + 1), r.rr.to, r.rr.text, r.rr.nums⟩, r.cls, r.bare⟩)).row i).drop 4)) = _
      rw [row_encLS 9 Want.cells _ _ _ hiL]
      rfl
    refine kCallS (ok_laws_markByteSS r.rr.to _ (by omega) (by omega) n3) rfl ⟨⟨rfl, rfl, rfl, rfl, rfl, rfl, (at_encLS 9 Want.cells L i 4 ⟨⟨markss r.rr.name (K), (K + (r.rr.name.flatten.length : Int)), (K + (r.rr.name.flatten.length : Int) + 1), (K + (r.rr.name.flatten.length : Int) + 1 + 1), r.rr.to, r.rr.text, r.rr.nums⟩, r.cls, r.bare⟩ hiL).symm, rfl⟩, rfl, trivial⟩ ?_ rfl ?_
    · simp [encL, DV.rows]; omega
    rintro ra os ⟨rfl, ho⟩
    refine ⟨_, rfl, ?_⟩
    refine kMovC rfl (kDone ?_)
    refine kSub (t := ⟨tabSl [(0, .c (.arr 0 0)), (1, .i (K + (r.rr.name.flatten.length : Int) + 1 + 1 + 1 + (r.rr.to.flatten.length : Int))), (5, .i i)], upd F 0 ⟨0, (9 * i + 5), .arr true (encW (L.set i ⟨⟨markss r.rr.name (K), (K + (r.rr.name.flatten.length : Int)), (K + (r.rr.name.flatten.length : Int) + 1), (K + (r.rr.name.flatten.length : Int) + 1 + 1), markss r.rr.to (K + (r.rr.name.flatten.length : Int) + 1 + 1 + 1), r.rr.text, r.rr.nums⟩, r.cls, r.bare⟩))⟩, []⟩) (.tab ?_ ⟨.refl _, .refl _, .refl _, trivial⟩) ?_
    · refine Eq.trans ?_ (upd_upd _ _ _ _).symm
      refine congrArg (upd _ _) ?_
      show _ = Ob.mk _ _ (OK.arr _ ((encW (L.set i ⟨⟨markss r.rr.name (K), (K + (r.rr.name.flatten.length : Int)), (K + (r.rr.name.flatten.length : Int) + 1), (K + (r.rr.name.flatten.length : Int) + 1 + 1), r.rr.to, r.rr.text, r.rr.nums⟩, r.cls, r.bare⟩)).setCell i 4 (os.a 0)))
      rw [ho, setCell_encLS 9 Want.cells L i 4 ⟨⟨markss r.rr.name (K), (K + (r.rr.name.flatten.length : Int)), (K + (r.rr.name.flatten.length : Int) + 1), (K + (r.rr.name.flatten.length : Int) + 1 + 1), r.rr.to, r.rr.text, r.rr.nums⟩, r.cls, r.bare⟩ ⟨⟨markss r.rr.name (K), (K + (r.rr.name.flatten.length : Int)), (K + (r.rr.name.flatten.length : Int) + 1), (K + (r.rr.name.flatten.length : Int) + 1 + 1), markss r.rr.to (K + (r.rr.name.flatten.length : Int) + 1 + 1 + 1), r.rr.text, r.rr.nums⟩, r.cls, r.bare⟩ _ hiL rfl]
      try rfl
    refine kSeq (kReg ?_)
    refine kMovC rfl (kMovC rfl (kIadA rfl rfl rfl rfl ?_ ?_))
    · rw [len_encL, List.length_set]; omega
    refine kFadE rfl rfl (kFadE rfl rfl (?_))
    refine kLoadE rfl rfl (v := .c (.sub 0 0 (9 * i + 5) i 5)) ?_ (kMovC rfl ?_)
    · show pickCells none (AC.ofCells 0 0 (9 * i + 5) i 5 (((encW (L.set i ⟨⟨markss r.rr.name (K), (K + (r.rr.name.flatten.length : Int)), (K + (r.rr.name.flatten.length : Int) + 1), (K + (r.rr.name.flatten.length : Int) + 1 + 1), markss r.rr.to (K + (r.rr.name.flatten.length : Int) + 1 + 1 + 1), r.rr.text, r.rr.nums⟩, r.cls, r.bare⟩)).row i).drop 5)) = _
      rw [row_encLS 9 Want.cells _ _ _ hiL]
      rfl
    refine kCallS (ok_laws_markByteS r.rr.text _ (by omega) (by omega)) rfl ⟨⟨rfl, rfl, rfl, rfl, rfl, rfl, (at_encLS 9 Want.cells L i 5 ⟨⟨markss r.rr.name (K), (K + (r.rr.name.flatten.length : Int)), (K + (r.rr.name.flatten.length : Int) + 1), (K + (r.rr.name.flatten.length : Int) + 1 + 1), markss r.rr.to (K + (r.rr.name.flatten.length : Int) + 1 + 1 + 1), r.rr.text, r.rr.nums⟩, r.cls, r.bare⟩ hiL).symm, rfl⟩, rfl, trivial⟩ ?_ rfl ?_
    · simp [encL, DV.rows]; omega
    rintro ra os ⟨rfl, ho⟩
    refine ⟨_, rfl, ?_⟩
    refine kMovC rfl (kDone ?_)
    refine kSub (t := ⟨tabSl [(0, .c (.arr 0 0)), (1, .i (K + (r.rr.name.flatten.length : Int) + 1 + 1 + 1 + (r.rr.to.flatten.length : Int) + (r.rr.text.length : Int))), (5, .i i)], upd F 0 ⟨0, (9 * i + 6), .arr true (encW (L.set i ⟨⟨markss r.rr.name (K), (K + (r.rr.name.flatten.length : Int)), (K + (r.rr.name.flatten.length : Int) + 1), (K + (r.rr.name.flatten.length : Int) + 1 + 1), markss r.rr.to (K + (r.rr.name.flatten.length : Int) + 1 + 1 + 1), marks r.rr.text.length (K + (r.rr.name.flatten.length : Int) + 1 + 1 + 1 + (r.rr.to.flatten.length : Int)), r.rr.nums⟩, r.cls, r.bare⟩))⟩, []⟩) (.tab ?_ ⟨.refl _, .refl _, .refl _, trivial⟩) ?_
    · refine Eq.trans ?_ (upd_upd _ _ _ _).symm
      refine congrArg (upd _ _) ?_
      show _ = Ob.mk _ _ (OK.arr _ ((encW (L.set i ⟨⟨markss r.rr.name (K), (K + (r.rr.name.flatten.length : Int)), (K + (r.rr.name.flatten.length : Int) + 1), (K + (r.rr.name.flatten.length : Int) + 1 + 1), markss r.rr.to (K + (r.rr.name.flatten.length : Int) + 1 + 1 + 1), r.rr.text, r.rr.nums⟩, r.cls, r.bare⟩)).setCell i 5 (os.a 0)))
      rw [ho, setCell_encLS 9 Want.cells L i 5 ⟨⟨markss r.rr.name (K), (K + (r.rr.name.flatten.length : Int)), (K + (r.rr.name.flatten.length : Int) + 1), (K + (r.rr.name.flatten.length : Int) + 1 + 1), markss r.rr.to (K + (r.rr.name.flatten.length : Int) + 1 + 1 + 1), r.rr.text, r.rr.nums⟩, r.cls, r.bare⟩ ⟨⟨markss r.rr.name (K), (K + (r.rr.name.flatten.length : Int)), (K + (r.rr.name.flatten.length : Int) + 1), (K + (r.rr.name.flatten.length : Int) + 1 + 1), markss r.rr.to (K + (r.rr.name.flatten.length : Int) + 1 + 1 + 1), marks r.rr.text.length (K + (r.rr.name.flatten.length : Int) + 1 + 1 + 1 + (r.rr.to.flatten.length : Int)), r.rr.nums⟩, r.cls, r.bare⟩ _ hiL rfl]
      try rfl
    refine kSeq (kReg ?_)
    refine kMovC rfl (kMovC rfl (kIadA rfl rfl rfl rfl ?_ ?_))
    · rw [len_encL, List.length_set]; omega
    refine kFadE rfl rfl (kFadE rfl rfl (?_))
    refine kLoadE rfl rfl (v := .c (.sub 0 0 (9 * i + 6) i 6)) ?_ (kMovC rfl ?_)
    · show pickCells none (AC.ofCells 0 0 (9 * i + 6) i 6 (((encW (L.set i ⟨⟨markss r.rr.name (K), (K + (r.rr.name.flatten.length : Int)), (K + (r.rr.name.flatten.length : Int) + 1), (K + (r.rr.name.flatten.length : Int) + 1 + 1), markss r.rr.to (K + (r.rr.name.flatten.length : Int) + 1 + 1 + 1), marks r.rr.text.length (K + (r.rr.name.flatten.length : Int) + 1 + 1 + 1 + (r.rr.to.flatten.length : Int)), r.rr.nums⟩, r.cls, r.bare⟩)).row i).drop 6)) = _
      rw [row_encLS 9 Want.cells _ _ _ hiL]
      rfl
    refine kCallS (ok_laws_markIntS r.rr.nums _ (by omega) (by omega)) rfl ⟨⟨rfl, rfl, rfl, rfl, rfl, rfl, (at_encLS 9 Want.cells L i 6 ⟨⟨markss r.rr.name (K), (K + (r.rr.name.flatten.length : Int)), (K + (r.rr.name.flatten.length : Int) + 1), (K + (r.rr.name.flatten.length : Int) + 1 + 1), markss r.rr.to (K + (r.rr.name.flatten.length : Int) + 1 + 1 + 1), marks r.rr.text.length (K + (r.rr.name.flatten.length : Int) + 1 + 1 + 1 + (r.rr.to.flatten.length : Int)), r.rr.nums⟩, r.cls, r.bare⟩ hiL).symm, rfl⟩, rfl, trivial⟩ ?_ rfl ?_
    · simp [encL, DV.rows]; omega
    rintro ra os ⟨rfl, ho⟩
    refine ⟨_, rfl, ?_⟩
    refine kMovC rfl (kDone ?_)
    refine kSub (t := ⟨tabSl [(0, .c (.arr 0 0)), (1, .i (K + (r.rr.name.flatten.length : Int) + 1 + 1 + 1 + (r.rr.to.flatten.length : Int) + (r.rr.text.length : Int) + (r.rr.nums.length : Int))), (5, .i i)], upd F 0 ⟨0, (9 * i + 7), .arr true (encW (L.set i ⟨⟨markss r.rr.name (K), (K + (r.rr.name.flatten.length : Int)), (K + (r.rr.name.flatten.length : Int) + 1), (K + (r.rr.name.flatten.length : Int) + 1 + 1), markss r.rr.to (K + (r.rr.name.flatten.length : Int) + 1 + 1 + 1), marks r.rr.text.length (K + (r.rr.name.flatten.length : Int) + 1 + 1 + 1 + (r.rr.to.flatten.length : Int)), marksI r.rr.nums.length (K + (r.rr.name.flatten.length : Int) + 1 + 1 + 1 + (r.rr.to.flatten.length : Int) + (r.rr.text.length : Int))⟩, r.cls, r.bare⟩))⟩, []⟩) (.tab ?_ ⟨.refl _, .refl _, .refl _, trivial⟩) ?_
    · refine Eq.trans ?_ (upd_upd _ _ _ _).symm
      refine congrArg (upd _ _) ?_
      show _ = Ob.mk _ _ (OK.arr _ ((encW (L.set i ⟨⟨markss r.rr.name (K), (K + (r.rr.name.flatten.length : Int)), (K + (r.rr.name.flatten.length : Int) + 1), (K + (r.rr.name.flatten.length : Int) + 1 + 1), markss r.rr.to (K + (r.rr.name.flatten.length : Int) + 1 + 1 + 1), marks r.rr.text.length (K + (r.rr.name.flatten.length : Int) + 1 + 1 + 1 + (r.rr.to.flatten.length : Int)), r.rr.nums⟩, r.cls, r.bare⟩)).setCell i 6 (os.a 0)))
      rw [ho, setCell_encLS 9 Want.cells L i 6 ⟨⟨markss r.rr.name (K), (K + (r.rr.name.flatten.length : Int)), (K + (r.rr.name.flatten.length : Int) + 1), (K + (r.rr.name.flatten.length : Int) + 1 + 1), markss r.rr.to (K + (r.rr.name.flatten.length : Int) + 1 + 1 + 1), marks r.rr.text.length (K + (r.rr.name.flatten.length : Int) + 1 + 1 + 1 + (r.rr.to.flatten.length : Int)), r.rr.nums⟩, r.cls, r.bare⟩ ⟨⟨markss r.rr.name (K), (K + (r.rr.name.flatten.length : Int)), (K + (r.rr.name.flatten.length : Int) + 1), (K + (r.rr.name.flatten.length : Int) + 1 + 1), markss r.rr.to (K + (r.rr.name.flatten.length : Int) + 1 + 1 + 1), marks r.rr.text.length (K + (r.rr.name.flatten.length : Int) + 1 + 1 + 1 + (r.rr.to.flatten.length : Int)), marksI r.rr.nums.length (K + (r.rr.name.flatten.length : Int) + 1 + 1 + 1 + (r.rr.to.flatten.length : Int) + (r.rr.text.length : Int))⟩, r.cls, r.bare⟩ _ hiL rfl]
      try rfl
    refine kSeq (kReg ?_)
    refine kMovC rfl (kMovC rfl (kMovC rfl (kIadA rfl rfl rfl rfl ?_ (kFadE rfl rfl ?_))))
    · rw [len_encL, List.length_set]; omega
    refine kStoreE1 rfl rfl rfl rfl (by simp [encL, DV.esz]) (kDone ?_)
    refine kSub (t := ⟨tabSl [(0, .c (.arr 0 0)), (1, .i (K + (r.rr.name.flatten.length : Int) + 1 + 1 + 1 + (r.rr.to.flatten.length : Int) + (r.rr.text.length : Int) + (r.rr.nums.length : Int))), (5, .i i)], upd F 0 ⟨0, (9 * i + 8), .arr true (encW (L.set i ⟨⟨markss r.rr.name (K), (K + (r.rr.name.flatten.length : Int)), (K + (r.rr.name.flatten.length : Int) + 1), (K + (r.rr.name.flatten.length : Int) + 1 + 1), markss r.rr.to (K + (r.rr.name.flatten.length : Int) + 1 + 1 + 1), marks r.rr.text.length (K + (r.rr.name.flatten.length : Int) + 1 + 1 + 1 + (r.rr.to.flatten.length : Int)), marksI r.rr.nums.length (K + (r.rr.name.flatten.length : Int) + 1 + 1 + 1 + (r.rr.to.flatten.length : Int) + (r.rr.text.length : Int))⟩, (K + (r.rr.name.flatten.length : Int) + 1 + 1 + 1 + (r.rr.to.flatten.length : Int) + (r.rr.text.length : Int) + (r.rr.nums.length : Int)), r.bare⟩))⟩, []⟩) (.tab ?_ ⟨.refl _, .refl _, .refl _, trivial⟩) ?_
    · refine Eq.trans ?_ (upd_upd _ _ _ _).symm
      refine congrArg (upd _ _) ?_
      show _ = Ob.mk _ _ (OK.arr _ (setRow (encW (L.set i ⟨⟨markss r.rr.name (K), (K + (r.rr.name.flatten.length : Int)), (K + (r.rr.name.flatten.length : Int) + 1), (K + (r.rr.name.flatten.length : Int) + 1 + 1), markss r.rr.to (K + (r.rr.name.flatten.length : Int) + 1 + 1 + 1), marks r.rr.text.length (K + (r.rr.name.flatten.length : Int) + 1 + 1 + 1 + (r.rr.to.flatten.length : Int)), marksI r.rr.nums.length (K + (r.rr.name.flatten.length : Int) + 1 + 1 + 1 + (r.rr.to.flatten.length : Int) + (r.rr.text.length : Int))⟩, r.cls, r.bare⟩)) i 7 _))
      rw [setRow_encLS 9 Want.cells L i 7 ⟨⟨markss r.rr.name (K), (K + (r.rr.name.flatten.length : Int)), (K + (r.rr.name.flatten.length : Int) + 1), (K + (r.rr.name.flatten.length : Int) + 1 + 1), markss r.rr.to (K + (r.rr.name.flatten.length : Int) + 1 + 1 + 1), marks r.rr.text.length (K + (r.rr.name.flatten.length : Int) + 1 + 1 + 1 + (r.rr.to.flatten.length : Int)), marksI r.rr.nums.length (K + (r.rr.name.flatten.length : Int) + 1 + 1 + 1 + (r.rr.to.flatten.length : Int) + (r.rr.text.length : Int))⟩, r.cls, r.bare⟩ ⟨⟨markss r.rr.name (K), (K + (r.rr.name.flatten.length : Int)), (K + (r.rr.name.flatten.length : Int) + 1), (K + (r.rr.name.flatten.length : Int) + 1 + 1), markss r.rr.to (K + (r.rr.name.flatten.length : Int) + 1 + 1 + 1), marks r.rr.text.length (K + (r.rr.name.flatten.length : Int) + 1 + 1 + 1 + (r.rr.to.flatten.length : Int)), marksI r.rr.nums.length (K + (r.rr.name.flatten.length : Int) + 1 + 1 + 1 + (r.rr.to.flatten.length : Int) + (r.rr.text.length : Int))⟩, (K + (r.rr.name.flatten.length : Int) + 1 + 1 + 1 + (r.rr.to.flatten.length : Int) + (r.rr.text.length : Int) + (r.rr.nums.length : Int)), r.bare⟩ _ hiL rfl]
      try rfl
    refine kSeq (kReg ?_)
    refine kMovC rfl (kAdd rfl rfl (by omega) (kMovC rfl (kDone ?_)))
    refine kSeq (kReg ?_)
    refine kMovC rfl (kMovC rfl (kMovC rfl (kRem rfl rfl (by decide) (kBin rfl rfl rfl (kIadA rfl rfl rfl rfl ?_ (kFadE rfl rfl ?_))))))
    · rw [len_encL, List.length_set]; omega
    refine kStoreE1 rfl rfl rfl rfl (by simp [encL, DV.esz]) (kDone ?_)
    refine kSub (t := ⟨tabSl [(0, .c (.arr 0 0)), (1, .i (K + (r.rr.name.flatten.length : Int) + 1 + 1 + 1 + (r.rr.to.flatten.length : Int) + (r.rr.text.length : Int) + (r.rr.nums.length : Int) + 1)), (5, .i i)], upd F 0 ⟨0, (9 * i + 9), .arr true (encW (L.set i ⟨⟨markss r.rr.name (K), (K + (r.rr.name.flatten.length : Int)), (K + (r.rr.name.flatten.length : Int) + 1), (K + (r.rr.name.flatten.length : Int) + 1 + 1), markss r.rr.to (K + (r.rr.name.flatten.length : Int) + 1 + 1 + 1), marks r.rr.text.length (K + (r.rr.name.flatten.length : Int) + 1 + 1 + 1 + (r.rr.to.flatten.length : Int)), marksI r.rr.nums.length (K + (r.rr.name.flatten.length : Int) + 1 + 1 + 1 + (r.rr.to.flatten.length : Int) + (r.rr.text.length : Int))⟩, (K + (r.rr.name.flatten.length : Int) + 1 + 1 + 1 + (r.rr.to.flatten.length : Int) + (r.rr.text.length : Int) + (r.rr.nums.length : Int)), ((K + (r.rr.name.flatten.length : Int) + 1 + 1 + 1 + (r.rr.to.flatten.length : Int) + (r.rr.text.length : Int) + (r.rr.nums.length : Int) + 1).tmod 3 == 0)⟩))⟩, []⟩) (.tab ?_ ⟨.refl _, .refl _, .refl _, trivial⟩) ?_
    · refine Eq.trans ?_ (upd_upd _ _ _ _).symm
      refine congrArg (upd _ _) ?_
      show _ = Ob.mk _ _ (OK.arr _ (setRow (encW (L.set i ⟨⟨markss r.rr.name (K), (K + (r.rr.name.flatten.length : Int)), (K + (r.rr.name.flatten.length : Int) + 1), (K + (r.rr.name.flatten.length : Int) + 1 + 1), markss r.rr.to (K + (r.rr.name.flatten.length : Int) + 1 + 1 + 1), marks r.rr.text.length (K + (r.rr.name.flatten.length : Int) + 1 + 1 + 1 + (r.rr.to.flatten.length : Int)), marksI r.rr.nums.length (K + (r.rr.name.flatten.length : Int) + 1 + 1 + 1 + (r.rr.to.flatten.length : Int) + (r.rr.text.length : Int))⟩, (K + (r.rr.name.flatten.length : Int) + 1 + 1 + 1 + (r.rr.to.flatten.length : Int) + (r.rr.text.length : Int) + (r.rr.nums.length : Int)), r.bare⟩)) i 8 _))
      rw [setRow_encLS 9 Want.cells L i 8 ⟨⟨markss r.rr.name (K), (K + (r.rr.name.flatten.length : Int)), (K + (r.rr.name.flatten.length : Int) + 1), (K + (r.rr.name.flatten.length : Int) + 1 + 1), markss r.rr.to (K + (r.rr.name.flatten.length : Int) + 1 + 1 + 1), marks r.rr.text.length (K + (r.rr.name.flatten.length : Int) + 1 + 1 + 1 + (r.rr.to.flatten.length : Int)), marksI r.rr.nums.length (K + (r.rr.name.flatten.length : Int) + 1 + 1 + 1 + (r.rr.to.flatten.length : Int) + (r.rr.text.length : Int))⟩, (K + (r.rr.name.flatten.length : Int) + 1 + 1 + 1 + (r.rr.to.flatten.length : Int) + (r.rr.text.length : Int) + (r.rr.nums.length : Int)), r.bare⟩ ⟨⟨markss r.rr.name (K), (K + (r.rr.name.flatten.length : Int)), (K + (r.rr.name.flatten.length : Int) + 1), (K + (r.rr.name.flatten.length : Int) + 1 + 1), markss r.rr.to (K + (r.rr.name.flatten.length : Int) + 1 + 1 + 1), marks r.rr.text.length (K + (r.rr.name.flatten.length : Int) + 1 + 1 + 1 + (r.rr.to.flatten.length : Int)), marksI r.rr.nums.length (K + (r.rr.name.flatten.length : Int) + 1 + 1 + 1 + (r.rr.to.flatten.length : Int) + (r.rr.text.length : Int))⟩, (K + (r.rr.name.flatten.length : Int) + 1 + 1 + 1 + (r.rr.to.flatten.length : Int) + (r.rr.text.length : Int) + (r.rr.nums.length : Int)), ((K + (r.rr.name.flatten.length : Int) + 1 + 1 + 1 + (r.rr.to.flatten.length : Int) + (r.rr.text.length : Int) + (r.rr.nums.length : Int) + 1).tmod 3 == 0)⟩ _ hiL rfl]
      try rfl
    refine kReg ?_
    refine kMovC rfl (kAdd rfl rfl (by omega) (kMovC rfl (kDone (kBk ?_))))
    rw [hfin _ (by rw [← hr, ← hK] <;> rfl)]
    refine kReg (kMovC rfl (kAdd rfl rfl (by omega) (kMovC rfl (kDone (kInv ?_)))))
    refine ⟨⟨i + 1, hlt⟩, by simp only; omega, .tab rfl ⟨.refl _, ?_, .refl _, trivial⟩⟩
    refine Eq.mp (congrArg (fun z => WkV _ (.i z)) ?_) (.refl _)
    show _ = k + ((cntL cntW (l.take (i + 1)) : Nat) : Int)
    omega
  · refine kSeq (kSeq (kReg (kMovC rfl (kMovC rfl (kLen rfl rfl rfl (kBin rfl rfl rfl (kDone ?_)))))))
    rw [len_encL, hlen']
    refine kCond rfl (fun h1 => by exfalso; simp at h1; omega) (fun h1 => ?_)
    refine kExit (kExC (kExI (kExB ?_)))
    obtain rfl : i = l.length := by omega
    refine kSeq (kReg (kMovC rfl (kMovC rfl (kDone (kRet ?_)))))
    subst hF
    refine endRet (ra := [.one (.d _)]) rfl ⟨⟨⟨rfl, .inl rfl⟩, trivial⟩, .nil, ⟨rfl, fun _ => rfl, rfl⟩, trivial, trivial⟩ ?_
    refine ⟨by simp, ?_⟩
    show encW (markL cntW markW (l.take l.length) k ++ l.drop l.length) = _
    simp

def c_laws_markMsg : C := (.seq (.reg false (.o 0 2 (.box 2 (.t 0)) (.o 1 4 (.mov (.i 0)) .done))) (.seq (.reg false (.o 0 5 (.fad (.t 2) 5) (.o 1 6 (.load none (.t 5)) (.o 2 7 (.mov (.t 1)) (.o 3 8 (.call 8 172 [(.t 6), (.t 7)]) (.o 4 1 (.mov (.t 8)) .done)))))) (.seq (.reg false (.o 0 9 (.fad (.t 2) 6) (.o 1 10 (.load none (.t 9)) (.o 2 11 (.mov (.t 1)) (.o 3 12 (.call 12 62 [(.t 10), (.t 11)]) (.o 4 1 (.mov (.t 12)) .done)))))) (.seq (.reg false (.o 0 13 (.fad (.t 2) 7) (.o 1 14 (.load none (.t 13)) (.o 2 15 (.mov (.t 1)) (.o 3 16 (.call 16 62 [(.t 14), (.t 15)]) (.o 4 1 (.mov (.t 16)) .done)))))) (.seq (.reg false (.o 0 17 (.fad (.t 2) 8) (.o 1 18 (.load none (.t 17)) (.o 2 19 (.mov (.t 1)) (.o 3 20 (.call 20 62 [(.t 18), (.t 19)]) (.o 4 1 (.mov (.t 20)) .done)))))) (.seq (.reg false (.o 0 21 (.fad (.t 2) 9) (.o 1 22 (.load none (.t 21)) (.o 2 23 (.mov (.t 1)) (.o 3 24 (.call 24 173 [(.t 22), (.t 23)]) (.o 4 1 (.mov (.t 24)) .done)))))) (.seq (.reg false (.o 0 25 (.fad (.t 2) 10) (.o 1 26 (.load none (.t 25)) (.o 2 27 (.mov (.t 1)) (.o 3 28 (.call 28 173 [(.t 26), (.t 27)]) (.o 4 1 (.mov (.t 28)) .done)))))) (.seq (.reg false (.o 0 29 (.mov (.t 1)) (.o 1 4 (.mov (.t 29)) .done))) .ret))))))))
theorem dg_laws_markMsg : Tryz.f69.body.bind (digC Tryz.prog Tryz.f69.ntmps []) = some c_laws_markMsg := by kernel_rfl
theorem rs_laws_markMsg : resSlots Tryz.prog Tryz.f69 = some [.s 4] := by kernel_rfl
theorem ok0_laws_markMsg (m : Msg) (k : Int) (h0 : 0 ≤ k) (hk : k + cntM m ≤ 9223372036854775807) (hs : SmallM m) :
    FnOK Tryz.prog 69 [.agg [.d (.sc (.int .i64 m.id)), .d (.sc (.bool m.reply)), .d (.sc (.int .i64 m.op)), .d (.sc (.bool m.auth)), .d (.sc (.int .i64 m.code)), .arr false true (encQ m.qs), .arr false true (encR m.an), .arr false true (encR m.au), .arr false true (encR m.mo), .arr false true (encW m.pr), .arr false true (encW m.up)], .one (.d (.sc (.int .i64 k)))] (fun ra os => ra = [.one (.d (.sc (.int .i64 (k + cntM m))))] ∧ outsAre [(5, encQ (markM m k).qs), (6, encR (markM m k).an), (7, encR (markM m k).au), (8, encR (markM m k).mo), (9, encW (markM m k).pr), (10, encW (markM m k).up)] os) := by
  refine FnOK.ofK Tryz.func69 (by kernel_rfl) dg_laws_markMsg rs_laws_markMsg rfl rfl ?_
  delta c_laws_markMsg T.o X.i
  have b1 := hs.q
  have b2 := hs.a
  have b3 := hs.b
  have b4 := hs.c
  have b5 := hs.p
  have b6 := hs.u
  have hc : k + (cntM m : Int) = k + cntQs m.qs + cntRs m.an + cntRs m.au + cntRs m.mo + cntL cntW m.pr + cntL cntW m.up := by unfold cntM; omega
  refine kSeq (kReg (kBox rfl rfl rfl rfl rfl (kMovC rfl (kDone (kSeq (kReg (kFadP rfl rfl (kLoadP rfl rfl rfl (kMovC rfl (kCallA (ok_laws_markQuestionS _ _ (by first | assumption | omega | solve_by_elim [List.getElem_mem] | (simp only [szOut] at *; omega) | exact rfl | exact leb | exact rrOk_small (by assumption) | exact zoneOk_small (by assumption) | exact SmallBB.ok (by assumption) | exact (SmallBB.ok (by assumption)).len | exact (SmallBB.ok (by assumption)).mem | exact SmallBB.bent (by assumption)) (by first | assumption | omega | solve_by_elim [List.getElem_mem] | (simp only [szOut] at *; omega) | exact rfl | exact leb | exact rrOk_small (by assumption) | exact zoneOk_small (by assumption) | exact SmallBB.ok (by assumption) | exact (SmallBB.ok (by assumption)).len | exact (SmallBB.ok (by assumption)).mem | exact SmallBB.bent (by assumption)) (by first | assumption | omega | solve_by_elim [List.getElem_mem] | (simp only [szOut] at *; omega) | exact rfl | exact leb | exact rrOk_small (by assumption) | exact zoneOk_small (by assumption) | exact SmallBB.ok (by assumption) | exact (SmallBB.ok (by assumption)).len | exact (SmallBB.ok (by assumption)).mem | exact SmallBB.bent (by assumption))) ⟨⟨_, rfl, .inl rfl⟩, rfl, trivial⟩ rfl rfl rfl rfl (kMovC rfl (kDone (kSeq (kReg (kFadP rfl rfl (kLoadP rfl rfl rfl (kMem [(6, ⟨0, 0, .arr true _⟩)] [(1, .c (.d _)), (10, .c (.arr 6 0)), (11, .c (.un)), (12, .c (.un))] [] ⟨rfl, trivial⟩ ⟨rfl, rfl, rfl, rfl, trivial⟩ rfl (kMovC rfl (kCallA (ok_laws_markRrS _ _ (by first | assumption | omega | solve_by_elim [List.getElem_mem] | (simp only [szOut] at *; omega) | exact rfl | exact leb | exact rrOk_small (by assumption) | exact zoneOk_small (by assumption) | exact SmallBB.ok (by assumption) | exact (SmallBB.ok (by assumption)).len | exact (SmallBB.ok (by assumption)).mem | exact SmallBB.bent (by assumption)) (by first | assumption | omega | solve_by_elim [List.getElem_mem] | (simp only [szOut] at *; omega) | exact rfl | exact leb | exact rrOk_small (by assumption) | exact zoneOk_small (by assumption) | exact SmallBB.ok (by assumption) | exact (SmallBB.ok (by assumption)).len | exact (SmallBB.ok (by assumption)).mem | exact SmallBB.bent (by assumption)) (by first | assumption | omega | solve_by_elim [List.getElem_mem] | (simp only [szOut] at *; omega) | exact rfl | exact leb | exact rrOk_small (by assumption) | exact zoneOk_small (by assumption) | exact SmallBB.ok (by assumption) | exact (SmallBB.ok (by assumption)).len | exact (SmallBB.ok (by assumption)).mem | exact SmallBB.bent (by assumption))) ⟨⟨_, rfl, .inl rfl⟩, rfl, trivial⟩ rfl rfl rfl rfl (kMovC rfl (kDone (kSeq (kReg (kFadP rfl rfl (kLoadP rfl rfl rfl (kMovC rfl (kCallA (ok_laws_markRrS _ _ (by first | assumption | omega | solve_by_elim [List.getElem_mem] | (simp only [szOut] at *; omega) | exact rfl | exact leb | exact rrOk_small (by assumption) | exact zoneOk_small (by assumption) | exact SmallBB.ok (by assumption) | exact (SmallBB.ok (by assumption)).len | exact (SmallBB.ok (by assumption)).mem | exact SmallBB.bent (by assumption)) (by first | assumption | omega | solve_by_elim [List.getElem_mem] | (simp only [szOut] at *; omega) | exact rfl | exact leb | exact rrOk_small (by assumption) | exact zoneOk_small (by assumption) | exact SmallBB.ok (by assumption) | exact (SmallBB.ok (by assumption)).len | exact (SmallBB.ok (by assumption)).mem | exact SmallBB.bent (by assumption)) (by first | assumption | omega | solve_by_elim [List.getElem_mem] | (simp only [szOut] at *; omega) | exact rfl | exact leb | exact rrOk_small (by assumption) | exact zoneOk_small (by assumption) | exact SmallBB.ok (by assumption) | exact (SmallBB.ok (by assumption)).len | exact (SmallBB.ok (by assumption)).mem | exact SmallBB.bent (by assumption))) ⟨⟨_, rfl, .inl rfl⟩, rfl, trivial⟩ rfl rfl rfl rfl (kMovC rfl (kDone (kSeq (kReg (kFadP rfl rfl (kMem [(12288, ⟨1, 0, .box [.d _, .d _, .d _, .d _, .d _, .arr 5 0, .arr 6 0, .arr 7 0, .arr 8 0, .arr 9 0, .arr 10 0]⟩), (5, ⟨0, 1, .arr true _⟩), (6, ⟨0, 1, .arr true _⟩), (7, ⟨0, 1, .arr true _⟩), (8, ⟨0, 0, .arr true _⟩), (9, ⟨0, 0, .arr true _⟩), (10, ⟨0, 0, .arr true _⟩)] [(17, .c (.ptr 12288 1 8)), (1, .c (.d _)), (18, .c (.un)), (19, .c (.un)), (20, .c (.un))] [] ⟨rfl, rfl, rfl, rfl, rfl, rfl, rfl, trivial⟩ ⟨rfl, rfl, rfl, rfl, rfl, trivial⟩ rfl (kLoadP rfl rfl rfl (kMovC rfl (kCallA (ok_laws_markRrS _ _ (by first | assumption | omega | solve_by_elim [List.getElem_mem] | (simp only [szOut] at *; omega) | exact rfl | exact leb | exact rrOk_small (by assumption) | exact zoneOk_small (by assumption) | exact SmallBB.ok (by assumption) | exact (SmallBB.ok (by assumption)).len | exact (SmallBB.ok (by assumption)).mem | exact SmallBB.bent (by assumption)) (by first | assumption | omega | solve_by_elim [List.getElem_mem] | (simp only [szOut] at *; omega) | exact rfl | exact leb | exact rrOk_small (by assumption) | exact zoneOk_small (by assumption) | exact SmallBB.ok (by assumption) | exact (SmallBB.ok (by assumption)).len | exact (SmallBB.ok (by assumption)).mem | exact SmallBB.bent (by assumption)) (by first | assumption | omega | solve_by_elim [List.getElem_mem] | (simp only [szOut] at *; omega) | exact rfl | exact leb | exact rrOk_small (by assumption) | exact zoneOk_small (by assumption) | exact SmallBB.ok (by assumption) | exact (SmallBB.ok (by assumption)).len | exact (SmallBB.ok (by assumption)).mem | exact SmallBB.bent (by assumption))) ⟨⟨_, rfl, .inl rfl⟩, rfl, trivial⟩ rfl rfl rfl rfl (kMovC rfl (kDone (kSeq (kReg (kFadP rfl rfl (kLoadP rfl rfl rfl (kMovC rfl (kCallA (ok_laws_markWantS _ _ (by first | assumption | omega | solve_by_elim [List.getElem_mem] | (simp only [szOut] at *; omega) | exact rfl | exact leb | exact rrOk_small (by assumption) | exact zoneOk_small (by assumption) | exact SmallBB.ok (by assumption) | exact (SmallBB.ok (by assumption)).len | exact (SmallBB.ok (by assumption)).mem | exact SmallBB.bent (by assumption)) (by first | assumption | omega | solve_by_elim [List.getElem_mem] | (simp only [szOut] at *; omega) | exact rfl | exact leb | exact rrOk_small (by assumption) | exact zoneOk_small (by assumption) | exact SmallBB.ok (by assumption) | exact (SmallBB.ok (by assumption)).len | exact (SmallBB.ok (by assumption)).mem | exact SmallBB.bent (by assumption)) (by first | assumption | omega | solve_by_elim [List.getElem_mem] | (simp only [szOut] at *; omega) | exact rfl | exact leb | exact rrOk_small (by assumption) | exact zoneOk_small (by assumption) | exact SmallBB.ok (by assumption) | exact (SmallBB.ok (by assumption)).len | exact (SmallBB.ok (by assumption)).mem | exact SmallBB.bent (by assumption))) ⟨⟨_, rfl, .inl rfl⟩, rfl, trivial⟩ rfl rfl rfl rfl (kMovC rfl (kDone (kSeq (kReg (kMem [(12288, ⟨1, 0, .box [.d _, .d _, .d _, .d _, .d _, .arr 5 0, .arr 6 0, .arr 7 0, .arr 8 0, .arr 9 0, .arr 10 0]⟩), (5, ⟨0, 1, .arr true _⟩), (6, ⟨0, 1, .arr true _⟩), (7, ⟨0, 1, .arr true _⟩), (8, ⟨0, 1, .arr true _⟩), (9, ⟨0, 1, .arr true _⟩), (10, ⟨0, 0, .arr true _⟩)] [(2, .c (.ptr 12288 1 0)), (25, .c (.un)), (1, .c (.d _)), (26, .c (.un)), (27, .c (.un)), (28, .c (.un))] [] ⟨rfl, rfl, rfl, rfl, rfl, rfl, rfl, trivial⟩ ⟨rfl, rfl, rfl, rfl, rfl, rfl, trivial⟩ rfl (kFadP rfl rfl (kLoadP rfl rfl rfl (kMovC rfl (kCallA (ok_laws_markWantS _ _ (by first | assumption | omega | solve_by_elim [List.getElem_mem] | (simp only [szOut] at *; omega) | exact rfl | exact leb | exact rrOk_small (by assumption) | exact zoneOk_small (by assumption) | exact SmallBB.ok (by assumption) | exact (SmallBB.ok (by assumption)).len | exact (SmallBB.ok (by assumption)).mem | exact SmallBB.bent (by assumption)) (by first | assumption | omega | solve_by_elim [List.getElem_mem] | (simp only [szOut] at *; omega) | exact rfl | exact leb | exact rrOk_small (by assumption) | exact zoneOk_small (by assumption) | exact SmallBB.ok (by assumption) | exact (SmallBB.ok (by assumption)).len | exact (SmallBB.ok (by assumption)).mem | exact SmallBB.bent (by assumption)) (by first | assumption | omega | solve_by_elim [List.getElem_mem] | (simp only [szOut] at *; omega) | exact rfl | exact leb | exact rrOk_small (by assumption) | exact zoneOk_small (by assumption) | exact SmallBB.ok (by assumption) | exact (SmallBB.ok (by assumption)).len | exact (SmallBB.ok (by assumption)).mem | exact SmallBB.bent (by assumption))) ⟨⟨_, rfl, .inl rfl⟩, rfl, trivial⟩ rfl rfl rfl rfl (kMovC rfl (kDone (kSeq (kReg (kMovC rfl (kMovC rfl (kDone (kRet (endRetA (ra := [.one (.d _)]) rfl ?_))))))))))))))))))))))))))))))))))))))))))))))))))))))))))))))
  refine ⟨?_, rfl, rfl, rfl, rfl, rfl, rfl, trivial⟩
  rw [hc]
theorem ok_laws_markMsg (i1 o1 c1 : Int) (r1 u1 : Bool) (q1 : List Qn) (an1 au1 mo1 : List Rr) (pr1 up1 : List Want) (k : Int) (h0 : 0 ≤ k) (hk : k + cntM (⟨i1, r1, o1, u1, c1, q1, an1, au1, mo1, pr1, up1⟩ : Msg) ≤ 9223372036854775807) (hs : SmallM (⟨i1, r1, o1, u1, c1, q1, an1, au1, mo1, pr1, up1⟩ : Msg)) :
    FnOK Tryz.prog 69 [.agg [.d (.sc (.int .i64 i1)), .d (.sc (.bool r1)), .d (.sc (.int .i64 o1)), .d (.sc (.bool u1)), .d (.sc (.int .i64 c1)), .arr false true (encQ q1), .arr false true (encR an1), .arr false true (encR au1), .arr false true (encR mo1), .arr false true (encW pr1), .arr false true (encW up1)], .one (.d (.sc (.int .i64 k)))] (fun ra os => ra = [.one (.d (.sc (.int .i64 (k + cntM (⟨i1, r1, o1, u1, c1, q1, an1, au1, mo1, pr1, up1⟩ : Msg)))))] ∧ outsAre [(5, encQ (markM (⟨i1, r1, o1, u1, c1, q1, an1, au1, mo1, pr1, up1⟩ : Msg) k).qs), (6, encR (markM (⟨i1, r1, o1, u1, c1, q1, an1, au1, mo1, pr1, up1⟩ : Msg) k).an), (7, encR (markM (⟨i1, r1, o1, u1, c1, q1, an1, au1, mo1, pr1, up1⟩ : Msg) k).au), (8, encR (markM (⟨i1, r1, o1, u1, c1, q1, an1, au1, mo1, pr1, up1⟩ : Msg) k).mo), (9, encW (markM (⟨i1, r1, o1, u1, c1, q1, an1, au1, mo1, pr1, up1⟩ : Msg) k).pr), (10, encW (markM (⟨i1, r1, o1, u1, c1, q1, an1, au1, mo1, pr1, up1⟩ : Msg) k).up)] os) :=
  ok0_laws_markMsg (⟨i1, r1, o1, u1, c1, q1, an1, au1, mo1, pr1, up1⟩ : Msg) k h0 hk hs

def c_laws_heldByteS : C := (.seq (.reg false (.o 0 4 (.mov (.i 0)) .done)) (.seq (.seq (.reg false (.o 0 5 (.mov (.i 0)) .done)) (.block 0 (.loop (.seq (.seq (.reg false (.o 0 6 (.mov (.t 5)) (.o 1 7 (.mov (.t 0)) (.o 2 8 (.len (.t 7)) (.o 3 9 (.bin .lss (.t 6) (.t 8)) .done))))) (.cond (.t 9) .skip (.exit 0))) (.seq (.block 1 (.seq (.seq (.reg false (.o 0 12 (.mov (.t 0)) (.o 1 13 (.mov (.t 5)) (.o 2 14 (.iad 1 (.t 12) (.t 13)) (.o 3 15 (.load none (.t 14)) (.o 4 16 (.mov (.t 1)) (.o 5 17 (.conv .u8 (.t 16)) (.o 6 18 (.bin .neq (.t 15) (.t 17)) .done)))))))) (.cond (.t 18) (.seq (.reg false (.o 0 4 (.mov (.i (-1))) .done)) .ret) .skip)) (.reg false (.o 0 19 (.mov (.t 1)) (.o 1 20 (.bin .add (.t 19) (.i 1)) (.o 2 1 (.mov (.t 20)) .done)))))) (.reg false (.o 0 10 (.mov (.t 5)) (.o 1 11 (.bin .add (.t 10) (.i 1)) (.o 2 5 (.mov (.t 11)) .done))))))))) (.seq (.reg false (.o 0 21 (.mov (.t 1)) (.o 1 4 (.mov (.t 21)) .done))) .ret)))
theorem dg_laws_heldByteS : Tryz.f160.body.bind (digC Tryz.prog Tryz.f160.ntmps []) = some c_laws_heldByteS := by kernel_rfl
theorem rs_laws_heldByteS : resSlots Tryz.prog Tryz.f160 = some [.s 4] := by kernel_rfl
theorem ok_laws_heldByteS (n : Nat) (k : Int) (h0 : 0 ≤ k) (hk : k + n ≤ 9223372036854775807) :
    FnOK Tryz.prog 160 [.one (.d (encB (marks n k))), .one (.d (.sc (.int .i64 k)))] (fun ra _ => ra = [.one (.d (.sc (.int .i64 (k + n))))]) := by
  refine FnOK.ofK Tryz.func160 (by kernel_rfl) dg_laws_heldByteS rs_laws_heldByteS rfl rfl ?_
  delta c_laws_heldByteS T.o X.i
  have hm := marks_len n k
  refine kSeq (kReg (kMovC rfl (kDone (kSeq (kSeq (kReg (kMovC rfl (kDone (kBlock ?_)))))))))
  refine kLoop (α := { i : Nat // i ≤ n })
    (fun y => ⟨tabSl [(0, .dv (encB (marks n k))), (1, .i (k + y.1)), (5, .i y.1)], obTab 1 [], []⟩) (fun y => n - y.1) ⟨0, by simp⟩
    .normA ?_
  rintro ⟨i, hi⟩
  simp only
  refine kSeq (kSeq (kReg (kMovC rfl (kMovC rfl (kLenR rfl rfl (kBin rfl rfl rfl (kDone (kCondP rfl (fun g0 => kSkip (kSeq (kBlock (kSeq (kSeq (kReg (kMovC rfl (kMovC rfl (kIadR rfl rfl rfl (by omega) (kLoadD rfl rfl (kMovC rfl (kConv rfl (kBin rfl rfl rfl (kDone (kCondN rfl (fun g1 => kSeq (kReg (kMovC rfl (kDone (kRet (endRetA (ra := [.one (.d _)]) rfl ?_)))))) (fun g1 => kSkip (kReg (kMovC rfl (kAdd rfl rfl (by omega) (kMovC rfl (kDone (kBk (kReg (kMovC rfl (kAdd rfl rfl (by omega) (kMovC rfl (kDone ?_))))))))))))))))))))))))))) (fun g0 => kExit (kExC (kExI (kExB (kSeq (kReg (kMovC rfl (kMovC rfl (kDone (kRet (endRetA (ra := [.one (.d _)]) rfl ?_)))))))))))))))))))
  · rw [marks_get, beq_self_eq_true] at g1; cases g1
  · exact kInv ⟨⟨i + 1, by omega⟩, by simp only; omega, .normA⟩
  · rw [show i = n by omega]

def c_laws_heldByteSS : C := (.seq (.reg false (.o 0 4 (.mov (.i 0)) .done)) (.seq (.seq (.reg false (.o 0 5 (.mov (.i 0)) .done)) (.block 0 (.loop (.seq (.seq (.reg false (.o 0 6 (.mov (.t 5)) (.o 1 7 (.mov (.t 0)) (.o 2 8 (.len (.t 7)) (.o 3 9 (.bin .lss (.t 6) (.t 8)) .done))))) (.cond (.t 9) .skip (.exit 0))) (.seq (.block 1 (.seq (.reg false (.o 0 12 (.mov (.t 0)) (.o 1 13 (.mov (.t 5)) (.o 2 14 (.iad 1 (.t 12) (.t 13)) (.o 3 15 (.load none (.t 14)) (.o 4 16 (.mov (.t 1)) (.o 5 17 (.call 17 160 [(.t 15), (.t 16)]) (.o 6 1 (.mov (.t 17)) .done)))))))) (.seq (.reg false (.o 0 18 (.mov (.t 1)) (.o 1 19 (.bin .lss (.t 18) (.i 0)) .done))) (.cond (.t 19) (.seq (.reg false (.o 0 4 (.mov (.i (-1))) .done)) .ret) .skip)))) (.reg false (.o 0 10 (.mov (.t 5)) (.o 1 11 (.bin .add (.t 10) (.i 1)) (.o 2 5 (.mov (.t 11)) .done))))))))) (.seq (.reg false (.o 0 20 (.mov (.t 1)) (.o 1 4 (.mov (.t 20)) .done))) .ret)))
theorem dg_laws_heldByteSS : Tryz.f114.body.bind (digC Tryz.prog Tryz.f114.ntmps []) = some c_laws_heldByteSS := by kernel_rfl
theorem rs_laws_heldByteSS : resSlots Tryz.prog Tryz.f114 = some [.s 4] := by kernel_rfl
theorem ok_laws_heldByteSS (a : List (List UInt8)) (k : Int) (h0 : 0 ≤ k) (hk : k + a.flatten.length ≤ 9223372036854775807) (hl : a.length ≤ 4194304) :
    FnOK Tryz.prog 114 [.one (.d (encBB (markss a k))), .one (.d (.sc (.int .i64 k)))] (fun ra _ => ra = [.one (.d (.sc (.int .i64 (k + a.flatten.length))))]) := by
  refine FnOK.ofK Tryz.func114 (by kernel_rfl) dg_laws_heldByteSS rs_laws_heldByteSS rfl rfl ?_
  delta c_laws_heldByteSS T.o X.i
  have hm := markss_len a k
  refine kSeq (kReg (kMovC rfl (kDone (kSeq (kSeq (kReg (kMovC rfl (kDone (kBlock ?_)))))))))
  refine kLoop (α := { i : Nat // i ≤ a.length })
    (fun y => ⟨tabSl [(0, .dv (encBB (markss a k))), (1, .i (k + (a.take y.1).flatten.length)), (5, .i y.1)], obTab 1 [], []⟩) (fun y => a.length - y.1) ⟨0, by simp⟩
    .normA ?_
  rintro ⟨i, hi⟩
  simp only
  have hsuc : ∀ h : i < a.length, (a.take (i + 1)).flatten.length = (a.take i).flatten.length + a[i].length := take_flat a i
  have hle := flat_le a i
  have hle2 := flat_le a (i + 1)
  refine kSeq (kSeq (kReg (kMovC rfl (kMovC rfl (kLenR rfl rfl (kBin rfl rfl rfl (kDone (kCondP rfl (fun g0 => kSkip (kSeq (kBlock (kSeq (kReg (kMovC rfl (kMovC rfl (kIadR rfl rfl rfl (by omega) (kLoadD rfl rfl (kMovC rfl ?_)))))))))) (fun g0 => kExit (kExC (kExI (kExB (kSeq (kReg (kMovC rfl (kMovC rfl (kDone (kRet (endRetA (ra := [.one (.d _)]) rfl ?_)))))))))))))))))))
  · have hlt : i < a.length := by omega
    have := hsuc hlt
    rw [markss_get a k i (by omega) hlt]
    refine kCall1 true (ok_laws_heldByteS a[i].length (k + (a.take i).flatten.length) (by omega) (by omega)) ⟨rfl, rfl, trivial⟩ rfl rfl rfl (fun _ => ?_)
    refine kMovC rfl (kDone (kSeq (kReg (kMovC rfl (kBin rfl rfl rfl (kDone (kCondP rfl (fun g0 => kSeq (kReg (kMovC rfl (kDone (kRet (endRetA (ra := [.one (.d _)]) rfl ?_)))))) (fun g0 => kSkip (kBk (kReg (kMovC rfl (kAdd rfl rfl (by omega) (kMovC rfl (kDone ?_))))))))))))))
    · omega
    · exact kInv ⟨⟨i + 1, by omega⟩, by simp only; omega, .normA⟩
  · rw [show i = a.length by omega, List.take_length]

def c_laws_heldQuestionS : C := (.seq (.reg false (.o 0 4 (.mov (.i 0)) .done)) (.seq (.seq (.reg false (.o 0 5 (.mov (.i 0)) .done)) (.block 0 (.loop (.seq (.seq (.reg false (.o 0 6 (.mov (.t 5)) (.o 1 7 (.mov (.t 0)) (.o 2 8 (.len (.t 7)) (.o 3 9 (.bin .lss (.t 6) (.t 8)) .done))))) (.cond (.t 9) .skip (.exit 0))) (.seq (.block 1 (.seq (.reg false (.o 0 12 (.mov (.t 0)) (.o 1 13 (.mov (.t 5)) (.o 2 14 (.iad 2 (.t 12) (.t 13)) (.o 3 15 (.fad (.t 14) 0) (.o 4 16 (.fad (.t 15) 0) (.o 5 17 (.load none (.t 16)) (.o 6 18 (.mov (.t 1)) (.o 7 19 (.call 19 114 [(.t 17), (.t 18)]) (.o 8 1 (.mov (.t 19)) .done)))))))))) (.seq (.seq (.reg false (.o 0 20 (.mov (.t 1)) (.o 1 21 (.bin .lss (.t 20) (.i 0)) .done))) (.cond (.t 21) (.seq (.reg false (.o 0 4 (.mov (.i (-1))) .done)) .ret) .skip)) (.seq (.seq (.reg false (.o 0 22 (.mov (.t 0)) (.o 1 23 (.mov (.t 5)) (.o 2 24 (.iad 2 (.t 22) (.t 23)) (.o 3 25 (.fad (.t 24) 1) (.o 4 26 (.load none (.t 25)) (.o 5 27 (.mov (.t 1)) (.o 6 28 (.bin .neq (.t 26) (.t 27)) .done)))))))) (.cond (.t 28) (.seq (.reg false (.o 0 4 (.mov (.i (-1))) .done)) .ret) .skip)) (.reg false (.o 0 29 (.mov (.t 1)) (.o 1 30 (.bin .add (.t 29) (.i 1)) (.o 2 1 (.mov (.t 30)) .done)))))))) (.reg false (.o 0 10 (.mov (.t 5)) (.o 1 11 (.bin .add (.t 10) (.i 1)) (.o 2 5 (.mov (.t 11)) .done))))))))) (.seq (.reg false (.o 0 31 (.mov (.t 1)) (.o 1 4 (.mov (.t 31)) .done))) .ret)))
theorem dg_laws_heldQuestionS : Tryz.f174.body.bind (digC Tryz.prog Tryz.f174.ntmps []) = some c_laws_heldQuestionS := by kernel_rfl
theorem rs_laws_heldQuestionS : resSlots Tryz.prog Tryz.f174 = some [.s 4] := by kernel_rfl
theorem ok_laws_heldQuestionS (l : List Qn) (k : Int) (h0 : 0 ≤ k) (hk : k + cntQs l ≤ 9223372036854775807) (hs : SmallQs l) :
    FnOK Tryz.prog 174 [.one (.d (encQ (markQs l k))), .one (.d (.sc (.int .i64 k)))] (fun ra _ => ra = [.one (.d (.sc (.int .i64 (k + cntQs l))))]) := by
  refine FnOK.ofK Tryz.func174 (by kernel_rfl) dg_laws_heldQuestionS rs_laws_heldQuestionS rfl rfl ?_
  delta c_laws_heldQuestionS T.o X.i
  have hm := markQs_len l k
  have h1 := hs.len
  refine kSeq (kReg (kMovC rfl (kDone (kSeq (kSeq (kReg (kMovC rfl (kDone (kBlock ?_)))))))))
  refine kLoop (α := { i : Nat // i ≤ l.length }) (fun y => ⟨tabSl [(0, .dv (encQ (markQs l k))), (1, .i (k + cntQs (l.take y.1))), (5, .i y.1)], obTab 1 [], []⟩) (fun y => l.length - y.1) ⟨0, by simp⟩ .normA ?_
  rintro ⟨i, hi⟩
  simp only
  have hle := cntQs_le l i
  have hle2 := cntQs_le l (i + 1)
  rcases Nat.lt_or_ge i l.length with hlt | hge
  · have hbi := hs.mem _ (List.getElem_mem hlt)
    have n1 := hbi.len
    have hsuc := cntQs_take l i hlt
    have hrow := markQs_get l k i (by omega) hlt
    have hc : cntQ1 l[i] = l[i].name.flatten.length + 1 := rfl
    have e1 : (markQ1 l[i] (k + ↑(cntQs (List.take i l)))).ty = k + (cntQs (l.take i) : Int) + (l[i].name.flatten.length : Int) := rfl
    refine kSeq (kSeq (kReg (kMovC rfl (kMovC rfl (kLenR rfl rfl (kBin rfl rfl rfl (kDone (kCondP rfl (fun g0 => kSkip (kSeq (kBlock (kSeq (kReg (kMovC rfl (kMovC rfl (kIadRW rfl rfl rfl (by omega) hrow (kFadD rfl (kFadD rfl (kLoadD rfl rfl (kMovC rfl (kCallD (ok_laws_heldByteSS _ _ pr pr pr) ⟨rfl, rfl, trivial⟩ rfl rfl rfl rfl rfl (kMovC rfl (kDone (kSeq (kSeq (kReg (kMovC rfl (kBin rfl rfl rfl (kDone (kCondP rfl (fun g1 => (by omega)) (fun g1 => kSkip (kSeq (kSeq (kReg (kMovC rfl (kMovC rfl (kIadRW rfl rfl rfl (by omega) hrow (kFadD rfl (kLoadD rfl rfl (kMovC rfl (kBin rfl rfl rfl (kDone (kCondIN rfl (fun g2 => (by omega)) (fun g2 => kSkip (kReg (kMovC rfl (kAdd rfl rfl (by omega) (kMovC rfl (kDone (kBk (kReg (kMovC rfl (kAdd rfl rfl (by omega) (kMovC rfl (kDone ?_))))))))))))))))))))))))))))))))))))))))))))))) (fun g0 => (by omega))))))))))
    exact kInv ⟨⟨i + 1, by omega⟩, by simp only; omega, .normA⟩
  · refine kSeq (kSeq (kReg (kMovC rfl (kMovC rfl (kLenR rfl rfl (kBin rfl rfl rfl (kDone (kCondP rfl (fun g0 => (by omega)) (fun g0 => kExit (kExC (kExI (kExB (kSeq (kReg (kMovC rfl (kMovC rfl (kDone (kRet (endRetA (ra := [.one (.d _)]) rfl ?_)))))))))))))))))))
    rw [show i = l.length by omega, List.take_length]

def c_laws_heldIntS : C := (.seq (.reg false (.o 0 4 (.mov (.i 0)) .done)) (.seq (.seq (.reg false (.o 0 5 (.mov (.i 0)) .done)) (.block 0 (.loop (.seq (.seq (.reg false (.o 0 6 (.mov (.t 5)) (.o 1 7 (.mov (.t 0)) (.o 2 8 (.len (.t 7)) (.o 3 9 (.bin .lss (.t 6) (.t 8)) .done))))) (.cond (.t 9) .skip (.exit 0))) (.seq (.block 1 (.seq (.seq (.reg false (.o 0 12 (.mov (.t 0)) (.o 1 13 (.mov (.t 5)) (.o 2 14 (.iad 1 (.t 12) (.t 13)) (.o 3 15 (.load none (.t 14)) (.o 4 16 (.mov (.t 1)) (.o 5 17 (.bin .neq (.t 15) (.t 16)) .done))))))) (.cond (.t 17) (.seq (.reg false (.o 0 4 (.mov (.i (-1))) .done)) .ret) .skip)) (.reg false (.o 0 18 (.mov (.t 1)) (.o 1 19 (.bin .add (.t 18) (.i 1)) (.o 2 1 (.mov (.t 19)) .done)))))) (.reg false (.o 0 10 (.mov (.t 5)) (.o 1 11 (.bin .add (.t 10) (.i 1)) (.o 2 5 (.mov (.t 11)) .done))))))))) (.seq (.reg false (.o 0 20 (.mov (.t 1)) (.o 1 4 (.mov (.t 20)) .done))) .ret)))
theorem dg_laws_heldIntS : Tryz.f133.body.bind (digC Tryz.prog Tryz.f133.ntmps []) = some c_laws_heldIntS := by kernel_rfl
theorem rs_laws_heldIntS : resSlots Tryz.prog Tryz.f133 = some [.s 4] := by kernel_rfl
theorem ok_laws_heldIntS (n : Nat) (k : Int) (h0 : 0 ≤ k) (hk : k + n ≤ 9223372036854775807) :
    FnOK Tryz.prog 133 [.one (.d (encI (marksI n k))), .one (.d (.sc (.int .i64 k)))] (fun ra _ => ra = [.one (.d (.sc (.int .i64 (k + n))))]) := by
  refine FnOK.ofK Tryz.func133 (by kernel_rfl) dg_laws_heldIntS rs_laws_heldIntS rfl rfl ?_
  delta c_laws_heldIntS T.o X.i
  have hm := marksI_len n k
  refine kSeq (kReg (kMovC rfl (kDone (kSeq (kSeq (kReg (kMovC rfl (kDone (kBlock ?_)))))))))
  refine kLoop (α := { i : Nat // i ≤ n })
    (fun y => ⟨tabSl [(0, .dv (encI (marksI n k))), (1, .i (k + y.1)), (5, .i y.1)], obTab 1 [], []⟩) (fun y => n - y.1) ⟨0, by simp⟩
    .normA ?_
  rintro ⟨i, hi⟩
  simp only
  rcases Nat.lt_or_ge i n with hlt | hge
  · have hg := marksI_get n k i (by omega)
    refine kSeq (kSeq (kReg (kMovC rfl (kMovC rfl (kLenR rfl rfl (kBin rfl rfl rfl (kDone (kCondP rfl (fun g0 => kSkip (kSeq (kBlock (kSeq (kSeq (kReg (kMovC rfl (kMovC rfl (kIadR rfl rfl rfl (by omega) (kLoadD rfl rfl (kMovC rfl (kBin rfl rfl rfl (kDone (kCondIN rfl (fun g1 => (by omega)) (fun g1 => kSkip (kReg (kMovC rfl (kAdd rfl rfl (by omega) (kMovC rfl (kDone (kBk (kReg (kMovC rfl (kAdd rfl rfl (by omega) (kMovC rfl (kDone ?_)))))))))))))))))))))))))) (fun g0 => (by omega))))))))))
    exact kInv ⟨⟨i + 1, by omega⟩, by simp only; omega, .normA⟩
  · refine kSeq (kSeq (kReg (kMovC rfl (kMovC rfl (kLenR rfl rfl (kBin rfl rfl rfl (kDone (kCondP rfl (fun g0 => (by omega)) (fun g0 => kExit (kExC (kExI (kExB (kSeq (kReg (kMovC rfl (kMovC rfl (kDone (kRet (endRetA (ra := [.one (.d _)]) rfl ?_)))))))))))))))))))
    rw [show i = n by omega]

end Go.Proofs.YtbmagbgdpmgbmaaGreat.FnExactReplyToFn
