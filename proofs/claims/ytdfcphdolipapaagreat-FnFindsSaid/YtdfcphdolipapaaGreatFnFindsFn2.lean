/- What the functions that FnFinds reaches compute, one contract each; each with the bounds that it states. -/
import Derived.Test.YtdfcphdolipapaaGreatFnFindsFn1
import Derived.Test.YtdfcphdolipapaaGreatProg
import Derived.KernelRfl
set_option maxRecDepth 100000
set_option maxHeartbeats 8000000
set_option linter.unusedVariables false
set_option linter.unusedSimpArgs false
namespace Go.Proofs.YtdfcphdolipapaaGreat.FnFindsFn
open Go Hearth Go.Proofs

def c_spec_l3draw : C := (.g (.o 0 2 (.alloc 2 [(.n 1), (.i 0), (.i 0), (.i 0), (.n 1), (.n 1), (.n 1)]) .done) (.g (.o 0 4 (.mov (.t 0)) (.o 1 5 (.call 5 234 [(.t 4)]) (.o 2 6 (.mov (.t 0)) (.o 3 7 (.lit 7 1 [(.i 0)] 8 [(0, 1, (.i 1)), (1, 1, (.i 1)), (2, 1, (.i 2)), (3, 1, (.i 5)), (4, 1, (.i 6)), (5, 1, (.i 12)), (6, 1, (.i 16)), (7, 1, (.i 49))]) (.o 4 8 (.call 8 158 [(.t 6), (.t 7)]) (.o 5 9 (.mov (.t 0)) (.o 6 10 (.lit 10 1 [(.i 0)] 5 [(0, 1, (.i 0)), (1, 1, (.i 5)), (2, 1, (.i 60)), (3, 1, (.i 300)), (4, 1, (.i 100000))]) (.o 7 11 (.call 11 158 [(.t 9), (.t 10)]) (.o 8 12 (.build [(.n 1), (.i 0), (.i 0), (.i 0), (.n 1), (.n 1), (.n 1)] [(0, 1, (.t 5)), (1, 1, (.t 8)), (2, 1, (.t 11))]) (.o 9 3 (.alloc 3 [(.n 1), (.i 0), (.i 0), (.i 0), (.n 1), (.n 1), (.n 1)]) (.op 10 [] none none false (.store (some 7) (.t 3) (.t 12)) .done))))))))))) (.seq (.block 0 (.g (.o 0 17 (.fad (.t 3) 1) (.o 1 18 (.load none (.t 17)) (.o 2 19 (.bin .eql (.t 18) (.i 1)) (.o 3 16 (.mov (.t 19)) .done)))) (.cond (.t 16) (.reg false (.o 0 20 (.mov (.t 0)) (.o 1 21 (.lit 21 1 [(.i 0)] 4 [(0, 1, (.i 1)), (1, 1, (.i 167772163)), (2, 1, (.i 167772164)), (3, 1, (.i 4294967295))]) (.o 2 22 (.call 22 158 [(.t 20), (.t 21)]) (.o 3 23 (.fad (.t 3) 3) (.op 4 [] none none false (.store none (.t 23) (.t 22)) .done)))))) (.g (.o 0 25 (.fad (.t 3) 1) (.o 1 26 (.load none (.t 25)) (.o 2 27 (.call 27 161 [(.t 26)]) (.o 3 24 (.mov (.t 27)) .done)))) (.cond (.t 24) (.g (.o 0 28 (.mov (.t 0)) (.o 1 29 (.call 29 234 [(.t 28)]) (.o 2 30 (.fad (.t 3) 4) (.op 3 [] none none false (.store (some 1) (.t 30) (.t 29)) .done)))) (.g (.o 0 31 (.fad (.t 3) 1) (.o 1 32 (.load none (.t 31)) (.o 2 33 (.bin .eql (.t 32) (.i 6)) .done))) (.cond (.t 33) (.reg false (.o 0 34 (.mov (.t 0)) (.o 1 35 (.call 35 76 [(.t 34), (.i 9)]) (.o 2 36 (.mov (.t 0)) (.o 3 37 (.lit 37 1 [(.i 0)] 3 [(0, 1, (.i 0)), (1, 1, (.i 30)), (2, 1, (.i 100000))]) (.o 4 38 (.call 38 158 [(.t 36), (.t 37)]) (.o 5 39 (.lit 39 1 [(.i 0)] 2 [(0, 1, (.t 35)), (1, 1, (.t 38))]) (.o 6 40 (.fad (.t 3) 6) (.op 7 [] none none false (.store none (.t 40) (.t 39)) .done))))))))) .skip))) (.reg false (.o 0 13 (.mov (.t 0)) (.o 1 14 (.call 14 235 [(.t 13), (.i 5)]) (.o 2 15 (.fad (.t 3) 5) (.op 3 [] none none false (.store none (.t 15) (.t 14)) .done)))))))))) (.g (.o 0 41 (.load (some 7) (.t 3)) (.op 1 [] none none false (.store (some 7) (.t 2) (.t 41)) .done)) .ret))))
theorem dg_spec_l3draw : Tryz.f157.body.bind (digC Tryz.prog Tryz.f157.ntmps []) = some c_spec_l3draw := by kernel_rfl
theorem rs_spec_l3draw : resSlots Tryz.prog Tryz.f157 = some [.m 2 (some 7)] := by kernel_rfl
theorem ok_spec_l3draw (c : Cu) :
  FnOK Tryz.prog 157 [.one (.box c.cells)] (fun ra os => ∃ x : Rr × Cu, (rrOk x.1 = true) ∧ ra = [.agg [.own true (encBB x.1.name), .d (.sc (.int .i64 x.1.ty)), .d (.sc (.int .i64 x.1.ttl)), .d (.sc (.int .i64 x.1.addr)), .own true (encBB x.1.to), .own true (encB x.1.text), .own true (encI x.1.nums)]] ∧ os.b 0 = x.2.cells) := by
 refine FnOK.ofK Tryz.func157 (by kernel_rfl) dg_spec_l3draw rs_spec_l3draw rfl rfl ?_
 delta c_spec_l3draw T.o X.i C.g
 refine Kbc (kAlloc Y Y (Kdb (Kc (Ka Y (Kz (ok_spec_l2draw _) ⟨⟨rfl, _, rfl, rfl⟩, trivial⟩ Y Y Y (fun _ => rfl) (fun x0 hx0 => (Ka Y (kLitD Y Y Y Y (Kz (ok_spec_l1PickInt _ _ pry pry pry) ⟨⟨rfl, _, rfl, rfl⟩, rfl, trivial⟩ Y Y Y (fun _ => rfl) (fun x1 hx1 => (Ka Y (kLitD Y Y Y Y (Kz (ok_spec_l1PickInt _ _ pry pry pry) ⟨⟨rfl, _, rfl, rfl⟩, rfl, trivial⟩ Y Y Y (fun _ => rfl) (fun x2 hx2 => (kBuildG Y (kAlloc Y Y (Ko Y Y Y Y (Kdb (Kt (Kbc (Kf Y Y (Ke Y Y Y (Kj Y Y Y (Ka Y (Kd (Km Y (fun g3 => Kc (Ka Y (kLitD Y Y Y Y (Kz (ok_spec_l1PickInt _ _ pry pry pry) ⟨⟨rfl, _, rfl, rfl⟩, rfl, trivial⟩ Y Y Y (fun _ => rfl) (fun x4 hx4 => (Kf Y Y (Ko Y Y Y Y (Kd (Kv (Kbc (Ke Y Y Y (Ko Y Y Y Y (Kd (kMem [(12288, ⟨1, 0, .box [.arr 24576 1, .d _, .d _, .d _, .nil 1, .nil 1, .nil 1]⟩), (24576, ⟨1, 0, .arr true _⟩)] [(2, .c (.ptr 12288 1 0))] [] ⟨Y, Y, trivial⟩ ⟨Y, trivial⟩ Y (Kr (Er (ra := [.agg [(.own true _), (.d _), (.d _), (.d _), (.own true _), (.own true _), (.own true _)]]) rfl ?_)))))))))))))))) (fun g3 => Kbc (Kf Y Y (Ke Y Y Y (Kp (ok_spec_l3named _) ⟨Y, trivial⟩ Y Y Y Y Y (Ka Y (Kd (kCond Y (fun g5 => Kbc (Ka Y (Kz (ok_spec_l2draw _) ⟨⟨rfl, _, rfl, rfl⟩, trivial⟩ Y Y Y (fun _ => rfl) (fun x6 hx6 => (Kf Y Y (Ko Y Y Y Y (Kdb (Kc (Kf Y Y (Ke Y Y Y (Kj Y Y Y (Kd (Km Y (fun g7 => Kc (Ka Y (Kz (ok_spec_l1Below _ _) ⟨⟨rfl, _, rfl, rfl⟩, rfl, trivial⟩ Y Y Y (fun _ => rfl) (fun x8 hx8 => (Ka Y (kLitD Y Y Y Y (Kz (ok_spec_l1PickInt _ _ pry pry pry) ⟨⟨rfl, _, rfl, rfl⟩, rfl, trivial⟩ Y Y Y (fun _ => rfl) (fun x9 hx9 => (kLitG Y Y Y Y (Kf Y Y (Ko Y Y Y Y (Kd (Kv (Kbc (kMem [(16384, ⟨1, 0, .box [.arr 24576 1, .d _, .d _, .d _, .arr 122880 1, .nil 1, .arr 163840 1]⟩), (12288, ⟨1, 0, .box [.nil 1, .d _, .d _, .d _, .nil 1, .nil 1, .nil 1]⟩), (24576, ⟨1, 0, .arr true _⟩), (122880, ⟨1, 0, .arr true _⟩), (163840, ⟨1, 0, .arr true _⟩)] [(3, .c (.ptr 16384 1 0)), (2, .c (.ptr 12288 1 0)), (41, .c (.un))] [] ⟨Y, Y, Y, Y, Y, trivial⟩ ⟨Y, Y, Y, trivial⟩ Y (Ke Y Y Y (kMem [(12288, ⟨1, 0, .box [.nil 1, .d _, .d _, .d _, .nil 1, .nil 1, .nil 1]⟩), (24576, ⟨1, 0, .arr true _⟩), (122880, ⟨1, 0, .arr true _⟩), (163840, ⟨1, 0, .arr true _⟩)] [(2, .c (.ptr 12288 1 0)), (41, .g [.arr 24576 1, .d _, .d _, .d _, .arr 122880 1, .nil 1, .arr 163840 1])] [] ⟨Y, Y, Y, Y, trivial⟩ ⟨Y, Y, trivial⟩ Y (Ko Y Y Y Y (Kd (kMem [(12288, ⟨1, 0, .box [.arr 24576 1, .d _, .d _, .d _, .arr 122880 1, .nil 1, .arr 163840 1]⟩), (24576, ⟨1, 0, .arr true _⟩), (122880, ⟨1, 0, .arr true _⟩), (163840, ⟨1, 0, .arr true _⟩)] [(2, .c (.ptr 12288 1 0))] [] ⟨Y, Y, Y, Y, trivial⟩ ⟨Y, trivial⟩ Y (Kr (Er (ra := [.agg [(.own true _), (.d _), (.d _), (.d _), (.own true _), (.own true _), (.own true _)]]) rfl ?_)))))))))))))))))))))) (fun g7 => Kn (Kv (Kbc (Ke Y Y Y (kMem [(12288, ⟨1, 0, .box [.nil 1, .d _, .d _, .d _, .nil 1, .nil 1, .nil 1]⟩), (24576, ⟨1, 0, .arr true _⟩), (122880, ⟨1, 0, .arr true _⟩)] [(2, .c (.ptr 12288 1 0)), (41, .g [.arr 24576 1, .d _, .d _, .d _, .arr 122880 1, .nil 1, .nil 1])] [] ⟨Y, Y, Y, trivial⟩ ⟨Y, Y, trivial⟩ Y (Ko Y Y Y Y (Kd (kMem [(12288, ⟨1, 0, .box [.arr 24576 1, .d _, .d _, .d _, .arr 122880 1, .nil 1, .nil 1]⟩), (24576, ⟨1, 0, .arr true _⟩), (122880, ⟨1, 0, .arr true _⟩)] [(2, .c (.ptr 12288 1 0))] [] ⟨Y, Y, Y, trivial⟩ ⟨Y, trivial⟩ Y (Kr (Er (ra := [.agg [(.own true _), (.d _), (.d _), (.d _), (.own true _), (.own true _), (.own true _)]]) rfl ?_))))))))))))))))))))))) (fun g5 => Kc (kMem [(0, ⟨0, 3, .box [.d _, .d _, .d _]⟩), (16384, ⟨1, 0, .box [.arr 24576 1, .d _, .d _, .d _, .nil 1, .nil 1, .nil 1]⟩), (24576, ⟨1, 0, .arr true _⟩)] [(0, .c (.ptr 0 0 0)), (13, .c (.un)), (3, .c (.ptr 16384 1 0)), (15, .c (.un)), (14, .c (.un))] [] ⟨Y, Y, Y, trivial⟩ ⟨Y, Y, Y, Y, Y, trivial⟩ Y (Ka Y (Kz (ok_spec_l1some _ _ pry) ⟨⟨rfl, _, rfl, rfl⟩, rfl, trivial⟩ Y Y Y (fun _ => rfl) (fun x10 hx10 => (Kf Y Y (Ko Y Y Y Y (Kd (Kv (Kbc (Ke Y Y Y (kMem [(12288, ⟨1, 0, .box [.nil 1, .d _, .d _, .d _, .nil 1, .nil 1, .nil 1]⟩), (24576, ⟨1, 0, .arr true _⟩), (61440, ⟨1, 0, .arr true _⟩)] [(2, .c (.ptr 12288 1 0)), (41, .g [.arr 24576 1, .d _, .d _, .d _, .nil 1, .arr 61440 1, .nil 1])] [] ⟨Y, Y, Y, trivial⟩ ⟨Y, Y, trivial⟩ Y (Ko Y Y Y Y (Kd (kMem [(12288, ⟨1, 0, .box [.arr 24576 1, .d _, .d _, .d _, .nil 1, .arr 61440 1, .nil 1]⟩), (24576, ⟨1, 0, .arr true _⟩), (61440, ⟨1, 0, .arr true _⟩)] [(2, .c (.ptr 12288 1 0))] [] ⟨Y, Y, Y, trivial⟩ ⟨Y, trivial⟩ Y (Kr (Er (ra := [.agg [(.own true _), (.d _), (.d _), (.d _), (.own true _), (.own true _), (.own true _)]]) rfl ?_))))))))))))))))))))))))))))))))))))))))))))))))))
 ·refine ⟨(⟨x0.1, x1.1, x2.1, x4.1, [], [], []⟩, x4.2), ?_, rfl, rfl⟩
  show rrOk ⟨x0.1, x1.1, x2.1, x4.1, [], [], []⟩ = true
  rw [show x1.1 = 1 by assumption]
  exact drawn_A hx0 hx2 hx4
 ·refine ⟨(⟨x0.1, x1.1, x2.1, 0, x6.1, [], [x8.1, x9.1]⟩, x9.2), ?_, rfl, rfl⟩
  show rrOk ⟨x0.1, x1.1, x2.1, 0, x6.1, [], [x8.1, x9.1]⟩ = true
  rw [show x1.1 = 6 by assumption]
  exact drawn_soa hx0 hx6 hx2 hx8 hx9
 ·exact ⟨(⟨x0.1, x1.1, x2.1, 0, x6.1, [], []⟩, x6.2), drawn_to hx0 hx6 hx1 (by assumption) (by assumption) hx2, rfl, rfl⟩
 ·exact ⟨(⟨x0.1, x1.1, x2.1, 0, [], x10.1, []⟩, x10.2), drawn_text hx0 hx1 (by assumption) (by assumption) hx2 (by rcases hx10 with h | h; omega; rw [h]; simp), rfl, rfl⟩

def c_spec_l1Once : C := (.g (.o 0 4 (.mov (.v (.bool false))) .done) (.g (.o 0 5 (.mov (.t 0)) (.o 1 6 (.mov (.t 1)) (.o 2 7 (.call 7 76 [(.t 5), (.t 6)]) (.o 3 8 (.bin .eql (.t 7) (.i 0)) (.o 4 4 (.mov (.t 8)) .done))))) .ret))
theorem dg_spec_l1Once : Tryz.f73.body.bind (digC Tryz.prog Tryz.f73.ntmps []) = some c_spec_l1Once := by kernel_rfl
theorem rs_spec_l1Once : resSlots Tryz.prog Tryz.f73 = some [.s 4] := by kernel_rfl
theorem ok_spec_l1Once (c : Cu) (n : Int) :
  FnOK Tryz.prog 73 [.one (.box c.cells), .one (.d (.sc (.int .i64 n)))] (fun ra os => ∃ x : Bool × Cu, True ∧ ra = [.one (.d (.sc (.bool x.1)))] ∧ os.b 0 = x.2.cells) := by
 refine FnOK.ofK Tryz.func73 (by kernel_rfl) dg_spec_l1Once rs_spec_l1Once rfl rfl ?_
 delta c_spec_l1Once T.o X.i C.g
 refine Kbc (Ka Y (Kdb (Kc (Ka Y (Ka Y (Kz (ok_spec_l1Below _ _) ⟨⟨rfl, _, rfl, rfl⟩, rfl, trivial⟩ Y Y Y (fun _ => rfl) (fun x0 hx0 => (Kj Y Y Y (Ka Y (Kd (Kr (Er (ra := [.one (.d _)]) rfl ?_))))))))))))
 exact ⟨(_, x0.2), trivial, rfl, rfl⟩

section
variable {P : Program} {k : List It} {Q : Ex → St → Prop} {s : St} {d : Option Nat} {q : Bool} {r : T} {oi : Nat} {tags : List Nat}
end
theorem rr_ns {n t : List (List UInt8)} (hn : nameOk n = true) (ht : nameOk t = true) : rrOk ⟨n, 2, 60, 0, t, [], []⟩ = true := by
 unfold rrOk dataOk
 simp [hn, ht, hasTo, hasText, tyOk]
theorem rr_a {n : List (List UInt8)} {ip : Int} (hn : nameOk n = true) (h : isW ip = true) : rrOk ⟨n, 1, 60, ip, [], [], []⟩ = true := by
 unfold rrOk dataOk
 simp [hn, h, hasTo, hasText, tyOk]
theorem rr_name {r : Rr} {n : List (List UInt8)} (h : rrOk r = true) (hn : nameOk n = true) : rrOk ⟨n, r.ty, r.ttl, r.addr, r.to, r.text, r.nums⟩ = true := by
 unfold rrOk dataOk at h ⊢
 simp only [Bool.and_eq_true] at h ⊢
 exact ⟨⟨⟨hn, h.1.1.2⟩, h.1.2⟩, h.2⟩
theorem rr_to5 {r : Rr} {n t : List (List UInt8)} (h : rrOk r = true) (h5 : r.ty = 5) (hn : nameOk n = true) (ht : nameOk t = true) : rrOk ⟨n, r.ty, r.ttl, r.addr, t, r.text, r.nums⟩ = true := by
 unfold rrOk dataOk at h ⊢
 simp only [h5] at h ⊢
 simp [hasTo, hasText] at h ⊢
 simp_all
theorem new_root : zoneOk (newZ (readN (ByteArray.mk #[46]).toList) 1) = true := by decide +kernel
theorem new_com : zoneOk (newZ (readN (ByteArray.mk #[99, 111, 109, 46]).toList) 1) = true := by decide +kernel
theorem new_x : zoneOk (newZ (readN (ByteArray.mk #[120, 46, 99, 111, 109, 46]).toList) 1) = true := by decide +kernel
def c_spec_l11tree : C := (.g (.o 0 2 (.mov (.n 2)) (.o 1 3 (.mov (.n 1)) .done)) (.g (.o 0 12 (.call 12 220 [(.v (.string ⟨#[99, 111, 109, 46]⟩)), (.v (.string ⟨#[110, 115, 46, 99, 111, 109, 46]⟩))]) (.o 1 13 (.call 13 221 [(.v (.string ⟨#[110, 115, 46, 99, 111, 109, 46]⟩)), (.i 2)]) (.o 2 14 (.lit 14 7 [(.n 1), (.i 0), (.i 0), (.i 0), (.n 1), (.n 1), (.n 1)] 2 [(0, 7, (.t 12)), (7, 7, (.t 13))]) (.o 3 15 (.call 15 219 [(.v (.string ⟨#[46]⟩)), (.t 14)]) (.o 4 4 (.alloc 4 [(.n 1), (.n 7)]) (.op 5 [] none none false (.store (some 2) (.t 4) (.t 15)) .done)))))) (.g (.o 0 16 (.call 16 220 [(.v (.string ⟨#[120, 46, 99, 111, 109, 46]⟩)), (.v (.string ⟨#[110, 115, 46, 120, 46, 99, 111, 109, 46]⟩))]) (.o 1 17 (.call 17 221 [(.v (.string ⟨#[110, 115, 46, 120, 46, 99, 111, 109, 46]⟩)), (.i 3)]) (.o 2 18 (.call 18 221 [(.v (.string ⟨#[110, 115, 46, 99, 111, 109, 46]⟩)), (.i 2)]) (.o 3 19 (.call 19 221 [(.v (.string ⟨#[121, 46, 99, 111, 109, 46]⟩)), (.i 20)]) (.o 4 20 (.lit 20 7 [(.n 1), (.i 0), (.i 0), (.i 0), (.n 1), (.n 1), (.n 1)] 4 [(0, 7, (.t 16)), (7, 7, (.t 17)), (14, 7, (.t 18)), (21, 7, (.t 19))]) (.o 5 21 (.call 21 219 [(.v (.string ⟨#[99, 111, 109, 46]⟩)), (.t 20)]) (.o 6 5 (.alloc 5 [(.n 1), (.n 7)]) (.op 7 [] none none false (.store (some 2) (.t 5) (.t 21)) .done)))))))) (.g (.o 0 6 (.mov (.n 7)) .done) (.g (.o 0 22 (.mov (.t 0)) (.o 1 23 (.call 23 76 [(.t 22), (.i 6)]) (.o 2 7 (.mov (.t 23)) .done))) (.seq (.g (.o 0 8 (.mov (.i 0)) .done) (.block 0 (.loop (.seq (.g (.o 0 24 (.mov (.t 8)) (.o 1 25 (.mov (.t 7)) (.o 2 26 (.bin .lss (.t 24) (.t 25)) .done))) (.cond (.t 26) .skip (.exit 0))) (.seq (.block 1 (.g (.o 0 29 (.mov (.t 0)) (.o 1 30 (.call 30 157 [(.t 29)]) (.o 2 9 (.alloc 9 [(.n 1), (.i 0), (.i 0), (.i 0), (.n 1), (.n 1), (.n 1)]) (.op 3 [] none none false (.store (some 7) (.t 9) (.t 30)) .done)))) (.seq (.g (.o 0 31 (.fad (.t 9) 1) (.o 1 32 (.load none (.t 31)) (.o 2 33 (.bin .eql (.t 32) (.i 2)) (.o 3 34 (.mov (.t 33)) (.op 4 [] (some 35) (some (34, false)) false (.fad (.t 9) 1) (.op 5 [] (some 36) (some (34, false)) false (.load none (.t 35)) (.op 6 [] (some 37) (some (34, false)) false (.bin .eql (.t 36) (.i 6)) (.o 7 38 (.pick (.t 34) (.v (.bool true)) (.t 37)) .done)))))))) (.cond (.t 38) (.exit 1) .skip)) (.g (.o 0 39 (.lit 39 1 [(.v (.string ⟨#[]⟩))] 4 [(0, 1, (.v (.string ⟨#[120, 46, 99, 111, 109, 46]⟩))), (1, 1, (.v (.string ⟨#[119, 119, 119, 46, 120, 46, 99, 111, 109, 46]⟩))), (2, 1, (.v (.string ⟨#[97, 46, 120, 46, 99, 111, 109, 46]⟩))), (3, 1, (.v (.string ⟨#[98, 46, 120, 46, 99, 111, 109, 46]⟩)))]) (.o 1 40 (.mov (.t 0)) (.o 2 41 (.call 41 76 [(.t 40), (.i 4)]) (.o 3 42 (.iad 1 (.t 39) (.t 41)) (.o 4 43 (.load none (.t 42)) (.o 5 44 (.call 44 222 [(.t 43)]) (.o 6 45 (.fad (.t 9) 0) (.op 7 [] none none false (.store (some 1) (.t 45) (.t 44)) .done)))))))) (.seq (.g (.o 0 46 (.fad (.t 9) 1) (.o 1 47 (.load none (.t 46)) (.o 2 48 (.bin .eql (.t 47) (.i 5)) .done))) (.cond (.t 48) (.reg false (.o 0 49 (.lit 49 1 [(.v (.string ⟨#[]⟩))] 4 [(0, 1, (.v (.string ⟨#[119, 119, 119, 46, 120, 46, 99, 111, 109, 46]⟩))), (1, 1, (.v (.string ⟨#[97, 46, 120, 46, 99, 111, 109, 46]⟩))), (2, 1, (.v (.string ⟨#[121, 46, 99, 111, 109, 46]⟩))), (3, 1, (.v (.string ⟨#[110, 111, 46, 99, 111, 109, 46]⟩)))]) (.o 1 50 (.mov (.t 0)) (.o 2 51 (.call 51 76 [(.t 50), (.i 4)]) (.o 3 52 (.iad 1 (.t 49) (.t 51)) (.o 4 53 (.load none (.t 52)) (.o 5 54 (.call 54 222 [(.t 53)]) (.o 6 55 (.fad (.t 9) 4) (.op 7 [] none none false (.store (some 1) (.t 55) (.t 54)) .done))))))))) .skip)) (.reg false (.o 0 56 (.mov (.t 6)) (.o 1 57 (.load (some 7) (.t 9)) (.o 2 58 (.lit 58 7 [(.n 1), (.i 0), (.i 0), (.i 0), (.n 1), (.n 1), (.n 1)] 1 [(0, 7, (.t 57))]) (.o 3 59 (.app 59 7 120 (.t 56) (.t 58)) (.o 4 6 (.mov (.t 59)) .done))))))))))) (.reg false (.o 0 27 (.mov (.t 8)) (.o 1 28 (.bin .add (.t 27) (.i 1)) (.o 2 8 (.mov (.t 28)) .done))))))))) (.g (.o 0 60 (.mov (.t 6)) (.o 1 61 (.call 61 219 [(.v (.string ⟨#[120, 46, 99, 111, 109, 46]⟩)), (.t 60)]) (.o 2 10 (.alloc 10 [(.n 1), (.n 7)]) (.op 3 [] none none false (.store (some 2) (.t 10) (.t 61)) .done)))) (.g (.o 0 62 (.lit 62 1 [(.i 0)] 3 [(0, 1, (.i 1)), (1, 1, (.i 2)), (2, 1, (.i 3))]) (.o 1 11 (.mov (.t 62)) .done)) (.seq (.g (.o 0 63 (.mov (.t 0)) (.o 1 64 (.call 64 73 [(.t 63), (.i 9)]) .done)) (.cond (.t 64) (.reg false (.o 0 65 (.mov (.t 11)) (.o 1 66 (.iad 1 (.t 65) (.i 2)) (.op 2 [] none none false (.store none (.t 66) (.i 4)) .done)))) .skip)) (.g (.o 0 67 (.load (some 2) (.t 4)) (.o 1 68 (.load (some 2) (.t 5)) (.o 2 69 (.load (some 2) (.t 10)) (.o 3 70 (.lit 70 2 [(.n 1), (.n 7)] 3 [(0, 2, (.t 67)), (2, 2, (.t 68)), (4, 2, (.t 69))]) (.o 4 71 (.mov (.t 11)) (.o 5 2 (.mov (.t 70)) (.o 6 3 (.mov (.t 71)) .done))))))) .ret))))))))))
theorem dg_spec_l11tree : Tryz.f126.body.bind (digC Tryz.prog Tryz.f126.ntmps []) = some c_spec_l11tree := by kernel_rfl
theorem rs_spec_l11tree : resSlots Tryz.prog Tryz.f126 = some [.s 2, .s 3] := by kernel_rfl
theorem ok_spec_l11tree (c : Cu) :
  FnOK Tryz.prog 126 [.one (.box c.cells)] (fun ra os => ∃ x : (Zone × List Int) × Cu, (X3 x.1.1 ∧ (x.1.2 = [1, 2, 3] ∨ x.1.2 = [1, 2, 4])) ∧ ra = [.one (.d (encL 2 Zone.cells [zRoot, zCom, x.1.1])), .one (.own true (encI x.1.2))] ∧ os.b 0 = x.2.cells) := by
 refine FnOK.ofK Tryz.func126 (by kernel_rfl) dg_spec_l11tree rs_spec_l11tree rfl rfl ?_
 delta c_spec_l11tree T.o X.i C.g
 have hl1 : ∀ r ∈ ([⟨readN (ByteArray.mk #[99, 111, 109, 46]).toList, 2, 60, 0, readN (ByteArray.mk #[110, 115, 46, 99, 111, 109, 46]).toList, [], []⟩, ⟨readN (ByteArray.mk #[110, 115, 46, 99, 111, 109, 46]).toList, 1, 60, 2, [], [], []⟩] : List Rr), rrOk r = true := by
  intro r hr
  simp only [List.mem_cons, List.not_mem_nil, or_false] at hr
  rcases hr with rfl | rfl
  ·exact rr_ns (readN_ok _) (readN_ok _)
  ·exact rr_a (readN_ok _) (by decide)
 have hl2 : ∀ r ∈ ([⟨readN (ByteArray.mk #[120, 46, 99, 111, 109, 46]).toList, 2, 60, 0, readN (ByteArray.mk #[110, 115, 46, 120, 46, 99, 111, 109, 46]).toList, [], []⟩, ⟨readN (ByteArray.mk #[110, 115, 46, 120, 46, 99, 111, 109, 46]).toList, 1, 60, 3, [], [], []⟩, ⟨readN (ByteArray.mk #[110, 115, 46, 99, 111, 109, 46]).toList, 1, 60, 2, [], [], []⟩, ⟨readN (ByteArray.mk #[121, 46, 99, 111, 109, 46]).toList, 1, 60, 20, [], [], []⟩] : List Rr), rrOk r = true := by
  intro r hr
  simp only [List.mem_cons, List.not_mem_nil, or_false] at hr
  rcases hr with rfl | rfl | rfl | rfl
  ·exact rr_ns (readN_ok _) (readN_ok _)
  ·exact rr_a (readN_ok _) (by decide)
  ·exact rr_a (readN_ok _) (by decide)
  ·exact rr_a (readN_ok _) (by decide)
 refine Kbc (Ka Y (Ka Y (Kdb (Kc (Ku false (ok_spec_l11ns _ _ prx prx) ⟨Y, Y, trivial⟩ Y Y Y (fun _ => (Ku false (ok_spec_l11a _ _ prx) ⟨Y, Y, trivial⟩ Y Y Y (fun _ => (kLitD Y Y Y Y ?_)))))))))
 refine Ku false (okx_spec_l11zone (ByteArray.mk #[46]) [⟨readN (ByteArray.mk #[99, 111, 109, 46]).toList, 2, 60, 0, readN (ByteArray.mk #[110, 115, 46, 99, 111, 109, 46]).toList, [], []⟩, ⟨readN (ByteArray.mk #[110, 115, 46, 99, 111, 109, 46]).toList, 1, 60, 2, [], [], []⟩] (by decide) hl1 (by simp) new_root) ⟨Y, Y, trivial⟩ Y Y Y (fun _ => ?_)
 rw [zRoot_eq]
 clear hl1
 refine kAlloc Y Y (Ko Y Y Y Y (Kdb (Kc (Ku false (ok_spec_l11ns _ _ prx prx) ⟨Y, Y, trivial⟩ Y Y Y (fun _ => (Ku false (ok_spec_l11a _ _ prx) ⟨Y, Y, trivial⟩ Y Y Y (fun _ => (Ku false (ok_spec_l11a _ _ prx) ⟨Y, Y, trivial⟩ Y Y Y (fun _ => (Ku false (ok_spec_l11a _ _ prx) ⟨Y, Y, trivial⟩ Y Y Y (fun _ => (kLitD Y Y Y Y ?_))))))))))))
 refine Ku false (okx_spec_l11zone (ByteArray.mk #[99, 111, 109, 46]) [⟨readN (ByteArray.mk #[120, 46, 99, 111, 109, 46]).toList, 2, 60, 0, readN (ByteArray.mk #[110, 115, 46, 120, 46, 99, 111, 109, 46]).toList, [], []⟩, ⟨readN (ByteArray.mk #[110, 115, 46, 120, 46, 99, 111, 109, 46]).toList, 1, 60, 3, [], [], []⟩, ⟨readN (ByteArray.mk #[110, 115, 46, 99, 111, 109, 46]).toList, 1, 60, 2, [], [], []⟩, ⟨readN (ByteArray.mk #[121, 46, 99, 111, 109, 46]).toList, 1, 60, 20, [], [], []⟩] (by decide) hl2 (by simp) new_com) ⟨Y, Y, trivial⟩ Y Y Y (fun _ => ?_)
 rw [zCom_eq]
 clear hl2
 refine kAlloc Y Y (Ko Y Y Y Y (Kdb (Kc (Ka Y (Kdb (Kc (Ka Y (Kz (ok_spec_l1Below _ _) ⟨⟨rfl, _, rfl, rfl⟩, rfl, trivial⟩ Y Y Y (fun _ => rfl) (fun x0 hx0 => (Ka Y (Kdb (Kbc (Ka Y (Kd (Kt ?_)))))))))))))))
 refine kSub (Sub.nilArr (j := 6) (id := rid 5000 0) (sz := 7) rfl (by decide)) ?_
 obtain ⟨nn, cc⟩ := x0
 obtain ⟨n, rfl⟩ : ∃ n : Nat, nn = n := ⟨nn.toNat, by have := hx0.1; simp only at this; omega⟩
 have hn6 : n ≤ 5 := by have := hx0.2; simp only at this; omega
 clear hx0
 refine kLoop (α := { y : Nat × List Rr × Cu // (y.1 ≤ n ∧ y.2.1.length ≤ y.1) ∧ ∀ r ∈ y.2.1, rrOk r = true ∧ r.ty ≠ 2 }) (fun y => ⟨tabSl [(0, .c (.ptr 0 0 0)), (4, .c (.ptr (rid 4 0) 1 0)), (5, .c (.ptr (rid 5 0) 1 0)), (6, .c (.arr (rid 5000 0) 1)), (7, .i n), (8, .i y.1.1)], obTab 1 [(0, ⟨0, 0, .box (y.1.2.2.cells.map .d)⟩), (rid 4 0, ⟨1, 0, .box [.d (encBB zRoot.origin), .d (encR zRoot.rrs)]⟩), (rid 5 0, ⟨1, 0, .box [.d (encBB zCom.origin), .d (encR zCom.rrs)]⟩), (rid 5000 0, ⟨1, 0, .arr false (encR y.1.2.1)⟩)], []⟩) (fun y => n - y.1.1) ⟨(0, [], cc), ⟨Nat.zero_le _, by simp⟩, nofun⟩ .normA ?_
 rintro ⟨⟨i, L, cu⟩, ⟨hi, hL⟩, hLm⟩
 simp only at hi hL hLm ⊢
 rcases Nat.lt_or_ge i n with hlt | hge
 ·refine Kb (Kbc (Ka Y (Ka Y (Kj Y Y Y (Kd (Km Y (fun g0 => Kn (Kb (Kt (Kbc (Ka Y (Kz (ok_spec_l3draw _) ⟨⟨rfl, _, rfl, rfl⟩, trivial⟩ Y Y Y (fun _ => rfl) (fun x1 hx1 => (kAlloc Y Y (Ko Y Y Y Y (Kdb (Kbc (Kf Y Y (Ke Y Y Y (Kj Y Y Y (Ka Y (kGP Y (fun g2 => Kg Y (Kg Y (Kg Y (Kk Y (Ka Y (Kd (kCondT Y (kExit (kExC (kExB (Kc (Ka Y (kAdd Y Y om (Ka Y (Kd ?_))))))))))))))) (fun g2 => Ki Y (Kf Y Y (Ki Y (Ke Y Y Y (Ki Y (Kj Y Y Y (Kl Y (Ka Y (Kd (Km Y (fun g3 => kExit (kExC (kExB (Kc (Ka Y (kAdd Y Y om (Ka Y (Kd ?_)))))))) (fun g3 => Kn (Kbc (kLitG Y Y Y Y (Ka Y (Kz (ok_spec_l1Below _ _) ⟨⟨rfl, _, rfl, rfl⟩, rfl, trivial⟩ Y Y Y (fun _ => rfl) (fun x4 hx4 => (kIadStr Y Y Y Y (by simp only [List.length_cons, List.length_nil]; omega) (kLoadStr Y Y Y (by simp only [List.length_cons, List.length_nil]; omega) rfl (fun b5 hb5 => (Ku true (ok_spec_l2of _ prx) ⟨Y, trivial⟩ Y Y Y (fun _ => (Kf Y Y (Ko Y Y Y Y (Kdb (Kbc (Kf Y Y (Ke Y Y Y (Kj Y Y Y (Kd (Km Y (fun g6 => Kc (kLitG Y Y Y Y (Ka Y (Kz (ok_spec_l1Below _ _) ⟨⟨rfl, _, rfl, rfl⟩, rfl, trivial⟩ Y Y Y (fun _ => rfl) (fun x7 hx7 => (kIadStr Y Y Y Y (by simp only [List.length_cons, List.length_nil]; omega) (kLoadStr Y Y Y (by simp only [List.length_cons, List.length_nil]; omega) rfl (fun b8 hb8 => (Ku true (ok_spec_l2of _ prx) ⟨Y, trivial⟩ Y Y Y (fun _ => (Kf Y Y (Ko Y Y Y Y (Kd (Kc (Ka Y (Ke Y Y Y (kLitG Y Y Y Y (kAppRec Y Y Y Y Y Y Y prl (Ka Y (Kd (Kv (Kc (Ka Y (kAdd Y Y om (Ka Y (Kd ?_)))))))))))))))))))))))))) (fun g6 => Kn (Kc (Ka Y (Ke Y Y Y (kLitG Y Y Y Y (kAppRec Y Y Y Y Y Y Y prl (Ka Y (Kd (Kv (Kc (Ka Y (kAdd Y Y om (Ka Y (Kd ?_)))))))))))))))))))))))))))))))))))))))))))))))))))))))))))) (fun g0 => om)))))))
  ·exact kInv ⟨⟨(i + 1, L, _), ⟨hlt, by simp only; omega⟩, hLm⟩, by simp only; omega, .normA⟩
  ·exact kInv ⟨⟨(i + 1, L, _), ⟨hlt, by simp only; omega⟩, hLm⟩, by simp only; omega, .normA⟩
  ·exact kInv ⟨⟨(i + 1, L ++ [⟨readN b5.toList, x1.1.ty, x1.1.ttl, x1.1.addr, readN b8.toList, x1.1.text, x1.1.nums⟩], _), ⟨hlt, by simp only [List.length_append, List.length_singleton]; omega⟩, fun r hr => (List.mem_append.1 hr).elim (hLm r) fun h => by simp only [List.mem_singleton] at h; rw [h]; exact ⟨rr_to5 hx1 (by assumption) (readN_ok _) (readN_ok _), by assumption⟩⟩, by simp only; omega, .normA⟩
  ·exact kInv ⟨⟨(i + 1, L ++ [⟨readN b5.toList, x1.1.ty, x1.1.ttl, x1.1.addr, x1.1.to, x1.1.text, x1.1.nums⟩], _), ⟨hlt, by simp only [List.length_append, List.length_singleton]; omega⟩, fun r hr => (List.mem_append.1 hr).elim (hLm r) fun h => by simp only [List.mem_singleton] at h; rw [h]; exact ⟨rr_name hx1 (readN_ok _), by assumption⟩⟩, by simp only; omega, .normA⟩
 ·refine Kb (Kbc (Ka Y (Ka Y (Kj Y Y Y (Kd (Km Y (fun g0 => om) (fun g0 => kExit (kExC (kExI (kExB (Kbc (Ka Y ?_))))))))))))
  have hX3 := x3_fold (fun r hr => (hLm r hr).1) (fun r hr => (hLm r hr).2) (by omega)
  refine kCallF [rid 5000 0] false (okx_spec_l11zone (ByteArray.mk #[120, 46, 99, 111, 109, 46]) L (by decide) (fun r hr => (hLm r hr).1) om new_x) rfl ⟨Y, Y, trivial⟩ Y Y Y (fun _ => ?_)
  generalize L.foldl addN (zoneNewN (readN (ByteArray.mk #[120, 46, 99, 111, 109, 46]).toList) 1) = z3 at *
  refine kAlloc Y Y (Ko Y Y Y Y (Kdb (Kc (kLitG Y Y Y Y (Ka Y (Kdb (Kbc (Ka Y (Kz (ok_spec_l1Once _ _) ⟨⟨rfl, _, rfl, rfl⟩, rfl, trivial⟩ Y Y Y (fun _ => rfl) (fun x0 hx0 => (Kd (kCond Y (fun g1 => Kc (Ka Y ?_)) (fun g1 => Kn (Kbc (Ke Y Y Y (Ke Y Y Y (Ke Y Y Y (kLitG Y Y Y Y (Ka Y (Ka Y (Ka Y (Kd (Kr (Er (ra := [.one (.d _), .one (.own true _)]) rfl ?_))))))))))))))))))))))))
  ·refine kIadAR (f := fun i : Int => [.sc (.int .i64 i)]) (l := [1, 2, 3]) (m := 2) rfl rfl rfl rfl (by simp) ?_
   refine kStoreER (f := fun i : Int => [.sc (.int .i64 i)]) (l := [1, 2, 3]) (i := 2) (z := 4) rfl rfl rfl rfl rfl rfl rfl (by simp) rfl ?_
   refine Kdb (Kc (Ke Y Y Y (Ke Y Y Y (Ke Y Y Y (kLitG Y Y Y Y (Ka Y (Ka Y (Ka Y (Kd (Kr (Er (ra := [.one (.d _), .one (.own true _)]) rfl ?_)))))))))))
   exact ⟨((z3, [1, 2, 4]), _), ⟨hX3, .inr rfl⟩, rfl, rfl⟩
  ·exact ⟨((z3, [1, 2, 3]), _), ⟨hX3, .inl rfl⟩, rfl, rfl⟩

section
variable {P : Program} {k : List It} {Q : Ex → St → Prop} {s : St} {r : T} {d : Option Nat} {q : Bool} {oi : Nat} {tags : List Nat}
theorem kLoadStrM {x : X} {id ver ev i : Nat} {dp : Bool} {xs : List (List DV)} {l : List ByteArray} (hx : s.ev x = .c (.ept id ver i 0)) (ho : s.ob id = ⟨ver, ev, .arr dp (.sl 1 xs)⟩) (hs : strsOf xs = some l) (hi : i < l.length)
  (h : ∀ b : ByteArray, b ∈ l → kont P (.t r (if q then oi :: tags else tags) :: k) Q .normal ((s.heldIf q [id]).put d (.vv (.string b)))) : kont P (.t (.op oi [] d none q (.load none x) r) tags :: k) Q .normal s := by
 refine kLoadE hx ho (v := .vv (.string l[i])) ?_ (h _ (List.getElem_mem hi))
 rw [strsOf_eq hs]
 rw [row_map 1 (fun b => [DV.sc (.string b)]) l i hi]
 rfl
end
def c_spec_l11q : C := (.g (.o 0 2 (.alloc 2 [(.n 1), (.i 0)]) .done) (.g (.o 0 3 (.lit 3 1 [(.v (.string ⟨#[]⟩))] 7 [(0, 1, (.v (.string ⟨#[119, 119, 119, 46, 120, 46, 99, 111, 109, 46]⟩))), (1, 1, (.v (.string ⟨#[97, 46, 120, 46, 99, 111, 109, 46]⟩))), (2, 1, (.v (.string ⟨#[98, 46, 120, 46, 99, 111, 109, 46]⟩))), (3, 1, (.v (.string ⟨#[121, 46, 99, 111, 109, 46]⟩))), (4, 1, (.v (.string ⟨#[110, 111, 46, 99, 111, 109, 46]⟩))), (5, 1, (.v (.string ⟨#[120, 46, 99, 111, 109, 46]⟩))), (6, 1, (.v (.string ⟨#[111, 114, 103, 46]⟩)))]) (.o 1 4 (.mov (.t 0)) (.o 2 5 (.call 5 76 [(.t 4), (.i 7)]) (.o 3 6 (.iad 1 (.t 3) (.t 5)) (.o 4 7 (.load none (.t 6)) (.o 5 8 (.call 8 222 [(.t 7)]) (.o 6 9 (.mov (.t 0)) (.o 7 10 (.lit 10 1 [(.i 0)] 5 [(0, 1, (.i 1)), (1, 1, (.i 1)), (2, 1, (.i 1)), (3, 1, (.i 16)), (4, 1, (.i 5))]) (.o 8 11 (.call 11 158 [(.t 9), (.t 10)]) (.o 9 12 (.build [(.n 1), (.i 0)] [(0, 1, (.t 8)), (1, 1, (.t 11))]) (.op 10 [] none none false (.store (some 2) (.t 2) (.t 12)) .done))))))))))) .ret))
theorem dg_spec_l11q : Tryz.f127.body.bind (digC Tryz.prog Tryz.f127.ntmps []) = some c_spec_l11q := by kernel_rfl
theorem rs_spec_l11q : resSlots Tryz.prog Tryz.f127 = some [.m 2 (some 2)] := by kernel_rfl
theorem ok_spec_l11q (c : Cu) :
  FnOK Tryz.prog 127 [.one (.box c.cells)] (fun ra os => ∃ x : (List (List UInt8) × Int) × Cu, (x.1.1 ∈ qX ++ qC ++ qR ∧ x.1.2 ∈ [1, 1, 1, 16, 5]) ∧ ra = [.agg [.own true (encBB x.1.1), .d (.sc (.int .i64 x.1.2))]] ∧ os.b 0 = x.2.cells) := by
 refine FnOK.ofK Tryz.func127 (by kernel_rfl) dg_spec_l11q rs_spec_l11q rfl rfl ?_
 delta c_spec_l11q T.o X.i C.g
 refine Kbc (kAlloc Y Y (Kdb (Kc (kLitG Y Y Y Y (Ka Y (Kz (ok_spec_l1Below _ _) ⟨⟨rfl, _, rfl, rfl⟩, rfl, trivial⟩ Y Y Y (fun _ => rfl) (fun y0 hx0 => (kIadStr Y Y Y Y (by simp only [List.length_cons, List.length_nil]; omega) (kLoadStrM Y Y Y (by simp only [List.length_cons, List.length_nil]; omega) (fun b1 hb1 => ?_))))))))))
 have hq := qByt_q b1 hb1
 have hb64 : b1.size ≤ 64 := by revert b1; decide +kernel
 clear hb1 hx0
 refine Ku true (ok_spec_l2of _ prx) ⟨Y, trivial⟩ Y Y Y (fun _ => (kMem [(0, ⟨0, 1, .box [.d _, .d _, .d _]⟩), (36864, ⟨1, 0, .arr true _⟩), (12288, ⟨1, 0, .box [.nil 1, .d _]⟩)] [(0, .c (.ptr 0 0 0)), (9, .c (.un)), (10, .c (.un)), (8, .g [.arr 36864 1]), (11, .c (.un)), (2, .c (.ptr 12288 1 0)), (12, .c (.un))] [] ⟨Y, Y, Y, trivial⟩ ⟨Y, Y, Y, Y, Y, Y, Y, trivial⟩ Y (Ka Y (kLitD Y Y Y Y (Kz (ok_spec_l1PickInt _ _ prx prx prx) ⟨⟨rfl, _, rfl, rfl⟩, rfl, trivial⟩ Y Y Y (fun _ => rfl) (fun x0 hx0 => (kMem [(36864, ⟨1, 0, .arr true _⟩), (12288, ⟨1, 0, .box [.nil 1, .d _]⟩)] [(8, .g [.arr 36864 1]), (11, .c (.d _)), (2, .c (.ptr 12288 1 0)), (12, .c (.un))] [] ⟨Y, Y, trivial⟩ ⟨Y, Y, Y, Y, trivial⟩ Y (kBuildG Y (kMem [(12288, ⟨1, 0, .box [.nil 1, .d _]⟩), (36864, ⟨1, 0, .arr true _⟩)] [(2, .c (.ptr 12288 1 0)), (12, .g [.arr 36864 1, .d _])] [] ⟨Y, Y, trivial⟩ ⟨Y, Y, trivial⟩ Y (Ko Y Y Y Y (Kd (kMem [(12288, ⟨1, 0, .box [.arr 36864 1, .d _]⟩), (36864, ⟨1, 0, .arr true _⟩)] [(2, .c (.ptr 12288 1 0))] [] ⟨Y, Y, trivial⟩ ⟨Y, trivial⟩ Y (Kr (Er (ra := [.agg [(.own true _), (.d _)]]) rfl ?_))))))))))))))
 exact ⟨((readN b1.toList, x0.1), _), ⟨hq, hx0⟩, rfl, rfl⟩

def c_spec_l1New : C := (.g (.o 0 2 (.mov (.v (.pointer none))) .done) (.g (.o 0 5 (.mov (.t 0)) (.o 1 6 (.len (.t 5)) (.o 2 7 (.bin .add (.i 42222) (.t 6)) (.o 3 3 (.mov (.t 7)) .done)))) (.seq (.g (.o 0 4 (.mov (.i 0)) .done) (.block 0 (.loop (.seq (.g (.o 0 8 (.mov (.t 4)) (.o 1 9 (.mov (.t 0)) (.o 2 10 (.len (.t 9)) (.o 3 11 (.bin .lss (.t 8) (.t 10)) (.o 4 12 (.mov (.t 11)) (.op 5 [] (some 13) (some (12, true)) false (.mov (.t 4)) (.op 6 [] (some 14) (some (12, true)) false (.bin .lss (.t 13) (.i 4000)) (.o 7 15 (.pick (.t 12) (.t 14) (.v (.bool false))) .done)))))))) (.cond (.t 15) .skip (.exit 0))) (.seq (.block 1 (.reg false (.o 0 18 (.mov (.t 3)) (.o 1 19 (.bin .mul (.t 18) (.i 131)) (.o 2 20 (.mov (.t 0)) (.o 3 21 (.mov (.t 4)) (.o 4 22 (.iad 1 (.t 20) (.t 21)) (.o 5 23 (.load none (.t 22)) (.o 6 24 (.conv .i64 (.t 23)) (.o 7 25 (.bin .add (.t 19) (.t 24)) (.o 8 26 (.bin .add (.t 25) (.i 7)) (.o 9 27 (.bin .and (.t 26) (.i 1073741823)) (.o 10 3 (.mov (.t 27)) .done))))))))))))) (.reg false (.o 0 16 (.mov (.t 4)) (.o 1 17 (.bin .add (.t 16) (.i 1)) (.o 2 4 (.mov (.t 17)) .done))))))))) (.g (.o 0 28 (.mov (.t 0)) (.o 1 29 (.mov (.t 3)) (.o 2 30 (.build [(.n 1), (.i 0), (.i 0)] [(0, 1, (.t 28)), (2, 1, (.t 29))]) (.o 3 31 (.box 31 (.t 30)) (.o 4 2 (.mov (.t 31)) .done))))) .ret))))
theorem dg_spec_l1New : Tryz.f71.body.bind (digC Tryz.prog Tryz.f71.ntmps []) = some c_spec_l1New := by kernel_rfl
theorem rs_spec_l1New : resSlots Tryz.prog Tryz.f71 = some [.s 2] := by kernel_rfl
theorem ok_spec_l1New (code : List UInt8) (hb : (code.length : Int) ≤ 9223372036854775807) :
  FnOK Tryz.prog 71 [.one (.d (encB code))] (fun ra _ => ∃ c : Cu, True ∧ ra = [.one (.box c.cells)]) := by
 refine FnOK.ofK Tryz.func71 (by kernel_rfl) dg_spec_l1New rs_spec_l1New rfl rfl ?_
 delta c_spec_l1New T.o X.i C.g
 refine Kbc (Ka Y (Kdb (Kc (Ka Y (Kq Y Y (Kj Y Y Y (Ka Y (Kdb (Kbc (Ka Y (Kd (Kt ?_))))))))))))
 refine kLoop (α := { i : Nat // i ≤ code.length } × Int) (fun y => ⟨tabSl [(0, .dv (encB code)), (3, .i y.2), (4, .i y.1.1)], obTab 1 [], []⟩) (fun y => code.length - y.1.1) (⟨0, by simp⟩, _) .normA ?_
 rintro ⟨⟨i, hi⟩, h⟩
 simp only
 rcases Nat.lt_or_ge i code.length with hlt | hge
 ·refine Kb (Kbc (Ka Y (Ka Y (Kq Y Y (Kj Y Y Y (Ka Y (kGP Y (fun g0 => Ki Y (Ka Y (Ki Y (Kj Y Y Y (Kk Y (Ka Y (Kd (Km Y (fun g1 => Kn (Kb (Kt (Kc (Ka Y (Kj Y Y Y (Ka Y (Ka Y (kIadR Y Y Y om (Ky Y Y (kConv Y (Kj Y Y Y (Kj Y Y Y (Kj Y Y Y (Ka Y (Kd (Kv (Kc (Ka Y (kAdd Y Y om (Ka Y (Kd ?_)))))))))))))))))))))) (fun g1 => kExit (kExC (kExI (kExB (Kbc (Ka Y (Ka Y (kBuildG Y (kBox Y Y Y Y Y (Ka Y (Kd (Kr (Er (ra := [.one (.box [_, _, _])]) rfl ?_))))))))))))))))))))) (fun g0 => om))))))))
  ·exact kInv ⟨(⟨i + 1, by omega⟩, _), by simp only; omega, .normA⟩
  ·exact ⟨⟨code, 0, h, by omega, by omega, hb⟩, trivial, rfl⟩
 ·refine Kb (Kbc (Ka Y (Ka Y (Kq Y Y (Kj Y Y Y (Ka Y (kGP Y (fun g0 => om) (fun g0 => Kg Y (Kg Y (Kl Y (Ka Y (Kd (kCondF Y (kExit (kExC (kExI (kExB (Kbc (Ka Y (Ka Y (kBuildG Y (kBox Y Y Y Y Y (Ka Y (Kd (Kr (Er (ra := [.one (.box [_, _, _])]) rfl ?_))))))))))))))))))))))))))
  exact ⟨⟨code, 0, h, by omega, by omega, hb⟩, trivial, rfl⟩

section
variable {P : Program} {k : List It} {Q : Ex → St → Prop}
theorem kJoinD {α : Type} {x y y2 : C} {s0 : St} (F : α → St) (h : ∀ z, kont P (.c x :: k) Q .normal (F z)) (h2 : ∀ x' : C, (∀ s z, Sub s (F z) → kont P (.c x' :: k) Q .normal s) → kont P (.c y :: .c y2 :: .c x' :: k) Q .normal s0) : kont P (.c y :: .c y2 :: .c x :: k) Q .normal s0 :=
 h2 x (fun _ z hs => kSub hs (h z))
theorem kJoinC {α : Type} {x y : C} {n : Nat} {s0 : St} (F : α → St) (h : ∀ z, kont P (.c x :: k) Q .normal (F z)) (h2 : ∀ x' : C, (∀ s z, Sub s (F z) → kont P (.c x' :: k) Q .normal s) → kont P (.c y :: .b n :: .c x' :: k) Q .normal s0) : kont P (.c y :: .b n :: .c x :: k) Q .normal s0 :=
 h2 x (fun _ z hs => kSub hs (h z))
end
theorem cut_hints {k : Int} (h : 0 ≤ k ∧ k < 2) : ([1, 9] : List Int).take (1 + k).toNat = [1] ∨ ([1, 9] : List Int).take (1 + k).toNat = [1, 9] := by
 rcases (show k = 0 ∨ k = 1 by omega) with rfl | rfl
 ·exact .inl rfl
 ·exact .inr rfl
def c_spec_DrawResolve : C := (.g (.o 0 2 (.mov (.n 2)) (.o 1 3 (.mov (.n 1)) (.o 2 4 (.mov (.n 1)) (.o 3 5 (.alloc 5 [(.n 1), (.i 0)]) (.o 4 6 (.mov (.n 1)) .done))))) (.g (.o 0 13 (.mov (.t 0)) (.o 1 14 (.call 14 71 [(.t 13)]) (.o 2 7 (.mov (.t 14)) .done))) (.g (.o 0 16 (.mov (.t 7)) (.o 1 17 (.call 17 126 [(.t 16)]) (.o 2 15 (.mov (.t 17)) (.o 3 18 (.ext (.t 15) 0) (.o 4 19 (.ext (.t 15) 1) (.o 5 8 (.mov (.t 18)) (.o 6 9 (.mov (.t 19)) .done))))))) (.seq (.g (.o 0 20 (.mov (.t 7)) (.o 1 21 (.call 21 73 [(.t 20), (.i 15)]) .done)) (.cond (.t 21) (.reg false (.o 0 22 (.mov (.t 9)) (.o 1 23 (.iad 1 (.t 22) (.i 0)) (.op 2 [] none none false (.store none (.t 23) (.i (-1))) .done)))) .skip)) (.g (.o 0 10 (.mov (.n 1)) .done) (.g (.o 0 24 (.mov (.t 7)) (.o 1 25 (.call 25 76 [(.t 24), (.i 9)]) (.o 2 11 (.mov (.t 25)) .done))) (.seq (.g (.o 0 12 (.mov (.i 0)) .done) (.block 0 (.loop (.seq (.g (.o 0 26 (.mov (.t 12)) (.o 1 27 (.mov (.t 11)) (.o 2 28 (.bin .lss (.t 26) (.t 27)) (.o 3 29 (.mov (.t 28)) (.op 4 [] (some 30) (some (29, true)) false (.mov (.t 7)) (.op 5 [] (some 31) (some (29, true)) false (.call 31 73 [(.t 30), (.i 3)]) (.op 6 [] (some 32) (some (29, true)) false (.un .not (.t 31)) (.o 7 33 (.pick (.t 29) (.t 32) (.v (.bool false))) .done)))))))) (.cond (.t 33) .skip (.exit 0))) (.seq (.block 1 (.reg false (.o 0 36 (.mov (.t 10)) (.o 1 37 (.mov (.t 7)) (.o 2 38 (.call 38 73 [(.t 37), (.i 3)]) (.o 3 39 (.lit 39 1 [(.v (.bool false))] 1 [(0, 1, (.t 38))]) (.o 4 40 (.app 40 1 1 (.t 36) (.t 39)) (.o 5 10 (.mov (.t 40)) .done)))))))) (.reg false (.o 0 34 (.mov (.t 12)) (.o 1 35 (.bin .add (.t 34) (.i 1)) (.o 2 12 (.mov (.t 35)) .done))))))))) (.seq (.reg true (.op 0 [] (some 41) none true (.mov (.t 8)) (.op 1 [] (some 42) none true (.mov (.t 9)) (.op 3 [] (some 44) none true (.mov (.t 7)) (.op 7 [] (some 48) none true (.mov (.t 7)) (.op 9 [] (some 50) none true (.mov (.t 10)) (.alt (.o 2 43 (.lit 43 1 [(.i 0)] 2 [(0, 1, (.i 1)), (1, 1, (.i 9))]) (.o 4 45 (.call 45 76 [(.t 44), (.i 2)]) (.op 5 [] (some 46) none true (.bin .add (.i 1) (.t 45)) (.op 6 [] (some 47) none true (.cut 1 (.t 43) none (some (.t 46))) (.o 8 49 (.call 49 127 [(.t 48)]) (.op 10 [] (some 2) none true (.mov (.t 41)) (.op 11 [] (some 3) none true (.mov (.t 42)) (.op 12 [] (some 4) none true (.mov (.t 47)) (.op 13 [] none none false (.store (some 2) (.t 5) (.t 49)) (.op 14 [] (some 6) none true (.mov (.t 50)) .done)))))))))) (.o 4 45 (.call 45 76 [(.t 44), (.i 2)]) (.op 5 [] (some 46) none true (.bin .add (.i 1) (.t 45)) (.alt (.o 2 43 (.lit 43 1 [(.i 0)] 2 [(0, 1, (.i 1)), (1, 1, (.i 9))]) (.op 6 [] (some 47) none true (.cut 1 (.t 43) none (some (.t 46))) (.o 8 49 (.call 49 127 [(.t 48)]) (.op 10 [] (some 2) none true (.mov (.t 41)) (.op 11 [] (some 3) none true (.mov (.t 42)) (.op 12 [] (some 4) none true (.mov (.t 47)) (.op 13 [] none none false (.store (some 2) (.t 5) (.t 49)) (.op 14 [] (some 6) none true (.mov (.t 50)) .done)))))))) (.o 8 49 (.call 49 127 [(.t 48)]) (.op 10 [] (some 2) none true (.mov (.t 41)) (.op 11 [] (some 3) none true (.mov (.t 42)) (.o 2 43 (.lit 43 1 [(.i 0)] 2 [(0, 1, (.i 1)), (1, 1, (.i 9))]) (.op 6 [] (some 47) none true (.cut 1 (.t 43) none (some (.t 46))) (.op 12 [] (some 4) none true (.mov (.t 47)) (.op 13 [] none none false (.store (some 2) (.t 5) (.t 49)) (.op 14 [] (some 6) none true (.mov (.t 50)) .done)))))))))))))))))) .ret))))))))
theorem dg_spec_DrawResolve : Tryz.f44.body.bind (digC Tryz.prog Tryz.f44.ntmps []) = some c_spec_DrawResolve := by kernel_rfl
theorem rs_spec_DrawResolve : resSlots Tryz.prog Tryz.f44 = some [.s 2, .s 3, .s 4, .m 5 (some 2), .s 6] := by kernel_rfl
theorem ok_spec_DrawResolve (b : List UInt8) (hb : (b.length : Int) ≤ 9223372036854775807) :
  FnOK Tryz.prog 44 [.one (.d (encB b))] (fun ra _ => ∃ x : Zone × List Int × List Int × (List (List UInt8) × Int) × List Bool, (X3 x.1 ∧ (x.2.1 = [1, 2, 3] ∨ x.2.1 = [1, 2, 4] ∨ x.2.1 = [-1, 2, 3] ∨ x.2.1 = [-1, 2, 4]) ∧ (x.2.2.1 = [1] ∨ x.2.2.1 = [1, 9]) ∧ (x.2.2.2.1.1 ∈ qX ++ qC ++ qR ∧ x.2.2.2.1.2 ∈ [1, 1, 1, 16, 5]) ∧ x.2.2.2.2.length ≤ 9) ∧
   ra = [.one (.d (encL 2 Zone.cells [zRoot, zCom, x.1])), .one (.own true (encI x.2.1)), .one (.d (encI x.2.2.1)), .agg [.own true (encBB x.2.2.2.1.1), .d (.sc (.int .i64 x.2.2.2.1.2))], .one (.own true (encBo x.2.2.2.2))]) := by
 refine FnOK.ofK Tryz.func44 (by kernel_rfl) dg_spec_DrawResolve rs_spec_DrawResolve rfl rfl ?_
 delta c_spec_DrawResolve T.o X.i C.g
 have hstopo21 := trivial
 refine Kbc (Ka Y (Ka Y (Ka Y (kAlloc Y Y (Ka Y (Kdb (Kc (Ka Y (kCallX false (ok_spec_l1New _ prx) ⟨Y, trivial⟩ Y (fun _ => rfl) (fun _ => rfl) (fun x0 _ hx0 => (Ka Y (Kdb (Kc (Ka Y (Kz (ok_spec_l11tree _) ⟨⟨rfl, _, rfl, rfl⟩, trivial⟩ Y Y Y (fun _ => rfl) (fun x1 hx1 => (kMovT Y (kExtC Y Y (kExtC Y Y (Ka Y (Ka Y (Kdb (Kb ?_)))))))))))))))))))))))
 clear hstopo21
 obtain ⟨⟨z, at0⟩, cu⟩ := x1
 obtain ⟨hz, hat⟩ := hx1
 simp only at hz hat ⊢
 have h3 : at0.length = 3 := by rcases hat with rfl | rfl <;> rfl
 have hset : at0.set 0 (-1) = [-1, 2, 3] ∨ at0.set 0 (-1) = [-1, 2, 4] := by rcases hat with rfl | rfl <;> simp
 refine kJoinD (α := { a : List Int // a = [1, 2, 3] ∨ a = [1, 2, 4] ∨ a = [-1, 2, 3] ∨ a = [-1, 2, 4] } × Cu) (fun y => ⟨tabSl [(5, .c (.ptr (rid 5 0) 1 0)), (7, .c (.ptr (rid 14 0) 1 0)), (8, .c (.d (encL 2 Zone.cells [zRoot, zCom, z]))), (9, .c (.arr (rid 17 64) 1))], obTab 1 [(rid 5 0, ⟨1, 0, .box [.any, .any]⟩), (rid 14 0, ⟨1, 0, .box (y.2.cells.map .d)⟩), (rid 17 64, ⟨1, 0, .arr true (encI y.1.1)⟩)], []⟩) (fun y => ?_) (fun x' hc => ?_)
 case refine_2 =>
  refine Kc (Ka Y (Kz (ok_spec_l1Once _ _) ⟨⟨rfl, _, rfl, rfl⟩, rfl, trivial⟩ Y Y Y (fun _ => rfl) (fun x1 hx1 => (Kd (kCond Y (fun g2 => Kc (Ka Y (kIadAR (m := 0) Y Y Y Y prl (kStoreER Y Y Y Y Y Y Y om rfl (Kd ?_))))) (fun g2 => Kn ?_))))))
  ·exact hc _ (⟨at0.set 0 (-1), .inr (.inr hset)⟩, _) .normA
  ·exact hc _ (⟨at0, hat.imp id .inl⟩, _) .normA
 clear hat h3 hset cu at0
 obtain ⟨⟨at', hat⟩, cu⟩ := y
 simp only
 refine Kbc (Ka Y (Kdb (Kc (Ka Y (Kz (ok_spec_l1Below _ _) ⟨⟨rfl, _, rfl, rfl⟩, rfl, trivial⟩ Y Y Y (fun _ => rfl) (fun x1 hx1 => (Ka Y (Kdb (Kbc (Ka Y (Kd (Kt ?_))))))))))))
 obtain ⟨nn, cc⟩ := x1
 obtain ⟨n, rfl⟩ : ∃ n : Nat, nn = n := ⟨nn.toNat, by have := hx1.1; simp only at this; omega⟩
 have hn9 : n ≤ 8 := by have := hx1.2; simp only at this; omega
 clear hx1
 refine kSub (Sub.nilArr (j := 10) (id := rid 5000 0) (sz := 1) rfl (by decide)) ?_
 refine kJoinC (α := { L : List Bool // L.length ≤ 9 } × Cu) (fun y => ⟨tabSl [(5, .c (.ptr (rid 5 0) 1 0)), (7, .c (.ptr (rid 14 0) 1 0)), (8, .c (.d (encL 2 Zone.cells [zRoot, zCom, z]))), (9, .c (.arr (rid 17 64) 1)), (10, .c (.arr (rid 5000 0) 1))], obTab 1 [(rid 5 0, ⟨1, 0, .box [.any, .any]⟩), (rid 14 0, ⟨1, 0, .box (y.2.cells.map .d)⟩), (rid 17 64, ⟨1, 0, .arr true (encI at')⟩), (rid 5000 0, ⟨1, 0, .arr true (encBo y.1.1)⟩)], []⟩) (fun y => ?_) (fun x' hc => ?_)
 case refine_2 =>
  refine kLoop (α := { y : Nat × List Bool × Cu // y.1 ≤ n ∧ y.2.1.length ≤ y.1 }) (fun y => ⟨tabSl [(5, .c (.ptr (rid 5 0) 1 0)), (7, .c (.ptr (rid 14 0) 1 0)), (8, .c (.d (encL 2 Zone.cells [zRoot, zCom, z]))), (9, .c (.arr (rid 17 64) 1)), (10, .c (.arr (rid 5000 0) 1)), (11, .i n), (12, .i y.1.1)], obTab 1 [(rid 5 0, ⟨1, 0, .box [.any, .any]⟩), (rid 14 0, ⟨1, 0, .box (y.1.2.2.cells.map .d)⟩), (rid 17 64, ⟨1, 0, .arr true (encI at')⟩), (rid 5000 0, ⟨1, 0, .arr true (encBo y.1.2.1)⟩)], []⟩) (fun y => n - y.1.1) ⟨(0, [], cc), Nat.zero_le _, Nat.le_refl _⟩ .normA ?_
  rintro ⟨⟨i, L, cu⟩, hi, hL⟩
  simp only at hi hL ⊢
  rcases Nat.lt_or_ge i n with hlt | hge
  ·have hstopr := trivial
   refine Kb (Kbc (Ka Y (Ka Y (Kj Y Y Y (Ka Y (kGP Y (fun g1 => Ki Y (Ka Y (Ki Y (Kz (ok_spec_l1Once _ _) ⟨⟨rfl, _, rfl, rfl⟩, rfl, trivial⟩ Y Y Y (fun _ => rfl) (fun x2 hx2 => (Ki Y (Kw Y Y (Kk Y (Ka Y (Kd (kCondN Y (fun g3 => Kn (Kb (Kt (Kc (Ka Y (Ka Y (Kz (ok_spec_l1Once _ _) ⟨⟨rfl, _, rfl, rfl⟩, rfl, trivial⟩ Y Y Y (fun _ => rfl) (fun x4 hx4 => (kLitG Y Y Y Y (kAppR1 Y Y Y Y Y Y Y Y prl (Ka Y (Kd (Kv (Kc (Ka Y (kAdd Y Y om (Ka Y (Kd ?_)))))))))))))))))) (fun g3 => kExit (kExC (kExI (kExB ?_))))))))))))))) (fun g1 => om)))))))
   ·exact kInv ⟨⟨(i + 1, L ++ [x4.1], _), hlt, by simp only [List.length_append, List.length_singleton]; omega⟩, by simp only; omega, .normA⟩
   all_goals exact hc _ (⟨L, by omega⟩, _) .normA
  ·have hstopr := trivial
   refine Kb (Kbc (Ka Y (Ka Y (Kj Y Y Y (Ka Y (kGP Y (fun g1 => om) (fun g1 => Kg Y (Kg Y (Kg Y (Kl Y (Ka Y (Kd (kCondF Y (kExit (kExC (kExI (kExB ?_)))))))))))))))))
   all_goals exact hc _ (⟨L, by omega⟩, _) .normA
 obtain ⟨⟨L, hL⟩, cu⟩ := y
 simp only
 refine Kb (kRegD (Ka Y (Ka Y (Ka Y (Ka Y (Ka Y (kAlt (kLitG Y Y Y Y (Kz (ok_spec_l1Below _ _) ⟨⟨rfl, _, rfl, rfl⟩, rfl, trivial⟩ Y Y Y (fun _ => rfl) (fun x2 hx2 => (kAdd Y Y om ?_)))) (Kz (ok_spec_l1Below _ _) ⟨⟨rfl, _, rfl, rfl⟩, rfl, trivial⟩ Y Y Y (fun _ => rfl) (fun x3 hx3 => (kAdd Y Y om (kAlt (kLitG Y Y Y Y ?_) (Kz (ok_spec_l11q _) ⟨⟨rfl, _, rfl, rfl⟩, trivial⟩ Y Y Y (fun _ => rfl) (fun x5 hx5 => (Ka Y (Ka Y (kLitG Y Y Y Y ?_))))))))))))))))
 ·refine kCutAH (f := fun i : Int => [.sc (.int .i64 i)]) (l := [1, 9]) rfl rfl rfl rfl rfl (by simp only [List.length_cons, List.length_nil]; omega) ?_
  refine (Kz (ok_spec_l11q _) ⟨⟨rfl, _, rfl, rfl⟩, trivial⟩ Y Y Y (fun _ => rfl) (fun x3 hx3 => (Ka Y (Ka Y (Ka Y (Ko Y Y Y Y (Ka Y (Kd (kH (Kr (Er (ra := [.one (.d _), .one (.own true _), .one (.d _), .agg [(.own true _), (.d _)], .one (.own true _)]) rfl ?_)))))))))))
  exact ⟨(z, at', ([1, 9] : List Int).take (1 + x2.1).toNat, x3.1, L), ⟨hz, hat, cut_hints (by omega), hx3, hL⟩, rfl⟩
 ·refine kCutAH (f := fun i : Int => [.sc (.int .i64 i)]) (l := [1, 9]) rfl rfl rfl rfl rfl (by simp only [List.length_cons, List.length_nil]; omega) ?_
  refine (Kz (ok_spec_l11q _) ⟨⟨rfl, _, rfl, rfl⟩, trivial⟩ Y Y Y (fun _ => rfl) (fun x4 hx4 => (Ka Y (Ka Y (Ka Y (Ko Y Y Y Y (Ka Y (Kd (kH (Kr (Er (ra := [.one (.d _), .one (.own true _), .one (.d _), .agg [(.own true _), (.d _)], .one (.own true _)]) rfl ?_)))))))))))
  exact ⟨(z, at', ([1, 9] : List Int).take (1 + x3.1).toNat, x4.1, L), ⟨hz, hat, cut_hints (by omega), hx4, hL⟩, rfl⟩
 ·refine kCutAH (f := fun i : Int => [.sc (.int .i64 i)]) (l := [1, 9]) rfl rfl rfl rfl rfl (by simp only [List.length_cons, List.length_nil]; omega) ?_
  refine Ka Y (Ko Y Y Y Y (Ka Y (Kd (kH (Kr (Er (ra := [.one (.d _), .one (.own true _), .one (.d _), .agg [(.own true _), (.d _)], .one (.own true _)]) rfl ?_))))))
  exact ⟨(z, at', ([1, 9] : List Int).take (1 + x3.1).toNat, x5.1, L), ⟨hz, hat, cut_hints (by omega), hx5, hL⟩, rfl⟩

def c_bytes_Clone : C := (.g (.o 0 2 (.mov (.n 1)) .done) (.seq (.g (.o 0 3 (.mov (.t 0)) (.o 1 4 (.eqn false (.t 3)) .done)) (.cond (.t 4) (.g (.o 0 2 (.mov (.n 1)) .done) .ret) .skip)) (.g (.o 0 5 (.lit 5 1 [(.v (.int .u8 0))] 0 []) (.o 1 6 (.mov (.t 0)) (.o 2 7 (.app 7 1 1 (.t 5) (.t 6)) (.o 3 2 (.mov (.t 7)) .done)))) .ret)))
theorem dg_bytes_Clone : Tryz.f192.body.bind (digC Tryz.prog Tryz.f192.ntmps []) = some c_bytes_Clone := by kernel_rfl
theorem rs_bytes_Clone : resSlots Tryz.prog Tryz.f192 = some [.s 2] := by kernel_rfl
theorem ok_bytes_Clone (b : List UInt8) (hb : b.length ≤ 140737488355328) :
  FnOK Tryz.prog 192 [.one (.d (encB b))] (fun ra _ => ra = [.one (.own true (encB b))]) := by
 refine FnOK.ofK Tryz.func192 (by kernel_rfl) dg_bytes_Clone rs_bytes_Clone rfl rfl ?_
 delta c_bytes_Clone T.o X.i C.g
 refine Kbc (Ka Y (Kd ?_))
 refine Kb (Kbc (Ka Y (kEqn Y Y Y fun n hn => Kd ?_)))
 refine kCond Y (fun h => ?_) (fun h => ?_)
 ·refine Kbc (Ka Y (Kd (Kr ?_)))
  refine endRet (ra := [.one (.own true (.sl 1 []))]) rfl ⟨⟨rfl, trivial⟩, nodupB_sound rfl, trivial, trivial⟩ ?_
  have : b = [] := by
   rw [len_encB] at hn
   cases b with
   | nil => rfl
   | cons x l => have := hn (by simp); simp [this] at h
  rw [this]; rfl
 ·refine Kn (Kbc ?_)
  refine kLit Y Y Y Y (Ka Y ?_)
  refine kApp (cy := .d (encB b)) rfl rfl rfl (src_encB _ b) rfl rfl ⟨rfl, rfl, Nat.zero_lt_one⟩ Y ?_ (Ka Y (Kd (Kr ?_)))
  ·show ((DV.sl 1 (chunk 1 0 [])).len + (encB b).len) * 1 ≤ _ ∧ _
   rw [len_encB]; simp [DV.len, chunk]; omega
  refine endRet (ra := [.one (.own true _)]) rfl ⟨⟨⟨⟨_, rfl, fun _ => rfl⟩, .inl (Nat.zero_lt_succ _)⟩, trivial⟩, nodupB_sound rfl, trivial, trivial⟩ ?_
  exact congrArg (fun x => [RA.one (RV.own true x)]) (app_nil_encB b)

def c_impl_Name_copied : C := (.g (.o 0 1 (.box 1 (.t 0)) (.o 1 2 (.alloc 2 [(.n 1)]) .done)) (.g (.o 0 6 (.build [(.n 1)] []) (.o 1 3 (.alloc 3 [(.n 1)]) (.op 2 [] none none false (.store (some 1) (.t 3) (.t 6)) .done))) (.seq (.g (.o 0 7 (.fad (.t 1) 0) (.o 1 8 (.load none (.t 7)) (.o 2 9 (.len (.t 8)) (.o 3 10 (.mov (.i 0)) .done)))) (.block 0 (.loop (.g (.o 0 11 (.bin .lss (.t 10) (.t 9)) .done) (.seq (.cond (.t 11) .skip (.exit 0)) (.seq (.block 1 (.g (.o 0 12 (.iad 1 (.t 8) (.t 10)) (.o 1 13 (.load none (.t 12)) (.o 2 5 (.mov (.t 13)) .done))) (.reg true (.op 0 [] (some 14) none true (.fad (.t 3) 0) (.op 1 [] (some 15) none true (.load none (.t 14)) (.op 2 [] (some 16) none true (.mov (.t 5)) (.o 3 17 (.call 17 192 [(.t 16)]) (.o 4 18 (.lit 18 1 [(.n 1)] 1 [(0, 1, (.t 17))]) (.op 5 [1] (some 19) none false (.app 19 1 24 (.t 15) (.t 18)) (.op 6 [] (some 20) none true (.fad (.t 3) 0) (.op 7 [1] none none false (.store none (.t 20) (.t 19)) .done))))))))))) (.reg false (.o 0 21 (.bin .add (.t 10) (.i 1)) (.o 1 10 (.mov (.t 21)) .done))))))))) (.g (.o 0 22 (.load (some 1) (.t 3)) (.op 1 [] none none false (.store (some 1) (.t 2) (.t 22)) .done)) .ret))))
theorem dg_impl_Name_copied : Tryz.f150.body.bind (digC Tryz.prog Tryz.f150.ntmps []) = some c_impl_Name_copied := by kernel_rfl
theorem rs_impl_Name_copied : resSlots Tryz.prog Tryz.f150 = some [.m 2 (some 1)] := by kernel_rfl
theorem ok_impl_Name_copied (a : List (List UInt8)) (ha : a.length ≤ 4194304) (hb : ∀ b ∈ a, b.length ≤ 4194304) :
  FnOK Tryz.prog 150 [.agg [.d (encBB a)]] (fun ra _ => ra = [.agg [.own true (encBB a)]]) := by
 refine FnOK.ofK Tryz.func150 (by kernel_rfl) dg_impl_Name_copied rs_impl_Name_copied rfl rfl ?_
 delta c_impl_Name_copied T.o X.i C.g
 refine Kbc (kBox Y Y Y Y Y (kAlloc Y Y (Kd ?_)))
 refine Kbc (kBuild Y (kAlloc Y Y (Ko Y Y Y Y (Kd ?_))))
 refine Kb (Kbc (Kf Y Y (Ke Y Y Y (kLen Y Y Y (Ka Y (Kd (Kt ?_)))))))
 rw [len_encBB]
 refine kSub (Sub.nilBox (id := rid 3 0) (id2 := rid 5000 0) (j := 0) rfl rfl rfl (by decide) (by decide)) ?_
 refine kLoop (α := { i : Nat // i ≤ a.length })
  (fun y => ⟨tabSl [(1, .c (.ptr (rid 1 0) 1 0)), (2, .c (.ptr (rid 2 0) 1 0)), (3, .c (.ptr (rid 3 0) 1 0)), (8, .dv (encBB a)), (9, .i a.length), (10, .i y.1)],
   obTab 1 [(rid 1 0, ⟨1, 0, .box [.d (encBB a)]⟩), (rid 2 0, ⟨1, 0, .box [.nil 1]⟩), (rid 3 0, ⟨1, 0, .box [.arr (rid 5000 0) 1]⟩), (rid 5000 0, ⟨1, 0, .arr true (encBB (a.take y.1))⟩)], []⟩) (fun y => a.length - y.1) ⟨0, by simp⟩
  (.norm ?_ ?_) ?_
 ·repeat' first | exact trivial | exact rfl | exact .inl rfl | refine ⟨_, rfl, ?_⟩ | refine ⟨?_, ?_⟩ | fail
 ·repeat' first | exact trivial | exact rfl | exact .inl rfl | refine ⟨_, rfl, ?_⟩ | refine ⟨?_, ?_⟩ | fail
 rintro ⟨i, hi⟩
 simp only at hi ⊢
 refine Kbc (Kj Y Y Y (Kdb ?_))
 refine kCond Y (fun h1 => ?_) (fun h1 => ?_)
 ·have hlt : i < a.length := by simp at h1; omega
  refine Kn (Kb (Kt (Kbc ?_)))
  refine kIadD Y Y Y Y ?_ ?_
  ·rw [len_encBB]; omega
  rw [show (encBB a).row (i : Int).toNat = [encB a[i]] from row_encBB a i hlt]
  refine Ky Y Y (Ka Y (Kd (kRegD (Kf Y Y (Ke Y Y Y (Ka Y ?_))))))
  refine Ku false (ok_bytes_Clone a[i] (Nat.le_trans (hb _ (List.getElem_mem hlt)) om)) ⟨Y, trivial⟩ rfl rfl rfl fun os => ?_
  refine kLit Y Y Y Y (Ks Y Y ?_)
  refine kApp Y Y Y Y Y Y ⟨rfl, rfl, Nat.zero_lt_one⟩ Y ?_ ?_
  ·show ((encBB (a.take i)).len + (DV.sl 1 [[encB a[i]]]).len) * 24 ≤ _ ∧ (encBB (a.take i)).len + (DV.sl 1 [[encB a[i]]]).len ≤ _
   rw [len_encBB, List.length_take]; simp [DV.len, DV.rows]; omega
  refine Kf Y Y (Ks Y Y (Ko Y Y Y Y (Kd (kH (Kv (Kc (kAdd Y Y om (Ka Y (Kd ?_)))))))))
  refine kInv ⟨⟨i + 1, hlt⟩, by simp only; omega, .norm ?_ ?_⟩
  ·repeat' first | exact trivial | exact rfl | exact .inl rfl | refine ⟨_, rfl, ?_⟩ | refine ⟨?_, ?_⟩ | fail
  ·repeat' first | exact trivial | exact rfl | exact .inl rfl | refine ⟨_, rfl, ?_⟩ | refine ⟨?_, ?_⟩ | fail
   rw [← List.take_append_getElem hlt, ← app_encBB]
   rfl
 ·refine kExit (kExC (kExI (kExB (Kbc (Ke Y Y Y (Ko Y Y Y Y (Kd ?_)))))))
  have hge : i = a.length := by simp at h1; omega
  subst hge
  refine Kr (endRet (ra := [.agg [.own true _]]) rfl ⟨⟨⟨⟨⟨⟨_, rfl, fun _ => rfl⟩, .inl Nat.zero_lt_one⟩, trivial⟩, leb⟩, trivial⟩, nodupB_sound rfl, ⟨trivial, trivial⟩, trivial⟩ ?_)
  rw [List.take_length]

def c_impl_Msg_reply : C := (.g (.o 0 2 (.box 2 (.t 0)) (.o 1 4 (.alloc 4 [(.i 0), (.v (.bool false)), (.i 0), (.v (.bool false)), (.i 0), (.n 2), (.n 7), (.n 7), (.n 7), (.n 9), (.n 9)]) .done)) (.seq (.reg true (.op 0 [] (some 5) none true (.fad (.t 2) 0) (.op 1 [] (some 6) none true (.load none (.t 5)) (.op 2 [] (some 7) none true (.fad (.t 2) 2) (.op 3 [] (some 8) none true (.load none (.t 7)) (.op 4 [] (some 9) none true (.mov (.t 1)) (.op 5 [] (some 10) none true (.fad (.t 2) 5) (.op 6 [] (some 11) none true (.load none (.t 10)) (.op 7 [] (some 12) none true (.iad 2 (.t 11) (.i 0)) (.op 8 [] (some 13) none true (.fad (.t 12) 0) (.op 9 [] (some 14) none true (.load (some 1) (.t 13)) (.op 11 [] (some 16) none true (.fad (.t 2) 5) (.op 12 [] (some 17) none true (.load none (.t 16)) (.op 13 [] (some 18) none true (.iad 2 (.t 17) (.i 0)) (.op 14 [] (some 19) none true (.fad (.t 18) 1) (.op 15 [] (some 20) none true (.load none (.t 19)) (.op 10 [9, 6] (some 15) none false (.call 15 150 [(.t 14)]) (.op 16 [] (some 21) none true (.build [(.n 1), (.i 0)] [(0, 1, (.t 15)), (1, 1, (.t 20))]) (.op 17 [9, 6, 15, 12] (some 22) none false (.lit 22 2 [(.n 1), (.i 0)] 1 [(0, 2, (.t 21))]) (.op 18 [] (some 23) none true (.build [(.i 0), (.v (.bool false)), (.i 0), (.v (.bool false)), (.i 0), (.n 2), (.n 7), (.n 7), (.n 7), (.n 9), (.n 9)] [(0, 1, (.t 6)), (1, 1, (.v (.bool true))), (2, 1, (.t 8)), (4, 1, (.t 9)), (5, 1, (.t 22))]) (.op 19 [1, 3, 9, 15, 6, 12] none none false (.store (some 11) (.t 4) (.t 23)) .done))))))))))))))))))))) .ret))
theorem dg_impl_Msg_reply : Tryz.f280.body.bind (digC Tryz.prog Tryz.f280.ntmps []) = some c_impl_Msg_reply := by kernel_rfl
theorem rs_impl_Msg_reply : resSlots Tryz.prog Tryz.f280 = some [.m 4 (some 11)] := by kernel_rfl
theorem ok_impl_Msg_reply (m : Msg) (c : Int) (hs : SmallM m) (hq : m.qs.length = 1) :
  FnOK Tryz.prog 280 [.agg (m.cells.map .d), .one (.d (.sc (.int .i64 c)))] (fun ra _ => ra = [.agg [.d (.sc (.int .i64 m.id)), .d (.sc (.bool true)), .d (.sc (.int .i64 m.op)), .d (.sc (.bool false)), .d (.sc (.int .i64 c)), .own true (encQ [m.qs.getD 0 ⟨[], 0⟩]), .own true (encR []), .own true (encR []), .own true (encR []), .own true (encW []), .own true (encW [])]]) := by
 refine FnOK.ofK Tryz.func280 (by kernel_rfl) dg_impl_Msg_reply rs_impl_Msg_reply rfl rfl ?_
 delta c_impl_Msg_reply T.o X.i C.g
 have b1 := hs.q
 have hq0 : 0 < m.qs.length := by omega
 have hqd : m.qs.getD 0 ⟨[], 0⟩ = m.qs[0] := by simp [List.getD_eq_getElem?_getD, hq0]
 have hqs := b1.mem _ (List.getElem_mem hq0)
 have q1 := hqs.len
 have q2 := hqs.mem
 have q3 := hqs.flat
 rw [hqd]
 refine Kbc (kBox Y Y Y Y Y (kAlloc Y Y (Kdb (kRegD (Kf Y Y (Ke Y Y Y (Kf Y Y (Ke Y Y Y (Ka Y (Kf Y Y (Ke Y Y Y (kIadR (m := 0) Y Y Y prl (kFadD Y (Ky Y Y (Kf Y Y (Ke Y Y Y (kIadR (m := 0) Y Y Y prl (kFadD Y (Ky Y Y (Kx Y Y (Ku true (ok_impl_Name_copied _ prx prx) ⟨⟨⟨Y, trivial⟩, leb⟩, trivial⟩ Y Y Y (fun _ => (kBuildG Y (Kx Y Y (kLitG Y Y Y Y (kBuildG Y (Ks Y Y (Ko Y Y Y Y (Kd (kH (Kr (Er (ra := [.agg [(.d _), (.d _), (.d _), (.d _), (.d _), (.own true _), (.own true _), (.own true _), (.own true _), (.own true _), (.own true _)]]) rfl rfl))))))))))))))))))))))))))))))))

def c_slices_EqualFunc_LLbyte_LLbyte_Lbyte_Lbyte : C := (.g (.o 0 6 (.mov (.v (.bool false))) .done) (.seq (.g (.o 0 10 (.mov (.t 0)) (.o 1 11 (.len (.t 10)) (.o 2 12 (.mov (.t 1)) (.o 3 13 (.len (.t 12)) (.o 4 14 (.bin .neq (.t 11) (.t 13)) .done))))) (.cond (.t 14) (.g (.o 0 6 (.mov (.v (.bool false))) .done) .ret) .skip)) (.seq (.g (.o 0 15 (.mov (.t 0)) (.o 1 16 (.len (.t 15)) (.o 2 17 (.mov (.i 0)) .done))) (.block 0 (.loop (.g (.o 0 18 (.bin .lss (.t 17) (.t 16)) .done) (.seq (.cond (.t 18) .skip (.exit 0)) (.seq (.block 1 (.g (.o 0 19 (.mov (.t 17)) (.o 1 20 (.iad 1 (.t 15) (.t 17)) (.o 2 21 (.load none (.t 20)) (.o 3 7 (.mov (.t 19)) (.o 4 8 (.mov (.t 21)) .done))))) (.g (.o 0 22 (.mov (.t 1)) (.o 1 23 (.mov (.t 7)) (.o 2 24 (.iad 1 (.t 22) (.t 23)) (.o 3 25 (.load none (.t 24)) (.o 4 9 (.mov (.t 25)) .done))))) (.g (.o 0 26 (.mov (.t 2)) (.o 1 27 (.mov (.t 8)) (.o 2 28 (.mov (.t 9)) (.o 3 29 (.callv 29 (.t 26) [(.t 27), (.t 28)]) (.o 4 30 (.un .not (.t 29)) .done))))) (.cond (.t 30) (.g (.o 0 6 (.mov (.v (.bool false))) .done) .ret) .skip))))) (.reg false (.o 0 31 (.bin .add (.t 17) (.i 1)) (.o 1 17 (.mov (.t 31)) .done))))))))) (.g (.o 0 6 (.mov (.v (.bool true))) .done) .ret))))
theorem dg_slices_EqualFunc_LLbyte_LLbyte_Lbyte_Lbyte : Tryz.f180.body.bind (digC Tryz.prog Tryz.f180.ntmps []) = some c_slices_EqualFunc_LLbyte_LLbyte_Lbyte_Lbyte := by kernel_rfl
theorem rs_slices_EqualFunc_LLbyte_LLbyte_Lbyte_Lbyte : resSlots Tryz.prog Tryz.f180 = some [.s 6] := by kernel_rfl
def fcEq : FC := fun l R => ∃ x y : List UInt8, l = [DA.one (encB x), DA.one (encB y)] ∧ R = fun ra => ra = [.one (.d (.sc (.bool (x == y))))]
theorem ok_slices_EqualFunc_LLbyte_LLbyte_Lbyte_Lbyte (a b : List (List UInt8)) (ha : a.length ≤ 4194304) (hb : b.length ≤ 4194304) :
  FnOK Tryz.prog 180 [.one (.d (encBB a)), .one (.d (encBB b)), .one (.fv false fcEq)] (fun ra _ => ra = [.one (.d (.sc (.bool (decide (a = b)))))]) := by
 refine FnOK.ofK Tryz.func180 (by kernel_rfl) dg_slices_EqualFunc_LLbyte_LLbyte_Lbyte_Lbyte rs_slices_EqualFunc_LLbyte_LLbyte_Lbyte_Lbyte rfl rfl ?_
 delta c_slices_EqualFunc_LLbyte_LLbyte_Lbyte_Lbyte T.o X.i C.g
 refine Kbc (Ka Y (Kdb (Kbc (Ka Y (Kq Y Y (Ka Y (Kq Y Y (Kj Y Y Y (Kd (kCondIN Y (fun g0 => Kbc (Ka Y (Kd (Kr (Er (ra := [.one (.d _)]) rfl ?_))))) (fun g0 => Kn (Kb (Kbc (Ka Y (Kq Y Y (Ka Y (Kd (Kt ?_))))))))))))))))))
 ·rw [decide_eq_false (by rintro rfl; simp_all)]
 have hab : a.length = b.length := by omega
 refine kLoop (α := { i : Nat // i ≤ a.length ∧ a.take i = b.take i })
  (fun y => ⟨tabSl [(1, .dv (encBB b)), (2, .c (.fv false fcEq)), (15, .dv (encBB a)), (16, .i a.length), (17, .i y.1)], obTab 1 [], []⟩) (fun y => a.length - y.1) ⟨0, by simp⟩
  .normA ?_
 rintro ⟨i, hi, he⟩
 simp only
 rcases Nat.lt_or_ge i a.length with hlt | hge
 ·refine Kbc (Kj Y Y Y (Kdb (Km Y (fun g0 => Kn (Kb (Kt (Kbc (Ka Y (kIadR Y Y Y om (Ky Y Y (Ka Y (Ka Y (Kdb (Kc (Ka Y (Ka Y (kIadR Y Y Y om (Ky Y Y (Ka Y (Kdb (Kc (Ka Y (Ka Y (Ka Y ?_))))))))))))))))))))) (fun g0 => om))))
  refine kCallv Y ⟨a[i], b[i], rfl, rfl⟩ ⟨Y, Y, trivial⟩ (.inr ?_) rfl ?_ rfl ?_
  ·rintro _ rfl; rfl
  ·rintro _ rfl; exact leb
  rintro _ rfl
  refine Kw Y Y (Kd (kCondN Y (fun g0 => Kbc (Ka Y (Kd (Kr (Er (ra := [.one (.d _)]) rfl ?_))))) (fun g0 => Kn (Kv (Kc (kAdd Y Y om (Ka Y (Kd ?_))))))))
  ·rw [decide_eq_false]
   rintro rfl
   simp_all
  ·refine kInv ⟨⟨i + 1, by omega, ?_⟩, by simp only; omega, .normA⟩
   rw [← List.take_append_getElem (by omega), ← List.take_append_getElem (by omega), he]
   simp_all
 ·refine Kbc (Kj Y Y Y (Kdb (Km Y (fun g0 => om) (fun g0 => kExit (kExC (kExI (kExB (Kbc (Ka Y (Kd (Kr (Er (ra := [.one (.d _)]) rfl ?_))))))))))))
  rw [show i = a.length by omega, List.take_length, hab, List.take_length] at he
  rw [he, decide_eq_true rfl]

def c_bytes_Equal : C := (.g (.o 0 4 (.mov (.v (.bool false))) .done) (.g (.o 0 5 (.mov (.t 0)) (.o 1 6 (.b2s (.t 5)) (.o 2 7 (.mov (.t 1)) (.o 3 8 (.b2s (.t 7)) (.o 4 9 (.bin .eql (.t 6) (.t 8)) (.o 5 4 (.mov (.t 9)) .done)))))) .ret))
theorem dg_bytes_Equal : Tryz.f108.body.bind (digC Tryz.prog Tryz.f108.ntmps []) = some c_bytes_Equal := by kernel_rfl
theorem rs_bytes_Equal : resSlots Tryz.prog Tryz.f108 = some [.s 4] := by kernel_rfl
theorem ok_bytes_Equal (a b : List UInt8) :
  FnOK Tryz.prog 108 [.one (.d (encB a)), .one (.d (encB b))] (fun ra _ => ra = [.one (.d (.sc (.bool (a == b))))]) := by
 refine FnOK.ofK Tryz.func108 (by kernel_rfl) dg_bytes_Equal rs_bytes_Equal rfl rfl ?_
 delta c_bytes_Equal T.o X.i C.g
 refine Kbc (Ka Y (Kdb (Kc (Ka Y (kB2s Y Y (Ka Y (kB2s Y Y (Kj Y Y Y (Ka Y (Kd (Kr (Er (ra := [.one (.d _)]) rfl ?_))))))))))))
 simp only [bt_list]

def c_impl_Name_under : C := (.g (.o 0 2 (.box 2 (.t 0)) (.o 1 3 (.box 3 (.t 1)) (.o 2 4 (.mov (.v (.bool false))) .done))) (.g (.o 0 6 (.fad (.t 2) 0) (.o 1 7 (.load none (.t 6)) (.o 2 8 (.len (.t 7)) (.o 3 9 (.fad (.t 3) 0) (.o 4 10 (.load none (.t 9)) (.o 5 11 (.len (.t 10)) (.o 6 12 (.bin .sub (.t 8) (.t 11)) (.o 7 5 (.mov (.t 12)) .done)))))))) (.seq (.reg true (.op 0 [] (some 13) none true (.mov (.t 5)) (.op 1 [] (some 14) none true (.bin .geq (.t 13) (.i 0)) (.op 2 [] (some 15) none true (.mov (.t 14)) (.op 3 [] (some 16) (some (15, true)) true (.fad (.t 2) 0) (.op 4 [] (some 17) (some (15, true)) true (.load none (.t 16)) (.op 5 [] (some 18) (some (15, true)) true (.mov (.t 5)) (.op 6 [] (some 19) (some (15, true)) true (.mm true (.t 18) (.i 0)) (.op 7 [] (some 20) (some (15, true)) true (.cut 1 (.t 17) (some (.t 19)) none) (.op 8 [] (some 21) (some (15, true)) true (.fad (.t 3) 0) (.op 9 [] (some 22) (some (15, true)) true (.load none (.t 21)) (.op 10 [4, 9] (some 23) (some (15, true)) false (.call 23 180 [(.t 20), (.t 22), (.fn 108)]) (.op 11 [] (some 24) none true (.pick (.t 15) (.t 23) (.v (.bool false))) (.op 12 [] (some 4) none true (.mov (.t 24)) .done)))))))))))))) .ret)))
theorem dg_impl_Name_under : Tryz.f95.body.bind (digC Tryz.prog Tryz.f95.ntmps []) = some c_impl_Name_under := by kernel_rfl
theorem rs_impl_Name_under : resSlots Tryz.prog Tryz.f95 = some [.s 4] := by kernel_rfl
theorem ok_impl_Name_under (n z : List (List UInt8)) (hn : n.length ≤ 4194304) (hz : z.length ≤ 4194304) :
  FnOK Tryz.prog 95 [.agg [.d (encBB n)], .agg [.d (encBB z)]] (fun ra _ => ra = [.one (.d (.sc (.bool (underN n z))))]) := by
 refine FnOK.ofK Tryz.func95 (by kernel_rfl) dg_impl_Name_under rs_impl_Name_under rfl rfl ?_
 delta c_impl_Name_under T.o X.i C.g
 have hd : ∀ m, (n.drop m).length ≤ 4194304 := fun m => by simp; omega
 refine Kbc (kBox Y Y Y Y Y (kBox Y Y Y Y Y (Ka Y (Kdb (Kc (Kf Y Y (Ke Y Y Y (Kq Y Y (Kf Y Y (Ke Y Y Y (Kq Y Y (kDif Y Y om (Ka Y (Kdb (kRegD (Ka Y (Kj Y Y Y (Ka Y (kGP Y (fun g0 => Ki Y (Kf Y Y (Ki Y (Ke Y Y Y (Ki Y (Ka Y (Ki Y (kMm Y Y (Ki Y (kCutLT Y Y om (Ki Y (Kf Y Y (Ki Y (Ke Y Y Y (Ks Y Y (Ki Y ?_)))))))))))))))) (fun g0 => Kg Y (Kg Y (Kg Y (Kg Y (Kg Y (Kg Y (Kg Y (Ks Y Y (Kg Y (Kl Y (Ka Y (Ka Y (Kd (kH (Kr (Er (ra := [.one (.d _)]) rfl ?_)))))))))))))))))))))))))))))))))))
 ·refine Kp (ok_slices_EqualFunc_LLbyte_LLbyte_Lbyte_Lbyte _ z (hd _) hz) ⟨rfl, rfl, ⟨rfl, rfl, ⟨_, Tryz.func108, rfl, by kernel_rfl⟩, ?_⟩, trivial⟩ Y Y Y Y Y ?_
  ·rintro _ R ⟨x, y, rfl, rfl⟩
   exact ok_bytes_Equal x y
  refine Kk Y (Ka Y (Ka Y (Kd (kH (Kr (Er (ra := [.one (.d _)]) rfl ?_))))))
  simp only [if_true, underN]
  rw [if_neg (by omega), show (n.length - z.length : Int).toNat = n.length - z.length by omega, decide_eq_true (show z.length ≤ n.length by omega), Bool.true_and]
 ·rw [show underN n z = false by simp only [underN]; rw [decide_eq_false (by omega)]; rfl]

theorem ok_bytes_Compare (a b : List UInt8) : FnOK Tryz.prog 178 [.one (.d (encB a)), .one (.d (encB b))] (fun ra _ => ra = [.one (.d (.sc (.int .i64 (cmpB a b))))]) := by
 refine FnOK.ofWalkB Tryz.func178 rfl (by kernel_rfl) fun w va vb h1 h2 => ?_
 have hc := run_compare (P := Tryz.prog) (w := w) (va := va) (vb := vb) Tryz.func246 (by kernel_rfl) rfl (by kernel_rfl) (by kernel_rfl) h1 h2
 go_enter Tryz.func178, Tryz.ntmps178
 go_wp2
 all_goals go_ret
 exact ⟨rfl, Go.RowKit.Below.refl _ _, by first | exact Nat.le_refl _ | exact Nat.le_succ _ | (simp only [Go.World.drew, Go.World.drewN]; omega)⟩

def c_cmp_isNaN_int : C := (.g (.o 0 2 (.mov (.v (.bool false))) .done) (.g (.o 0 3 (.mov (.t 0)) (.o 1 4 (.mov (.t 0)) (.o 2 5 (.bin .neq (.t 3) (.t 4)) (.o 3 2 (.mov (.t 5)) .done)))) .ret))
theorem dg_cmp_isNaN_int : Tryz.f245.body.bind (digC Tryz.prog Tryz.f245.ntmps []) = some c_cmp_isNaN_int := by kernel_rfl
theorem rs_cmp_isNaN_int : resSlots Tryz.prog Tryz.f245 = some [.s 2] := by kernel_rfl
theorem ok_cmp_isNaN_int (a : Int) :
  FnOK Tryz.prog 245 [.one (.d (.sc (.int .i64 a)))] (fun ra _ => ra = [.one (.d (.sc (.bool false)))]) := by
 refine FnOK.ofK Tryz.func245 (by kernel_rfl) dg_cmp_isNaN_int rs_cmp_isNaN_int rfl rfl ?_
 delta c_cmp_isNaN_int T.o X.i C.g
 refine Kbc (Ka Y (Kdb (Kc (Ka Y (Ka Y (Kj Y Y Y (Ka Y (Kd (Kr (Er (ra := [.one (.d _)]) rfl ?_))))))))))
 rw [show (a != a) = false by simp]

def c_cmp_Compare_int : C := (.g (.o 0 4 (.mov (.i 0)) .done) (.g (.o 0 7 (.mov (.t 0)) (.o 1 8 (.call 8 245 [(.t 7)]) (.o 2 5 (.mov (.t 8)) .done))) (.g (.o 0 9 (.mov (.t 1)) (.o 1 10 (.call 10 245 [(.t 9)]) (.o 2 6 (.mov (.t 10)) .done))) (.seq (.g (.o 0 11 (.mov (.t 5)) .done) (.cond (.t 11) (.seq (.g (.o 0 12 (.mov (.t 6)) .done) (.cond (.t 12) (.g (.o 0 4 (.mov (.i 0)) .done) .ret) .skip)) (.g (.o 0 4 (.mov (.i (-1))) .done) .ret)) .skip)) (.seq (.g (.o 0 13 (.mov (.t 6)) .done) (.cond (.t 13) (.g (.o 0 4 (.mov (.i 1)) .done) .ret) .skip)) (.seq (.g (.o 0 14 (.mov (.t 0)) (.o 1 15 (.mov (.t 1)) (.o 2 16 (.bin .lss (.t 14) (.t 15)) .done))) (.cond (.t 16) (.g (.o 0 4 (.mov (.i (-1))) .done) .ret) .skip)) (.seq (.g (.o 0 17 (.mov (.t 0)) (.o 1 18 (.mov (.t 1)) (.o 2 19 (.bin .gtr (.t 17) (.t 18)) .done))) (.cond (.t 19) (.g (.o 0 4 (.mov (.i 1)) .done) .ret) .skip)) (.g (.o 0 4 (.mov (.i 0)) .done) .ret))))))))
theorem dg_cmp_Compare_int : Tryz.f177.body.bind (digC Tryz.prog Tryz.f177.ntmps []) = some c_cmp_Compare_int := by kernel_rfl
theorem rs_cmp_Compare_int : resSlots Tryz.prog Tryz.f177 = some [.s 4] := by kernel_rfl
theorem ok_cmp_Compare_int (a b : Int) :
  FnOK Tryz.prog 177 [.one (.d (.sc (.int .i64 a))), .one (.d (.sc (.int .i64 b)))] (fun ra _ => ra = [.one (.d (.sc (.int .i64 (cmpI a b))))]) := by
 refine FnOK.ofK Tryz.func177 (by kernel_rfl) dg_cmp_Compare_int rs_cmp_Compare_int rfl rfl ?_
 delta c_cmp_Compare_int T.o X.i C.g
 refine Kbc (Ka Y (Kdb (Kc (Ka Y (Kp (ok_cmp_isNaN_int _) ⟨Y, trivial⟩ Y Y Y Y Y (Ka Y (Kdb (Kc (Ka Y (Kp (ok_cmp_isNaN_int _) ⟨Y, trivial⟩ Y Y Y Y Y (Ka Y (Kdb (Kbc (Ka Y (Kd (kCondF Y (Kn (Kb (Kbc (Ka Y (Kd (kCondF Y (Kn (Kb (Kbc (Ka Y (Ka Y (Kj Y Y Y (Kd (Km Y (fun g0 => Kbc (Ka Y (Kd (Kr (Er (ra := [.one (.d _)]) rfl ?_))))) (fun g0 => Kn (Kb (Kbc (Ka Y (Ka Y (Kj Y Y Y (Kd (Km Y (fun g1 => Kbc (Ka Y (Kd (Kr (Er (ra := [.one (.d _)]) rfl ?_))))) (fun g1 => Kn (Kbc (Ka Y (Kd (Kr (Er (ra := [.one (.d _)]) rfl ?_))))))))))))))))))))))))))))))))))))))))))))
 all_goals (refine congrArg (fun z : Int => [RA.one (RV.d (DV.sc (Value.int IntKind.i64 z)))]) ?_; unfold cmpI; split <;> first | omega | (split <;> omega))

def c_impl_Name_compare : C := (.g (.o 0 2 (.box 2 (.t 0)) (.o 1 3 (.box 3 (.t 1)) (.o 2 4 (.mov (.i 0)) .done))) (.seq (.g (.o 0 5 (.mov (.i 1)) .done) (.block 0 (.loop (.seq (.g (.o 0 7 (.mov (.t 5)) (.o 1 8 (.fad (.t 2) 0) (.o 2 9 (.load none (.t 8)) (.o 3 10 (.len (.t 9)) (.o 4 11 (.fad (.t 3) 0) (.o 5 12 (.load none (.t 11)) (.o 6 13 (.len (.t 12)) (.o 7 14 (.mm false (.t 10) (.t 13)) (.o 8 15 (.bin .leq (.t 7) (.t 14)) .done))))))))) (.cond (.t 15) .skip (.exit 0))) (.seq (.block 1 (.seq (.reg true (.op 0 [] (some 18) none true (.fad (.t 2) 0) (.op 1 [] (some 19) none true (.load none (.t 18)) (.op 2 [] (some 20) none true (.fad (.t 2) 0) (.op 3 [] (some 21) none true (.load none (.t 20)) (.op 4 [] (some 22) none true (.len (.t 21)) (.op 5 [] (some 23) none true (.mov (.t 5)) (.op 6 [] (some 24) none true (.bin .sub (.t 22) (.t 23)) (.op 7 [] (some 25) none true (.iad 1 (.t 19) (.t 24)) (.op 8 [] (some 26) none true (.load none (.t 25)) (.op 9 [] (some 27) none true (.fad (.t 3) 0) (.op 10 [] (some 28) none true (.load none (.t 27)) (.op 11 [] (some 29) none true (.fad (.t 3) 0) (.op 12 [] (some 30) none true (.load none (.t 29)) (.op 13 [] (some 31) none true (.len (.t 30)) (.op 14 [] (some 32) none true (.mov (.t 5)) (.op 15 [] (some 33) none true (.bin .sub (.t 31) (.t 32)) (.op 16 [] (some 34) none true (.iad 1 (.t 28) (.t 33)) (.op 17 [] (some 35) none true (.load none (.t 34)) (.op 18 [8, 1, 3, 17, 10, 12] (some 36) none false (.call 36 178 [(.t 26), (.t 35)]) (.op 19 [] (some 6) none true (.mov (.t 36)) .done))))))))))))))))))))) (.g (.o 0 37 (.mov (.t 6)) (.o 1 38 (.bin .neq (.t 37) (.i 0)) .done)) (.cond (.t 38) (.g (.o 0 39 (.mov (.t 6)) (.o 1 4 (.mov (.t 39)) .done)) .ret) .skip)))) (.reg false (.o 0 16 (.mov (.t 5)) (.o 1 17 (.bin .add (.t 16) (.i 1)) (.o 2 5 (.mov (.t 17)) .done))))))))) (.g (.o 0 40 (.fad (.t 2) 0) (.o 1 41 (.load none (.t 40)) (.o 2 42 (.len (.t 41)) (.o 3 43 (.fad (.t 3) 0) (.o 4 44 (.load none (.t 43)) (.o 5 45 (.len (.t 44)) (.o 6 46 (.call 46 177 [(.t 42), (.t 45)]) (.o 7 4 (.mov (.t 46)) .done)))))))) .ret)))
theorem dg_impl_Name_compare : Tryz.f176.body.bind (digC Tryz.prog Tryz.f176.ntmps []) = some c_impl_Name_compare := by kernel_rfl
theorem rs_impl_Name_compare : resSlots Tryz.prog Tryz.f176 = some [.s 4] := by kernel_rfl
theorem ok_impl_Name_compare (a b : List (List UInt8)) (ha : a.length ≤ 4194304) (hb : b.length ≤ 4194304) :
  FnOK Tryz.prog 176 [.agg [.d (encBB a)], .agg [.d (encBB b)]] (fun ra _ => ra = [.one (.d (.sc (.int .i64 (cmpN a b))))]) := by
 refine FnOK.ofK Tryz.func176 (by kernel_rfl) dg_impl_Name_compare rs_impl_Name_compare rfl rfl ?_
 delta c_impl_Name_compare T.o X.i C.g
 refine Kbc (kBox Y Y Y Y Y (kBox Y Y Y Y Y (Ka Y (Kdb (Kbc (Ka Y (Kd (Kt ?_))))))))
 refine kLoop (α := { k : Nat // k ≤ a.length ∧ k ≤ b.length ∧ cmpN a b = cmpL (a.reverse.drop k) (b.reverse.drop k) })
  (fun y => ⟨tabSl [(2, .c (.ptr (rid 2 0) 1 0)), (3, .c (.ptr (rid 3 0) 1 0)), (5, .i (y.1 + 1))], obTab 1 [(rid 2 0, ⟨1, 0, .box [.d (encBB a)]⟩), (rid 3 0, ⟨1, 0, .box [.d (encBB b)]⟩)], []⟩) (fun y => a.length - y.1) ⟨0, by simp [cmpN]⟩
  .normA ?_
 rintro ⟨k, h1, h2, h3⟩
 simp only
 rcases Nat.lt_or_ge k a.length with hla | hga
 ·rcases Nat.lt_or_ge k b.length with hlb | hgb
  ·have hst := cmpL_step a b k hla hlb (a.length - (k + 1) : Int).toNat (b.length - (k + 1) : Int).toNat (by omega) (by omega)
   refine Kb (Kbc (Ka Y (Kf Y Y (Ke Y Y Y (Kq Y Y (Kf Y Y (Ke Y Y Y (Kq Y Y (kMmMin Y Y (Kj Y Y Y (Kd (Km Y (fun g0 => Kn (Kb (Kt (Kb (kRegD (Kf Y Y (Ke Y Y Y (Kf Y Y (Ke Y Y Y (Kq Y Y (Ka Y (kDif Y Y om (kIadT Y Y om (Ky Y Y (Kf Y Y (Ke Y Y Y (Kf Y Y (Ke Y Y Y (Kq Y Y (Ka Y (kDif Y Y om (kIadT Y Y om (Ky Y Y (Ks Y Y (Kp (ok_bytes_Compare _ _) ⟨Y, Y, trivial⟩ Y Y Y Y Y (Ka Y (Kd (kH (Kbc (Ka Y (Kj Y Y Y (Kd (kCondIN Y (fun g1 => Kbc (Ka Y (Ka Y (Kd (Kr (Er (ra := [.one (.d _)]) rfl ?_)))))) (fun g1 => Kn (Kv (Kc (Ka Y (kAdd Y Y om (Ka Y (Kd ?_)))))))))))))))))))))))))))))))))))))))) (fun g0 => om)))))))))))))
   ·rw [h3, hst, if_neg (by assumption)]
   ·refine kInv ⟨⟨k + 1, hla, hlb, ?_⟩, by simp only; omega, .normA⟩
    rw [h3, hst, if_pos (by assumption)]
  ·rw [cmpL_end a b k h1 h2 (by omega)] at h3
   refine Kb (Kbc (Ka Y (Kf Y Y (Ke Y Y Y (Kq Y Y (Kf Y Y (Ke Y Y Y (Kq Y Y (kMmMin Y Y (Kj Y Y Y (Kd (Km Y (fun g0 => om) (fun g0 => kExit (kExC (kExI (kExB (Kbc (Kf Y Y (Ke Y Y Y (Kq Y Y (Kf Y Y (Ke Y Y Y (Kq Y Y (Kp (ok_cmp_Compare_int _ _) ⟨Y, Y, trivial⟩ Y Y Y Y Y (Ka Y (Kd (Kr (Er (ra := [.one (.d _)]) rfl ?_))))))))))))))))))))))))))))
   all_goals (rw [h3]; refine congrArg (fun z : Int => [RA.one (RV.d (DV.sc (Value.int IntKind.i64 z)))]) ?_; unfold cmpI; split <;> (repeat' split) <;> omega)
 ·rw [cmpL_end a b k h1 h2 (by omega)] at h3
  refine Kb (Kbc (Ka Y (Kf Y Y (Ke Y Y Y (Kq Y Y (Kf Y Y (Ke Y Y Y (Kq Y Y (kMmMin Y Y (Kj Y Y Y (Kd (Km Y (fun g0 => om) (fun g0 => kExit (kExC (kExI (kExB (Kbc (Kf Y Y (Ke Y Y Y (Kq Y Y (Kf Y Y (Ke Y Y Y (Kq Y Y (Kp (ok_cmp_Compare_int _ _) ⟨Y, Y, trivial⟩ Y Y Y Y Y (Ka Y (Kd (Kr (Er (ra := [.one (.d _)]) rfl ?_))))))))))))))))))))))))))))
  all_goals (rw [h3]; refine congrArg (fun z : Int => [RA.one (RV.d (DV.sc (Value.int IntKind.i64 z)))]) ?_; unfold cmpI; split <;> (repeat' split) <;> omega)

def c_impl_Name_is : C := (.g (.o 0 2 (.box 2 (.t 0)) (.o 1 3 (.box 3 (.t 1)) (.o 2 4 (.mov (.v (.bool false))) .done))) (.g (.o 0 5 (.load (some 1) (.t 2)) (.o 1 6 (.load (some 1) (.t 3)) (.o 2 7 (.call 7 176 [(.t 5), (.t 6)]) (.o 3 8 (.bin .eql (.t 7) (.i 0)) (.o 4 4 (.mov (.t 8)) .done))))) .ret))
theorem dg_impl_Name_is : Tryz.f96.body.bind (digC Tryz.prog Tryz.f96.ntmps []) = some c_impl_Name_is := by kernel_rfl
theorem rs_impl_Name_is : resSlots Tryz.prog Tryz.f96 = some [.s 4] := by kernel_rfl
theorem ok_impl_Name_is (a b : List (List UInt8)) (ha : a.length ≤ 4194304) (hb : b.length ≤ 4194304) :
  FnOK Tryz.prog 96 [.agg [.d (encBB a)], .agg [.d (encBB b)]] (fun ra _ => ra = [.one (.d (.sc (.bool (decide (a = b)))))]) := by
 refine FnOK.ofK Tryz.func96 (by kernel_rfl) dg_impl_Name_is rs_impl_Name_is rfl rfl ?_
 delta c_impl_Name_is T.o X.i C.g
 rw [← cmpN_zero]
 refine Kbc (kBox Y Y Y Y Y (kBox Y Y Y Y Y (Ka Y (Kdb (Kc (Ke Y Y Y (Ke Y Y Y (Kp (ok_impl_Name_compare _ _ pr pr) ⟨⟨⟨Y, trivial⟩, leb⟩, ⟨⟨Y, trivial⟩, leb⟩, trivial⟩ Y Y Y Y Y (Kj Y Y Y (Ka Y (Kd (Kr (Er (ra := [.one (.d _)]) rfl rfl)))))))))))))

def c_impl_Zone_set : C := (.g (.o 0 3 (.box 3 (.t 0)) (.o 1 4 (.box 4 (.t 1)) (.o 2 6 (.mov (.n 7)) .done))) (.g (.o 0 10 (.lit 10 7 [(.n 1), (.i 0), (.i 0), (.i 0), (.n 1), (.n 1), (.n 1)] 0 []) (.o 1 7 (.mov (.t 10)) .done)) (.seq (.g (.o 0 11 (.fad (.t 3) 1) (.o 1 12 (.load none (.t 11)) (.o 2 13 (.len (.t 12)) (.o 3 14 (.mov (.i 0)) .done)))) (.block 0 (.loop (.g (.o 0 15 (.bin .lss (.t 14) (.t 13)) .done) (.seq (.cond (.t 15) .skip (.exit 0)) (.seq (.block 1 (.g (.o 0 16 (.iad 7 (.t 12) (.t 14)) (.o 1 17 (.load (some 7) (.t 16)) (.o 2 9 (.alloc 9 [(.n 1), (.i 0), (.i 0), (.i 0), (.n 1), (.n 1), (.n 1)]) (.op 3 [] none none false (.store (some 7) (.t 9) (.t 17)) .done)))) (.g (.o 0 18 (.fad (.t 9) 0) (.o 1 19 (.load (some 1) (.t 18)) (.o 2 20 (.load (some 1) (.t 4)) (.o 3 21 (.call 21 96 [(.t 19), (.t 20)]) (.o 4 22 (.mov (.t 21)) (.op 5 [] (some 23) (some (22, true)) false (.mov (.t 2)) (.op 6 [] (some 24) (some (22, true)) false (.bin .eql (.t 23) (.i 255)) (.op 7 [] (some 25) (some (22, true)) false (.mov (.t 24)) (.op 8 [] (some 26) (some (25, false)) false (.fad (.t 9) 1) (.op 9 [] (some 27) (some (25, false)) false (.load none (.t 26)) (.op 10 [] (some 28) (some (25, false)) false (.mov (.t 2)) (.op 11 [] (some 29) (some (25, false)) false (.bin .eql (.t 27) (.t 28)) (.op 12 [] (some 30) (some (22, true)) false (.pick (.t 25) (.v (.bool true)) (.t 29)) (.o 13 31 (.pick (.t 22) (.t 30) (.v (.bool false))) .done)))))))))))))) (.cond (.t 31) (.reg false (.o 0 32 (.mov (.t 7)) (.o 1 33 (.load (some 7) (.t 9)) (.o 2 34 (.lit 34 7 [(.n 1), (.i 0), (.i 0), (.i 0), (.n 1), (.n 1), (.n 1)] 1 [(0, 7, (.t 33))]) (.o 3 35 (.app 35 7 120 (.t 32) (.t 34)) (.o 4 7 (.mov (.t 35)) .done)))))) .skip)))) (.reg false (.o 0 36 (.bin .add (.t 14) (.i 1)) (.o 1 14 (.mov (.t 36)) .done))))))))) (.g (.o 0 37 (.mov (.t 7)) (.o 1 6 (.mov (.t 37)) .done)) .ret))))
theorem dg_impl_Zone_set : Tryz.f92.body.bind (digC Tryz.prog Tryz.f92.ntmps []) = some c_impl_Zone_set := by kernel_rfl
theorem rs_impl_Zone_set : resSlots Tryz.prog Tryz.f92 = some [.s 6] := by kernel_rfl
theorem ok_impl_Zone_set (z : Zone) (n : List (List UInt8)) (t : Int) (hs : SmallZ z) (hn : n.length ≤ 4194304) :
  FnOK Tryz.prog 92 [.agg (z.cells.map .d), .agg [.d (encBB n)], .one (.d (.sc (.int .i64 t)))] (fun ra _ => ra = [.one (.d (encR (setOf z.rrs n t)))]) := by
 refine FnOK.ofK Tryz.func92 (by kernel_rfl) dg_impl_Zone_set rs_impl_Zone_set rfl rfl ?_
 delta c_impl_Zone_set T.o X.i C.g
 have h1 := hs.r.len
 refine Kbc (kBox Y Y Y Y Y (kBox Y Y Y Y Y (Ka Y (Kdb (Kc (kLit Y Y Y Y (Ka Y (Kdb (Kbc (Kf Y Y (Ke Y Y Y (Kq Y Y (Ka Y (Kd (Kt ?_)))))))))))))))
 refine kLoop (α := { i : Nat // i ≤ z.rrs.length }) (fun y => ⟨tabSl [(2, .i t), (4, .c (.ptr (rid 4 0) 1 0)), (7, .c (.arr (rid 10 0) 1)), (12, .dv (encR z.rrs)), (13, .i z.rrs.length), (14, .i y.1)], obTab 1 [(rid 4 0, ⟨1, 0, .box [.d (encBB n)]⟩), (rid 10 0, ⟨1, 0, .arr false (encR (setOf (z.rrs.take y.1) n t))⟩)], []⟩) (fun y => z.rrs.length - y.1) ⟨0, by simp⟩ .normA ?_
 rintro ⟨i, hi⟩
 simp only
 have hlen : (z.rrs.take i).length = i := by simp; omega
 have hle : (setOf (z.rrs.take i) n t).length ≤ z.rrs.length := filter_len _ z.rrs i
 rcases Nat.lt_or_ge i z.rrs.length with hlt | hge
 ·have hbi := hs.r.mem _ (List.getElem_mem hlt)
  have n1 := hbi.n.len
  have no : ∀ h : (decide (z.rrs[i].name = n) && (t == 255 || z.rrs[i].ty == t)) = false, setOf (z.rrs.take (i + 1)) n t = setOf (z.rrs.take i) n t := fun h => filter_no hlt h
  have yes : ∀ h : (decide (z.rrs[i].name = n) && (t == 255 || z.rrs[i].ty == t)) = true, setOf (z.rrs.take (i + 1)) n t = setOf (z.rrs.take i) n t ++ [z.rrs[i]] := fun h => filter_yes hlt h
  by_cases p1 : z.rrs[i].name = n
  ·by_cases p2 : t = 255
   ·have hst := yes (by simp [p1, p2])
    refine Kbc (Kj Y Y Y (Kdb (Km Y (fun g0 => Kn (Kb (Kt (Kbc (kIadR Y Y Y om (Ky Y Y (kAlloc Y Y (Ko Y Y Y Y (Kdb (Kc (Kf Y Y (Ke Y Y Y (Ke Y Y Y (Kp (ok_impl_Name_is _ _ pr pr) ⟨⟨⟨Y, trivial⟩, leb⟩, ⟨⟨Y, trivial⟩, leb⟩, trivial⟩ Y Y Y Y Y (Ka Y (kGP Y (fun g1 => Ki Y (Ka Y (Ki Y (Kj Y Y Y (Ki Y (Ka Y (kGP Y (fun g2 => Kg Y (Kg Y (Kg Y (Kg Y (Ki Y (Kk Y (Ka Y (Kk Y (Ka Y (Kd (kCondT Y (Kc (Ka Y (Ke Y Y Y (kLit Y Y Y Y (kAppRec Y Y Y Y Y Y Y om (Ka Y (Kd (Kv (Kc (kAdd Y Y om (Ka Y (Kd ?_))))))))))))))))))))))) (fun g2 => om)))))))) (fun g1 => (by (simp [*] at g1))))))))))))))))))) (fun g0 => om))))
    refine kInv ⟨⟨i + 1, by omega⟩, by simp only; omega, ?_⟩
    simp only [hst]
    exact .normA
   ·by_cases p3 : z.rrs[i].ty = t
    ·have hst := yes (by simp [p1, p3])
     refine Kbc (Kj Y Y Y (Kdb (Km Y (fun g0 => Kn (Kb (Kt (Kbc (kIadR Y Y Y om (Ky Y Y (kAlloc Y Y (Ko Y Y Y Y (Kdb (Kc (Kf Y Y (Ke Y Y Y (Ke Y Y Y (Kp (ok_impl_Name_is _ _ pr pr) ⟨⟨⟨Y, trivial⟩, leb⟩, ⟨⟨Y, trivial⟩, leb⟩, trivial⟩ Y Y Y Y Y (Ka Y (kGP Y (fun g1 => Ki Y (Ka Y (Ki Y (Kj Y Y Y (Ki Y (Ka Y (kGP Y (fun g2 => om) (fun g2 => Ki Y (Kf Y Y (Ki Y (Ke Y Y Y (Ki Y (Ka Y (Ki Y (Kj Y Y Y (Ki Y (Kl Y (Ka Y (Kk Y (Ka Y (Kd (Km Y (fun g3 => Kc (Ka Y (Ke Y Y Y (kLit Y Y Y Y (kAppRec Y Y Y Y Y Y Y om (Ka Y (Kd (Kv (Kc (kAdd Y Y om (Ka Y (Kd ?_)))))))))))) (fun g3 => om))))))))))))))))))))))) (fun g1 => (by (simp [*] at g1))))))))))))))))))) (fun g0 => om))))
     refine kInv ⟨⟨i + 1, by omega⟩, by simp only; omega, ?_⟩
     simp only [hst]
     exact .normA
    ·have hst := no (by simp [p2, p3])
     refine Kbc (Kj Y Y Y (Kdb (Km Y (fun g0 => Kn (Kb (Kt (Kbc (kIadR Y Y Y om (Ky Y Y (kAlloc Y Y (Ko Y Y Y Y (Kdb (Kc (Kf Y Y (Ke Y Y Y (Ke Y Y Y (Kp (ok_impl_Name_is _ _ pr pr) ⟨⟨⟨Y, trivial⟩, leb⟩, ⟨⟨Y, trivial⟩, leb⟩, trivial⟩ Y Y Y Y Y (Ka Y (kGP Y (fun g1 => Ki Y (Ka Y (Ki Y (Kj Y Y Y (Ki Y (Ka Y (kGP Y (fun g2 => om) (fun g2 => Ki Y (Kf Y Y (Ki Y (Ke Y Y Y (Ki Y (Ka Y (Ki Y (Kj Y Y Y (Ki Y (Kl Y (Ka Y (Kk Y (Ka Y (Kd (Km Y (fun g3 => om) (fun g3 => Kn (Kv (Kc (kAdd Y Y om (Ka Y (Kd ?_)))))))))))))))))))))))))))) (fun g1 => (by (simp [*] at g1))))))))))))))))))) (fun g0 => om))))
     refine kInv ⟨⟨i + 1, by omega⟩, by simp only; omega, ?_⟩
     simp only [hst]
     exact .normA
  ·have hst := no (by simp [p1])
   refine Kbc (Kj Y Y Y (Kdb (Km Y (fun g0 => Kn (Kb (Kt (Kbc (kIadR Y Y Y om (Ky Y Y (kAlloc Y Y (Ko Y Y Y Y (Kdb (Kc (Kf Y Y (Ke Y Y Y (Ke Y Y Y (Kp (ok_impl_Name_is _ _ pr pr) ⟨⟨⟨Y, trivial⟩, leb⟩, ⟨⟨Y, trivial⟩, leb⟩, trivial⟩ Y Y Y Y Y (Ka Y (kGP Y (fun g1 => (by (simp [*] at g1))) (fun g1 => Kg Y (Kg Y (Kg Y (kGU Y (kGU Y (kGU Y (kGU Y (Kg Y (Kl Y (Ka Y (Kd (kCondF Y (Kn (Kv (Kc (kAdd Y Y om (Ka Y (Kd ?_)))))))))))))))))))))))))))))))))) (fun g0 => om))))
   refine kInv ⟨⟨i + 1, by omega⟩, by simp only; omega, ?_⟩
   simp only [hst]
   exact .normA
 ·refine Kbc (Kj Y Y Y (Kdb (Km Y (fun g0 => om) (fun g0 => kExit (kExC (kExI (kExB (Kbc (Ka Y (Ka Y (Kd (Kr (Er (ra := [.one (.d _)]) rfl ?_)))))))))))))
  rw [show i = z.rrs.length by omega, List.take_length]

def c_impl_Zone_hasName_1 : C := (.g (.o 0 2 (.box 2 (.t 0)) (.o 1 3 (.mov (.v (.bool false))) .done)) (.g (.o 0 4 (.fad (.t 2) 0) (.o 1 5 (.load (some 1) (.t 4)) (.o 2 6 (.load (some 1) (.t 1)) (.o 3 7 (.call 7 95 [(.t 5), (.t 6)]) (.o 4 3 (.mov (.t 7)) .done))))) .ret))
theorem dg_impl_Zone_hasName_1 : Tryz.f181.body.bind (digC Tryz.prog Tryz.f181.ntmps []) = some c_impl_Zone_hasName_1 := by kernel_rfl
theorem rs_impl_Zone_hasName_1 : resSlots Tryz.prog Tryz.f181 = some [.s 3] := by kernel_rfl
theorem ok_impl_Zone_hasName_1 (r : Rr) (n : List (List UInt8)) (hr : SmallR r) (hn : n.length ≤ 4194304) (hn' : ∀ b ∈ n, b.length ≤ 4194304) :
  FnOK Tryz.prog 181 [.agg (r.cells.map .d), .one (.ptr [.d (encBB n)])] (fun ra _ => ra = [.one (.d (.sc (.bool (underN r.name n))))]) := by
 refine FnOK.ofK Tryz.func181 (by kernel_rfl) dg_impl_Zone_hasName_1 rs_impl_Zone_hasName_1 rfl rfl ?_
 delta c_impl_Zone_hasName_1 T.o X.i C.g
 have n1 := hr.n.len
 have n2 := hr.n.mem
 refine Kbc (kBox Y Y Y Y Y (Ka Y (Kdb (Kc (Kf Y Y (Ke Y Y Y (kLoadC Y Y (Kp (ok_impl_Name_under _ _ pr pr) ⟨⟨⟨Y, trivial⟩, leb⟩, ⟨⟨Y, trivial⟩, leb⟩, trivial⟩ Y Y Y Y Y (Ka Y (Kd (Kr (Er (ra := [.one (.d _)]) rfl rfl))))))))))))

def c_slices_IndexFunc_Limpl_Rr_impl_Rr : C := (.g (.o 0 4 (.mov (.i 0)) .done) (.seq (.g (.o 0 6 (.mov (.t 0)) (.o 1 7 (.len (.t 6)) (.o 2 8 (.mov (.i 0)) .done))) (.block 0 (.loop (.g (.o 0 9 (.bin .lss (.t 8) (.t 7)) .done) (.seq (.cond (.t 9) .skip (.exit 0)) (.seq (.block 1 (.g (.o 0 10 (.mov (.t 8)) (.o 1 5 (.mov (.t 10)) .done)) (.g (.o 0 11 (.mov (.t 1)) (.o 1 12 (.mov (.t 0)) (.o 2 13 (.mov (.t 5)) (.o 3 14 (.iad 7 (.t 12) (.t 13)) (.o 4 15 (.load (some 7) (.t 14)) (.o 5 16 (.callv 16 (.t 11) [(.t 15)]) .done)))))) (.cond (.t 16) (.g (.o 0 17 (.mov (.t 5)) (.o 1 4 (.mov (.t 17)) .done)) .ret) .skip)))) (.reg false (.o 0 18 (.bin .add (.t 8) (.i 1)) (.o 1 8 (.mov (.t 18)) .done))))))))) (.g (.o 0 4 (.mov (.i (-1))) .done) .ret)))
theorem dg_slices_IndexFunc_Limpl_Rr_impl_Rr : Tryz.f244.body.bind (digC Tryz.prog Tryz.f244.ntmps []) = some c_slices_IndexFunc_Limpl_Rr_impl_Rr := by kernel_rfl
theorem rs_slices_IndexFunc_Limpl_Rr_impl_Rr : resSlots Tryz.prog Tryz.f244 = some [.s 4] := by kernel_rfl
theorem ok_slices_IndexFunc_Limpl_Rr_impl_Rr (l : List Rr) (D : Rr → Prop) (g : Rr → Bool) (hl : l.length ≤ 4194304) (hD : ∀ x ∈ l, D x) :
  FnOK Tryz.prog 244 [.one (.d (encR l)), .one (.fv false (fcAgg D Rr.cells g))] (fun ra _ => ra = [.one (.d (.sc (.int .i64 (idx g l))))]) := by
 refine FnOK.ofK Tryz.func244 (by kernel_rfl) dg_slices_IndexFunc_Limpl_Rr_impl_Rr rs_slices_IndexFunc_Limpl_Rr_impl_Rr rfl rfl ?_
 delta c_slices_IndexFunc_Limpl_Rr_impl_Rr T.o X.i C.g
 refine Kbc (Ka Y (Kdb (Kbc (Ka Y (Kq Y Y (Ka Y (Kd (Kt ?_))))))))
 refine kLoop (α := { i : Nat // i ≤ l.length ∧ ∀ x ∈ l.take i, g x = false })
  (fun y => ⟨tabSl [(0, .dv (encR l)), (1, .c (.fv false (fcAgg D Rr.cells g))), (7, .i l.length), (8, .i y.1)], obTab 1 [], []⟩) (fun y => l.length - y.1) ⟨0, by simp⟩
  .normA ?_
 rintro ⟨i, hi, hg⟩
 simp only
 rcases Nat.lt_or_ge i l.length with hlt | hge
 ·refine Kbc (Kj Y Y Y (Kdb (Km Y (fun g0 => Kn (Kb (Kt (Kbc (Ka Y (Ka Y (Kdb (Kc (Ka Y (Ka Y (Ka Y (kIadR Y Y Y om (Ky Y Y ?_))))))))))))) (fun g0 => om))))
  refine kCallv Y ⟨l[i], hD _ (List.getElem_mem hlt), rfl, rfl⟩ ⟨⟨⟨Y, Y, Y, Y, Y, Y, Y, trivial⟩, leb⟩, trivial⟩ (.inr ?_) rfl ?_ rfl ?_
  ·rintro _ rfl; rfl
  ·rintro _ rfl; exact leb
  rintro _ rfl
  refine Kd (kCond Y (fun g0 => Kbc (Ka Y (Ka Y (Kd (Kr (Er (ra := [.one (.d _)]) rfl ?_)))))) (fun g0 => Kn (Kv (Kc (kAdd Y Y om (Ka Y (Kd ?_)))))))
  ·have : l.findIdx? g = some i := by
    rw [List.findIdx?_eq_some_iff_getElem]
    refine ⟨hlt, by assumption, fun j hj => ?_⟩
    simpa using hg _ (by rw [List.mem_take_iff_getElem]; exact ⟨j, by omega, rfl⟩)
   simp [idx, this]
  ·refine kInv ⟨⟨i + 1, hlt, ?_⟩, by simp only; omega, .normA⟩
   intro x hx
   rw [← List.take_append_getElem hlt, List.mem_append] at hx
   rcases hx with hx | hx
   ·exact hg x hx
   ·simp at hx; rw [hx]; assumption
 ·refine Kbc (Kj Y Y Y (Kdb (Km Y (fun g0 => om) (fun g0 => kExit (kExC (kExI (kExB (Kbc (Ka Y (Kd (Kr (Er (ra := [.one (.d _)]) rfl ?_))))))))))))
  have : l.findIdx? g = none := by
   rw [List.findIdx?_eq_none_iff]
   intro x hx
   rw [show i = l.length by omega, List.take_length] at hg
   exact hg x hx
  simp [idx, this]

def c_slices_ContainsFunc_Limpl_Rr_impl_Rr : C := (.g (.o 0 4 (.mov (.v (.bool false))) .done) (.g (.o 0 5 (.mov (.t 0)) (.o 1 6 (.mov (.t 1)) (.o 2 7 (.call 7 244 [(.t 5), (.t 6)]) (.o 3 8 (.bin .geq (.t 7) (.i 0)) (.o 4 4 (.mov (.t 8)) .done))))) .ret))
theorem dg_slices_ContainsFunc_Limpl_Rr_impl_Rr : Tryz.f173.body.bind (digC Tryz.prog Tryz.f173.ntmps []) = some c_slices_ContainsFunc_Limpl_Rr_impl_Rr := by kernel_rfl
theorem rs_slices_ContainsFunc_Limpl_Rr_impl_Rr : resSlots Tryz.prog Tryz.f173 = some [.s 4] := by kernel_rfl
theorem ok_slices_ContainsFunc_Limpl_Rr_impl_Rr (l : List Rr) (D : Rr → Prop) (g : Rr → Bool) (hl : l.length ≤ 4194304) (hD : ∀ x ∈ l, D x) :
  FnOK Tryz.prog 173 [.one (.d (encR l)), .one (.fv false (fcAgg D Rr.cells g))] (fun ra _ => ra = [.one (.d (.sc (.bool (l.any g))))]) := by
 refine FnOK.ofK Tryz.func173 (by kernel_rfl) dg_slices_ContainsFunc_Limpl_Rr_impl_Rr rs_slices_ContainsFunc_Limpl_Rr_impl_Rr rfl rfl ?_
 delta c_slices_ContainsFunc_Limpl_Rr_impl_Rr T.o X.i C.g
 refine Kbc (Ka Y (Kdb (Kc (Ka Y (Ka Y ?_)))))
 refine Ku true (ok_slices_IndexFunc_Limpl_Rr_impl_Rr l D g hl hD) ⟨rfl, ⟨fun h => h, fun _ _ h => h⟩, trivial⟩ rfl rfl rfl fun os => ?_
 rw [← idx_ge g l]
 refine Kj Y Y Y (Ka Y (Kd (Kr (Er (ra := [.one (.d _)]) rfl rfl))))

def c_impl_Zone_hasName : C := (.g (.o 0 2 (.box 2 (.t 0)) (.o 1 3 (.box 3 (.t 1)) (.o 2 4 (.mov (.v (.bool false))) .done))) (.g (.o 0 5 (.fad (.t 2) 1) (.o 1 6 (.load none (.t 5)) (.o 2 7 (.clo 181 [] [(.t 3)]) (.o 3 8 (.call 8 173 [(.t 6), (.t 7)]) (.o 4 4 (.mov (.t 8)) .done))))) .ret))
theorem dg_impl_Zone_hasName : Tryz.f97.body.bind (digC Tryz.prog Tryz.f97.ntmps []) = some c_impl_Zone_hasName := by kernel_rfl
theorem rs_impl_Zone_hasName : resSlots Tryz.prog Tryz.f97 = some [.s 4] := by kernel_rfl
theorem ok_impl_Zone_hasName (z : Zone) (n : List (List UInt8)) (hs : SmallZ z) (hn : n.length ≤ 4194304) (hn' : ∀ b ∈ n, b.length ≤ 4194304) :
  FnOK Tryz.prog 97 [.agg (z.cells.map .d), .agg [.d (encBB n)]] (fun ra _ => ra = [.one (.d (.sc (.bool (hasN z n))))]) := by
 refine FnOK.ofK Tryz.func97 (by kernel_rfl) dg_impl_Zone_hasName rs_impl_Zone_hasName rfl rfl ?_
 delta c_impl_Zone_hasName T.o X.i C.g
 have h1 := hs.r.len
 refine Kbc (kBox Y Y Y Y Y (kBox Y Y Y Y Y (Ka Y (Kdb (Kc (Kf Y Y (Ke Y Y Y (kClo Y Y ?_))))))))
 refine Ku true (ok_slices_ContainsFunc_Limpl_Rr_impl_Rr z.rrs SmallR (fun r => underN r.name n) h1 hs.r.mem) ⟨rfl, ⟨rfl, ⟨_, Tryz.func181, rfl, by kernel_rfl⟩, _, rfl, ?_⟩, trivial⟩ rfl rfl rfl fun os => ?_
 ·rintro _ R ⟨x, hx, rfl, rfl⟩
  exact ⟨by rintro _ rfl; rfl, ok_impl_Zone_hasName_1 x n hx hn hn'⟩
 refine Ka Y (Kd (Kr (Er (ra := [.one (.d _)]) rfl rfl)))

def c_impl_Zone_lookup : C := (.g (.o 0 3 (.box 3 (.t 0)) (.o 1 4 (.box 4 (.t 1)) (.o 2 6 (.mov (.n 7)) (.o 3 7 (.mov (.i 0)) .done)))) (.seq (.g (.o 0 12 (.load (some 1) (.t 4)) (.o 1 13 (.fad (.t 3) 0) (.o 2 14 (.load (some 1) (.t 13)) (.o 3 15 (.call 15 95 [(.t 12), (.t 14)]) (.o 4 16 (.un .not (.t 15)) .done))))) (.cond (.t 16) (.g (.o 0 6 (.mov (.n 7)) (.o 1 7 (.mov (.i 5)) .done)) .ret) .skip)) (.seq (.g (.o 0 17 (.fad (.t 4) 0) (.o 1 18 (.load none (.t 17)) (.o 2 19 (.len (.t 18)) (.o 3 20 (.fad (.t 3) 0) (.o 4 21 (.fad (.t 20) 0) (.o 5 22 (.load none (.t 21)) (.o 6 23 (.len (.t 22)) (.o 7 24 (.bin .sub (.t 19) (.t 23)) (.o 8 25 (.bin .sub (.t 24) (.i 1)) (.o 9 8 (.mov (.t 25)) .done)))))))))) (.block 0 (.loop (.seq (.g (.o 0 26 (.mov (.t 8)) (.o 1 27 (.bin .geq (.t 26) (.i 0)) .done)) (.cond (.t 27) .skip (.exit 0))) (.seq (.block 1 (.seq (.reg true (.op 0 [] (some 30) none true (.load (some 2) (.t 3)) (.op 1 [] (some 31) none true (.fad (.t 4) 0) (.op 2 [] (some 32) none true (.load none (.t 31)) (.op 3 [] (some 33) none true (.mov (.t 8)) (.op 4 [] (some 34) none true (.cut 1 (.t 32) (some (.t 33)) none) (.op 5 [] (some 35) none true (.build [(.n 1)] [(0, 1, (.t 34))]) (.op 6 [0, 2] (some 36) none false (.call 36 92 [(.t 30), (.t 35), (.i 2)]) (.op 7 [] (some 9) none true (.mov (.t 36)) .done))))))))) (.g (.o 0 37 (.mov (.t 9)) (.o 1 38 (.len (.t 37)) (.o 2 39 (.bin .gtr (.t 38) (.i 0)) .done))) (.cond (.t 39) (.g (.o 0 40 (.mov (.t 9)) (.o 1 6 (.mov (.t 40)) (.o 2 7 (.mov (.i 2)) .done))) .ret) .skip)))) (.reg false (.o 0 28 (.mov (.t 8)) (.o 1 29 (.bin .sub (.t 28) (.i 1)) (.o 2 8 (.mov (.t 29)) .done))))))))) (.seq (.g (.o 0 41 (.load (some 2) (.t 3)) (.o 1 42 (.load (some 1) (.t 4)) (.o 2 43 (.mov (.t 2)) (.o 3 44 (.call 44 92 [(.t 41), (.t 42), (.t 43)]) (.o 4 10 (.mov (.t 44)) .done))))) (.g (.o 0 45 (.mov (.t 10)) (.o 1 46 (.len (.t 45)) (.o 2 47 (.bin .gtr (.t 46) (.i 0)) .done))) (.cond (.t 47) (.g (.o 0 48 (.mov (.t 10)) (.o 1 6 (.mov (.t 48)) (.o 2 7 (.mov (.i 0)) .done))) .ret) .skip))) (.seq (.g (.o 0 49 (.load (some 2) (.t 3)) (.o 1 50 (.load (some 1) (.t 4)) (.o 2 51 (.call 51 92 [(.t 49), (.t 50), (.i 5)]) (.o 3 11 (.mov (.t 51)) .done)))) (.g (.o 0 52 (.mov (.t 11)) (.o 1 53 (.len (.t 52)) (.o 2 54 (.bin .gtr (.t 53) (.i 0)) .done))) (.cond (.t 54) (.g (.o 0 55 (.mov (.t 11)) (.o 1 6 (.mov (.t 55)) (.o 2 7 (.mov (.i 1)) .done))) .ret) .skip))) (.seq (.g (.o 0 56 (.load (some 2) (.t 3)) (.o 1 57 (.load (some 1) (.t 4)) (.o 2 58 (.call 58 97 [(.t 56), (.t 57)]) .done))) (.cond (.t 58) (.g (.o 0 6 (.mov (.n 7)) (.o 1 7 (.mov (.i 3)) .done)) .ret) .skip)) (.g (.o 0 6 (.mov (.n 7)) (.o 1 7 (.mov (.i 4)) .done)) .ret)))))))
theorem dg_impl_Zone_lookup : Tryz.f138.body.bind (digC Tryz.prog Tryz.f138.ntmps []) = some c_impl_Zone_lookup := by kernel_rfl
theorem rs_impl_Zone_lookup : resSlots Tryz.prog Tryz.f138 = some [.s 6, .s 7] := by kernel_rfl
theorem ok_impl_Zone_lookup (z : Zone) (n : List (List UInt8)) (t : Int) (hs : SmallZ z) (hn : SmallBB n) :
  FnOK Tryz.prog 138 [.agg (z.cells.map .d), .agg [.d (encBB n)], .one (.d (.sc (.int .i64 t)))] (fun ra _ => ra = [.one (.d (encR (lookupN z n t).1)), .one (.d (.sc (.int .i64 (lookupN z n t).2)))]) := by
 refine FnOK.ofK Tryz.func138 (by kernel_rfl) dg_impl_Zone_lookup rs_impl_Zone_lookup rfl rfl ?_
 delta c_impl_Zone_lookup T.o X.i C.g
 have o1 := hs.o.len
 have o2 := hs.o.mem
 have n1 := hn.len
 have n2 := hn.mem
 cases hu : underN n z.origin
 ·rw [lookup_out hu]
  refine Kbc (kBox Y Y Y Y Y (kBox Y Y Y Y Y (Ka Y (Ka Y (Kdb (Kbc (Ke Y Y Y (Kf Y Y (Ke Y Y Y (Kp (ok_impl_Name_under _ _ pr pr) ⟨⟨⟨Y, trivial⟩, leb⟩, ⟨⟨Y, trivial⟩, leb⟩, trivial⟩ Y Y Y Y Y (Kw Y Y (Kd (kCondN Y (fun g0 => Kbc (Ka Y (Ka Y (Kd (Kr (Er (ra := [.one (.d _), .one (.d _)]) rfl rfl)))))) (fun g0 => (by (simp [*] at g0))))))))))))))))
 have hle := under_le hu
 have hsub : ((n.length - z.origin.length : Nat) : Int) = (n.length : Int) - (z.origin.length : Int) := by omega
 refine Kbc (kBox Y Y Y Y Y (kBox Y Y Y Y Y (Ka Y (Ka Y (Kdb (Kbc (Ke Y Y Y (Kf Y Y (Ke Y Y Y (Kp (ok_impl_Name_under _ _ pr pr) ⟨⟨⟨Y, trivial⟩, leb⟩, ⟨⟨Y, trivial⟩, leb⟩, trivial⟩ Y Y Y Y Y (Kw Y Y (Kd (kCondN Y (fun g0 => (by (simp [*] at g0))) (fun g0 => Kn (Kb (Kbc (Kf Y Y (Ke Y Y Y (Kq Y Y (Kf Y Y (Kf Y Y (Ke Y Y Y (Kq Y Y (kDif Y Y om (kDif Y Y om (Ka Y (Kd (Kt ?_))))))))))))))))))))))))))))
 refine kLoop (α := { j : Nat // j ≤ n.length - z.origin.length ∧ refAt z n (n.length - z.origin.length) = refAt z n j }) (fun y => ⟨tabSl [(2, .i t), (3, .c (.ptr (rid 3 0) 1 0)), (4, .c (.ptr (rid 4 0) 1 0)), (8, .i ((y.1 : Int) - 1))], obTab 1 [(rid 3 0, ⟨1, 0, .box (z.cells.map .d)⟩), (rid 4 0, ⟨1, 0, .box [.d (encBB n)]⟩)], []⟩) (fun y => y.1) ⟨n.length - z.origin.length, Nat.le_refl _, rfl⟩ .normA ?_
 rintro ⟨j, hj, hr⟩
 simp only
 cases j with
 | zero =>
  rw [lookup_none hu hr]
  have l1 : (setOf z.rrs n t).length ≤ z.rrs.length := List.length_filter_le _ _
  have l2 : (setOf z.rrs n 5).length ≤ z.rrs.length := List.length_filter_le _ _
  have h1 := hs.r.len
  by_cases p1 : 0 < (setOf z.rrs n t).length
  ·rw [if_pos p1]
   refine Kb (Kbc (Ka Y (Kj Y Y Y (Kd (kCondF Y (kExit (kExC (kExI (kExB (Kb (Kbc (Ke Y Y Y (Ke Y Y Y (Ka Y (kCallD2 (ok_impl_Zone_set _ _ _ pr pr) ⟨⟨⟨Y, Y, trivial⟩, leb⟩, ⟨⟨Y, trivial⟩, leb⟩, rfl, trivial⟩ Y Y Y Y (Ka Y (Kdb (Kc (Ka Y (Kq Y Y (Kj Y Y Y (Kd (Km Y (fun g0 => Kbc (Ka Y (Ka Y (Ka Y (Kd (Kr (Er (ra := [.one (.d _), .one (.d _)]) rfl rfl))))))) (fun g0 => om))))))))))))))))))))))))
  rw [if_neg p1]
  by_cases p2 : 0 < (setOf z.rrs n 5).length
  ·rw [if_pos p2]
   refine Kb (Kbc (Ka Y (Kj Y Y Y (Kd (kCondF Y (kExit (kExC (kExI (kExB (Kb (Kbc (Ke Y Y Y (Ke Y Y Y (Ka Y (kCallD2 (ok_impl_Zone_set _ _ _ pr pr) ⟨⟨⟨Y, Y, trivial⟩, leb⟩, ⟨⟨Y, trivial⟩, leb⟩, rfl, trivial⟩ Y Y Y Y (Ka Y (Kdb (Kc (Ka Y (Kq Y Y (Kj Y Y Y (Kd (Km Y (fun g0 => om) (fun g0 => Kn (Kb (Kbc (Ke Y Y Y (Ke Y Y Y (kCallD2 (ok_impl_Zone_set _ _ _ pr pr) ⟨⟨⟨Y, Y, trivial⟩, leb⟩, ⟨⟨Y, trivial⟩, leb⟩, rfl, trivial⟩ Y Y Y Y (Ka Y (Kdb (Kc (Ka Y (Kq Y Y (Kj Y Y Y (Kd (Km Y (fun g1 => Kbc (Ka Y (Ka Y (Ka Y (Kd (Kr (Er (ra := [.one (.d _), .one (.d _)]) rfl rfl))))))) (fun g1 => om))))))))))))))))))))))))))))))))))))))
  rw [if_neg p2]
  cases p3 : hasN z n
  ·refine Kb (Kbc (Ka Y (Kj Y Y Y (Kd (kCondF Y (kExit (kExC (kExI (kExB (Kb (Kbc (Ke Y Y Y (Ke Y Y Y (Ka Y (kCallD2 (ok_impl_Zone_set _ _ _ pr pr) ⟨⟨⟨Y, Y, trivial⟩, leb⟩, ⟨⟨Y, trivial⟩, leb⟩, rfl, trivial⟩ Y Y Y Y (Ka Y (Kdb (Kc (Ka Y (Kq Y Y (Kj Y Y Y (Kd (Km Y (fun g0 => om) (fun g0 => Kn (Kb (Kbc (Ke Y Y Y (Ke Y Y Y (kCallD2 (ok_impl_Zone_set _ _ _ pr pr) ⟨⟨⟨Y, Y, trivial⟩, leb⟩, ⟨⟨Y, trivial⟩, leb⟩, rfl, trivial⟩ Y Y Y Y (Ka Y (Kdb (Kc (Ka Y (Kq Y Y (Kj Y Y Y (Kd (Km Y (fun g1 => om) (fun g1 => Kn (Kb (Kbc (Ke Y Y Y (Ke Y Y Y (Kp (ok_impl_Zone_hasName _ _ pr pr pr) ⟨⟨⟨Y, Y, trivial⟩, leb⟩, ⟨⟨Y, trivial⟩, leb⟩, trivial⟩ Y Y Y Y Y (Kd (kCond Y (fun g2 => (by (simp [*] at g2))) (fun g2 => Kn (Kbc (Ka Y (Ka Y (Kd (Kr (Er (ra := [.one (.d _), .one (.d _)]) rfl rfl))))))))))))))))))))))))))))))))))))))))))))))))))))
  ·refine Kb (Kbc (Ka Y (Kj Y Y Y (Kd (kCondF Y (kExit (kExC (kExI (kExB (Kb (Kbc (Ke Y Y Y (Ke Y Y Y (Ka Y (kCallD2 (ok_impl_Zone_set _ _ _ pr pr) ⟨⟨⟨Y, Y, trivial⟩, leb⟩, ⟨⟨Y, trivial⟩, leb⟩, rfl, trivial⟩ Y Y Y Y (Ka Y (Kdb (Kc (Ka Y (Kq Y Y (Kj Y Y Y (Kd (Km Y (fun g0 => om) (fun g0 => Kn (Kb (Kbc (Ke Y Y Y (Ke Y Y Y (kCallD2 (ok_impl_Zone_set _ _ _ pr pr) ⟨⟨⟨Y, Y, trivial⟩, leb⟩, ⟨⟨Y, trivial⟩, leb⟩, rfl, trivial⟩ Y Y Y Y (Ka Y (Kdb (Kc (Ka Y (Kq Y Y (Kj Y Y Y (Kd (Km Y (fun g1 => om) (fun g1 => Kn (Kb (Kbc (Ke Y Y Y (Ke Y Y Y (Kp (ok_impl_Zone_hasName _ _ pr pr pr) ⟨⟨⟨Y, Y, trivial⟩, leb⟩, ⟨⟨Y, trivial⟩, leb⟩, trivial⟩ Y Y Y Y Y (Kd (kCond Y (fun g2 => Kbc (Ka Y (Ka Y (Kd (Kr (Er (ra := [.one (.d _), .one (.d _)]) rfl rfl)))))) (fun g2 => (by (simp [*] at g2))))))))))))))))))))))))))))))))))))))))))))))))
 | succ k =>
  have e : (((k + 1 : Nat) : Int) - 1).toNat = k := by omega
  have hd : (n.drop ((((k + 1 : Nat) : Int) - 1).toNat)).length ≤ 4194304 := by rw [List.length_drop]; omega
  by_cases hp : 0 < (setOf z.rrs (n.drop ((((k + 1 : Nat) : Int) - 1).toNat)) 2).length
  ·have hf : refAt z n (k + 1) = some (n.drop ((((k + 1 : Nat) : Int) - 1).toNat)) := by
    rw [e] at hp ⊢; simp only [refAt, if_pos hp]
   rw [lookup_ref hu (hr.trans hf)]
   refine Kb (Kbc (Ka Y (Kj Y Y Y (Kd (Km Y (fun g0 => Kn (Kb (Kt (Kb (kRegD (Ke Y Y Y (Kf Y Y (Ke Y Y Y (Ka Y (kCutLT Y Y om (kBuildG Y (Ks Y Y (kCallD2 (ok_impl_Zone_set _ _ _ pr pr) ⟨⟨⟨Y, Y, trivial⟩, leb⟩, ⟨⟨Y, trivial⟩, leb⟩, rfl, trivial⟩ Y Y Y Y (Ka Y (Kd (kH (Kbc (Ka Y (Kq Y Y (Kj Y Y Y (Kd (Km Y (fun g1 => Kbc (Ka Y (Ka Y (Ka Y (Kd (Kr (Er (ra := [.one (.d _), .one (.d _)]) rfl rfl))))))) (fun g1 => om))))))))))))))))))))))) (fun g0 => om))))))
  ·have hf : refAt z n (k + 1) = refAt z n k := by
    rw [e] at hp; simp only [refAt, if_neg hp]
   refine Kb (Kbc (Ka Y (Kj Y Y Y (Kd (Km Y (fun g0 => Kn (Kb (Kt (Kb (kRegD (Ke Y Y Y (Kf Y Y (Ke Y Y Y (Ka Y (kCutLT Y Y om (kBuildG Y (Ks Y Y (kCallD2 (ok_impl_Zone_set _ _ _ pr pr) ⟨⟨⟨Y, Y, trivial⟩, leb⟩, ⟨⟨Y, trivial⟩, leb⟩, rfl, trivial⟩ Y Y Y Y (Ka Y (Kd (kH (Kbc (Ka Y (Kq Y Y (Kj Y Y Y (Kd (Km Y (fun g1 => om) (fun g1 => Kn (Kv (Kc (Ka Y (kDif Y Y om (Ka Y (Kd ?_))))))))))))))))))))))))))))) (fun g0 => om))))))
   refine kInv ⟨⟨k, by omega, by rw [hr, hf]⟩, by simp only; omega, .normA⟩

def c_impl_Zone_top_1 : C := (.g (.o 0 1 (.box 1 (.t 0)) (.o 1 2 (.mov (.v (.bool false))) .done)) (.g (.o 0 3 (.fad (.t 1) 1) (.o 1 4 (.load none (.t 3)) (.o 2 5 (.bin .eql (.t 4) (.i 6)) (.o 3 2 (.mov (.t 5)) .done)))) .ret))
theorem dg_impl_Zone_top_1 : Tryz.f297.body.bind (digC Tryz.prog Tryz.f297.ntmps []) = some c_impl_Zone_top_1 := by kernel_rfl
theorem rs_impl_Zone_top_1 : resSlots Tryz.prog Tryz.f297 = some [.s 2] := by kernel_rfl
theorem ok_impl_Zone_top_1 (r : Rr) :
  FnOK Tryz.prog 297 [.agg (r.cells.map .d)] (fun ra _ => ra = [.one (.d (.sc (.bool (r.ty == 6))))]) := by
 refine FnOK.ofK Tryz.func297 (by kernel_rfl) dg_impl_Zone_top_1 rs_impl_Zone_top_1 rfl rfl ?_
 delta c_impl_Zone_top_1 T.o X.i C.g
 refine Kbc (kBox Y Y Y Y Y (Ka Y (Kdb (Kc (Kf Y Y (Ke Y Y Y (Kj Y Y Y (Ka Y (Kd (Kr (Er (ra := [.one (.d _)]) rfl rfl)))))))))))

def c_impl_Zone_top : C := (.g (.o 0 1 (.box 1 (.t 0)) (.o 1 2 (.mov (.i 0)) .done)) (.g (.o 0 3 (.fad (.t 1) 1) (.o 1 4 (.load none (.t 3)) (.o 2 5 (.call 5 244 [(.t 4), (.fn 297)]) (.o 3 2 (.mov (.t 5)) .done)))) .ret))
theorem dg_impl_Zone_top : Tryz.f238.body.bind (digC Tryz.prog Tryz.f238.ntmps []) = some c_impl_Zone_top := by kernel_rfl
theorem rs_impl_Zone_top : resSlots Tryz.prog Tryz.f238 = some [.s 2] := by kernel_rfl
theorem ok_impl_Zone_top (z : Zone) (hs : SmallZ z) :
  FnOK Tryz.prog 238 [.agg (z.cells.map .d)] (fun ra _ => ra = [.one (.d (.sc (.int .i64 (topIx z.rrs))))]) := by
 refine FnOK.ofK Tryz.func238 (by kernel_rfl) dg_impl_Zone_top rs_impl_Zone_top rfl rfl ?_
 delta c_impl_Zone_top T.o X.i C.g
 have h1 := hs.r.len
 refine Kbc (kBox Y Y Y Y Y (Ka Y (Kdb (Kc (Kf Y Y (Ke Y Y Y ?_))))))
 refine Kp (ok_slices_IndexFunc_Limpl_Rr_impl_Rr z.rrs SmallR (fun r => r.ty == 6) h1 hs.r.mem) ⟨rfl, ⟨rfl, rfl, ⟨_, Tryz.func297, rfl, by kernel_rfl⟩, ?_⟩, trivial⟩ Y Y Y Y Y ?_
 ·rintro _ R ⟨x, h, rfl, rfl⟩
  exact ok_impl_Zone_top_1 x
 refine Ka Y (Kd (Kr (Er (ra := [.one (.d _)]) rfl rfl)))

def c_impl_within : C := (.g (.o 0 6 (.mov (.v (.bool false))) .done) (.g (.o 0 7 (.mov (.t 1)) (.o 1 8 (.mov (.t 0)) (.o 2 9 (.bin .leq (.t 7) (.t 8)) (.o 3 10 (.mov (.t 9)) (.op 4 [] (some 11) (some (10, true)) false (.mov (.t 0)) (.op 5 [] (some 12) (some (10, true)) false (.mov (.t 2)) (.op 6 [] (some 13) (some (10, true)) false (.bin .leq (.t 11) (.t 12)) (.o 7 14 (.pick (.t 10) (.t 13) (.v (.bool false))) (.o 8 6 (.mov (.t 14)) .done))))))))) .ret))
theorem dg_impl_within : Tryz.f121.body.bind (digC Tryz.prog Tryz.f121.ntmps []) = some c_impl_within := by kernel_rfl
theorem rs_impl_within : resSlots Tryz.prog Tryz.f121 = some [.s 6] := by kernel_rfl
theorem ok_impl_within (n lo hi : Int) : FnOK Tryz.prog 121 [.one (.d (.sc (.int .i64 n))), .one (.d (.sc (.int .i64 lo))), .one (.d (.sc (.int .i64 hi)))] (fun ra _ => ra = [.one (.d (.sc (.bool (decide (lo ≤ n ∧ n ≤ hi)))))]) := by
 refine FnOK.ofK Tryz.func121 (by kernel_rfl) dg_impl_within rs_impl_within rfl rfl ?_
 delta c_impl_within T.o X.i C.g
 repeat' first
  | refine kSeq ?_ | refine kReg ?_ | refine kDone ?_ | refine kMovC rfl ?_ | refine kBin rfl rfl rfl ?_
  | refine kGT rfl ?_ | refine kGF rfl ?_ | refine kGU rfl ?_ | refine kG rfl (fun h => ?_) (fun h => ?_)
  | refine kPickT rfl ?_ | refine kPickF rfl ?_ | refine kPick rfl (fun h => ?_) (fun h => ?_) | refine kRet ?_
 all_goals refine endRet (ra := [.one (.d _)]) rfl ⟨⟨⟨rfl, .inl rfl⟩, trivial⟩, .nil, trivial, trivial, trivial, trivial⟩ ?_
 all_goals simp_all
 all_goals omega

def c_impl_isCode : C := (.g (.o 0 2 (.mov (.v (.bool false))) .done) (.g (.o 0 3 (.mov (.t 0)) (.o 1 4 (.call 4 121 [(.t 3), (.i 0), (.i 10)]) (.o 2 2 (.mov (.t 4)) .done))) .ret))
theorem dg_impl_isCode : Tryz.f135.body.bind (digC Tryz.prog Tryz.f135.ntmps []) = some c_impl_isCode := by kernel_rfl
theorem rs_impl_isCode : resSlots Tryz.prog Tryz.f135 = some [.s 2] := by kernel_rfl
theorem ok_impl_isCode (n : Int) : FnOK Tryz.prog 135 [.one (.d (.sc (.int .i64 n)))] (fun ra _ => ra = [.one (.d (.sc (.bool (decide (0 ≤ n) && decide (n ≤ 10)))))]) := by
 refine FnOK.ofK Tryz.func135 (by kernel_rfl) dg_impl_isCode rs_impl_isCode rfl rfl ?_
 delta c_impl_isCode T.o X.i C.g
 refine Kbc (Ka Y (Kdb (Kc (Ka Y (Kp (ok_impl_within _ _ _) ⟨Y, Y, Y, trivial⟩ Y Y Y Y Y (Ka Y (Kd (Kr (Er (ra := [.one (.d _)]) rfl ?_)))))))))
 rw [Bool.decide_and]

def c_impl_all_byte_1 : C := (.g (.o 0 3 (.mov (.v (.bool false))) .done) (.g (.o 0 4 (.load none (.t 1)) (.o 1 5 (.mov (.t 0)) (.o 2 6 (.callv 6 (.t 4) [(.t 5)]) (.o 3 7 (.un .not (.t 6)) (.o 4 3 (.mov (.t 7)) .done))))) .ret))
theorem dg_impl_all_byte_1 : Tryz.f300.body.bind (digC Tryz.prog Tryz.f300.ntmps []) = some c_impl_all_byte_1 := by kernel_rfl
theorem rs_impl_all_byte_1 : resSlots Tryz.prog Tryz.f300 = some [.s 3] := by kernel_rfl
theorem ok_impl_all_byte_1 (x : DV) (D : DV → Prop) (g : DV → Bool) (hx : D x) :
  FnOK Tryz.prog 300 [.one (.d x), .one (.ptr [.fv false (fcPred D g)])] (fun ra _ => ra = [.one (.d (.sc (.bool (!g x))))]) := by
 refine FnOK.ofK Tryz.func300 (by kernel_rfl) dg_impl_all_byte_1 rs_impl_all_byte_1 rfl rfl ?_
 delta c_impl_all_byte_1 T.o X.i C.g
 refine Kbc (Ka Y (Kd ?_))
 refine Kbc (kLoadC Y Y (Ka Y (kCallv Y ⟨x, hx, rfl, rfl⟩ ⟨Y, trivial⟩ (.inr ?_) rfl ?_ rfl ?_)))
 ·rintro _ rfl; rfl
 ·rintro _ rfl; exact leb
 rintro _ rfl
 refine Kw Y Y (Ka Y (Kd (Kr ?_)))
 exact endRet (ra := [.one (.d _)]) rfl ⟨⟨⟨rfl, .inl rfl⟩, trivial⟩, .nil, trivial, trivial, trivial⟩ rfl

def c_slices_IndexFunc_Lbyte_byte : C := (.g (.o 0 4 (.mov (.i 0)) .done) (.seq (.g (.o 0 6 (.mov (.t 0)) (.o 1 7 (.len (.t 6)) (.o 2 8 (.mov (.i 0)) .done))) (.block 0 (.loop (.g (.o 0 9 (.bin .lss (.t 8) (.t 7)) .done) (.seq (.cond (.t 9) .skip (.exit 0)) (.seq (.block 1 (.g (.o 0 10 (.mov (.t 8)) (.o 1 5 (.mov (.t 10)) .done)) (.g (.o 0 11 (.mov (.t 1)) (.o 1 12 (.mov (.t 0)) (.o 2 13 (.mov (.t 5)) (.o 3 14 (.iad 1 (.t 12) (.t 13)) (.o 4 15 (.load none (.t 14)) (.o 5 16 (.callv 16 (.t 11) [(.t 15)]) .done)))))) (.cond (.t 16) (.g (.o 0 17 (.mov (.t 5)) (.o 1 4 (.mov (.t 17)) .done)) .ret) .skip)))) (.reg false (.o 0 18 (.bin .add (.t 8) (.i 1)) (.o 1 8 (.mov (.t 18)) .done))))))))) (.g (.o 0 4 (.mov (.i (-1))) .done) .ret)))
theorem dg_slices_IndexFunc_Lbyte_byte : Tryz.f330.body.bind (digC Tryz.prog Tryz.f330.ntmps []) = some c_slices_IndexFunc_Lbyte_byte := by kernel_rfl
theorem rs_slices_IndexFunc_Lbyte_byte : resSlots Tryz.prog Tryz.f330 = some [.s 4] := by kernel_rfl
theorem ok_slices_IndexFunc_Lbyte_byte (l : List DV) (D : DV → Prop) (g : DV → Bool) (hl : (l.length : Int) ≤ 9223372036854775807) (hD : ∀ x ∈ l, D x) :
  FnOK Tryz.prog 330 [.one (.d (lst l)), .one (.fv false (fcPred D g))] (fun ra _ => ra = [.one (.d (.sc (.int .i64 (idxF g l))))]) := by
 refine FnOK.ofK Tryz.func330 (by kernel_rfl) dg_slices_IndexFunc_Lbyte_byte rs_slices_IndexFunc_Lbyte_byte rfl rfl ?_
 delta c_slices_IndexFunc_Lbyte_byte T.o X.i C.g
 refine Kbc (Ka Y (Kd ?_))
 refine Kb (Kbc (Ka Y (kLen Y Y Y (Ka Y (Kd (Kt ?_))))))
 rw [len_lst]
 refine kLoop (α := { i : Nat // i ≤ l.length ∧ ∀ x ∈ l.take i, g x = false })
  (fun y => ⟨tabSl [(0, .dv (lst l)), (1, .c (.fv false (fcPred D g))), (7, .i l.length), (8, .i y.1)], (St.init [.one (.d (lst l)), .one (.fv false (fcPred D g))]).ob, []⟩) (fun y => l.length - y.1) ⟨0, by simp⟩
  (.tab rfl ⟨.refl _, .refl _, .refl _, .refl _, trivial⟩) ?_
 rintro ⟨i, hi, hg⟩
 simp only
 refine Kbc (Kj Y Y Y (Kd ?_))
 refine Kb (kCond Y (fun h1 => ?_) (fun h1 => ?_))
 ·have hlt : i < l.length := by simp at h1; omega
  refine Kn (Kb (Kt (Kbc (Ka Y (Ka Y (Kd ?_))))))
  refine Kbc (Ka Y (Ka Y (Ka Y (kIadD Y Y Y Y ?_ ?_))))
  ·rw [len_lst]; omega
  rw [show (lst l).row (i : Int).toNat = [l[i]] from row_lst l i hlt]
  refine Ky Y Y (kCallv Y ⟨l[i], hD _ (List.getElem_mem hlt), rfl, rfl⟩ ⟨Y, trivial⟩ (.inr ?_) rfl ?_ rfl ?_)
  ·rintro _ rfl; rfl
  ·rintro _ rfl; exact leb
  rintro _ rfl
  refine Kd (kCond Y (fun h2 => ?_) (fun h2 => ?_))
  ·refine Kbc (Ka Y (Ka Y (Kd (Kr ?_))))
   refine endRet (ra := [.one (.d _)]) rfl ⟨⟨⟨rfl, .inl rfl⟩, trivial⟩, .nil, trivial, trivial, trivial⟩ ?_
   have : l.findIdx? g = some i := by
    rw [List.findIdx?_eq_some_iff_getElem]
    refine ⟨hlt, h2, fun j hj => ?_⟩
    simpa using hg _ (by rw [List.mem_take_iff_getElem]; exact ⟨j, by omega, rfl⟩)
   simp [idxF, this]
  ·refine Kn (Kv (Kc (kAdd Y Y ?_ (Ka Y (Kd (kInv ?_))))))
   ·omega
   refine ⟨⟨i + 1, hlt, ?_⟩, by simp only; omega, .tab rfl ⟨.refl _, .refl _, .refl _, .refl _, trivial⟩⟩
   intro x hx
   rw [← List.take_append_getElem hlt, List.mem_append] at hx
   rcases hx with hx | hx
   ·exact hg x hx
   ·simp at hx; rw [hx]; exact h2
 ·refine kExit (kExC (kExI (kExB ?_)))
  have hge : i = l.length := by simp at h1; omega
  refine Kbc (Ka Y (Kd (Kr ?_)))
  refine endRet (ra := [.one (.d _)]) rfl ⟨⟨⟨rfl, .inl rfl⟩, trivial⟩, .nil, trivial, trivial, trivial⟩ ?_
  have : l.findIdx? g = none := by
   rw [List.findIdx?_eq_none_iff]
   intro x hx
   rw [hge, List.take_length] at hg
   exact hg x hx
  simp [idxF, this]

def c_slices_ContainsFunc_Lbyte_byte : C := (.g (.o 0 4 (.mov (.v (.bool false))) .done) (.g (.o 0 5 (.mov (.t 0)) (.o 1 6 (.mov (.t 1)) (.o 2 7 (.call 7 330 [(.t 5), (.t 6)]) (.o 3 8 (.bin .geq (.t 7) (.i 0)) (.o 4 4 (.mov (.t 8)) .done))))) .ret))
theorem dg_slices_ContainsFunc_Lbyte_byte : Tryz.f299.body.bind (digC Tryz.prog Tryz.f299.ntmps []) = some c_slices_ContainsFunc_Lbyte_byte := by kernel_rfl
theorem rs_slices_ContainsFunc_Lbyte_byte : resSlots Tryz.prog Tryz.f299 = some [.s 4] := by kernel_rfl
theorem ok_slices_ContainsFunc_Lbyte_byte (l : List DV) (D : DV → Prop) (g : DV → Bool) (hl : (l.length : Int) ≤ 9223372036854775807) (hD : ∀ x ∈ l, D x) :
  FnOK Tryz.prog 299 [.one (.d (lst l)), .one (.fv false (fcPred D g))] (fun ra _ => ra = [.one (.d (.sc (.bool (l.any g))))]) := by
 refine FnOK.ofK Tryz.func299 (by kernel_rfl) dg_slices_ContainsFunc_Lbyte_byte rs_slices_ContainsFunc_Lbyte_byte rfl rfl ?_
 delta c_slices_ContainsFunc_Lbyte_byte T.o X.i C.g
 refine Kbc (Ka Y (Kd ?_))
 refine Kbc (Ka Y (Ka Y ?_))
 refine Ku true (ok_slices_IndexFunc_Lbyte_byte l D g hl hD) ⟨rfl, ⟨fun h => h, fun _ _ h => h⟩, trivial⟩ rfl rfl rfl fun os => ?_
 refine Kj Y Y Y (Ka Y (Kd (Kr ?_)))
 refine endRet (ra := [.one (.d _)]) rfl ⟨⟨⟨rfl, .inl rfl⟩, trivial⟩, .nil, trivial, trivial, trivial⟩ ?_
 have : decide (idxF g l ≥ 0) = l.any g := by
  unfold idxF
  cases h : l.findIdx? g with
  | none =>
   rw [List.findIdx?_eq_none_iff] at h
   have : l.any g = false := by rw [List.any_eq_false]; intro x hx; simp [h x hx]
   rw [this]; rfl
  | some i =>
   rw [List.findIdx?_eq_some_iff_getElem] at h
   obtain ⟨h1, h2, _⟩ := h
   have : l.any g = true := by rw [List.any_eq_true]; exact ⟨_, List.getElem_mem h1, h2⟩
   rw [this]; simp
 rw [this]

def c_impl_all_byte : C := (.g (.o 0 3 (.box 3 (.t 1)) (.o 1 4 (.mov (.v (.bool false))) .done)) (.g (.o 0 5 (.mov (.t 0)) (.o 1 6 (.clo 300 [] [(.t 3)]) (.o 2 7 (.call 7 299 [(.t 5), (.t 6)]) (.o 3 8 (.un .not (.t 7)) (.o 4 4 (.mov (.t 8)) .done))))) .ret))
theorem dg_impl_all_byte : Tryz.f242.body.bind (digC Tryz.prog Tryz.f242.ntmps []) = some c_impl_all_byte := by kernel_rfl
theorem rs_impl_all_byte : resSlots Tryz.prog Tryz.f242 = some [.s 4] := by kernel_rfl
theorem ok_impl_all_byte (l : List DV) (D : DV → Prop) (g : DV → Bool) (hl : (l.length : Int) ≤ 9223372036854775807) (hD : ∀ x ∈ l, D x) :
  FnOK Tryz.prog 242 [.one (.d (lst l)), .one (.fv false (fcPred D g))] (fun ra _ => ra = [.one (.d (.sc (.bool (l.all g))))]) := by
 refine FnOK.ofK Tryz.func242 (by kernel_rfl) dg_impl_all_byte rs_impl_all_byte rfl rfl ?_
 delta c_impl_all_byte T.o X.i C.g
 refine Kbc (kBox Y Y Y Y Y (Ka Y (Kd ?_)))
 refine Kbc (Ka Y (kClo Y Y ?_))
 refine Ku true (ok_slices_ContainsFunc_Lbyte_byte l D (fun x => !g x) hl hD) ⟨rfl, ⟨rfl, ⟨_, Tryz.func300, rfl, by kernel_rfl⟩, _, rfl, ?_⟩, trivial⟩ rfl rfl rfl fun os => ?_
 ·rintro l R ⟨x, hx, rfl, rfl⟩
  exact ⟨by rintro _ rfl; rfl, ok_impl_all_byte_1 x D g hx⟩
 refine Kw Y Y (Ka Y (Kd (Kr ?_)))
 refine endRet (ra := [.one (.d _)]) rfl ⟨⟨⟨rfl, .inl rfl⟩, trivial⟩, .nil, trivial, trivial, trivial⟩ ?_
 simp [List.all_eq_not_any_not]

def c_impl_LabelOk_1 : C := (.g (.o 0 2 (.mov (.v (.bool false))) .done) (.g (.o 0 3 (.mov (.t 0)) (.o 1 4 (.bin .geq (.t 3) (.v (.int .u8 97))) (.o 2 5 (.mov (.t 4)) (.op 3 [] (some 6) (some (5, true)) false (.mov (.t 0)) (.op 4 [] (some 7) (some (5, true)) false (.bin .leq (.t 6) (.v (.int .u8 122))) (.o 5 8 (.pick (.t 5) (.t 7) (.v (.bool false))) (.o 6 9 (.mov (.t 8)) (.op 7 [] (some 10) (some (9, false)) false (.mov (.t 0)) (.op 8 [] (some 11) (some (9, false)) false (.bin .geq (.t 10) (.v (.int .u8 48))) (.op 9 [] (some 12) (some (9, false)) false (.mov (.t 11)) (.op 10 [] (some 13) (some (12, true)) false (.mov (.t 0)) (.op 11 [] (some 14) (some (12, true)) false (.bin .leq (.t 13) (.v (.int .u8 57))) (.op 12 [] (some 15) (some (9, false)) false (.pick (.t 12) (.t 14) (.v (.bool false))) (.o 13 16 (.pick (.t 9) (.v (.bool true)) (.t 15)) (.o 14 17 (.mov (.t 16)) (.op 15 [] (some 18) (some (17, false)) false (.mov (.t 0)) (.op 16 [] (some 19) (some (17, false)) false (.bin .eql (.t 18) (.v (.int .u8 45))) (.o 17 20 (.pick (.t 17) (.v (.bool true)) (.t 19)) (.o 18 2 (.mov (.t 20)) .done))))))))))))))))))) .ret))
theorem dg_impl_LabelOk_1 : Tryz.f243.body.bind (digC Tryz.prog Tryz.f243.ntmps []) = some c_impl_LabelOk_1 := by kernel_rfl
theorem rs_impl_LabelOk_1 : resSlots Tryz.prog Tryz.f243 = some [.s 2] := by kernel_rfl
theorem ok_impl_LabelOk_1 (b : UInt8) : FnOK Tryz.prog 243 [.one (.d (.sc (.int .u8 b.toNat)))] (fun ra _ => ra = [.one (.d (.sc (.bool (okLetter b))))]) := by
 refine FnOK.ofK Tryz.func243 (by kernel_rfl) dg_impl_LabelOk_1 rs_impl_LabelOk_1 rfl rfl ?_
 delta c_impl_LabelOk_1 T.o X.i C.g
 repeat' first
  | refine kSeq ?_ | refine kReg ?_ | refine kDone ?_ | refine kMovC rfl ?_ | refine kBin rfl rfl rfl ?_
  | refine kGT rfl ?_ | refine kGF rfl ?_ | refine kGU rfl ?_ | refine kG rfl (fun h => ?_) (fun h => ?_)
  | refine kPickT rfl ?_ | refine kPickF rfl ?_ | refine kPick rfl (fun h => ?_) (fun h => ?_) | refine kRet ?_
 all_goals refine endRet (ra := [.one (.d _)]) rfl ⟨⟨⟨rfl, .inl rfl⟩, trivial⟩, .nil, trivial, trivial⟩ ?_
 all_goals simp_all [okLetter]
 all_goals first | omega | (rw [Bool.eq_iff_iff]; simp; omega)

def c_impl_LabelOk : C := (.g (.o 0 2 (.mov (.v (.bool false))) .done) (.g (.o 0 3 (.mov (.t 0)) (.o 1 4 (.len (.t 3)) (.o 2 5 (.call 5 121 [(.t 4), (.i 1), (.i 15)]) (.o 3 6 (.mov (.t 5)) (.op 4 [] (some 7) (some (6, true)) false (.mov (.t 0)) (.op 5 [] (some 8) (some (6, true)) false (.call 8 242 [(.t 7), (.fn 243)]) (.o 6 9 (.pick (.t 6) (.t 8) (.v (.bool false))) (.o 7 2 (.mov (.t 9)) .done)))))))) .ret))
theorem dg_impl_LabelOk : Tryz.f171.body.bind (digC Tryz.prog Tryz.f171.ntmps []) = some c_impl_LabelOk := by kernel_rfl
theorem rs_impl_LabelOk : resSlots Tryz.prog Tryz.f171 = some [.s 2] := by kernel_rfl
theorem ok_impl_LabelOk (b : List UInt8) (hb : b.length ≤ 4194304) :
  FnOK Tryz.prog 171 [.one (.d (encB b))] (fun ra _ => ra = [.one (.d (.sc (.bool (labelOk b))))]) := by
 refine FnOK.ofK Tryz.func171 (by kernel_rfl) dg_impl_LabelOk rs_impl_LabelOk rfl rfl ?_
 delta c_impl_LabelOk T.o X.i C.g
 refine Kbc (Ka Y (Kdb (Kc (Ka Y (Kq Y Y (Kp (ok_impl_within _ _ _) ⟨Y, Y, Y, trivial⟩ Y Y Y Y Y (Ka Y (kGP Y (fun g0 => Ki Y (Ka Y (Ki Y ?_))) (fun g0 => Kg Y (Kg Y (Kl Y (Ka Y (Ka Y (Kd (Kr (Er (ra := [.one (.d _)]) rfl ?_))))))))))))))))
 ·refine Ku true (ok_impl_all_byte (b.map fun b : UInt8 => .sc (.int .u8 b.toNat)) is8 (fun x => okLetter (dec8 x)) (by simp; omega) (fun x hx => by obtain ⟨c, _, rfl⟩ := List.mem_map.1 hx; exact ⟨c, rfl⟩)) ⟨congrArg some (encB_lst b), ⟨rfl, rfl, ⟨_, Tryz.func243, rfl, by kernel_rfl⟩, ?_⟩, trivial⟩ Y Y Y (fun _ => ?_)
  ·rintro _ R ⟨x, ⟨c, rfl⟩, rfl, rfl⟩
   have := ok_impl_LabelOk_1 c
   simp only [dec8_enc]
   exact this
  refine Kk Y (Ka Y (Ka Y (Kd (Kr (Er (ra := [.one (.d _)]) rfl ?_)))))
  rw [all_dec8, show labelOk b = b.all okLetter by simp only [labelOk]; rw [decide_eq_true (by omega), decide_eq_true (by omega)]; rfl]
 ·rw [show labelOk b = false by simp only [labelOk]; rw [show (decide (1 ≤ b.length) && decide (b.length ≤ 15)) = false by simp; omega]; rfl]

def c_impl_all_Lbyte_1 : C := (.g (.o 0 3 (.mov (.v (.bool false))) .done) (.g (.o 0 4 (.load none (.t 1)) (.o 1 5 (.mov (.t 0)) (.o 2 6 (.callv 6 (.t 4) [(.t 5)]) (.o 3 7 (.un .not (.t 6)) (.o 4 3 (.mov (.t 7)) .done))))) .ret))
theorem dg_impl_all_Lbyte_1 : Tryz.f241.body.bind (digC Tryz.prog Tryz.f241.ntmps []) = some c_impl_all_Lbyte_1 := by kernel_rfl
theorem rs_impl_all_Lbyte_1 : resSlots Tryz.prog Tryz.f241 = some [.s 3] := by kernel_rfl
theorem ok_impl_all_Lbyte_1 (x : DV) (D : DV → Prop) (g : DV → Bool) (hx : D x) :
  FnOK Tryz.prog 241 [.one (.d x), .one (.ptr [.fv false (fcPred D g)])] (fun ra _ => ra = [.one (.d (.sc (.bool (!g x))))]) := by
 refine FnOK.ofK Tryz.func241 (by kernel_rfl) dg_impl_all_Lbyte_1 rs_impl_all_Lbyte_1 rfl rfl ?_
 delta c_impl_all_Lbyte_1 T.o X.i C.g
 refine Kbc (Ka Y (Kd ?_))
 refine Kbc (kLoadC Y Y (Ka Y (kCallv Y ⟨x, hx, rfl, rfl⟩ ⟨Y, trivial⟩ (.inr ?_) rfl ?_ rfl ?_)))
 ·rintro _ rfl; rfl
 ·rintro _ rfl; exact leb
 rintro _ rfl
 refine Kw Y Y (Ka Y (Kd (Kr ?_)))
 exact endRet (ra := [.one (.d _)]) rfl ⟨⟨⟨rfl, .inl rfl⟩, trivial⟩, .nil, trivial, trivial, trivial⟩ rfl

def c_slices_IndexFunc_LLbyte_Lbyte : C := (.g (.o 0 4 (.mov (.i 0)) .done) (.seq (.g (.o 0 6 (.mov (.t 0)) (.o 1 7 (.len (.t 6)) (.o 2 8 (.mov (.i 0)) .done))) (.block 0 (.loop (.g (.o 0 9 (.bin .lss (.t 8) (.t 7)) .done) (.seq (.cond (.t 9) .skip (.exit 0)) (.seq (.block 1 (.g (.o 0 10 (.mov (.t 8)) (.o 1 5 (.mov (.t 10)) .done)) (.g (.o 0 11 (.mov (.t 1)) (.o 1 12 (.mov (.t 0)) (.o 2 13 (.mov (.t 5)) (.o 3 14 (.iad 1 (.t 12) (.t 13)) (.o 4 15 (.load none (.t 14)) (.o 5 16 (.callv 16 (.t 11) [(.t 15)]) .done)))))) (.cond (.t 16) (.g (.o 0 17 (.mov (.t 5)) (.o 1 4 (.mov (.t 17)) .done)) .ret) .skip)))) (.reg false (.o 0 18 (.bin .add (.t 8) (.i 1)) (.o 1 8 (.mov (.t 18)) .done))))))))) (.g (.o 0 4 (.mov (.i (-1))) .done) .ret)))
theorem dg_slices_IndexFunc_LLbyte_Lbyte : Tryz.f298.body.bind (digC Tryz.prog Tryz.f298.ntmps []) = some c_slices_IndexFunc_LLbyte_Lbyte := by kernel_rfl
theorem rs_slices_IndexFunc_LLbyte_Lbyte : resSlots Tryz.prog Tryz.f298 = some [.s 4] := by kernel_rfl
theorem ok_slices_IndexFunc_LLbyte_Lbyte (l : List DV) (D : DV → Prop) (g : DV → Bool) (hl : (l.length : Int) ≤ 9223372036854775807) (hD : ∀ x ∈ l, D x) :
  FnOK Tryz.prog 298 [.one (.d (lst l)), .one (.fv false (fcPred D g))] (fun ra _ => ra = [.one (.d (.sc (.int .i64 (idxF g l))))]) := by
 refine FnOK.ofK Tryz.func298 (by kernel_rfl) dg_slices_IndexFunc_LLbyte_Lbyte rs_slices_IndexFunc_LLbyte_Lbyte rfl rfl ?_
 delta c_slices_IndexFunc_LLbyte_Lbyte T.o X.i C.g
 refine Kbc (Ka Y (Kd ?_))
 refine Kb (Kbc (Ka Y (kLen Y Y Y (Ka Y (Kd (Kt ?_))))))
 rw [len_lst]
 refine kLoop (α := { i : Nat // i ≤ l.length ∧ ∀ x ∈ l.take i, g x = false })
  (fun y => ⟨tabSl [(0, .dv (lst l)), (1, .c (.fv false (fcPred D g))), (7, .i l.length), (8, .i y.1)], (St.init [.one (.d (lst l)), .one (.fv false (fcPred D g))]).ob, []⟩) (fun y => l.length - y.1) ⟨0, by simp⟩
  (.tab rfl ⟨.refl _, .refl _, .refl _, .refl _, trivial⟩) ?_
 rintro ⟨i, hi, hg⟩
 simp only
 refine Kbc (Kj Y Y Y (Kd ?_))
 refine Kb (kCond Y (fun h1 => ?_) (fun h1 => ?_))
 ·have hlt : i < l.length := by simp at h1; omega
  refine Kn (Kb (Kt (Kbc (Ka Y (Ka Y (Kd ?_))))))
  refine Kbc (Ka Y (Ka Y (Ka Y (kIadD Y Y Y Y ?_ ?_))))
  ·rw [len_lst]; omega
  rw [show (lst l).row (i : Int).toNat = [l[i]] from row_lst l i hlt]
  refine Ky Y Y (kCallv Y ⟨l[i], hD _ (List.getElem_mem hlt), rfl, rfl⟩ ⟨Y, trivial⟩ (.inr ?_) rfl ?_ rfl ?_)
  ·rintro _ rfl; rfl
  ·rintro _ rfl; exact leb
  rintro _ rfl
  refine Kd (kCond Y (fun h2 => ?_) (fun h2 => ?_))
  ·refine Kbc (Ka Y (Ka Y (Kd (Kr ?_))))
   refine endRet (ra := [.one (.d _)]) rfl ⟨⟨⟨rfl, .inl rfl⟩, trivial⟩, .nil, trivial, trivial, trivial⟩ ?_
   have : l.findIdx? g = some i := by
    rw [List.findIdx?_eq_some_iff_getElem]
    refine ⟨hlt, h2, fun j hj => ?_⟩
    simpa using hg _ (by rw [List.mem_take_iff_getElem]; exact ⟨j, by omega, rfl⟩)
   simp [idxF, this]
  ·refine Kn (Kv (Kc (kAdd Y Y ?_ (Ka Y (Kd (kInv ?_))))))
   ·omega
   refine ⟨⟨i + 1, hlt, ?_⟩, by simp only; omega, .tab rfl ⟨.refl _, .refl _, .refl _, .refl _, trivial⟩⟩
   intro x hx
   rw [← List.take_append_getElem hlt, List.mem_append] at hx
   rcases hx with hx | hx
   ·exact hg x hx
   ·simp at hx; rw [hx]; exact h2
 ·refine kExit (kExC (kExI (kExB ?_)))
  have hge : i = l.length := by simp at h1; omega
  refine Kbc (Ka Y (Kd (Kr ?_)))
  refine endRet (ra := [.one (.d _)]) rfl ⟨⟨⟨rfl, .inl rfl⟩, trivial⟩, .nil, trivial, trivial, trivial⟩ ?_
  have : l.findIdx? g = none := by
   rw [List.findIdx?_eq_none_iff]
   intro x hx
   rw [hge, List.take_length] at hg
   exact hg x hx
  simp [idxF, this]

def c_slices_ContainsFunc_LLbyte_Lbyte : C := (.g (.o 0 4 (.mov (.v (.bool false))) .done) (.g (.o 0 5 (.mov (.t 0)) (.o 1 6 (.mov (.t 1)) (.o 2 7 (.call 7 298 [(.t 5), (.t 6)]) (.o 3 8 (.bin .geq (.t 7) (.i 0)) (.o 4 4 (.mov (.t 8)) .done))))) .ret))
theorem dg_slices_ContainsFunc_LLbyte_Lbyte : Tryz.f240.body.bind (digC Tryz.prog Tryz.f240.ntmps []) = some c_slices_ContainsFunc_LLbyte_Lbyte := by kernel_rfl
theorem rs_slices_ContainsFunc_LLbyte_Lbyte : resSlots Tryz.prog Tryz.f240 = some [.s 4] := by kernel_rfl
theorem ok_slices_ContainsFunc_LLbyte_Lbyte (l : List DV) (D : DV → Prop) (g : DV → Bool) (hl : (l.length : Int) ≤ 9223372036854775807) (hD : ∀ x ∈ l, D x) :
  FnOK Tryz.prog 240 [.one (.d (lst l)), .one (.fv false (fcPred D g))] (fun ra _ => ra = [.one (.d (.sc (.bool (l.any g))))]) := by
 refine FnOK.ofK Tryz.func240 (by kernel_rfl) dg_slices_ContainsFunc_LLbyte_Lbyte rs_slices_ContainsFunc_LLbyte_Lbyte rfl rfl ?_
 delta c_slices_ContainsFunc_LLbyte_Lbyte T.o X.i C.g
 refine Kbc (Ka Y (Kd ?_))
 refine Kbc (Ka Y (Ka Y ?_))
 refine Ku true (ok_slices_IndexFunc_LLbyte_Lbyte l D g hl hD) ⟨rfl, ⟨fun h => h, fun _ _ h => h⟩, trivial⟩ rfl rfl rfl fun os => ?_
 refine Kj Y Y Y (Ka Y (Kd (Kr ?_)))
 refine endRet (ra := [.one (.d _)]) rfl ⟨⟨⟨rfl, .inl rfl⟩, trivial⟩, .nil, trivial, trivial, trivial⟩ ?_
 have : decide (idxF g l ≥ 0) = l.any g := by
  unfold idxF
  cases h : l.findIdx? g with
  | none =>
   rw [List.findIdx?_eq_none_iff] at h
   have : l.any g = false := by rw [List.any_eq_false]; intro x hx; simp [h x hx]
   rw [this]; rfl
  | some i =>
   rw [List.findIdx?_eq_some_iff_getElem] at h
   obtain ⟨h1, h2, _⟩ := h
   have : l.any g = true := by rw [List.any_eq_true]; exact ⟨_, List.getElem_mem h1, h2⟩
   rw [this]; simp
 rw [this]

def c_impl_all_Lbyte : C := (.g (.o 0 3 (.box 3 (.t 1)) (.o 1 4 (.mov (.v (.bool false))) .done)) (.g (.o 0 5 (.mov (.t 0)) (.o 1 6 (.clo 241 [] [(.t 3)]) (.o 2 7 (.call 7 240 [(.t 5), (.t 6)]) (.o 3 8 (.un .not (.t 7)) (.o 4 4 (.mov (.t 8)) .done))))) .ret))
theorem dg_impl_all_Lbyte : Tryz.f170.body.bind (digC Tryz.prog Tryz.f170.ntmps []) = some c_impl_all_Lbyte := by kernel_rfl
theorem rs_impl_all_Lbyte : resSlots Tryz.prog Tryz.f170 = some [.s 4] := by kernel_rfl
theorem ok_impl_all_Lbyte (l : List DV) (D : DV → Prop) (g : DV → Bool) (hl : (l.length : Int) ≤ 9223372036854775807) (hD : ∀ x ∈ l, D x) :
  FnOK Tryz.prog 170 [.one (.d (lst l)), .one (.fv false (fcPred D g))] (fun ra _ => ra = [.one (.d (.sc (.bool (l.all g))))]) := by
 refine FnOK.ofK Tryz.func170 (by kernel_rfl) dg_impl_all_Lbyte rs_impl_all_Lbyte rfl rfl ?_
 delta c_impl_all_Lbyte T.o X.i C.g
 refine Kbc (kBox Y Y Y Y Y (Ka Y (Kd ?_)))
 refine Kbc (Ka Y (kClo Y Y ?_))
 refine Ku true (ok_slices_ContainsFunc_LLbyte_Lbyte l D (fun x => !g x) hl hD) ⟨rfl, ⟨rfl, ⟨_, Tryz.func241, rfl, by kernel_rfl⟩, _, rfl, ?_⟩, trivial⟩ rfl rfl rfl fun os => ?_
 ·rintro l R ⟨x, hx, rfl, rfl⟩
  exact ⟨by rintro _ rfl; rfl, ok_impl_all_Lbyte_1 x D g hx⟩
 refine Kw Y Y (Ka Y (Kd (Kr ?_)))
 refine endRet (ra := [.one (.d _)]) rfl ⟨⟨⟨rfl, .inl rfl⟩, trivial⟩, .nil, trivial, trivial, trivial⟩ ?_
 simp [List.all_eq_not_any_not]

def c_impl_NameOk : C := (.g (.o 0 1 (.box 1 (.t 0)) (.o 1 2 (.mov (.v (.bool false))) .done)) (.g (.o 0 3 (.fad (.t 1) 0) (.o 1 4 (.load none (.t 3)) (.o 2 5 (.len (.t 4)) (.o 3 6 (.bin .leq (.t 5) (.i 6)) (.o 4 7 (.mov (.t 6)) (.op 5 [] (some 8) (some (7, true)) false (.fad (.t 1) 0) (.op 6 [] (some 9) (some (7, true)) false (.load none (.t 8)) (.op 7 [] (some 10) (some (7, true)) false (.call 10 170 [(.t 9), (.fn 171)]) (.o 8 11 (.pick (.t 7) (.t 10) (.v (.bool false))) (.o 9 2 (.mov (.t 11)) .done)))))))))) .ret))
theorem dg_impl_NameOk : Tryz.f90.body.bind (digC Tryz.prog Tryz.f90.ntmps []) = some c_impl_NameOk := by kernel_rfl
theorem rs_impl_NameOk : resSlots Tryz.prog Tryz.f90 = some [.s 2] := by kernel_rfl
theorem ok_impl_NameOk (a : List (List UInt8)) (ha : a.length ≤ 4194304) (hb : ∀ b ∈ a, b.length ≤ 4194304) :
  FnOK Tryz.prog 90 [.agg [.d (encBB a)]] (fun ra _ => ra = [.one (.d (.sc (.bool (nameOk a))))]) := by
 refine FnOK.ofK Tryz.func90 (by kernel_rfl) dg_impl_NameOk rs_impl_NameOk rfl rfl ?_
 delta c_impl_NameOk T.o X.i C.g
 refine Kbc (kBox Y Y Y Y Y (Ka Y (Kdb (Kc (Kf Y Y (Ke Y Y Y (Kq Y Y (Kj Y Y Y (Ka Y (kGP Y (fun g0 => Ki Y (Kf Y Y (Ki Y (Ke Y Y Y (Ki Y ?_))))) (fun g0 => Kg Y (Kg Y (Kg Y (Kl Y (Ka Y (Ka Y (Kd (Kr (Er (ra := [.one (.d _)]) rfl ?_)))))))))))))))))))
 ·refine Ku true (ok_impl_all_Lbyte (a.map encB) (fun x => ∃ b : List UInt8, x = encB b ∧ b.length ≤ 4194304) (fun x => labelOk (decB x)) (by simp; omega) (fun x hx => by obtain ⟨c, h, rfl⟩ := List.mem_map.1 hx; exact ⟨c, rfl, hb c h⟩)) ⟨congrArg some (encBB_lst a), ⟨rfl, rfl, ⟨_, Tryz.func171, rfl, by kernel_rfl⟩, ?_⟩, trivial⟩ Y Y Y (fun _ => ?_)
  ·rintro _ R ⟨x, ⟨c, rfl, h⟩, rfl, rfl⟩
   have := ok_impl_LabelOk c h
   simp only [decB_enc]
   exact this
  refine Kk Y (Ka Y (Ka Y (Kd (Kr (Er (ra := [.one (.d _)]) rfl ?_)))))
  rw [all_decB, show nameOk a = a.all labelOk by simp only [nameOk]; rw [decide_eq_true (by omega)]; rfl]
 ·rw [show nameOk a = false by simp only [nameOk]; rw [decide_eq_false (by omega)]; rfl]

def typeTab : List (Int × ByteArray) := [(1, ⟨#[65]⟩), (2, ⟨#[78, 83]⟩), (5, ⟨#[67, 78, 65, 77, 69]⟩), (6, ⟨#[83, 79, 65]⟩), (12, ⟨#[80, 84, 82]⟩), (16, ⟨#[84, 88, 84]⟩), (49, ⟨#[68, 72, 67, 73, 68]⟩)]
def typeNm (n : Int) : ByteArray := ((typeTab.find? fun e => n == e.1).map (·.2)).getD ByteArray.empty
theorem ok_impl_typeName (n : Int) : FnOK Tryz.prog 230 [.one (.d (.sc (.int .i64 n)))] (fun ra _ => ra = [.one (.d (.sc (.string (typeNm n))))]) := by
 refine FnOK.ofWalk Tryz.func230 rfl (by kernel_rfl) fun w => ?_
 have kk : Tryz.prog.underlying 3 = some (.int .i64) := by kernel_rfl
 have hmm := @Go.RowKit.run_makeMap Tryz.prog
 go_enter Tryz.func230, Tryz.ntmps230
 go_wp2
 have t0 : Tab (w.alloc (.map #[] 0)) w.heap.size [] := ⟨_, _, (MapKept.heap_alloc w _).1, rfl⟩
 have b0 : BelowD w.heap.size w (w.alloc (.map #[] 0)) := ⟨(Go.RowKit.Below.refl _ _).alloc (Nat.le_refl _) _, Nat.le_refl _⟩
 have st : ∀ {w1 w2 : World}, BelowD w.heap.size w w1 → Ext w1 w2 (fun b => b = w.heap.size) → BelowD w.heap.size w w2 := fun h e => ⟨⟨e.os.trans h.1.os, e.tape.trans h.1.tape, e.output.trans h.1.output, Nat.le_trans h.1.size e.size, fun k hk => (e.same k (Nat.lt_of_lt_of_le hk h.1.size) (by omega)).trans (h.1.block k hk)⟩, Nat.le_trans h.2 e.drawn⟩
 refine upon_insert (kt := 3) (et := 9) ?_ kk t0 ?_ (fun w1 t1 e1 => ?_)
 ·kernel_rfl
 ·rfl
 have b1 := st b0 e1
 go_wp2
 refine upon_insert (kt := 3) (et := 9) ?_ kk t1 ?_ (fun w2 t2 e2 => ?_)
 ·kernel_rfl
 ·rfl
 have b2 := st b1 e2
 go_wp2
 refine upon_insert (kt := 3) (et := 9) ?_ kk t2 ?_ (fun w3 t3 e3 => ?_)
 ·kernel_rfl
 ·rfl
 have b3 := st b2 e3
 go_wp2
 refine upon_insert (kt := 3) (et := 9) ?_ kk t3 ?_ (fun w4 t4 e4 => ?_)
 ·kernel_rfl
 ·rfl
 have b4 := st b3 e4
 go_wp2
 refine upon_insert (kt := 3) (et := 9) ?_ kk t4 ?_ (fun w5 t5 e5 => ?_)
 ·kernel_rfl
 ·rfl
 have b5 := st b4 e5
 go_wp2
 refine upon_insert (kt := 3) (et := 9) ?_ kk t5 ?_ (fun w6 t6 e6 => ?_)
 ·kernel_rfl
 ·rfl
 have b6 := st b5 e6
 go_wp2
 refine upon_insert (kt := 3) (et := 9) ?_ kk t6 ?_ (fun w7 t7 e7 => ?_)
 ·kernel_rfl
 ·rfl
 have b7 := st b6 e7
 go_wp2
 refine upon_find (kt := 3) (et := 9) ?_ kk ?_ t7 ?_
 ·kernel_rfl
 ·rfl
 go_wp2
 all_goals go_ret
 exact ⟨rfl, b7⟩
theorem typeNm_ok (n : Int) : (!((typeNm n).toList == (⟨#[]⟩ : ByteArray).toList)) = tyOk n := by
 by_cases h1 : n = 1
 ·subst h1; rw [ByteArray.toList_eq, ByteArray.toList_eq]; rfl
 by_cases h2 : n = 2
 ·subst h2; rw [ByteArray.toList_eq, ByteArray.toList_eq]; rfl
 by_cases h3 : n = 5
 ·subst h3; rw [ByteArray.toList_eq, ByteArray.toList_eq]; rfl
 by_cases h4 : n = 6
 ·subst h4; rw [ByteArray.toList_eq, ByteArray.toList_eq]; rfl
 by_cases h5 : n = 12
 ·subst h5; rw [ByteArray.toList_eq, ByteArray.toList_eq]; rfl
 by_cases h6 : n = 16
 ·subst h6; rw [ByteArray.toList_eq, ByteArray.toList_eq]; rfl
 by_cases h7 : n = 49
 ·subst h7; rw [ByteArray.toList_eq, ByteArray.toList_eq]; rfl
 have e : ∀ m : Int, n ≠ m → (n == m) = false := fun m h => by simpa using h
 have : typeNm n = ByteArray.empty := by
  unfold typeNm typeTab
  simp only [List.find?_cons, e 1 h1, e 2 h2, e 5 h3, e 6 h4, e 12 h5, e 16 h6, e 49 h7, List.find?_nil]
  rfl
 rw [this]
 simp only [tyOk, e 1 h1, e 2 h2, e 5 h3, e 6 h4, e 12 h5, e 16 h6, e 49 h7]
 rw [ByteArray.toList_eq, ByteArray.toList_eq]; rfl

def c_impl_TypeOk : C := (.g (.o 0 2 (.mov (.v (.bool false))) .done) (.g (.o 0 3 (.mov (.t 0)) (.o 1 4 (.call 4 230 [(.t 3)]) (.o 2 5 (.bin .neq (.t 4) (.v (.string ⟨#[]⟩))) (.o 3 2 (.mov (.t 5)) .done)))) .ret))
theorem dg_impl_TypeOk : Tryz.f133.body.bind (digC Tryz.prog Tryz.f133.ntmps []) = some c_impl_TypeOk := by kernel_rfl
theorem rs_impl_TypeOk : resSlots Tryz.prog Tryz.f133 = some [.s 2] := by kernel_rfl
theorem ok_impl_TypeOk (n : Int) : FnOK Tryz.prog 133 [.one (.d (.sc (.int .i64 n)))] (fun ra _ => ra = [.one (.d (.sc (.bool (tyOk n))))]) := by
 rw [← typeNm_ok]
 refine FnOK.ofK Tryz.func133 (by kernel_rfl) dg_impl_TypeOk rs_impl_TypeOk rfl rfl ?_
 delta c_impl_TypeOk T.o X.i C.g
 refine Kbc (Ka Y (Kdb (Kc (Ka Y (Kp (ok_impl_typeName _) ⟨Y, trivial⟩ Y Y Y Y Y (Kj Y Y Y (Ka Y (Kd (Kr (Er (ra := [.one (.d _)]) rfl rfl))))))))))

def c_impl_isAsked : C := (.g (.o 0 2 (.mov (.v (.bool false))) .done) (.g (.o 0 3 (.mov (.t 0)) (.o 1 4 (.call 4 133 [(.t 3)]) (.o 2 5 (.mov (.t 4)) (.op 3 [] (some 6) (some (5, false)) false (.mov (.t 0)) (.op 4 [] (some 7) (some (5, false)) false (.bin .eql (.t 6) (.i 255)) (.o 5 8 (.pick (.t 5) (.v (.bool true)) (.t 7)) (.o 6 2 (.mov (.t 8)) .done))))))) .ret))
theorem dg_impl_isAsked : Tryz.f137.body.bind (digC Tryz.prog Tryz.f137.ntmps []) = some c_impl_isAsked := by kernel_rfl
theorem rs_impl_isAsked : resSlots Tryz.prog Tryz.f137 = some [.s 2] := by kernel_rfl
theorem ok_impl_isAsked (t : Int) :
  FnOK Tryz.prog 137 [.one (.d (.sc (.int .i64 t)))] (fun ra _ => ra = [.one (.d (.sc (.bool (askedT t))))]) := by
 refine FnOK.ofK Tryz.func137 (by kernel_rfl) dg_impl_isAsked rs_impl_isAsked rfl rfl ?_
 delta c_impl_isAsked T.o X.i C.g
 refine Kbc (Ka Y (Kdb (Kc (Ka Y (Kp (ok_impl_TypeOk _) ⟨Y, trivial⟩ Y Y Y Y Y (Ka Y (kGS Y (fun g0 => Kg Y (Kg Y (Kk Y (Ka Y (Ka Y (Kd (Kr (Er (ra := [.one (.d _)]) rfl ?_)))))))) (fun g0 => Ki Y (Ka Y (Ki Y (Kj Y Y Y (Kl Y (Ka Y (Ka Y (Kd (Kr (Er (ra := [.one (.d _)]) rfl ?_)))))))))))))))))
 all_goals simp_all [askedT]

def c_impl_isWord : C := (.g (.o 0 2 (.mov (.v (.bool false))) .done) (.g (.o 0 3 (.mov (.t 0)) (.o 1 4 (.call 4 121 [(.t 3), (.i 0), (.i 4294967295)]) (.o 2 2 (.mov (.t 4)) .done))) .ret))
theorem dg_impl_isWord : Tryz.f143.body.bind (digC Tryz.prog Tryz.f143.ntmps []) = some c_impl_isWord := by kernel_rfl
theorem rs_impl_isWord : resSlots Tryz.prog Tryz.f143 = some [.s 2] := by kernel_rfl
theorem ok_impl_isWord (n : Int) : FnOK Tryz.prog 143 [.one (.d (.sc (.int .i64 n)))] (fun ra _ => ra = [.one (.d (.sc (.bool (isW n))))]) := by
 refine FnOK.ofK Tryz.func143 (by kernel_rfl) dg_impl_isWord rs_impl_isWord rfl rfl ?_
 delta c_impl_isWord T.o X.i C.g
 refine Kbc (Ka Y (Kdb (Kc (Ka Y (Kp (ok_impl_within _ _ _) ⟨Y, Y, Y, trivial⟩ Y Y Y Y Y (Ka Y (Kd (Kr (Er (ra := [.one (.d _)]) rfl ?_)))))))))
 rw [show isW n = decide (0 ≤ n ∧ n ≤ 4294967295) by unfold isW; rw [Bool.eq_iff_iff]; simp; omega]

def c_impl_hasTo : C := (.g (.o 0 2 (.mov (.v (.bool false))) .done) (.g (.o 0 3 (.mov (.t 0)) (.o 1 4 (.bin .eql (.t 3) (.i 2)) (.o 2 5 (.mov (.t 4)) (.op 3 [] (some 6) (some (5, false)) false (.mov (.t 0)) (.op 4 [] (some 7) (some (5, false)) false (.bin .eql (.t 6) (.i 5)) (.o 5 8 (.pick (.t 5) (.v (.bool true)) (.t 7)) (.o 6 9 (.mov (.t 8)) (.op 7 [] (some 10) (some (9, false)) false (.mov (.t 0)) (.op 8 [] (some 11) (some (9, false)) false (.bin .eql (.t 10) (.i 6)) (.o 9 12 (.pick (.t 9) (.v (.bool true)) (.t 11)) (.o 10 13 (.mov (.t 12)) (.op 11 [] (some 14) (some (13, false)) false (.mov (.t 0)) (.op 12 [] (some 15) (some (13, false)) false (.bin .eql (.t 14) (.i 12)) (.o 13 16 (.pick (.t 13) (.v (.bool true)) (.t 15)) (.o 14 2 (.mov (.t 16)) .done))))))))))))))) .ret))
theorem dg_impl_hasTo : Tryz.f144.body.bind (digC Tryz.prog Tryz.f144.ntmps []) = some c_impl_hasTo := by kernel_rfl
theorem rs_impl_hasTo : resSlots Tryz.prog Tryz.f144 = some [.s 2] := by kernel_rfl
theorem ok_impl_hasTo (n : Int) : FnOK Tryz.prog 144 [.one (.d (.sc (.int .i64 n)))] (fun ra _ => ra = [.one (.d (.sc (.bool (hasTo n))))]) := by
 refine FnOK.ofK Tryz.func144 (by kernel_rfl) dg_impl_hasTo rs_impl_hasTo rfl rfl ?_
 delta c_impl_hasTo T.o X.i C.g
 refine Kbc (Ka Y (Kdb (Kc (Ka Y (Kj Y Y Y (Ka Y (kGP Y (fun g0 => Kg Y (Kg Y (Kk Y (Ka Y (Ka Y (Kg Y (Kg Y (Kk Y (Ka Y (Ka Y (Kg Y (Kg Y (Kk Y (Ka Y (Ka Y (Kd (Kr (Er (ra := [.one (.d _)]) rfl ?_)))))))))))))))))) (fun g0 => Ki Y (Ka Y (Ki Y (Kj Y Y Y (Kl Y (Ka Y (Ka Y (kGP Y (fun g1 => Kg Y (Kg Y (Kk Y (Ka Y (Ka Y (Kg Y (Kg Y (Kk Y (Ka Y (Ka Y (Kd (Kr (Er (ra := [.one (.d _)]) rfl ?_))))))))))))) (fun g1 => Ki Y (Ka Y (Ki Y (Kj Y Y Y (Kl Y (Ka Y (Ka Y (kGP Y (fun g2 => Kg Y (Kg Y (Kk Y (Ka Y (Ka Y (Kd (Kr (Er (ra := [.one (.d _)]) rfl ?_)))))))) (fun g2 => Ki Y (Ka Y (Ki Y (Kj Y Y Y (Kl Y (Ka Y (Ka Y (Kd (Kr (Er (ra := [.one (.d _)]) rfl ?_)))))))))))))))))))))))))))))))))
 all_goals simp_all [hasTo]

def c_impl_hasText : C := (.g (.o 0 2 (.mov (.v (.bool false))) .done) (.g (.o 0 3 (.mov (.t 0)) (.o 1 4 (.bin .eql (.t 3) (.i 16)) (.o 2 5 (.mov (.t 4)) (.op 3 [] (some 6) (some (5, false)) false (.mov (.t 0)) (.op 4 [] (some 7) (some (5, false)) false (.bin .eql (.t 6) (.i 49)) (.o 5 8 (.pick (.t 5) (.v (.bool true)) (.t 7)) (.o 6 2 (.mov (.t 8)) .done))))))) .ret))
theorem dg_impl_hasText : Tryz.f145.body.bind (digC Tryz.prog Tryz.f145.ntmps []) = some c_impl_hasText := by kernel_rfl
theorem rs_impl_hasText : resSlots Tryz.prog Tryz.f145 = some [.s 2] := by kernel_rfl
theorem ok_impl_hasText (n : Int) : FnOK Tryz.prog 145 [.one (.d (.sc (.int .i64 n)))] (fun ra _ => ra = [.one (.d (.sc (.bool (hasText n))))]) := by
 refine FnOK.ofK Tryz.func145 (by kernel_rfl) dg_impl_hasText rs_impl_hasText rfl rfl ?_
 delta c_impl_hasText T.o X.i C.g
 refine Kbc (Ka Y (Kdb (Kc (Ka Y (Kj Y Y Y (Ka Y (kGP Y (fun g0 => Kg Y (Kg Y (Kk Y (Ka Y (Ka Y (Kd (Kr (Er (ra := [.one (.d _)]) rfl ?_)))))))) (fun g0 => Ki Y (Ka Y (Ki Y (Kj Y Y Y (Kl Y (Ka Y (Ka Y (Kd (Kr (Er (ra := [.one (.d _)]) rfl ?_)))))))))))))))))
 all_goals simp_all [hasText]

def c_impl_RrOk : C := (.g (.o 0 1 (.box 1 (.t 0)) (.o 1 2 (.mov (.v (.bool false))) .done)) (.seq (.g (.o 0 7 (.fad (.t 1) 0) (.o 1 8 (.load (some 1) (.t 7)) (.o 2 9 (.call 9 90 [(.t 8)]) (.o 3 10 (.un .not (.t 9)) (.o 4 11 (.mov (.t 10)) (.op 5 [] (some 12) (some (11, false)) false (.fad (.t 1) 1) (.op 6 [] (some 13) (some (11, false)) false (.load none (.t 12)) (.op 7 [] (some 14) (some (11, false)) false (.call 14 133 [(.t 13)]) (.op 8 [] (some 15) (some (11, false)) false (.un .not (.t 14)) (.o 9 16 (.pick (.t 11) (.v (.bool true)) (.t 15)) (.o 10 17 (.mov (.t 16)) (.op 11 [] (some 18) (some (17, false)) false (.fad (.t 1) 2) (.op 12 [] (some 19) (some (17, false)) false (.load none (.t 18)) (.op 13 [] (some 20) (some (17, false)) false (.call 20 121 [(.t 19), (.i 0), (.i 100000)]) (.op 14 [] (some 21) (some (17, false)) false (.un .not (.t 20)) (.o 15 22 (.pick (.t 17) (.v (.bool true)) (.t 21)) .done)))))))))))))))) (.cond (.t 22) (.g (.o 0 2 (.mov (.v (.bool false))) .done) .ret) .skip)) (.g (.o 0 23 (.fad (.t 1) 6) (.o 1 24 (.load none (.t 23)) (.o 2 25 (.len (.t 24)) (.o 3 26 (.bin .eql (.t 25) (.i 0)) (.o 4 3 (.mov (.t 26)) .done))))) (.seq (.g (.o 0 27 (.fad (.t 1) 1) (.o 1 28 (.load none (.t 27)) (.o 2 29 (.bin .eql (.t 28) (.i 6)) .done))) (.cond (.t 29) (.reg false (.o 0 30 (.fad (.t 1) 6) (.o 1 31 (.load none (.t 30)) (.o 2 32 (.len (.t 31)) (.o 3 33 (.bin .eql (.t 32) (.i 2)) (.o 4 34 (.mov (.t 33)) (.op 5 [] (some 35) (some (34, true)) false (.fad (.t 1) 6) (.op 6 [] (some 36) (some (34, true)) false (.load none (.t 35)) (.op 7 [] (some 37) (some (34, true)) false (.iad 1 (.t 36) (.i 0)) (.op 8 [] (some 38) (some (34, true)) false (.load none (.t 37)) (.op 9 [] (some 39) (some (34, true)) false (.call 39 143 [(.t 38)]) (.o 10 40 (.pick (.t 34) (.t 39) (.v (.bool false))) (.o 11 41 (.mov (.t 40)) (.op 12 [] (some 42) (some (41, true)) false (.fad (.t 1) 6) (.op 13 [] (some 43) (some (41, true)) false (.load none (.t 42)) (.op 14 [] (some 44) (some (41, true)) false (.iad 1 (.t 43) (.i 1)) (.op 15 [] (some 45) (some (41, true)) false (.load none (.t 44)) (.op 16 [] (some 46) (some (41, true)) false (.call 46 121 [(.t 45), (.i 0), (.i 100000)]) (.o 17 47 (.pick (.t 41) (.t 46) (.v (.bool false))) (.o 18 3 (.mov (.t 47)) .done)))))))))))))))))))) .skip)) (.g (.o 0 48 (.fad (.t 1) 3) (.o 1 49 (.load none (.t 48)) (.o 2 50 (.bin .eql (.t 49) (.i 0)) (.o 3 51 (.mov (.t 50)) (.op 4 [] (some 52) (some (51, false)) false (.fad (.t 1) 1) (.op 5 [] (some 53) (some (51, false)) false (.load none (.t 52)) (.op 6 [] (some 54) (some (51, false)) false (.bin .eql (.t 53) (.i 1)) (.op 7 [] (some 55) (some (51, false)) false (.mov (.t 54)) (.op 8 [] (some 56) (some (55, true)) false (.fad (.t 1) 3) (.op 9 [] (some 57) (some (55, true)) false (.load none (.t 56)) (.op 10 [] (some 58) (some (55, true)) false (.call 58 143 [(.t 57)]) (.op 11 [] (some 59) (some (51, false)) false (.pick (.t 55) (.t 58) (.v (.bool false))) (.o 12 60 (.pick (.t 51) (.v (.bool true)) (.t 59)) (.o 13 4 (.mov (.t 60)) .done)))))))))))))) (.g (.o 0 61 (.fad (.t 1) 4) (.o 1 62 (.fad (.t 61) 0) (.o 2 63 (.load none (.t 62)) (.o 3 64 (.len (.t 63)) (.o 4 65 (.bin .eql (.t 64) (.i 0)) (.o 5 66 (.mov (.t 65)) (.op 6 [] (some 67) (some (66, false)) false (.fad (.t 1) 1) (.op 7 [] (some 68) (some (66, false)) false (.load none (.t 67)) (.op 8 [] (some 69) (some (66, false)) false (.call 69 144 [(.t 68)]) (.op 9 [] (some 70) (some (66, false)) false (.mov (.t 69)) (.op 10 [] (some 71) (some (70, true)) false (.fad (.t 1) 4) (.op 11 [] (some 72) (some (70, true)) false (.load (some 1) (.t 71)) (.op 12 [] (some 73) (some (70, true)) false (.call 73 90 [(.t 72)]) (.op 13 [] (some 74) (some (66, false)) false (.pick (.t 70) (.t 73) (.v (.bool false))) (.o 14 75 (.pick (.t 66) (.v (.bool true)) (.t 74)) (.o 15 5 (.mov (.t 75)) .done)))))))))))))))) (.g (.o 0 76 (.fad (.t 1) 5) (.o 1 77 (.load none (.t 76)) (.o 2 78 (.len (.t 77)) (.o 3 79 (.bin .eql (.t 78) (.i 0)) (.o 4 80 (.mov (.t 79)) (.op 5 [] (some 81) (some (80, false)) false (.fad (.t 1) 1) (.op 6 [] (some 82) (some (80, false)) false (.load none (.t 81)) (.op 7 [] (some 83) (some (80, false)) false (.call 83 145 [(.t 82)]) (.op 8 [] (some 84) (some (80, false)) false (.mov (.t 83)) (.op 9 [] (some 85) (some (84, true)) false (.fad (.t 1) 5) (.op 10 [] (some 86) (some (84, true)) false (.load none (.t 85)) (.op 11 [] (some 87) (some (84, true)) false (.len (.t 86)) (.op 12 [] (some 88) (some (84, true)) false (.bin .leq (.t 87) (.i 40)) (.op 13 [] (some 89) (some (80, false)) false (.pick (.t 84) (.t 88) (.v (.bool false))) (.o 14 90 (.pick (.t 80) (.v (.bool true)) (.t 89)) (.o 15 6 (.mov (.t 90)) .done)))))))))))))))) (.g (.o 0 91 (.mov (.t 3)) (.o 1 92 (.mov (.t 91)) (.op 2 [] (some 93) (some (92, true)) false (.mov (.t 4)) (.o 3 94 (.pick (.t 92) (.t 93) (.v (.bool false))) (.o 4 95 (.mov (.t 94)) (.op 5 [] (some 96) (some (95, true)) false (.mov (.t 5)) (.o 6 97 (.pick (.t 95) (.t 96) (.v (.bool false))) (.o 7 98 (.mov (.t 97)) (.op 8 [] (some 99) (some (98, true)) false (.mov (.t 6)) (.o 9 100 (.pick (.t 98) (.t 99) (.v (.bool false))) (.o 10 2 (.mov (.t 100)) .done))))))))))) .ret))))))))
theorem dg_impl_RrOk : Tryz.f60.body.bind (digC Tryz.prog Tryz.f60.ntmps []) = some c_impl_RrOk := by kernel_rfl
theorem rs_impl_RrOk : resSlots Tryz.prog Tryz.f60 = some [.s 2] := by kernel_rfl
theorem ok_impl_RrOk (r : Rr) (hs : SmallR r) :
  FnOK Tryz.prog 60 [.agg (r.cells.map .d)] (fun ra _ => ra = [.one (.d (.sc (.bool (rrOk r))))]) := by
 refine FnOK.ofK Tryz.func60 (by kernel_rfl) dg_impl_RrOk rs_impl_RrOk rfl rfl ?_
 delta c_impl_RrOk T.o X.i C.g
 have n1 := hs.n.len
 have n2 := hs.n.mem
 have t1 := hs.t.len
 have t2 := hs.t.mem
 have x1 := hs.x
 have m1 := hs.m
 refine Kbc (kBox Y Y Y Y Y (Ka Y (Kd ?_)))
 by_cases h0 : nameOk r.name = true ∧ tyOk r.ty = true ∧ (0 ≤ r.ttl ∧ r.ttl ≤ 100000)
 case neg =>
  rw [show rrOk r = false by simp only [rrOk]; revert h0; cases nameOk r.name <;> cases tyOk r.ty <;> simp <;> intros <;> omega]
  refine Kb ?_
  cases h1 : nameOk r.name
  case false => refine kSeq (kReg (kFadP rfl rfl (kLoadP rfl rfl rfl (kCallD (ok_impl_NameOk _ pr pr) ⟨⟨⟨rfl, trivial⟩, leb⟩, trivial⟩ rfl rfl rfl rfl rfl (kUn rfl rfl (kMovC rfl (kGN rfl (fun g0 => kGF rfl (kGF rfl (kGF rfl (kGF rfl (kPickT rfl (kMovC rfl (kMovC rfl (kGF rfl (kGF rfl (kGF rfl (kGF rfl (kPickT rfl (kMovC rfl (kDone (kCondT rfl (kSeq (kReg (kMovC rfl (kDone (kRet (endRetA (ra := [.one (.d _)]) rfl rfl))))))))))))))))))))) (fun g0 => (by (simp [*] at g0))))))))))
  cases h2 : tyOk r.ty
  case false => refine kSeq (kReg (kFadP rfl rfl (kLoadP rfl rfl rfl (kCallD (ok_impl_NameOk _ pr pr) ⟨⟨⟨rfl, trivial⟩, leb⟩, trivial⟩ rfl rfl rfl rfl rfl (kUn rfl rfl (kMovC rfl (kGN rfl (fun g0 => (by (simp [*] at g0))) (fun g0 => kGT rfl (kFadP rfl rfl (kGT rfl (kLoadP rfl rfl rfl (kGT rfl (kCallD (ok_impl_TypeOk _) ⟨rfl, trivial⟩ rfl rfl rfl rfl rfl (kGT rfl (kUn rfl rfl (kPickF rfl (kMovC rfl (kMovC rfl (kGN rfl (fun g1 => kGF rfl (kGF rfl (kGF rfl (kGF rfl (kPickT rfl (kMovC rfl (kDone (kCondT rfl (kSeq (kReg (kMovC rfl (kDone (kRet (endRetA (ra := [.one (.d _)]) rfl rfl)))))))))))))) (fun g1 => (by (simp [*] at g1))))))))))))))))))))))
  have h3 : ¬ (0 ≤ r.ttl ∧ r.ttl ≤ 100000) := fun h => h0 ⟨h1, h2, h⟩
  refine Kbc (Kf Y Y (Ke Y Y Y (Kp (ok_impl_NameOk _ pr pr) ⟨⟨⟨Y, trivial⟩, leb⟩, trivial⟩ Y Y Y Y Y (Kw Y Y (Ka Y (kGN Y (fun g0 => (by (simp [*] at g0))) (fun g0 => Ki Y (Kf Y Y (Ki Y (Ke Y Y Y (Ki Y (Kp (ok_impl_TypeOk _) ⟨Y, trivial⟩ Y Y Y Y Y (Ki Y (Kw Y Y (Kl Y (Ka Y (Ka Y (kGN Y (fun g1 => (by (simp [*] at g1))) (fun g1 => Ki Y (Kf Y Y (Ki Y (Ke Y Y Y (Ki Y (Kp (ok_impl_within _ _ _) ⟨Y, Y, Y, trivial⟩ Y Y Y Y Y (Ki Y (Kw Y Y (Kl Y (Ka Y (Kd (kCondN Y (fun g2 => Kbc (Ka Y (Kd (Kr (Er (ra := [.one (.d _)]) rfl rfl))))) (fun g2 => (by (simp [*] at g2)))))))))))))))))))))))))))))))))
 obtain ⟨h1, h2, h3⟩ := h0
 rw [show rrOk r = dataOk r by simp only [rrOk]; rw [h1, h2, decide_eq_true h3.1, decide_eq_true h3.2]; rfl]
 refine Kb (kCut ⟨tabSl [(1, .c (.ptr (rid 1 0) 1 0))], obTab 1 [(rid 1 0, ⟨1, 0, .box (r.cells.map .d)⟩)], []⟩ ?_ (fun x hc => ?_))
 case refine_2 =>
  refine Kbc (Kf Y Y (Ke Y Y Y (Kp (ok_impl_NameOk _ pr pr) ⟨⟨⟨Y, trivial⟩, leb⟩, trivial⟩ Y Y Y Y Y (Kw Y Y (Ka Y (kGN Y (fun g0 => (by (simp [*] at g0))) (fun g0 => Ki Y (Kf Y Y (Ki Y (Ke Y Y Y (Ki Y (Kp (ok_impl_TypeOk _) ⟨Y, trivial⟩ Y Y Y Y Y (Ki Y (Kw Y Y (Kl Y (Ka Y (Ka Y (kGN Y (fun g1 => (by (simp [*] at g1))) (fun g1 => Ki Y (Kf Y Y (Ki Y (Ke Y Y Y (Ki Y (Kp (ok_impl_within _ _ _) ⟨Y, Y, Y, trivial⟩ Y Y Y Y Y (Ki Y (Kw Y Y (Kl Y (Ka Y (Kd (kCondN Y (fun g2 => (by (simp [*] at g2))) (fun g2 => Kn (hc _ .normA))))))))))))))))))))))))))))))))
 refine Kb (kCut ⟨tabSl [(1, .c (.ptr (rid 1 0) 1 0)), (3, .b (((r.nums.length : Int) == 0)))], obTab 1 [(rid 1 0, ⟨1, 0, .box (r.cells.map .d)⟩)], []⟩ ?_ (fun x hc => ?_))
 case refine_2 => refine kReg (kFadP rfl rfl (kLoadP rfl rfl rfl (kLenR rfl rfl (kBin rfl rfl rfl (kMovC rfl (kDone (hc _ .normA)))))))
 refine Kb (kCut ⟨tabSl [(1, .c (.ptr (rid 1 0) 1 0)), (3, .b ((if r.ty == 6 then numsOk r.nums else ((r.nums.length : Int) == 0))))], obTab 1 [(rid 1 0, ⟨1, 0, .box (r.cells.map .d)⟩)], []⟩ ?_ (fun x hc => ?_))
 case refine_2 =>
  refine Kbc (Kf Y Y (Ke Y Y Y (Kj Y Y Y (Kd (Km Y (fun g0 => Kc (Kf Y Y (Ke Y Y Y (Kq Y Y (Kj Y Y Y (Ka Y (kGP Y (fun g1 => Ki Y (Kf Y Y (Ki Y (Ke Y Y Y (Ki Y (kIadR Y Y Y om (Ki Y (Ky Y Y (Ki Y (Kp (ok_impl_isWord _) ⟨Y, trivial⟩ Y Y Y Y Y (Kk Y (Ka Y (Ka Y (kGS Y (fun g2 => Ki Y (Kf Y Y (Ki Y (Ke Y Y Y (Ki Y (kIadR Y Y Y om (Ki Y (Ky Y Y (Ki Y (Kp (ok_impl_within _ _ _) ⟨Y, Y, Y, trivial⟩ Y Y Y Y Y (Kk Y (Ka Y (Ka Y (Kd (hc _ .normA))))))))))))))) (fun g2 => Kg Y (Kg Y (Kg Y (Kg Y (Kg Y (Kl Y (Ka Y (Ka Y (Kd (hc _ .normA)))))))))))))))))))))))) (fun g1 => Kg Y (Kg Y (Kg Y (Kg Y (Kg Y (Kl Y (Ka Y (Ka Y (Kg Y (Kg Y (Kg Y (Kg Y (Kg Y (Kl Y (Ka Y (Ka Y (Kd (hc _ .normA))))))))))))))))))))))))) (fun g0 => Kn (hc _ .normA)))))))
 refine Kb (kCut ⟨tabSl [(1, .c (.ptr (rid 1 0) 1 0)), (3, .b ((if r.ty == 6 then numsOk r.nums else ((r.nums.length : Int) == 0)))), (4, .b ((if r.ty == 1 then isW r.addr else r.addr == 0)))], obTab 1 [(rid 1 0, ⟨1, 0, .box (r.cells.map .d)⟩)], []⟩ ?_ (fun x hc => ?_))
 case refine_2 =>
  refine Kc (Kf Y Y (Ke Y Y Y (Kj Y Y Y (Ka Y (kGP Y (fun g0 => Kg Y (Kg Y (Kg Y (Kg Y (kGU Y (kGU Y (kGU Y (Kg Y (Kk Y (Ka Y (Ka Y (Kd (hc _ .normA))))))))))))) (fun g0 => Ki Y (Kf Y Y (Ki Y (Ke Y Y Y (Ki Y (Kj Y Y Y (Ki Y (Ka Y (kGP Y (fun g1 => Ki Y (Kf Y Y (Ki Y (Ke Y Y Y (Ki Y (Kp (ok_impl_isWord _) ⟨Y, trivial⟩ Y Y Y Y Y (Ki Y (Kk Y (Ka Y (Kl Y (Ka Y (Ka Y (Kd (hc _ .normA)))))))))))))) (fun g1 => Kg Y (Kg Y (Kg Y (Ki Y (Kl Y (Ka Y (Kl Y (Ka Y (Ka Y (Kd (hc _ .normA)))))))))))))))))))))))))
 refine Kb (kCut ⟨tabSl [(1, .c (.ptr (rid 1 0) 1 0)), (3, .b ((if r.ty == 6 then numsOk r.nums else ((r.nums.length : Int) == 0)))), (4, .b ((if r.ty == 1 then isW r.addr else r.addr == 0))), (5, .b ((if hasTo r.ty then nameOk r.to else ((r.to.length : Int) == 0))))], obTab 1 [(rid 1 0, ⟨1, 0, .box (r.cells.map .d)⟩)], []⟩ ?_ (fun x hc => ?_))
 case refine_2 =>
  refine Kc (Kf Y Y (Kf Y Y (Ke Y Y Y (Kq Y Y (Kj Y Y Y (Ka Y (kGP Y (fun g0 => Kg Y (Kg Y (Kg Y (Kg Y (kGU Y (kGU Y (kGU Y (Kg Y (Kk Y (Ka Y (Ka Y (Kd (hc _ .normA))))))))))))) (fun g0 => Ki Y (Kf Y Y (Ki Y (Ke Y Y Y (Ki Y (Kp (ok_impl_hasTo _) ⟨Y, trivial⟩ Y Y Y Y Y (Ki Y (Ka Y (kGS Y (fun g1 => Ki Y (Kf Y Y (Ki Y (Ke Y Y Y (Ki Y (Kp (ok_impl_NameOk _ pr pr) ⟨⟨⟨Y, trivial⟩, leb⟩, trivial⟩ Y Y Y Y Y (Ki Y (Kk Y (Ka Y (Kl Y (Ka Y (Ka Y (Kd (hc _ .normA)))))))))))))) (fun g1 => Kg Y (Kg Y (Kg Y (Ki Y (Kl Y (Ka Y (Kl Y (Ka Y (Ka Y (Kd (hc _ .normA)))))))))))))))))))))))))))
 refine Kb (kCut ⟨tabSl [(1, .c (.ptr (rid 1 0) 1 0)), (3, .b ((if r.ty == 6 then numsOk r.nums else ((r.nums.length : Int) == 0)))), (4, .b ((if r.ty == 1 then isW r.addr else r.addr == 0))), (5, .b ((if hasTo r.ty then nameOk r.to else ((r.to.length : Int) == 0)))), (6, .b ((if hasText r.ty then decide ((r.text.length : Int) ≤ 40) else ((r.text.length : Int) == 0))))], obTab 1 [(rid 1 0, ⟨1, 0, .box (r.cells.map .d)⟩)], []⟩ ?_ (fun x hc => ?_))
 case refine_2 =>
  refine Kc (Kf Y Y (Ke Y Y Y (Kq Y Y (Kj Y Y Y (Ka Y (kGP Y (fun g0 => Kg Y (Kg Y (Kg Y (Kg Y (kGU Y (kGU Y (kGU Y (kGU Y (Kg Y (Kk Y (Ka Y (Ka Y (Kd (hc _ .normA)))))))))))))) (fun g0 => Ki Y (Kf Y Y (Ki Y (Ke Y Y Y (Ki Y (Kp (ok_impl_hasText _) ⟨Y, trivial⟩ Y Y Y Y Y (Ki Y (Ka Y (kGS Y (fun g1 => Ki Y (Kf Y Y (Ki Y (Ke Y Y Y (Ki Y (Kq Y Y (Ki Y (Kj Y Y Y (Ki Y (Kk Y (Ka Y (Kl Y (Ka Y (Ka Y (Kd (hc _ .normA)))))))))))))))) (fun g1 => Kg Y (Kg Y (Kg Y (Kg Y (Ki Y (Kl Y (Ka Y (Kl Y (Ka Y (Ka Y (Kd (hc _ .normA)))))))))))))))))))))))))))
 refine Kbc (Ka Y (Ka Y (kGS Y (fun g0 => Ki Y (Ka Y (Kk Y (Ka Y (Ka Y (kGS Y (fun g1 => Ki Y (Ka Y (Kk Y (Ka Y (Ka Y (kGS Y (fun g2 => Ki Y (Ka Y (Kk Y (Ka Y (Ka Y (Kd (Kr (Er (ra := [.one (.d _)]) rfl ?_)))))))) (fun g2 => Kg Y (Kl Y (Ka Y (Ka Y (Kd (Kr (Er (ra := [.one (.d _)]) rfl ?_))))))))))))) (fun g1 => Kg Y (Kl Y (Ka Y (Ka Y (Kg Y (Kl Y (Ka Y (Ka Y (Kd (Kr (Er (ra := [.one (.d _)]) rfl ?_))))))))))))))))) (fun g0 => Kg Y (Kl Y (Ka Y (Ka Y (Kg Y (Kl Y (Ka Y (Ka Y (Kg Y (Kl Y (Ka Y (Ka Y (Kd (Kr (Er (ra := [.one (.d _)]) rfl ?_))))))))))))))))))
 all_goals simp only [dataOk, *, Bool.true_and, Bool.false_and, Bool.and_true, Bool.and_false]

def c_impl_all_impl_Rr_1 : C := (.g (.o 0 2 (.box 2 (.t 0)) (.o 1 3 (.mov (.v (.bool false))) .done)) (.g (.o 0 4 (.load none (.t 1)) (.o 1 5 (.load (some 7) (.t 2)) (.o 2 6 (.callv 6 (.t 4) [(.t 5)]) (.o 3 7 (.un .not (.t 6)) (.o 4 3 (.mov (.t 7)) .done))))) .ret))
theorem dg_impl_all_impl_Rr_1 : Tryz.f174.body.bind (digC Tryz.prog Tryz.f174.ntmps []) = some c_impl_all_impl_Rr_1 := by kernel_rfl
theorem rs_impl_all_impl_Rr_1 : resSlots Tryz.prog Tryz.f174 = some [.s 3] := by kernel_rfl
theorem ok_impl_all_impl_Rr_1 (x : Rr) (D : Rr → Prop) (g : Rr → Bool) (hx : D x) :
  FnOK Tryz.prog 174 [.agg (x.cells.map .d), .one (.ptr [.fv false (fcAgg D Rr.cells g)])] (fun ra _ => ra = [.one (.d (.sc (.bool (!g x))))]) := by
 refine FnOK.ofK Tryz.func174 (by kernel_rfl) dg_impl_all_impl_Rr_1 rs_impl_all_impl_Rr_1 rfl rfl ?_
 delta c_impl_all_impl_Rr_1 T.o X.i C.g
 refine Kbc (kBox Y Y Y Y Y (Ka Y (Kdb (Kc (kLoadC Y Y (Ke Y Y Y ?_))))))
 refine kCallv Y ⟨x, hx, rfl, rfl⟩ ⟨⟨⟨Y, Y, Y, Y, Y, Y, Y, trivial⟩, leb⟩, trivial⟩ (.inr ?_) rfl ?_ rfl ?_
 ·rintro _ rfl; rfl
 ·rintro _ rfl; exact leb
 rintro _ rfl
 refine Kw Y Y (Ka Y (Kd (Kr (Er (ra := [.one (.d _)]) rfl rfl))))

def c_impl_all_impl_Rr : C := (.g (.o 0 3 (.box 3 (.t 1)) (.o 1 4 (.mov (.v (.bool false))) .done)) (.g (.o 0 5 (.mov (.t 0)) (.o 1 6 (.clo 174 [] [(.t 3)]) (.o 2 7 (.call 7 173 [(.t 5), (.t 6)]) (.o 3 8 (.un .not (.t 7)) (.o 4 4 (.mov (.t 8)) .done))))) .ret))
theorem dg_impl_all_impl_Rr : Tryz.f93.body.bind (digC Tryz.prog Tryz.f93.ntmps []) = some c_impl_all_impl_Rr := by kernel_rfl
theorem rs_impl_all_impl_Rr : resSlots Tryz.prog Tryz.f93 = some [.s 4] := by kernel_rfl
theorem ok_impl_all_impl_Rr (l : List Rr) (D : Rr → Prop) (g : Rr → Bool) (hl : l.length ≤ 4194304) (hD : ∀ x ∈ l, D x) :
  FnOK Tryz.prog 93 [.one (.d (encR l)), .one (.fv false (fcAgg D Rr.cells g))] (fun ra _ => ra = [.one (.d (.sc (.bool (l.all g))))]) := by
 refine FnOK.ofK Tryz.func93 (by kernel_rfl) dg_impl_all_impl_Rr rs_impl_all_impl_Rr rfl rfl ?_
 delta c_impl_all_impl_Rr T.o X.i C.g
 refine Kbc (kBox Y Y Y Y Y (Ka Y (Kdb (Kc (Ka Y (kClo Y Y ?_))))))
 refine Ku true (ok_slices_ContainsFunc_Limpl_Rr_impl_Rr l D (fun x => !g x) hl hD) ⟨rfl, ⟨rfl, ⟨_, Tryz.func174, rfl, by kernel_rfl⟩, _, rfl, ?_⟩, trivial⟩ rfl rfl rfl fun os => ?_
 ·rintro _ R ⟨x, hx, rfl, rfl⟩
  exact ⟨by rintro _ rfl; rfl, ok_impl_all_impl_Rr_1 x D g hx⟩
 rw [List.all_eq_not_any_not]
 refine Kw Y Y (Ka Y (Kd (Kr (Er (ra := [.one (.d _)]) rfl rfl))))

def c_impl_areRrs : C := (.g (.o 0 2 (.mov (.v (.bool false))) .done) (.g (.o 0 3 (.mov (.t 0)) (.o 1 4 (.len (.t 3)) (.o 2 5 (.bin .leq (.t 4) (.i 12)) (.o 3 6 (.mov (.t 5)) (.op 4 [] (some 7) (some (6, true)) false (.mov (.t 0)) (.op 5 [] (some 8) (some (6, true)) false (.call 8 93 [(.t 7), (.fn 60)]) (.o 6 9 (.pick (.t 6) (.t 8) (.v (.bool false))) (.o 7 2 (.mov (.t 9)) .done)))))))) .ret))
theorem dg_impl_areRrs : Tryz.f136.body.bind (digC Tryz.prog Tryz.f136.ntmps []) = some c_impl_areRrs := by kernel_rfl
theorem rs_impl_areRrs : resSlots Tryz.prog Tryz.f136 = some [.s 2] := by kernel_rfl
theorem ok_impl_areRrs (l : List Rr) (hs : SmallRs l) :
  FnOK Tryz.prog 136 [.one (.d (encR l))] (fun ra _ => ra = [.one (.d (.sc (.bool (rrsOk l))))]) := by
 refine FnOK.ofK Tryz.func136 (by kernel_rfl) dg_impl_areRrs rs_impl_areRrs rfl rfl ?_
 delta c_impl_areRrs T.o X.i C.g
 have h1 := hs.len
 refine Kbc (Ka Y (Kdb (Kc (Ka Y (Kq Y Y (Kj Y Y Y (Ka Y (kGP Y (fun g0 => Ki Y (Ka Y (Ki Y ?_))) (fun g0 => Kg Y (Kg Y (Kl Y (Ka Y (Ka Y (Kd (Kr (Er (ra := [.one (.d _)]) rfl ?_))))))))))))))))
 ·refine Kp (ok_impl_all_impl_Rr l SmallR rrOk h1 hs.mem) ⟨rfl, ⟨rfl, rfl, ⟨_, Tryz.func60, rfl, by kernel_rfl⟩, ?_⟩, trivial⟩ Y Y Y Y Y ?_
  ·rintro _ R ⟨x, h, rfl, rfl⟩
   exact ok_impl_RrOk x h
  refine Kk Y (Ka Y (Ka Y (Kd (Kr (Er (ra := [.one (.d _)]) rfl ?_)))))
  rw [show rrsOk l = l.all rrOk by simp only [rrsOk]; rw [decide_eq_true (by omega)]; rfl]
 ·rw [show rrsOk l = false by simp only [rrsOk]; rw [decide_eq_false (by omega)]; rfl]

def c_impl_WantOk : C := (.g (.o 0 1 (.box 1 (.t 0)) (.o 1 2 (.mov (.v (.bool false))) .done)) (.g (.o 0 4 (.fad (.t 1) 0) (.o 1 5 (.load (some 7) (.t 4)) (.o 2 3 (.alloc 3 [(.n 1), (.i 0), (.i 0), (.i 0), (.n 1), (.n 1), (.n 1)]) (.op 3 [] none none false (.store (some 7) (.t 3) (.t 5)) .done)))) (.seq (.block 0 (.g (.o 0 7 (.fad (.t 1) 7) (.o 1 8 (.load none (.t 7)) (.o 2 9 (.bin .neq (.t 8) (.i 1)) (.o 3 10 (.mov (.t 9)) (.op 4 [] (some 11) (some (10, true)) false (.fad (.t 1) 7) (.op 5 [] (some 12) (some (10, true)) false (.load none (.t 11)) (.op 6 [] (some 13) (some (10, true)) false (.bin .neq (.t 12) (.i 254)) (.o 7 14 (.pick (.t 10) (.t 13) (.v (.bool false))) (.o 8 15 (.mov (.t 14)) (.op 9 [] (some 16) (some (15, true)) false (.fad (.t 1) 7) (.op 10 [] (some 17) (some (15, true)) false (.load none (.t 16)) (.op 11 [] (some 18) (some (15, true)) false (.bin .neq (.t 17) (.i 255)) (.o 12 19 (.pick (.t 15) (.t 18) (.v (.bool false))) (.o 13 6 (.mov (.t 19)) .done)))))))))))))) (.cond (.t 6) (.g (.o 0 2 (.mov (.v (.bool false))) .done) .ret) (.g (.o 0 21 (.fad (.t 1) 8) (.o 1 22 (.load none (.t 21)) (.o 2 20 (.mov (.t 22)) .done))) (.cond (.t 20) (.g (.o 0 23 (.fad (.t 1) 7) (.o 1 24 (.load none (.t 23)) (.o 2 25 (.bin .neq (.t 24) (.i 1)) (.o 3 26 (.mov (.t 25)) (.op 4 [] (some 27) (some (26, true)) false (.fad (.t 3) 0) (.op 5 [] (some 28) (some (26, true)) false (.load (some 1) (.t 27)) (.op 6 [] (some 29) (some (26, true)) false (.call 29 90 [(.t 28)]) (.o 7 30 (.pick (.t 26) (.t 29) (.v (.bool false))) (.o 8 31 (.mov (.t 30)) (.op 9 [] (some 32) (some (31, true)) false (.fad (.t 3) 1) (.op 10 [] (some 33) (some (31, true)) false (.load none (.t 32)) (.op 11 [] (some 34) (some (31, true)) false (.call 34 137 [(.t 33)]) (.o 12 35 (.pick (.t 31) (.t 34) (.v (.bool false))) (.o 13 36 (.mov (.t 35)) (.op 14 [] (some 37) (some (36, true)) false (.fad (.t 3) 2) (.op 15 [] (some 38) (some (36, true)) false (.load none (.t 37)) (.op 16 [] (some 39) (some (36, true)) false (.bin .eql (.t 38) (.i 0)) (.o 17 40 (.pick (.t 36) (.t 39) (.v (.bool false))) (.o 18 41 (.mov (.t 40)) (.op 19 [] (some 42) (some (41, true)) false (.fad (.t 3) 3) (.op 20 [] (some 43) (some (41, true)) false (.load none (.t 42)) (.op 21 [] (some 44) (some (41, true)) false (.bin .eql (.t 43) (.i 0)) (.o 22 45 (.pick (.t 41) (.t 44) (.v (.bool false))) (.o 23 46 (.mov (.t 45)) (.op 24 [] (some 47) (some (46, true)) false (.fad (.t 3) 4) (.op 25 [] (some 48) (some (46, true)) false (.fad (.t 47) 0) (.op 26 [] (some 49) (some (46, true)) false (.load none (.t 48)) (.op 27 [] (some 50) (some (46, true)) false (.len (.t 49)) (.op 28 [] (some 51) (some (46, true)) false (.bin .eql (.t 50) (.i 0)) (.o 29 52 (.pick (.t 46) (.t 51) (.v (.bool false))) (.o 30 53 (.mov (.t 52)) (.op 31 [] (some 54) (some (53, true)) false (.fad (.t 3) 5) (.op 32 [] (some 55) (some (53, true)) false (.load none (.t 54)) (.op 33 [] (some 56) (some (53, true)) false (.len (.t 55)) (.op 34 [] (some 57) (some (53, true)) false (.bin .eql (.t 56) (.i 0)) (.o 35 58 (.pick (.t 53) (.t 57) (.v (.bool false))) (.o 36 59 (.mov (.t 58)) (.op 37 [] (some 60) (some (59, true)) false (.fad (.t 3) 6) (.op 38 [] (some 61) (some (59, true)) false (.load none (.t 60)) (.op 39 [] (some 62) (some (59, true)) false (.len (.t 61)) (.op 40 [] (some 63) (some (59, true)) false (.bin .eql (.t 62) (.i 0)) (.o 41 64 (.pick (.t 59) (.t 63) (.v (.bool false))) (.o 42 2 (.mov (.t 64)) .done))))))))))))))))))))))))))))))))))))))))))) .ret) .skip))))) (.g (.o 0 65 (.fad (.t 1) 7) (.o 1 66 (.load none (.t 65)) (.o 2 67 (.bin .neq (.t 66) (.i 255)) (.o 3 68 (.mov (.t 67)) (.op 4 [] (some 69) (some (68, true)) false (.load (some 7) (.t 3)) (.op 5 [] (some 70) (some (68, true)) false (.call 70 60 [(.t 69)]) (.o 6 71 (.pick (.t 68) (.t 70) (.v (.bool false))) (.o 7 72 (.mov (.t 71)) (.op 8 [] (some 73) (some (72, true)) false (.fad (.t 1) 7) (.op 9 [] (some 74) (some (72, true)) false (.load none (.t 73)) (.op 10 [] (some 75) (some (72, true)) false (.bin .eql (.t 74) (.i 1)) (.op 11 [] (some 76) (some (72, true)) false (.mov (.t 75)) (.op 12 [] (some 77) (some (76, false)) false (.fad (.t 3) 2) (.op 13 [] (some 78) (some (76, false)) false (.load none (.t 77)) (.op 14 [] (some 79) (some (76, false)) false (.bin .eql (.t 78) (.i 0)) (.op 15 [] (some 80) (some (72, true)) false (.pick (.t 76) (.v (.bool true)) (.t 79)) (.o 16 81 (.pick (.t 72) (.t 80) (.v (.bool false))) (.o 17 2 (.mov (.t 81)) .done)))))))))))))))))) .ret))))
theorem dg_impl_WantOk : Tryz.f259.body.bind (digC Tryz.prog Tryz.f259.ntmps []) = some c_impl_WantOk := by kernel_rfl
theorem rs_impl_WantOk : resSlots Tryz.prog Tryz.f259 = some [.s 2] := by kernel_rfl
theorem ok_impl_WantOk (w : Want) (hs : SmallW w) :
  FnOK Tryz.prog 259 [.agg (w.cells.map .d)] (fun ra _ => ra = [.one (.d (.sc (.bool (wantOk w))))]) := by
 refine FnOK.ofK Tryz.func259 (by kernel_rfl) dg_impl_WantOk rs_impl_WantOk rfl rfl ?_
 delta c_impl_WantOk T.o X.i C.g
 have h1 := hs.r
 have n1 := hs.r.n.len
 have n2 := hs.r.n.mem
 refine Kbc (kBox Y Y Y Y Y (Ka Y (Kdb (Kc (Kf Y Y (Ke Y Y Y (kAlloc Y Y (Ko Y Y Y Y (Kdb (Kt (Kbc (Kf Y Y (Ke Y Y Y (Kj Y Y Y (Ka Y (kGIN Y (fun g0 => Ki Y (Kf Y Y (Ki Y (Ke Y Y Y (Ki Y (Kj Y Y Y (Kk Y (Ka Y (Ka Y (kGIN Y (fun g1 => Ki Y (Kf Y Y (Ki Y (Ke Y Y Y (Ki Y (Kj Y Y Y (Kk Y (Ka Y (Ka Y (Kd (kCondIN Y (fun g2 => Kbc (Ka Y (Kd (Kr (Er (ra := [.one (.d _)]) rfl ?_))))) (fun g2 => Kbc (Kf Y Y (Ke Y Y Y (Ka Y (Kd (kCond Y (fun g3 => Kbc (Kf Y Y (Ke Y Y Y (Kj Y Y Y (Ka Y (kGIN Y (fun g4 => Ki Y (Kf Y Y (Ki Y (Ke Y Y Y (Ki Y (Kp (ok_impl_NameOk _ prx prx) ⟨⟨⟨Y, trivial⟩, leb⟩, trivial⟩ Y Y Y Y Y (Kk Y (Ka Y (Ka Y (kGS Y (fun g5 => Ki Y (Kf Y Y (Ki Y (Ke Y Y Y (Ki Y (Kp (ok_impl_isAsked _) ⟨Y, trivial⟩ Y Y Y Y Y (Kk Y (Ka Y (Ka Y (kGS Y (fun g6 => Ki Y (Kf Y Y (Ki Y (Ke Y Y Y (Ki Y (Kj Y Y Y (Kk Y (Ka Y (Ka Y (kGP Y (fun g7 => Ki Y (Kf Y Y (Ki Y (Ke Y Y Y (Ki Y (Kj Y Y Y (Kk Y (Ka Y (Ka Y (kGP Y (fun g8 => Ki Y (Kf Y Y (Ki Y (Kf Y Y (Ki Y (Ke Y Y Y (Ki Y (Kq Y Y (Ki Y (Kj Y Y Y (Kk Y (Ka Y (Ka Y (kGP Y (fun g9 => Ki Y (Kf Y Y (Ki Y (Ke Y Y Y (Ki Y (Kq Y Y (Ki Y (Kj Y Y Y (Kk Y (Ka Y (Ka Y (kGP Y (fun g10 => Ki Y (Kf Y Y (Ki Y (Ke Y Y Y (Ki Y (Kq Y Y (Ki Y (Kj Y Y Y (Kk Y (Ka Y (Ka Y (Kd (Kr (Er (ra := [.one (.d _)]) rfl ?_)))))))))))))) (fun g10 => Kg Y (Kg Y (Kg Y (Kg Y (Kl Y (Ka Y (Ka Y (Kd (Kr (Er (ra := [.one (.d _)]) rfl ?_)))))))))))))))))))))) (fun g9 => Kg Y (Kg Y (Kg Y (Kg Y (Kl Y (Ka Y (Ka Y (Kg Y (Kg Y (Kg Y (Kg Y (Kl Y (Ka Y (Ka Y (Kd (Kr (Er (ra := [.one (.d _)]) rfl ?_))))))))))))))))))))))))))))))) (fun g8 => Kg Y (Kg Y (Kg Y (Kg Y (Kg Y (Kl Y (Ka Y (Ka Y (Kg Y (Kg Y (Kg Y (Kg Y (Kl Y (Ka Y (Ka Y (Kg Y (Kg Y (Kg Y (Kg Y (Kl Y (Ka Y (Ka Y (Kd (Kr (Er (ra := [.one (.d _)]) rfl ?_))))))))))))))))))))))))))))))))))) (fun g7 => Kg Y (Kg Y (Kg Y (Kl Y (Ka Y (Ka Y (Kg Y (Kg Y (Kg Y (Kg Y (Kg Y (Kl Y (Ka Y (Ka Y (Kg Y (Kg Y (Kg Y (Kg Y (Kl Y (Ka Y (Ka Y (Kg Y (Kg Y (Kg Y (Kg Y (Kl Y (Ka Y (Ka Y (Kd (Kr (Er (ra := [.one (.d _)]) rfl ?_))))))))))))))))))))))))))))))))))))))))) (fun g6 => Kg Y (Kg Y (Kg Y (Kl Y (Ka Y (Ka Y (Kg Y (Kg Y (Kg Y (Kl Y (Ka Y (Ka Y (Kg Y (Kg Y (Kg Y (Kg Y (Kg Y (Kl Y (Ka Y (Ka Y (Kg Y (Kg Y (Kg Y (Kg Y (Kl Y (Ka Y (Ka Y (Kg Y (Kg Y (Kg Y (Kg Y (Kl Y (Ka Y (Ka Y (Kd (Kr (Er (ra := [.one (.d _)]) rfl ?_))))))))))))))))))))))))))))))))))))))))))))))) (fun g5 => Kg Y (Kg Y (Kg Y (Kl Y (Ka Y (Ka Y (Kg Y (Kg Y (Kg Y (Kl Y (Ka Y (Ka Y (Kg Y (Kg Y (Kg Y (Kl Y (Ka Y (Ka Y (Kg Y (Kg Y (Kg Y (Kg Y (Kg Y (Kl Y (Ka Y (Ka Y (Kg Y (Kg Y (Kg Y (Kg Y (Kl Y (Ka Y (Ka Y (Kg Y (Kg Y (Kg Y (Kg Y (Kl Y (Ka Y (Ka Y (Kd (Kr (Er (ra := [.one (.d _)]) rfl ?_))))))))))))))))))))))))))))))))))))))))))))))))))))) (fun g4 => om))))))) (fun g3 => Kn (Kv (Kbc (Kf Y Y (Ke Y Y Y (Kj Y Y Y (Ka Y (kGIN Y (fun g11 => om) (fun g11 => Kg Y (Kg Y (Kl Y (Ka Y (Ka Y (Kg Y (Kg Y (Kg Y (Kg Y (kGU Y (kGU Y (kGU Y (Kg Y (Kl Y (Ka Y (Ka Y (Kd (Kr (Er (ra := [.one (.d _)]) rfl ?_)))))))))))))))))))))))))))))))))))))))))))) (fun g1 => Kg Y (Kg Y (Kg Y (Kl Y (Ka Y (Ka Y (Kd (kCondF Y (Kbc (Kf Y Y (Ke Y Y Y (Ka Y (Kd (kCond Y (fun g12 => Kbc (Kf Y Y (Ke Y Y Y (Kj Y Y Y (Ka Y (kGIN Y (fun g13 => Ki Y (Kf Y Y (Ki Y (Ke Y Y Y (Ki Y (Kp (ok_impl_NameOk _ prx prx) ⟨⟨⟨Y, trivial⟩, leb⟩, trivial⟩ Y Y Y Y Y (Kk Y (Ka Y (Ka Y (kGS Y (fun g14 => Ki Y (Kf Y Y (Ki Y (Ke Y Y Y (Ki Y (Kp (ok_impl_isAsked _) ⟨Y, trivial⟩ Y Y Y Y Y (Kk Y (Ka Y (Ka Y (kGS Y (fun g15 => Ki Y (Kf Y Y (Ki Y (Ke Y Y Y (Ki Y (Kj Y Y Y (Kk Y (Ka Y (Ka Y (kGP Y (fun g16 => Ki Y (Kf Y Y (Ki Y (Ke Y Y Y (Ki Y (Kj Y Y Y (Kk Y (Ka Y (Ka Y (kGP Y (fun g17 => Ki Y (Kf Y Y (Ki Y (Kf Y Y (Ki Y (Ke Y Y Y (Ki Y (Kq Y Y (Ki Y (Kj Y Y Y (Kk Y (Ka Y (Ka Y (kGP Y (fun g18 => Ki Y (Kf Y Y (Ki Y (Ke Y Y Y (Ki Y (Kq Y Y (Ki Y (Kj Y Y Y (Kk Y (Ka Y (Ka Y (kGP Y (fun g19 => Ki Y (Kf Y Y (Ki Y (Ke Y Y Y (Ki Y (Kq Y Y (Ki Y (Kj Y Y Y (Kk Y (Ka Y (Ka Y (Kd (Kr (Er (ra := [.one (.d _)]) rfl ?_)))))))))))))) (fun g19 => Kg Y (Kg Y (Kg Y (Kg Y (Kl Y (Ka Y (Ka Y (Kd (Kr (Er (ra := [.one (.d _)]) rfl ?_)))))))))))))))))))))) (fun g18 => Kg Y (Kg Y (Kg Y (Kg Y (Kl Y (Ka Y (Ka Y (Kg Y (Kg Y (Kg Y (Kg Y (Kl Y (Ka Y (Ka Y (Kd (Kr (Er (ra := [.one (.d _)]) rfl ?_))))))))))))))))))))))))))))))) (fun g17 => Kg Y (Kg Y (Kg Y (Kg Y (Kg Y (Kl Y (Ka Y (Ka Y (Kg Y (Kg Y (Kg Y (Kg Y (Kl Y (Ka Y (Ka Y (Kg Y (Kg Y (Kg Y (Kg Y (Kl Y (Ka Y (Ka Y (Kd (Kr (Er (ra := [.one (.d _)]) rfl ?_))))))))))))))))))))))))))))))))))) (fun g16 => Kg Y (Kg Y (Kg Y (Kl Y (Ka Y (Ka Y (Kg Y (Kg Y (Kg Y (Kg Y (Kg Y (Kl Y (Ka Y (Ka Y (Kg Y (Kg Y (Kg Y (Kg Y (Kl Y (Ka Y (Ka Y (Kg Y (Kg Y (Kg Y (Kg Y (Kl Y (Ka Y (Ka Y (Kd (Kr (Er (ra := [.one (.d _)]) rfl ?_))))))))))))))))))))))))))))))))))))))))) (fun g15 => Kg Y (Kg Y (Kg Y (Kl Y (Ka Y (Ka Y (Kg Y (Kg Y (Kg Y (Kl Y (Ka Y (Ka Y (Kg Y (Kg Y (Kg Y (Kg Y (Kg Y (Kl Y (Ka Y (Ka Y (Kg Y (Kg Y (Kg Y (Kg Y (Kl Y (Ka Y (Ka Y (Kg Y (Kg Y (Kg Y (Kg Y (Kl Y (Ka Y (Ka Y (Kd (Kr (Er (ra := [.one (.d _)]) rfl ?_))))))))))))))))))))))))))))))))))))))))))))))) (fun g14 => Kg Y (Kg Y (Kg Y (Kl Y (Ka Y (Ka Y (Kg Y (Kg Y (Kg Y (Kl Y (Ka Y (Ka Y (Kg Y (Kg Y (Kg Y (Kl Y (Ka Y (Ka Y (Kg Y (Kg Y (Kg Y (Kg Y (Kg Y (Kl Y (Ka Y (Ka Y (Kg Y (Kg Y (Kg Y (Kg Y (Kl Y (Ka Y (Ka Y (Kg Y (Kg Y (Kg Y (Kg Y (Kl Y (Ka Y (Ka Y (Kd (Kr (Er (ra := [.one (.d _)]) rfl ?_))))))))))))))))))))))))))))))))))))))))))))))))))))) (fun g13 => om))))))) (fun g12 => Kn (Kv (Kbc (Kf Y Y (Ke Y Y Y (Kj Y Y Y (Ka Y (kGIN Y (fun g20 => Ki Y (Ke Y Y Y (Ki Y (Kp (ok_impl_RrOk _ prx) ⟨⟨⟨Y, Y, Y, Y, Y, Y, Y, trivial⟩, leb⟩, trivial⟩ Y Y Y Y Y (Kk Y (Ka Y (Ka Y (kGS Y (fun g21 => (Ki Y (Kf Y Y (Ki Y (Ke Y Y Y (Ki Y (Kj Y Y Y (Ki Y (Ka Y (kGP Y (fun g22 => om) (fun g22 => Ki Y (Kf Y Y (Ki Y (Ke Y Y Y (Ki Y (Kj Y Y Y (Ki Y (Kl Y (Ka Y (Kk Y (Ka Y (Ka Y (Kd (Kr (Er (ra := [.one (.d _)]) rfl ?_))))))))))))))))))))))))) (fun g21 => (Kg Y (Kg Y (Kg Y (Kg Y (kGU Y (kGU Y (kGU Y (Kg Y (Kl Y (Ka Y (Ka Y (Kd (Kr (Er (ra := [.one (.d _)]) rfl ?_))))))))))))))))))))))) (fun g20 => om))))))))))))))))))))))))))))))))) (fun g0 => Kg Y (Kg Y (Kg Y (Kl Y (Ka Y (Ka Y (Kg Y (Kg Y (Kg Y (Kl Y (Ka Y (Ka Y (Kd (kCondF Y (Kbc (Kf Y Y (Ke Y Y Y (Ka Y (Kd (kCond Y (fun g23 => Kbc (Kf Y Y (Ke Y Y Y (Kj Y Y Y (Ka Y (kGIN Y (fun g24 => om) (fun g24 => Kg Y (Kg Y (Kg Y (Kl Y (Ka Y (Ka Y (Kg Y (Kg Y (Kg Y (Kl Y (Ka Y (Ka Y (Kg Y (Kg Y (Kg Y (Kl Y (Ka Y (Ka Y (Kg Y (Kg Y (Kg Y (Kl Y (Ka Y (Ka Y (Kg Y (Kg Y (Kg Y (Kg Y (Kg Y (Kl Y (Ka Y (Ka Y (Kg Y (Kg Y (Kg Y (Kg Y (Kl Y (Ka Y (Ka Y (Kg Y (Kg Y (Kg Y (Kg Y (Kl Y (Ka Y (Ka Y (Kd (Kr (Er (ra := [.one (.d _)]) rfl ?_))))))))))))))))))))))))))))))))))))))))))))))))))))))) (fun g23 => Kn (Kv (Kbc (Kf Y Y (Ke Y Y Y (Kj Y Y Y (Ka Y (kGIN Y (fun g25 => Ki Y (Ke Y Y Y (Ki Y (Kp (ok_impl_RrOk _ prx) ⟨⟨⟨Y, Y, Y, Y, Y, Y, Y, trivial⟩, leb⟩, trivial⟩ Y Y Y Y Y (Kk Y (Ka Y (Ka Y (kGS Y (fun g26 => Ki Y (Kf Y Y (Ki Y (Ke Y Y Y (Ki Y (Kj Y Y Y (Ki Y (Ka Y (kGP Y (fun g27 => Kg Y (Kg Y (Kg Y (Ki Y (Kk Y (Ka Y (Kk Y (Ka Y (Ka Y (Kd (Kr (Er (ra := [.one (.d _)]) rfl ?_)))))))))))) (fun g27 => om)))))))))) (fun g26 => Kg Y (Kg Y (Kg Y (Kg Y (kGU Y (kGU Y (kGU Y (Kg Y (Kl Y (Ka Y (Ka Y (Kd (Kr (Er (ra := [.one (.d _)]) rfl ?_)))))))))))))))))))))) (fun g25 => om)))))))))))))))))))))))))))))))))))))))))))))
 all_goals (refine congrArg (fun z : Bool => [RA.one (RV.d (DV.sc (Value.bool z)))]) ?_; clear n1 n2 h1 hs; unfold wantOk; simp_all)
 all_goals (rw [Bool.eq_iff_iff]; simp)

def c_impl_all_impl_Want_1 : C := (.g (.o 0 2 (.box 2 (.t 0)) (.o 1 3 (.mov (.v (.bool false))) .done)) (.g (.o 0 4 (.load none (.t 1)) (.o 1 5 (.load (some 9) (.t 2)) (.o 2 6 (.callv 6 (.t 4) [(.t 5)]) (.o 3 7 (.un .not (.t 6)) (.o 4 3 (.mov (.t 7)) .done))))) .ret))
theorem dg_impl_all_impl_Want_1 : Tryz.f349.body.bind (digC Tryz.prog Tryz.f349.ntmps []) = some c_impl_all_impl_Want_1 := by kernel_rfl
theorem rs_impl_all_impl_Want_1 : resSlots Tryz.prog Tryz.f349 = some [.s 3] := by kernel_rfl
theorem ok_impl_all_impl_Want_1 (x : Want) (D : Want → Prop) (g : Want → Bool) (hx : D x) :
  FnOK Tryz.prog 349 [.agg (x.cells.map .d), .one (.ptr [.fv false (fcAgg D Want.cells g)])] (fun ra _ => ra = [.one (.d (.sc (.bool (!g x))))]) := by
 refine FnOK.ofK Tryz.func349 (by kernel_rfl) dg_impl_all_impl_Want_1 rs_impl_all_impl_Want_1 rfl rfl ?_
 delta c_impl_all_impl_Want_1 T.o X.i C.g
 refine Kbc (kBox Y Y Y Y Y (Ka Y (Kdb (Kc (kLoadC Y Y (Ke Y Y Y ?_))))))
 refine kCallv Y ⟨x, hx, rfl, rfl⟩ ⟨⟨⟨Y, Y, Y, Y, Y, Y, Y, Y, Y, trivial⟩, leb⟩, trivial⟩ (.inr ?_) rfl ?_ rfl ?_
 ·rintro _ rfl; rfl
 ·rintro _ rfl; exact leb
 rintro _ rfl
 refine Kw Y Y (Ka Y (Kd (Kr (Er (ra := [.one (.d _)]) rfl rfl))))

def c_slices_IndexFunc_Limpl_Want_impl_Want : C := (.g (.o 0 4 (.mov (.i 0)) .done) (.seq (.g (.o 0 6 (.mov (.t 0)) (.o 1 7 (.len (.t 6)) (.o 2 8 (.mov (.i 0)) .done))) (.block 0 (.loop (.g (.o 0 9 (.bin .lss (.t 8) (.t 7)) .done) (.seq (.cond (.t 9) .skip (.exit 0)) (.seq (.block 1 (.g (.o 0 10 (.mov (.t 8)) (.o 1 5 (.mov (.t 10)) .done)) (.g (.o 0 11 (.mov (.t 1)) (.o 1 12 (.mov (.t 0)) (.o 2 13 (.mov (.t 5)) (.o 3 14 (.iad 9 (.t 12) (.t 13)) (.o 4 15 (.load (some 9) (.t 14)) (.o 5 16 (.callv 16 (.t 11) [(.t 15)]) .done)))))) (.cond (.t 16) (.g (.o 0 17 (.mov (.t 5)) (.o 1 4 (.mov (.t 17)) .done)) .ret) .skip)))) (.reg false (.o 0 18 (.bin .add (.t 8) (.i 1)) (.o 1 8 (.mov (.t 18)) .done))))))))) (.g (.o 0 4 (.mov (.i (-1))) .done) .ret)))
theorem dg_slices_IndexFunc_Limpl_Want_impl_Want : Tryz.f360.body.bind (digC Tryz.prog Tryz.f360.ntmps []) = some c_slices_IndexFunc_Limpl_Want_impl_Want := by kernel_rfl
theorem rs_slices_IndexFunc_Limpl_Want_impl_Want : resSlots Tryz.prog Tryz.f360 = some [.s 4] := by kernel_rfl
theorem ok_slices_IndexFunc_Limpl_Want_impl_Want (l : List Want) (D : Want → Prop) (g : Want → Bool) (hl : l.length ≤ 4194304) (hD : ∀ x ∈ l, D x) :
  FnOK Tryz.prog 360 [.one (.d (encW l)), .one (.fv false (fcAgg D Want.cells g))] (fun ra _ => ra = [.one (.d (.sc (.int .i64 (idx g l))))]) := by
 refine FnOK.ofK Tryz.func360 (by kernel_rfl) dg_slices_IndexFunc_Limpl_Want_impl_Want rs_slices_IndexFunc_Limpl_Want_impl_Want rfl rfl ?_
 delta c_slices_IndexFunc_Limpl_Want_impl_Want T.o X.i C.g
 refine Kbc (Ka Y (Kdb (Kbc (Ka Y (Kq Y Y (Ka Y (Kd (Kt ?_))))))))
 refine kLoop (α := { i : Nat // i ≤ l.length ∧ ∀ x ∈ l.take i, g x = false })
  (fun y => ⟨tabSl [(0, .dv (encW l)), (1, .c (.fv false (fcAgg D Want.cells g))), (7, .i l.length), (8, .i y.1)], obTab 1 [], []⟩) (fun y => l.length - y.1) ⟨0, by simp⟩
  .normA ?_
 rintro ⟨i, hi, hg⟩
 simp only
 rcases Nat.lt_or_ge i l.length with hlt | hge
 ·refine Kbc (Kj Y Y Y (Kdb (Km Y (fun g0 => Kn (Kb (Kt (Kbc (Ka Y (Ka Y (Kdb (Kc (Ka Y (Ka Y (Ka Y (kIadR Y Y Y prl (Ky Y Y ?_))))))))))))) (fun g0 => om))))
  refine kCallv Y ⟨l[i], hD _ (List.getElem_mem hlt), rfl, rfl⟩ ⟨⟨⟨Y, Y, Y, Y, Y, Y, Y, Y, Y, trivial⟩, leb⟩, trivial⟩ (.inr ?_) rfl ?_ rfl ?_
  ·rintro _ rfl; rfl
  ·rintro _ rfl; exact leb
  rintro _ rfl
  refine Kd (kCond Y (fun g0 => Kbc (Ka Y (Ka Y (Kd (Kr (Er (ra := [.one (.d _)]) rfl ?_)))))) (fun g0 => Kn (Kv (Kc (kAdd Y Y om (Ka Y (Kd ?_)))))))
  ·have : l.findIdx? g = some i := by
    rw [List.findIdx?_eq_some_iff_getElem]
    refine ⟨hlt, by assumption, fun j hj => ?_⟩
    simpa using hg _ (by rw [List.mem_take_iff_getElem]; exact ⟨j, by omega, rfl⟩)
   simp [idx, this]
  ·refine kInv ⟨⟨i + 1, hlt, ?_⟩, by simp only; omega, .normA⟩
   intro x hx
   rw [← List.take_append_getElem hlt, List.mem_append] at hx
   rcases hx with hx | hx
   ·exact hg x hx
   ·simp at hx; rw [hx]; assumption
 ·refine Kbc (Kj Y Y Y (Kdb (Km Y (fun g0 => om) (fun g0 => kExit (kExC (kExI (kExB (Kbc (Ka Y (Kd (Kr (Er (ra := [.one (.d _)]) rfl ?_))))))))))))
  have : l.findIdx? g = none := by
   rw [List.findIdx?_eq_none_iff]
   intro x hx
   rw [show i = l.length by omega, List.take_length] at hg
   exact hg x hx
  simp [idx, this]

def c_slices_ContainsFunc_Limpl_Want_impl_Want : C := (.g (.o 0 4 (.mov (.v (.bool false))) .done) (.g (.o 0 5 (.mov (.t 0)) (.o 1 6 (.mov (.t 1)) (.o 2 7 (.call 7 360 [(.t 5), (.t 6)]) (.o 3 8 (.bin .geq (.t 7) (.i 0)) (.o 4 4 (.mov (.t 8)) .done))))) .ret))
theorem dg_slices_ContainsFunc_Limpl_Want_impl_Want : Tryz.f348.body.bind (digC Tryz.prog Tryz.f348.ntmps []) = some c_slices_ContainsFunc_Limpl_Want_impl_Want := by kernel_rfl
theorem rs_slices_ContainsFunc_Limpl_Want_impl_Want : resSlots Tryz.prog Tryz.f348 = some [.s 4] := by kernel_rfl
theorem ok_slices_ContainsFunc_Limpl_Want_impl_Want (l : List Want) (D : Want → Prop) (g : Want → Bool) (hl : l.length ≤ 4194304) (hD : ∀ x ∈ l, D x) :
  FnOK Tryz.prog 348 [.one (.d (encW l)), .one (.fv false (fcAgg D Want.cells g))] (fun ra _ => ra = [.one (.d (.sc (.bool (l.any g))))]) := by
 refine FnOK.ofK Tryz.func348 (by kernel_rfl) dg_slices_ContainsFunc_Limpl_Want_impl_Want rs_slices_ContainsFunc_Limpl_Want_impl_Want rfl rfl ?_
 delta c_slices_ContainsFunc_Limpl_Want_impl_Want T.o X.i C.g
 refine Kbc (Ka Y (Kdb (Kc (Ka Y (Ka Y ?_)))))
 refine Ku true (ok_slices_IndexFunc_Limpl_Want_impl_Want l D g hl hD) ⟨rfl, ⟨fun h => h, fun _ _ h => h⟩, trivial⟩ rfl rfl rfl fun os => ?_
 rw [← idx_ge g l]
 refine Kj Y Y Y (Ka Y (Kd (Kr (Er (ra := [.one (.d _)]) rfl rfl))))

def c_impl_all_impl_Want : C := (.g (.o 0 3 (.box 3 (.t 1)) (.o 1 4 (.mov (.v (.bool false))) .done)) (.g (.o 0 5 (.mov (.t 0)) (.o 1 6 (.clo 349 [] [(.t 3)]) (.o 2 7 (.call 7 348 [(.t 5), (.t 6)]) (.o 3 8 (.un .not (.t 7)) (.o 4 4 (.mov (.t 8)) .done))))) .ret))
theorem dg_impl_all_impl_Want : Tryz.f331.body.bind (digC Tryz.prog Tryz.f331.ntmps []) = some c_impl_all_impl_Want := by kernel_rfl
theorem rs_impl_all_impl_Want : resSlots Tryz.prog Tryz.f331 = some [.s 4] := by kernel_rfl
theorem ok_impl_all_impl_Want (l : List Want) (D : Want → Prop) (g : Want → Bool) (hl : l.length ≤ 4194304) (hD : ∀ x ∈ l, D x) :
  FnOK Tryz.prog 331 [.one (.d (encW l)), .one (.fv false (fcAgg D Want.cells g))] (fun ra _ => ra = [.one (.d (.sc (.bool (l.all g))))]) := by
 refine FnOK.ofK Tryz.func331 (by kernel_rfl) dg_impl_all_impl_Want rs_impl_all_impl_Want rfl rfl ?_
 delta c_impl_all_impl_Want T.o X.i C.g
 refine Kbc (kBox Y Y Y Y Y (Ka Y (Kdb (Kc (Ka Y (kClo Y Y ?_))))))
 refine Ku true (ok_slices_ContainsFunc_Limpl_Want_impl_Want l D (fun x => !g x) hl hD) ⟨rfl, ⟨rfl, ⟨_, Tryz.func349, rfl, by kernel_rfl⟩, _, rfl, ?_⟩, trivial⟩ rfl rfl rfl fun os => ?_
 ·rintro _ R ⟨x, hx, rfl, rfl⟩
  exact ⟨by rintro _ rfl; rfl, ok_impl_all_impl_Want_1 x D g hx⟩
 rw [List.all_eq_not_any_not]
 refine Kw Y Y (Ka Y (Kd (Kr (Er (ra := [.one (.d _)]) rfl rfl))))

def c_impl_areWants : C := (.g (.o 0 2 (.mov (.v (.bool false))) .done) (.g (.o 0 3 (.mov (.t 0)) (.o 1 4 (.len (.t 3)) (.o 2 5 (.bin .leq (.t 4) (.i 12)) (.o 3 6 (.mov (.t 5)) (.op 4 [] (some 7) (some (6, true)) false (.mov (.t 0)) (.op 5 [] (some 8) (some (6, true)) false (.call 8 331 [(.t 7), (.fn 259)]) (.o 6 9 (.pick (.t 6) (.t 8) (.v (.bool false))) (.o 7 2 (.mov (.t 9)) .done)))))))) .ret))
theorem dg_impl_areWants : Tryz.f308.body.bind (digC Tryz.prog Tryz.f308.ntmps []) = some c_impl_areWants := by kernel_rfl
theorem rs_impl_areWants : resSlots Tryz.prog Tryz.f308 = some [.s 2] := by kernel_rfl
theorem ok_impl_areWants (l : List Want) (hs : SmallWs l) :
  FnOK Tryz.prog 308 [.one (.d (encW l))] (fun ra _ => ra = [.one (.d (.sc (.bool (wantsOk l))))]) := by
 refine FnOK.ofK Tryz.func308 (by kernel_rfl) dg_impl_areWants rs_impl_areWants rfl rfl ?_
 delta c_impl_areWants T.o X.i C.g
 have h1 := hs.len
 refine Kbc (Ka Y (Kdb (Kc (Ka Y (Kq Y Y (Kj Y Y Y (Ka Y (kGP Y (fun g0 => Ki Y (Ka Y (Ki Y ?_))) (fun g0 => Kg Y (Kg Y (Kl Y (Ka Y (Ka Y (Kd (Kr (Er (ra := [.one (.d _)]) rfl ?_))))))))))))))))
 ·refine Kp (ok_impl_all_impl_Want l SmallW wantOk h1 hs.mem) ⟨rfl, ⟨rfl, rfl, ⟨_, Tryz.func259, rfl, by kernel_rfl⟩, ?_⟩, trivial⟩ Y Y Y Y Y ?_
  ·rintro _ R ⟨x, h, rfl, rfl⟩
   exact ok_impl_WantOk x h
  refine Kk Y (Ka Y (Ka Y (Kd (Kr (Er (ra := [.one (.d _)]) rfl ?_)))))
  rw [show wantsOk l = l.all wantOk by simp only [wantsOk]; rw [decide_eq_true (by omega)]; rfl]
 ·rw [show wantsOk l = false by simp only [wantsOk]; rw [decide_eq_false (by omega)]; rfl]

def c_impl_Msg_shaped : C := (.g (.o 0 1 (.box 1 (.t 0)) (.o 1 2 (.mov (.v (.bool false))) .done)) (.seq (.g (.o 0 3 (.fad (.t 1) 0) (.o 1 4 (.load none (.t 3)) (.o 2 5 (.call 5 121 [(.t 4), (.i 0), (.i 65535)]) (.o 3 6 (.un .not (.t 5)) (.o 4 7 (.mov (.t 6)) (.op 5 [] (some 8) (some (7, false)) false (.fad (.t 1) 4) (.op 6 [] (some 9) (some (7, false)) false (.load none (.t 8)) (.op 7 [] (some 10) (some (7, false)) false (.call 10 135 [(.t 9)]) (.op 8 [] (some 11) (some (7, false)) false (.un .not (.t 10)) (.o 9 12 (.pick (.t 7) (.v (.bool true)) (.t 11)) (.o 10 13 (.mov (.t 12)) (.op 11 [] (some 14) (some (13, false)) false (.fad (.t 1) 5) (.op 12 [] (some 15) (some (13, false)) false (.load none (.t 14)) (.op 13 [] (some 16) (some (13, false)) false (.len (.t 15)) (.op 14 [] (some 17) (some (13, false)) false (.bin .neq (.t 16) (.i 1)) (.o 15 18 (.pick (.t 13) (.v (.bool true)) (.t 17)) (.o 16 19 (.mov (.t 18)) (.op 17 [] (some 20) (some (19, false)) false (.fad (.t 1) 5) (.op 18 [] (some 21) (some (19, false)) false (.load none (.t 20)) (.op 19 [] (some 22) (some (19, false)) false (.iad 2 (.t 21) (.i 0)) (.op 20 [] (some 23) (some (19, false)) false (.fad (.t 22) 0) (.op 21 [] (some 24) (some (19, false)) false (.load (some 1) (.t 23)) (.op 22 [] (some 25) (some (19, false)) false (.call 25 90 [(.t 24)]) (.op 23 [] (some 26) (some (19, false)) false (.un .not (.t 25)) (.o 24 27 (.pick (.t 19) (.v (.bool true)) (.t 26)) (.o 25 28 (.mov (.t 27)) (.op 26 [] (some 29) (some (28, false)) false (.fad (.t 1) 5) (.op 27 [] (some 30) (some (28, false)) false (.load none (.t 29)) (.op 28 [] (some 31) (some (28, false)) false (.iad 2 (.t 30) (.i 0)) (.op 29 [] (some 32) (some (28, false)) false (.fad (.t 31) 1) (.op 30 [] (some 33) (some (28, false)) false (.load none (.t 32)) (.op 31 [] (some 34) (some (28, false)) false (.call 34 137 [(.t 33)]) (.op 32 [] (some 35) (some (28, false)) false (.un .not (.t 34)) (.o 33 36 (.pick (.t 28) (.v (.bool true)) (.t 35)) .done)))))))))))))))))))))))))))))))))) (.cond (.t 36) (.g (.o 0 2 (.mov (.v (.bool false))) .done) .ret) .skip)) (.seq (.g (.o 0 37 (.fad (.t 1) 6) (.o 1 38 (.load none (.t 37)) (.o 2 39 (.call 39 136 [(.t 38)]) (.o 3 40 (.un .not (.t 39)) (.o 4 41 (.mov (.t 40)) (.op 5 [] (some 42) (some (41, false)) false (.fad (.t 1) 7) (.op 6 [] (some 43) (some (41, false)) false (.load none (.t 42)) (.op 7 [] (some 44) (some (41, false)) false (.call 44 136 [(.t 43)]) (.op 8 [] (some 45) (some (41, false)) false (.un .not (.t 44)) (.o 9 46 (.pick (.t 41) (.v (.bool true)) (.t 45)) (.o 10 47 (.mov (.t 46)) (.op 11 [] (some 48) (some (47, false)) false (.fad (.t 1) 8) (.op 12 [] (some 49) (some (47, false)) false (.load none (.t 48)) (.op 13 [] (some 50) (some (47, false)) false (.call 50 136 [(.t 49)]) (.op 14 [] (some 51) (some (47, false)) false (.un .not (.t 50)) (.o 15 52 (.pick (.t 47) (.v (.bool true)) (.t 51)) (.o 16 53 (.mov (.t 52)) (.op 17 [] (some 54) (some (53, false)) false (.fad (.t 1) 9) (.op 18 [] (some 55) (some (53, false)) false (.load none (.t 54)) (.op 19 [] (some 56) (some (53, false)) false (.call 56 308 [(.t 55)]) (.op 20 [] (some 57) (some (53, false)) false (.un .not (.t 56)) (.o 21 58 (.pick (.t 53) (.v (.bool true)) (.t 57)) (.o 22 59 (.mov (.t 58)) (.op 23 [] (some 60) (some (59, false)) false (.fad (.t 1) 10) (.op 24 [] (some 61) (some (59, false)) false (.load none (.t 60)) (.op 25 [] (some 62) (some (59, false)) false (.call 62 308 [(.t 61)]) (.op 26 [] (some 63) (some (59, false)) false (.un .not (.t 62)) (.o 27 64 (.pick (.t 59) (.v (.bool true)) (.t 63)) .done)))))))))))))))))))))))))))) (.cond (.t 64) (.g (.o 0 2 (.mov (.v (.bool false))) .done) .ret) .skip)) (.seq (.g (.o 0 65 (.fad (.t 1) 2) (.o 1 66 (.load none (.t 65)) .done)) (.block 0 (.g (.o 0 68 (.bin .eql (.t 66) (.i 0)) (.o 1 67 (.mov (.t 68)) .done)) (.cond (.t 67) (.g (.o 0 69 (.fad (.t 1) 9) (.o 1 70 (.load none (.t 69)) (.o 2 71 (.len (.t 70)) (.o 3 72 (.fad (.t 1) 10) (.o 4 73 (.load none (.t 72)) (.o 5 74 (.len (.t 73)) (.o 6 75 (.bin .add (.t 71) (.t 74)) (.o 7 76 (.bin .eql (.t 75) (.i 0)) (.o 8 2 (.mov (.t 76)) .done))))))))) .ret) (.g (.o 0 78 (.bin .eql (.t 66) (.i 5)) (.o 1 77 (.mov (.t 78)) .done)) (.cond (.t 77) (.g (.o 0 79 (.fad (.t 1) 5) (.o 1 80 (.load none (.t 79)) (.o 2 81 (.iad 2 (.t 80) (.i 0)) (.o 3 82 (.fad (.t 81) 1) (.o 4 83 (.load none (.t 82)) (.o 5 84 (.bin .eql (.t 83) (.i 6)) (.o 6 85 (.mov (.t 84)) (.op 7 [] (some 86) (some (85, true)) false (.fad (.t 1) 6) (.op 8 [] (some 87) (some (85, true)) false (.load none (.t 86)) (.op 9 [] (some 88) (some (85, true)) false (.len (.t 87)) (.op 10 [] (some 89) (some (85, true)) false (.fad (.t 1) 7) (.op 11 [] (some 90) (some (85, true)) false (.load none (.t 89)) (.op 12 [] (some 91) (some (85, true)) false (.len (.t 90)) (.op 13 [] (some 92) (some (85, true)) false (.bin .add (.t 88) (.t 91)) (.op 14 [] (some 93) (some (85, true)) false (.fad (.t 1) 8) (.op 15 [] (some 94) (some (85, true)) false (.load none (.t 93)) (.op 16 [] (some 95) (some (85, true)) false (.len (.t 94)) (.op 17 [] (some 96) (some (85, true)) false (.bin .add (.t 92) (.t 95)) (.op 18 [] (some 97) (some (85, true)) false (.bin .eql (.t 96) (.i 0)) (.o 19 98 (.pick (.t 85) (.t 97) (.v (.bool false))) (.o 20 2 (.mov (.t 98)) .done))))))))))))))))))))) .ret) .skip)))))) (.g (.o 0 2 (.mov (.v (.bool false))) .done) .ret)))))
theorem dg_impl_Msg_shaped : Tryz.f260.body.bind (digC Tryz.prog Tryz.f260.ntmps []) = some c_impl_Msg_shaped := by kernel_rfl
theorem rs_impl_Msg_shaped : resSlots Tryz.prog Tryz.f260 = some [.s 2] := by kernel_rfl
theorem ok_impl_Msg_shaped (m : Msg) (hs : SmallM m) :
    FnOK Tryz.prog 260 [.agg (m.cells.map .d)] (fun ra _ => ra = [.one (.d (.sc (.bool (msgMay m))))]) := by
  refine FnOK.ofK Tryz.func260 (by kernel_rfl) dg_impl_Msg_shaped rs_impl_Msg_shaped rfl rfl ?_
  delta c_impl_Msg_shaped T.o X.i C.g
  obtain ⟨id, rp, op, ah, cd, qs, an, au, mo, pr, up⟩ := m
  have b1 := hs.q
  have b2 := hs.a
  have b3 := hs.b
  have b4 := hs.c
  have b5 := hs.p
  have b6 := hs.u
  simp only at b1 b2 b3 b4 b5 b6
  clear hs
  rcases qs with _ | ⟨q, _ | ⟨q2, qs⟩⟩
  · have hl : ([] : List Qn).length = 0 := rfl
    have w0 : ({ id := id, reply := rp, op := op, auth := ah, code := cd, qs := [], an := an, au := au, mo := mo, pr := pr, up := up } : Msg).an.length ≤ 4194304 := b2.len
    have w1 : ({ id := id, reply := rp, op := op, auth := ah, code := cd, qs := [], an := an, au := au, mo := mo, pr := pr, up := up } : Msg).au.length ≤ 4194304 := b3.len
    have w2 : ({ id := id, reply := rp, op := op, auth := ah, code := cd, qs := [], an := an, au := au, mo := mo, pr := pr, up := up } : Msg).mo.length ≤ 4194304 := b4.len
    have w3 : ({ id := id, reply := rp, op := op, auth := ah, code := cd, qs := [], an := an, au := au, mo := mo, pr := pr, up := up } : Msg).pr.length ≤ 4194304 := b5.len
    have w4 : ({ id := id, reply := rp, op := op, auth := ah, code := cd, qs := [], an := an, au := au, mo := mo, pr := pr, up := up } : Msg).up.length ≤ 4194304 := b6.len
    refine Kbc (kBox Y Y Y Y Y (Ka Y (Kdb (Kbc (Kf Y Y (Ke Y Y Y (Kp (ok_impl_within _ _ _) ⟨Y, Y, Y, trivial⟩ Y Y Y Y Y (Kw Y Y (Ka Y (kGN Y (fun g0 => Kg Y (Kg Y (Kg Y (Kg Y (Kk Y (Ka Y (Ka Y (Kg Y (Kg Y (Kg Y (Kg Y (Kk Y (Ka Y (Ka Y (Kg Y (Kg Y (Kg Y (Kg Y (Kg Y (Kg Y (Kg Y (Kk Y (Ka Y (Ka Y (Kg Y (Kg Y (Kg Y (Kg Y (Kg Y (Kg Y (Kg Y (Kk Y (Ka Y (Kd (kCondT Y (Kbc (Ka Y (Kd (Kr (Er (ra := [.one (.d _)]) rfl ?_)))))))))))))))))))))))))))))))))))))))) (fun g0 => Ki Y (Kf Y Y (Ki Y (Ke Y Y Y (Ki Y (Kp (ok_impl_isCode _) ⟨Y, trivial⟩ Y Y Y Y Y (Ki Y (Kw Y Y (Kl Y (Ka Y (Ka Y (kGN Y (fun g1 => Kg Y (Kg Y (Kg Y (Kg Y (Kk Y (Ka Y (Ka Y (Kg Y (Kg Y (Kg Y (Kg Y (Kg Y (Kg Y (Kg Y (Kk Y (Ka Y (Ka Y (Kg Y (Kg Y (Kg Y (Kg Y (Kg Y (Kg Y (Kg Y (Kk Y (Ka Y (Kd (kCondT Y (Kbc (Ka Y (Kd (Kr (Er (ra := [.one (.d _)]) rfl ?_))))))))))))))))))))))))))))))))) (fun g1 => Ki Y (Kf Y Y (Ki Y (Ke Y Y Y (Ki Y (kLen0 Y (Ki Y (Kj Y Y Y (Kl Y (Ka Y (Ka Y (Kg Y (Kg Y (Kg Y (Kg Y (Kg Y (Kg Y (Kg Y (Kk Y (Ka Y (Ka Y (Kg Y (Kg Y (Kg Y (Kg Y (Kg Y (Kg Y (Kg Y (Kk Y (Ka Y (Kd (kCondT Y (Kbc (Ka Y (Kd (Kr (Er (ra := [.one (.d _)]) rfl ?_)))))))))))))))))))))))))))))))))))))))))))))))))))))))))))
    all_goals
      refine congrArg (fun z : Bool => [RA.one (RV.d (DV.sc (Value.bool z)))]) ?_
      clear b1 b2 b3 b4 b5 b6
      simp only at *
      unfold msgMay
      rw [Bool.eq_iff_iff]
      constructor
      · intro e
        first
          | (cases e; done)
          | (simp_all; done)
          | (simp_all; omega)
      · intro e
        simp only [Bool.and_eq_true, decide_eq_true_eq] at e
        obtain ⟨⟨⟨⟨e1, e2⟩, ⟨e3, e4⟩, e5⟩, ⟨⟨⟨e6, e7⟩, e8⟩, e9⟩, e10⟩, e11⟩ := e
        first
          | omega
          | (simp_all; done)
          | (simp_all; omega)
  · have hl : [q].length = 1 := rfl
    have w0 : ({ id := id, reply := rp, op := op, auth := ah, code := cd, qs := [q], an := an, au := au, mo := mo, pr := pr, up := up } : Msg).an.length ≤ 4194304 := b2.len
    have w1 : ({ id := id, reply := rp, op := op, auth := ah, code := cd, qs := [q], an := an, au := au, mo := mo, pr := pr, up := up } : Msg).au.length ≤ 4194304 := b3.len
    have w2 : ({ id := id, reply := rp, op := op, auth := ah, code := cd, qs := [q], an := an, au := au, mo := mo, pr := pr, up := up } : Msg).mo.length ≤ 4194304 := b4.len
    have w3 : ({ id := id, reply := rp, op := op, auth := ah, code := cd, qs := [q], an := an, au := au, mo := mo, pr := pr, up := up } : Msg).pr.length ≤ 4194304 := b5.len
    have w4 : ({ id := id, reply := rp, op := op, auth := ah, code := cd, qs := [q], an := an, au := au, mo := mo, pr := pr, up := up } : Msg).up.length ≤ 4194304 := b6.len
    have hq := b1.mem q (List.mem_cons_self ..)
    have q1 := hq.len
    have q2 := hq.mem
    refine Kbc (kBox Y Y Y Y Y (Ka Y (Kdb (Kbc (Kf Y Y (Ke Y Y Y (Kp (ok_impl_within _ _ _) ⟨Y, Y, Y, trivial⟩ Y Y Y Y Y (Kw Y Y (Ka Y (kGN Y (fun g0 => Kg Y (Kg Y (Kg Y (Kg Y (Kk Y (Ka Y (Ka Y (Kg Y (Kg Y (Kg Y (Kg Y (Kk Y (Ka Y (Ka Y (Kg Y (Kg Y (Kg Y (Kg Y (Kg Y (Kg Y (Kg Y (Kk Y (Ka Y (Ka Y (Kg Y (Kg Y (Kg Y (Kg Y (Kg Y (Kg Y (Kg Y (Kk Y (Ka Y (Kd (kCondT Y (Kbc (Ka Y (Kd (Kr (Er (ra := [.one (.d _)]) rfl ?_)))))))))))))))))))))))))))))))))))))))) (fun g0 => Ki Y (Kf Y Y (Ki Y (Ke Y Y Y (Ki Y (Kp (ok_impl_isCode _) ⟨Y, trivial⟩ Y Y Y Y Y (Ki Y (Kw Y Y (Kl Y (Ka Y (Ka Y (kGN Y (fun g1 => Kg Y (Kg Y (Kg Y (Kg Y (Kk Y (Ka Y (Ka Y (Kg Y (Kg Y (Kg Y (Kg Y (Kg Y (Kg Y (Kg Y (Kk Y (Ka Y (Ka Y (Kg Y (Kg Y (Kg Y (Kg Y (Kg Y (Kg Y (Kg Y (Kk Y (Ka Y (Kd (kCondT Y (Kbc (Ka Y (Kd (Kr (Er (ra := [.one (.d _)]) rfl ?_))))))))))))))))))))))))))))))))) (fun g1 => Ki Y (Kf Y Y (Ki Y (Ke Y Y Y (Ki Y (Kq Y Y (Ki Y (Kj Y Y Y (Kl Y (Ka Y (Ka Y (Ki Y (Kf Y Y (Ki Y (Ke Y Y Y (Ki Y (kIadR (m := 0) Y Y Y prl (Ki Y (kFadD Y (Ki Y (Ky Y Y (Ki Y (Kp (ok_impl_NameOk _ prx prx) ⟨⟨⟨Y, trivial⟩, leb⟩, trivial⟩ Y Y Y Y Y (Ki Y (Kw Y Y (Kl Y (Ka Y (Ka Y (kGN Y (fun g2 => Kg Y (Kg Y (Kg Y (Kg Y (Kg Y (Kg Y (Kg Y (Kk Y (Ka Y (Kd (kCondT Y (Kbc (Ka Y (Kd (Kr (Er (ra := [.one (.d _)]) rfl ?_)))))))))))))))) (fun g2 => Ki Y (Kf Y Y (Ki Y (Ke Y Y Y (Ki Y (kIadR (m := 0) Y Y Y prl (Ki Y (kFadD Y (Ki Y (Ky Y Y (Ki Y (Kp (ok_impl_isAsked _) ⟨Y, trivial⟩ Y Y Y Y Y (Ki Y (Kw Y Y (Kl Y (Ka Y (Kd (kCondN Y (fun g3 => Kbc (Ka Y (Kd (Kr (Er (ra := [.one (.d _)]) rfl ?_))))) (fun g3 => Kn (Kb (Kbc (Kf Y Y (Ke Y Y Y (Kp (ok_impl_areRrs _ prx) ⟨Y, trivial⟩ Y Y Y Y Y (Kw Y Y (Ka Y (kGN Y (fun g4 => Kg Y (Kg Y (Kg Y (Kg Y (Kk Y (Ka Y (Ka Y (Kg Y (Kg Y (Kg Y (Kg Y (Kk Y (Ka Y (Ka Y (Kg Y (Kg Y (Kg Y (Kg Y (Kk Y (Ka Y (Ka Y (Kg Y (Kg Y (Kg Y (Kg Y (Kk Y (Ka Y (Kd (kCondT Y (Kbc (Ka Y (Kd (Kr (Er (ra := [.one (.d _)]) rfl ?_)))))))))))))))))))))))))))))))))) (fun g4 => Ki Y (Kf Y Y (Ki Y (Ke Y Y Y (Ki Y (Kp (ok_impl_areRrs _ prx) ⟨Y, trivial⟩ Y Y Y Y Y (Ki Y (Kw Y Y (Kl Y (Ka Y (Ka Y (kGN Y (fun g5 => Kg Y (Kg Y (Kg Y (Kg Y (Kk Y (Ka Y (Ka Y (Kg Y (Kg Y (Kg Y (Kg Y (Kk Y (Ka Y (Ka Y (Kg Y (Kg Y (Kg Y (Kg Y (Kk Y (Ka Y (Kd (kCondT Y (Kbc (Ka Y (Kd (Kr (Er (ra := [.one (.d _)]) rfl ?_))))))))))))))))))))))))))) (fun g5 => Ki Y (Kf Y Y (Ki Y (Ke Y Y Y (Ki Y (Kp (ok_impl_areRrs _ prx) ⟨Y, trivial⟩ Y Y Y Y Y (Ki Y (Kw Y Y (Kl Y (Ka Y (Ka Y (kGN Y (fun g6 => Kg Y (Kg Y (Kg Y (Kg Y (Kk Y (Ka Y (Ka Y (Kg Y (Kg Y (Kg Y (Kg Y (Kk Y (Ka Y (Kd (kCondT Y (Kbc (Ka Y (Kd (Kr (Er (ra := [.one (.d _)]) rfl ?_)))))))))))))))))))) (fun g6 => Ki Y (Kf Y Y (Ki Y (Ke Y Y Y (Ki Y (Kp (ok_impl_areWants _ prx) ⟨Y, trivial⟩ Y Y Y Y Y (Ki Y (Kw Y Y (Kl Y (Ka Y (Ka Y (kGN Y (fun g7 => Kg Y (Kg Y (Kg Y (Kg Y (Kk Y (Ka Y (Kd (kCondT Y (Kbc (Ka Y (Kd (Kr (Er (ra := [.one (.d _)]) rfl ?_))))))))))))) (fun g7 => Ki Y (Kf Y Y (Ki Y (Ke Y Y Y (Ki Y (Kp (ok_impl_areWants _ prx) ⟨Y, trivial⟩ Y Y Y Y Y (Ki Y (Kw Y Y (Kl Y (Ka Y (Kd (kCondN Y (fun g8 => Kbc (Ka Y (Kd (Kr (Er (ra := [.one (.d _)]) rfl ?_))))) (fun g8 => Kn (Kb (Kbc (Kf Y Y (Ke Y Y Y (Kd (Kt (Kbc (Kj Y Y Y (Ka Y (Kd (Km Y (fun g9 => Kbc (Kf Y Y (Ke Y Y Y (Kq Y Y (Kf Y Y (Ke Y Y Y (Kq Y Y (kAdd Y Y om (Kj Y Y Y (Ka Y (Kd (Kr (Er (ra := [.one (.d _)]) rfl ?_))))))))))))) (fun g9 => Kbc (Kj Y Y Y (Ka Y (Kd (Km Y (fun g10 => Kbc (Kf Y Y (Ke Y Y Y (kIadR (m := 0) Y Y Y prl (kFadD Y (Ky Y Y (Kj Y Y Y (Ka Y (kGP Y (fun g11 => Ki Y (Kf Y Y (Ki Y (Ke Y Y Y (Ki Y (Kq Y Y (Ki Y (Kf Y Y (Ki Y (Ke Y Y Y (Ki Y (Kq Y Y (Ki Y (kAdd Y Y om (Ki Y (Kf Y Y (Ki Y (Ke Y Y Y (Ki Y (Kq Y Y (Ki Y (kAdd Y Y om (Ki Y (Kj Y Y Y (Kk Y (Ka Y (Ka Y (Kd (Kr (Er (ra := [.one (.d _)]) rfl ?_)))))))))))))))))))))))))))))) (fun g11 => Kg Y (Kg Y (Kg Y (Kg Y (Kg Y (Kg Y (Kg Y (Kg Y (Kg Y (Kg Y (Kg Y (Kg Y (Kl Y (Ka Y (Ka Y (Kd (Kr (Er (ra := [.one (.d _)]) rfl ?_))))))))))))))))))))))))))) (fun g10 => Kn (Kv (Kbc (Ka Y (Kd (Kr (Er (ra := [.one (.d _)]) rfl ?_))))))))))))))))))))))))))))))))))))))))))))))))))))))))))))))))))))))))))))))))))))))))))))))))))))))))))))))))))))))))))))))))))))))))))))))))))))))
    all_goals
      refine congrArg (fun z : Bool => [RA.one (RV.d (DV.sc (Value.bool z)))]) ?_
      clear b1 b2 b3 b4 b5 b6
      simp only at *
      unfold msgMay
      rw [Bool.eq_iff_iff]
      constructor
      · intro e
        first
          | (cases e; done)
          | (simp_all; done)
          | (simp_all; omega)
          | (have e := eq_of_beq e
             have hp : pr = [] := List.eq_nil_of_length_eq_zero (by omega)
             have hu : up = [] := List.eq_nil_of_length_eq_zero (by omega)
             subst hp hu; simp_all; done)
          | (have e := eq_of_beq e
             have ha : an = [] := List.eq_nil_of_length_eq_zero (by omega)
             have hb : au = [] := List.eq_nil_of_length_eq_zero (by omega)
             have hc : mo = [] := List.eq_nil_of_length_eq_zero (by omega)
             subst ha hb hc; simp_all; done)
      · intro e
        simp only [Bool.and_eq_true, decide_eq_true_eq] at e
        obtain ⟨⟨⟨⟨e1, e2⟩, ⟨e3, e4⟩, e5⟩, ⟨⟨⟨e6, e7⟩, e8⟩, e9⟩, e10⟩, e11⟩ := e
        first
          | omega
          | (simp_all; done)
          | (simp_all; omega)
  · have hl : (q :: q2 :: qs).length = qs.length + 2 := rfl
    have w0 : ({ id := id, reply := rp, op := op, auth := ah, code := cd, qs := q :: q2 :: qs, an := an, au := au, mo := mo, pr := pr, up := up } : Msg).an.length ≤ 4194304 := b2.len
    have w1 : ({ id := id, reply := rp, op := op, auth := ah, code := cd, qs := q :: q2 :: qs, an := an, au := au, mo := mo, pr := pr, up := up } : Msg).au.length ≤ 4194304 := b3.len
    have w2 : ({ id := id, reply := rp, op := op, auth := ah, code := cd, qs := q :: q2 :: qs, an := an, au := au, mo := mo, pr := pr, up := up } : Msg).mo.length ≤ 4194304 := b4.len
    have w3 : ({ id := id, reply := rp, op := op, auth := ah, code := cd, qs := q :: q2 :: qs, an := an, au := au, mo := mo, pr := pr, up := up } : Msg).pr.length ≤ 4194304 := b5.len
    have w4 : ({ id := id, reply := rp, op := op, auth := ah, code := cd, qs := q :: q2 :: qs, an := an, au := au, mo := mo, pr := pr, up := up } : Msg).up.length ≤ 4194304 := b6.len
    refine Kbc (kBox Y Y Y Y Y (Ka Y (Kdb (Kbc (Kf Y Y (Ke Y Y Y (Kp (ok_impl_within _ _ _) ⟨Y, Y, Y, trivial⟩ Y Y Y Y Y (Kw Y Y (Ka Y (kGN Y (fun g0 => Kg Y (Kg Y (Kg Y (Kg Y (Kk Y (Ka Y (Ka Y (Kg Y (Kg Y (Kg Y (Kg Y (Kk Y (Ka Y (Ka Y (Kg Y (Kg Y (Kg Y (Kg Y (Kg Y (Kg Y (Kg Y (Kk Y (Ka Y (Ka Y (Kg Y (Kg Y (Kg Y (Kg Y (Kg Y (Kg Y (Kg Y (Kk Y (Ka Y (Kd (kCondT Y (Kbc (Ka Y (Kd (Kr (Er (ra := [.one (.d _)]) rfl ?_)))))))))))))))))))))))))))))))))))))))) (fun g0 => Ki Y (Kf Y Y (Ki Y (Ke Y Y Y (Ki Y (Kp (ok_impl_isCode _) ⟨Y, trivial⟩ Y Y Y Y Y (Ki Y (Kw Y Y (Kl Y (Ka Y (Ka Y (kGN Y (fun g1 => Kg Y (Kg Y (Kg Y (Kg Y (Kk Y (Ka Y (Ka Y (Kg Y (Kg Y (Kg Y (Kg Y (Kg Y (Kg Y (Kg Y (Kk Y (Ka Y (Ka Y (Kg Y (Kg Y (Kg Y (Kg Y (Kg Y (Kg Y (Kg Y (Kk Y (Ka Y (Kd (kCondT Y (Kbc (Ka Y (Kd (Kr (Er (ra := [.one (.d _)]) rfl ?_))))))))))))))))))))))))))))))))) (fun g1 => Ki Y (Kf Y Y (Ki Y (Ke Y Y Y (Ki Y (Kq Y Y (Ki Y (Kj Y Y Y (Kl Y (Ka Y (Ka Y (Kg Y (Kg Y (Kg Y (Kg Y (Kg Y (Kg Y (Kg Y (Kk Y (Ka Y (Ka Y (Kg Y (Kg Y (Kg Y (Kg Y (Kg Y (Kg Y (Kg Y (Kk Y (Ka Y (Kd (kCondT Y (Kbc (Ka Y (Kd (Kr (Er (ra := [.one (.d _)]) rfl ?_)))))))))))))))))))))))))))))))))))))))))))))))))))))))))))
    all_goals
      refine congrArg (fun z : Bool => [RA.one (RV.d (DV.sc (Value.bool z)))]) ?_
      clear b1 b2 b3 b4 b5 b6
      simp only at *
      unfold msgMay
      rw [Bool.eq_iff_iff]
      constructor
      · intro e
        first
          | (cases e; done)
          | (simp_all; done)
          | (simp_all; omega)
      · intro e
        simp only [Bool.and_eq_true, decide_eq_true_eq] at e
        obtain ⟨⟨⟨⟨e1, e2⟩, ⟨e3, e4⟩, e5⟩, ⟨⟨⟨e6, e7⟩, e8⟩, e9⟩, e10⟩, e11⟩ := e
        first
          | omega
          | (simp_all; done)
          | (simp_all; omega)

def c_impl_two : C := (.g (.o 0 2 (.mov (.n 1)) .done) (.g (.o 0 3 (.mov (.t 0)) (.o 1 4 (.bin .shr (.t 3) (.v (.int .u64 8))) (.o 2 5 (.conv .u8 (.t 4)) (.o 3 6 (.mov (.t 0)) (.o 4 7 (.conv .u8 (.t 6)) (.o 5 8 (.lit 8 1 [(.v (.int .u8 0))] 2 [(0, 1, (.t 5)), (1, 1, (.t 7))]) (.o 6 2 (.mov (.t 8)) .done))))))) .ret))
theorem dg_impl_two : Tryz.f261.body.bind (digC Tryz.prog Tryz.f261.ntmps []) = some c_impl_two := by kernel_rfl
theorem rs_impl_two : resSlots Tryz.prog Tryz.f261 = some [.s 2] := by kernel_rfl
theorem ok_impl_two (n : Int) :
  FnOK Tryz.prog 261 [.one (.d (.sc (.int .i64 n)))] (fun ra _ => ra = [.one (.own true (encB (w2 n)))]) := by
 refine FnOK.ofK Tryz.func261 (by kernel_rfl) dg_impl_two rs_impl_two rfl rfl ?_
 delta c_impl_two T.o X.i C.g
 refine Kbc (Ka Y (Kdb (Kc (Ka Y (kShr (m := 8) Y Y Y (kConvU8 Y (Ka Y (kConvU8 Y (kLit Y Y Y Y (Ka Y (Kd (Kr (Er (ra := [.one (.own true _)]) rfl rfl)))))))))))))

def c_impl_Name_wire : C := (.g (.o 0 1 (.box 1 (.t 0)) (.o 1 2 (.mov (.n 1)) .done)) (.g (.o 0 6 (.lit 6 1 [(.v (.int .u8 0))] 0 []) (.o 1 3 (.mov (.t 6)) .done)) (.seq (.g (.o 0 7 (.fad (.t 1) 0) (.o 1 8 (.load none (.t 7)) (.o 2 9 (.len (.t 8)) (.o 3 10 (.mov (.i 0)) .done)))) (.block 0 (.loop (.g (.o 0 11 (.bin .lss (.t 10) (.t 9)) .done) (.seq (.cond (.t 11) .skip (.exit 0)) (.seq (.block 1 (.g (.o 0 12 (.iad 1 (.t 8) (.t 10)) (.o 1 13 (.load none (.t 12)) (.o 2 5 (.mov (.t 13)) .done))) (.reg false (.o 0 14 (.mov (.t 3)) (.o 1 15 (.mov (.t 5)) (.o 2 16 (.len (.t 15)) (.o 3 17 (.conv .u8 (.t 16)) (.o 4 18 (.lit 18 1 [(.v (.int .u8 0))] 1 [(0, 1, (.t 17))]) (.o 5 19 (.app 19 1 1 (.t 14) (.t 18)) (.o 6 20 (.mov (.t 5)) (.o 7 21 (.app 21 1 1 (.t 19) (.t 20)) (.o 8 3 (.mov (.t 21)) .done)))))))))))) (.reg false (.o 0 22 (.bin .add (.t 10) (.i 1)) (.o 1 10 (.mov (.t 22)) .done))))))))) (.g (.o 0 23 (.mov (.t 3)) (.o 1 24 (.lit 24 1 [(.v (.int .u8 0))] 1 [(0, 1, (.v (.int .u8 0)))]) (.o 2 25 (.app 25 1 1 (.t 23) (.t 24)) (.o 3 2 (.mov (.t 25)) .done)))) .ret))))
theorem dg_impl_Name_wire : Tryz.f247.body.bind (digC Tryz.prog Tryz.f247.ntmps []) = some c_impl_Name_wire := by kernel_rfl
theorem rs_impl_Name_wire : resSlots Tryz.prog Tryz.f247 = some [.s 2] := by kernel_rfl
theorem ok_impl_Name_wire (a : List (List UInt8)) (hs : SmallBB a) :
  FnOK Tryz.prog 247 [.agg [.d (encBB a)]] (fun ra _ => ra = [.one (.own true (encB (wireN a)))]) := by
 refine FnOK.ofK Tryz.func247 (by kernel_rfl) dg_impl_Name_wire rs_impl_Name_wire rfl rfl ?_
 delta c_impl_Name_wire T.o X.i C.g
 have h1 := hs.len
 have h2 := hs.flat
 refine Kbc (kBox Y Y Y Y Y (Ka Y (Kdb (Kc (kLit Y Y Y Y (Ka Y (Kdb (Kbc (Kf Y Y (Ke Y Y Y (Kq Y Y (Ka Y (Kd (Kt ?_))))))))))))))
 refine kLoop (α := { i : Nat // i ≤ a.length }) (fun y => ⟨tabSl [(3, .c (.arr (rid 6 0) 1)), (8, .dv (encBB a)), (9, .i a.length), (10, .i y.1)], obTab 1 [(rid 6 0, ⟨1, 0, .arr true (encB (wireL (a.take y.1)))⟩)], []⟩) (fun y => a.length - y.1) ⟨0, by simp⟩ .normA ?_
 rintro ⟨i, hi⟩
 simp only
 have hl := wireL_le a i
 rcases Nat.lt_or_ge i a.length with hlt | hge
 ·have hst := wireL_take a i hlt
  have hm := hs.mem _ (List.getElem_mem hlt)
  have hlen : (wireL (a.take i) ++ [u8 a[i].length]).length = (wireL (a.take i)).length + 1 := by simp
  refine Kbc (Kj Y Y Y (Kdb (Km Y (fun g0 => Kn (Kb (Kt (Kbc (kIadR Y Y Y om (Ky Y Y (Ka Y (Kd (Kc (Ka Y (Ka Y (Kq Y Y (kConvU8 Y (kLit Y Y Y Y (kAppR1 Y Y Y Y Y Y Y Y om (Ka Y (kAppR Y Y Y (src_encB _ _) rfl rfl rfl rfl om (Ka Y (Kd (Kv (Kc (kAdd Y Y om (Ka Y (Kd ?_)))))))))))))))))))))))) (fun g0 => om))))
  refine kInv ⟨⟨i + 1, by omega⟩, by simp only; omega, ?_⟩
  simp only [hst]
  exact .normA
 ·have he : wireN a = wireL (a.take i) ++ [0] := by rw [show i = a.length by omega, List.take_length]; rfl
  rw [he]
  refine Kbc (Kj Y Y Y (Kdb (Km Y (fun g0 => om) (fun g0 => kExit (kExC (kExI (kExB (Kbc (Ka Y (kLit Y Y Y Y (kAppR1 (z := (0 : UInt8)) rfl rfl rfl rfl rfl rfl rfl rfl om (Ka Y (Kd (Kr (Er (ra := [.one (.own true _)]) rfl rfl)))))))))))))))

theorem ok_slices_Grow_Lbyte_byte (n : Nat) (hn : n ≤ 1099511627776) : FnOK Tryz.prog 264 [.one (.arr true true (.sl 1 [])), .one (.d (.sc (.int .i64 n)))] (fun ra _ => ra = [.one (.own true (.sl 1 []))]) := by
 refine FnOK.ofWalkGrow Tryz.func264 rfl (by kernel_rfl) fun w v hv => ?_
 have hs : (Tryz.prog.info? 5).map (fun i => (i.size, i.bytes, i.zero)) = some (1, 1, some (.int .u8 0)) := by kernel_rfl
 obtain ⟨i0, hi0⟩ : ∃ i0, Tryz.prog.info? 5 = some i0 := by
  cases h : Tryz.prog.info? 5 with
  | none => rw [h] at hs; cases hs
  | some i => exact ⟨i, rfl⟩
 rw [hi0] at hs
 simp only [Option.map_some, Option.some.injEq, Prod.mk.injEq] at hs
 obtain ⟨s1, s2, s3⟩ := hs
 have t22 : Tryz.prog.underlying 28 = some (.slice 5) := by kernel_rfl
 have t3 : Tryz.prog.underlying 3 = some (.int .i64) := by kernel_rfl
 obtain ⟨base, c, cs, rfl, hnil, hcl, hmax, hcs⟩ : ∃ (base : Option Addr) (c : Nat) (cs : List Value), v = .slice base 0 c ∧ (base = none → c = 0) ∧ cs.length = c ∧ c ≤ maxLen ∧ (∀ a, base = some a → ∀ j v, cs[j]? = some v → w.cell? (a.add j) = some v) := by
  rcases hv with rfl | ⟨b, c, cur, e0, rfl, hb, hmax, hcur⟩
  ·exact ⟨none, 0, [], rfl, fun _ => rfl, rfl, Nat.zero_le _, fun a ha => by cases ha⟩
  ·refine ⟨some ⟨b, 0, none⟩, c, cur.toList, rfl, fun h => (by cases h), by simpa using hcur, hmax, fun a ha j v hj => ?_⟩
   cases ha
   rw [addr_add, Nat.zero_add]
   simp only [World.cell?, hb]
   simpa using hj
 have hc63 : c ≤ 9223372036854775807 := by simpa [maxLen] using hmax
 have h1 : ¬ ((n : Int) < 0) := by omega
 have h2 : Go.RowKit.wrap64 ((c : Int) - ((0 : Nat) : Int)) = (c : Int) - ((0 : Nat) : Int) := by unfold Go.RowKit.wrap64; omega
 have h3 : Go.RowKit.wrap64 ((n : Int) - ((c : Int) - ((0 : Nat) : Int))) = (n : Int) - ((c : Int) - ((0 : Nat) : Int)) := by unfold Go.RowKit.wrap64; omega
 by_cases hroom : n ≤ c
 ·have h4 : ¬ ((n : Int) - ((c : Int) - ((0 : Nat) : Int)) > 0) := by omega
  have fin : Calls Tryz.prog 264 #[.slice base 0 c, .int .i64 n] w fun e w' => e = .returned (.slice base 0 c) ∧ w' = w := by
   go_enter Tryz.func264, Tryz.ntmps264
   go_wp2
   go_ret
   exact ⟨rfl, rfl⟩
  exact fin.mono fun e w' h => .inl h
 ·have h4 : (n : Int) - ((c : Int) - ((0 : Nat) : Int)) > 0 := by omega
  have hold : (Builtin.firstCells i0.size c (.slice base c c)).run Tryz.prog w.drew = .ok cs.toArray w.drew := by
   cases base with
   | none =>
    have h0 := hnil rfl
    subst h0
    have hc0 : cs = [] := List.length_eq_zero_iff.1 (by simpa using hcl)
    rw [hc0]
    exact run_firstCells_none w.drew i0.size 0 0 0
   | some a => exact run_firstCells_some w.drew i0.size c a c c cs (by rw [s1, Nat.mul_one]; exact hcl) (fun j v hj => hcs a rfl j v hj)
  have hrz : ∀ ty, (Builtin.append_ #[28, 3] ty #[.slice base c c, .int .i64 ((n : Int) - ((c : Int) - ((0 : Nat) : Int)))]).run Tryz.prog w =
    .ok (.slice (some ⟨w.heap.size, 0, none⟩) n (grownCap w n c 5)) (w.drew.alloc (.cells (cs.toArray ++ Builtin.zeroCells (Value.int .u8 0).cells (n - c) ++ Builtin.zeroCells (Value.int .u8 0).cells (grownCap w n c 5 - n)) 5)) := fun ty => by
   have h := Lib.run_append_grow_zeros w 28 3 ty 5 i0 (.int .u8 0) .i64 .i64 t22 t3 hi0 s3 base c c cs hold (n - c) (by omega) (by omega) (by omega) (by omega) (by rw [s2]; omega) (by rw [show c + (n - c) = n by omega]; exact growslice_fits (by omega) (by rw [s2]; omega))
   rw [show c + (n - c) = n by omega] at h
   rw [show (n : Int) - ((c : Int) - ((0 : Nat) : Int)) = ((n - c : Nat) : Int) by omega]
   exact h
  have hGn : n ≤ grownCap w n c 5 := grownCap_ge w _ _ _
  have hGm : grownCap w n c 5 ≤ maxLen := grownCap_le_maxLen w n c 5 (by unfold maxLen; omega)
  obtain ⟨G, hG⟩ : ∃ G, G = grownCap w n c 5 := ⟨_, rfl⟩
  rw [← hG] at hrz hGn hGm
  have hG63 : G ≤ 9223372036854775807 := by unfold maxLen at hGm; omega
  have fin : Calls Tryz.prog 264 #[.slice base 0 c, .int .i64 n] w fun e w' => e = .returned (.slice (some ⟨w.heap.size, 0, none⟩) 0 G) ∧ w' = w.drew.alloc (.cells (cs.toArray ++ Builtin.zeroCells (Value.int .u8 0).cells (n - c) ++ Builtin.zeroCells (Value.int .u8 0).cells (G - n)) 5) := by
   clear hold hG hcs hGm
   go_enter Tryz.func264, Tryz.ntmps264
   cases base with
   | none =>
    have h0 := hnil rfl
    subst h0
    go_wp2_with (at_builtin; refine Lib.wpList_append_run _ rfl _ _ _ _ rfl _ _ rfl rfl _ _ (hrz _) ?_)
    all_goals (go_ret; exact ⟨rfl, rfl⟩)
   | some a =>
    obtain ⟨ab, ao, asp⟩ := a
    go_wp2_with (at_builtin; refine Lib.wpList_append_run _ rfl _ _ _ _ rfl _ _ rfl rfl _ _ (hrz _) ?_)
    all_goals (go_ret; exact ⟨rfl, rfl⟩)
  refine fin.mono fun e w' h => .inr ?_
  obtain ⟨rfl, rfl⟩ := h
  refine ⟨G, cs.toArray ++ Builtin.zeroCells (Value.int .u8 0).cells (n - c) ++ Builtin.zeroCells (Value.int .u8 0).cells (G - n), 5, rfl, ⟨(Go.RowKit.Below.refl _ w).drew.alloc (Nat.le_refl _) _, Nat.le_succ _⟩, (by show (w.heap.push _)[w.heap.size]? = _; exact Array.getElem?_push_size), hGm, ?_⟩
  have hz : ∀ n, (Builtin.zeroCells (Value.int .u8 0).cells n).size = n := fun n => by rw [size_zeroCells]; exact Nat.mul_one n
  simp only [Array.size_append, List.size_toArray, hz, hcl]
  omega

def c_slices_Concat_Lbyte_byte : C := (.g (.o 0 2 (.mov (.n 1)) .done) (.g (.o 0 3 (.mov (.i 0)) .done) (.seq (.g (.o 0 9 (.mov (.t 0)) (.o 1 10 (.len (.t 9)) (.o 2 11 (.mov (.i 0)) .done))) (.block 0 (.loop (.g (.o 0 12 (.bin .lss (.t 11) (.t 10)) .done) (.seq (.cond (.t 12) .skip (.exit 0)) (.seq (.block 1 (.g (.o 0 13 (.iad 1 (.t 9) (.t 11)) (.o 1 14 (.load none (.t 13)) (.o 2 5 (.mov (.t 14)) .done))) (.g (.o 0 15 (.mov (.t 3)) (.o 1 16 (.mov (.t 5)) (.o 2 17 (.len (.t 16)) (.o 3 18 (.bin .add (.t 15) (.t 17)) (.o 4 3 (.mov (.t 18)) .done))))) (.g (.o 0 19 (.mov (.t 3)) (.o 1 20 (.bin .lss (.t 19) (.i 0)) .done)) (.cond (.t 20) (.reg false (.op 0 [] (some 21) none false .bad (.op 1 [] none none false .bad .done))) .skip))))) (.reg false (.o 0 22 (.bin .add (.t 11) (.i 1)) (.o 1 11 (.mov (.t 22)) .done))))))))) (.g (.o 0 23 (.mov (.t 3)) (.o 1 24 (.call 24 264 [(.n 1), (.t 23)]) (.o 2 6 (.mov (.t 24)) .done))) (.seq (.g (.o 0 25 (.mov (.t 0)) (.o 1 26 (.len (.t 25)) (.o 2 27 (.mov (.i 0)) .done))) (.block 2 (.loop (.g (.o 0 28 (.bin .lss (.t 27) (.t 26)) .done) (.seq (.cond (.t 28) .skip (.exit 2)) (.seq (.block 3 (.g (.o 0 29 (.iad 1 (.t 25) (.t 27)) (.o 1 30 (.load none (.t 29)) (.o 2 8 (.mov (.t 30)) .done))) (.reg false (.o 0 31 (.mov (.t 6)) (.o 1 32 (.mov (.t 8)) (.o 2 33 (.app 33 1 1 (.t 31) (.t 32)) (.o 3 6 (.mov (.t 33)) .done))))))) (.reg false (.o 0 34 (.bin .add (.t 27) (.i 1)) (.o 1 27 (.mov (.t 34)) .done))))))))) (.g (.o 0 35 (.mov (.t 6)) (.o 1 2 (.mov (.t 35)) .done)) .ret))))))
theorem dg_slices_Concat_Lbyte_byte : Tryz.f201.body.bind (digC Tryz.prog Tryz.f201.ntmps []) = some c_slices_Concat_Lbyte_byte := by kernel_rfl
theorem rs_slices_Concat_Lbyte_byte : resSlots Tryz.prog Tryz.f201 = some [.s 2] := by kernel_rfl
theorem ok_slices_Concat_Lbyte_byte (a : List (List UInt8)) (ha : a.length ≤ 4194304) (hf : a.flatten.length ≤ 1099511627776) :
  FnOK Tryz.prog 201 [.one (.d (encBB a))] (fun ra _ => ra = [.one (.own true (encB a.flatten))]) := by
 refine FnOK.ofK Tryz.func201 (by kernel_rfl) dg_slices_Concat_Lbyte_byte rs_slices_Concat_Lbyte_byte rfl rfl ?_
 delta c_slices_Concat_Lbyte_byte T.o X.i C.g
 refine Kbc (Ka Y (Kdb (Kc (Ka Y (Kdb (Kbc (Ka Y (Kq Y Y (Ka Y (Kd (Kt ?_)))))))))))
 refine kLoop (α := { i : Nat // i ≤ a.length }) (fun y => ⟨tabSl [(0, .dv (encBB a)), (3, .i (a.take y.1).flatten.length), (9, .dv (encBB a)), (10, .i a.length), (11, .i y.1)], obTab 1 [], []⟩) (fun y => a.length - y.1) ⟨0, by simp⟩ .normA ?_
 rintro ⟨i, hi⟩
 simp only
 have hle := flat_le a i
 rcases Nat.lt_or_ge i a.length with hlt | hge
 ·have hst : (a.take (i + 1)).flatten = (a.take i).flatten ++ a[i] := by rw [← List.take_append_getElem hlt, List.flatten_append]; simp
  have hle2 := flat_le a (i + 1)
  have hle3 : (a.take (i + 1)).flatten.length = (a.take i).flatten.length + a[i].length := by rw [hst, List.length_append]
  refine Kbc (Kj Y Y Y (Kdb (Km Y (fun g0 => Kn (Kb (Kt (Kbc (kIadR Y Y Y prl (Ky Y Y (Ka Y (Kdb (Kc (Ka Y (Ka Y (Kq Y Y (kAdd Y Y om (Ka Y (Kdb (Kc (Ka Y (Kj Y Y Y (Kd (kCondF Y (Kn (Kv (Kc (kAdd Y Y om (Ka Y (Kd ?_)))))))))))))))))))))))))) (fun g0 => om))))
  refine kInv ⟨⟨i + 1, hlt⟩, by simp only; omega, ?_⟩
  simp only [hle3]
  exact .normA
 ·have e : i = a.length := by omega
  subst e
  rw [List.take_length]
  refine Kbc (Kj Y Y Y (Kdb (Km Y (fun g0 => om) (fun g0 => kExit (kExC (kExI (kExB (Kbc (Ka Y (Ku true (ok_slices_Grow_Lbyte_byte _ prx) ⟨⟨rfl, rfl⟩, rfl, trivial⟩ Y Y Y (fun _ => (Ka Y (Kdb (Kbc (Ka Y (Kq Y Y (Ka Y (Kd (Kt ?_)))))))))))))))))))
  refine kLoop (α := { i : Nat // i ≤ a.length }) (fun y => ⟨tabSl [(6, .c (.arr (rid 24 0) 1)), (25, .dv (encBB a)), (26, .i a.length), (27, .i y.1)], obTab 1 [(rid 24 0, ⟨1, 0, .arr true (encB (a.take y.1).flatten)⟩)], []⟩) (fun y => a.length - y.1) ⟨0, by simp⟩ .normA ?_
  rintro ⟨i, hi⟩
  simp only
  have hle := flat_le a i
  rcases Nat.lt_or_ge i a.length with hlt | hge
  ·have hst : (a.take (i + 1)).flatten = (a.take i).flatten ++ a[i] := by rw [← List.take_append_getElem hlt, List.flatten_append]; simp
   have hle2 := flat_le a (i + 1)
   have hle3 : (a.take (i + 1)).flatten.length = (a.take i).flatten.length + a[i].length := by rw [hst, List.length_append]
   refine Kbc (Kj Y Y Y (Kdb (Km Y (fun g0 => Kn (Kb (Kt (Kbc (kIadR Y Y Y prl (Ky Y Y (Ka Y (Kd (Kc (Ka Y (Ka Y (kAppR Y Y Y (src_encB _ _) rfl rfl rfl rfl prl (Ka Y (Kd (Kv (Kc (kAdd Y Y om (Ka Y (Kd ?_))))))))))))))))))) (fun g0 => om))))
   refine kInv ⟨⟨i + 1, hlt⟩, by simp only; omega, ?_⟩
   simp only [hst]
   exact .normA
  ·refine Kbc (Kj Y Y Y (Kdb (Km Y (fun g0 => om) (fun g0 => kExit (kExC (kExI (kExB (Kbc (Ka Y (Ka Y (Kd (kMem [(102400, ⟨1, 0, .arr true _⟩)] [(2, .c (.arr 102400 1))] [] ⟨Y, trivial⟩ ⟨Y, trivial⟩ Y (Kr (Er (ra := [.one (.own true _)]) rfl ?_))))))))))))))
   rw [show i = a.length by omega, List.take_length]

def c_impl_four : C := (.g (.o 0 2 (.mov (.n 1)) .done) (.g (.o 0 3 (.mov (.t 0)) (.o 1 4 (.bin .shr (.t 3) (.v (.int .u64 16))) (.o 2 5 (.call 5 261 [(.t 4)]) (.o 3 6 (.mov (.t 0)) (.o 4 7 (.call 7 261 [(.t 6)]) (.o 5 8 (.app 8 1 1 (.t 5) (.t 7)) (.o 6 2 (.mov (.t 8)) .done))))))) .ret))
theorem dg_impl_four : Tryz.f200.body.bind (digC Tryz.prog Tryz.f200.ntmps []) = some c_impl_four := by kernel_rfl
theorem rs_impl_four : resSlots Tryz.prog Tryz.f200 = some [.s 2] := by kernel_rfl
theorem ok_impl_four (n : Int) :
  FnOK Tryz.prog 200 [.one (.d (.sc (.int .i64 n)))] (fun ra _ => ra = [.one (.own true (encB (w4 n)))]) := by
 refine FnOK.ofK Tryz.func200 (by kernel_rfl) dg_impl_four rs_impl_four rfl rfl ?_
 delta c_impl_four T.o X.i C.g
 rw [← w4_two]
 have hl : ∀ m, (w2 m).length = 2 := fun _ => rfl
 have l1 := hl (sr n 16)
 have l2 := hl n
 refine Kbc (Ka Y (Kdb (Kc (Ka Y (kShr (m := 16) Y Y Y (Ku true (ok_impl_two _) ⟨Y, trivial⟩ Y Y Y (fun _ => (Ka Y (Ku true (ok_impl_two _) ⟨Y, trivial⟩ Y Y Y (fun _ => (kAppR Y Y Y Y Y Y Y Y om (Ka Y (Kd (Kr (Er (ra := [.one (.own true _)]) rfl rfl)))))))))))))))

def c_impl_recordBytes : C := (.g (.o 0 5 (.box 5 (.t 0)) (.o 1 10 (.mov (.n 1)) .done)) (.g (.o 0 11 (.load (some 1) (.t 5)) (.o 1 12 (.call 12 247 [(.t 11)]) (.o 2 13 (.mov (.t 1)) (.o 3 14 (.call 14 261 [(.t 13)]) (.o 4 15 (.mov (.t 2)) (.o 5 16 (.call 16 261 [(.t 15)]) (.o 6 17 (.mov (.t 3)) (.o 7 18 (.call 18 200 [(.t 17)]) (.o 8 19 (.mov (.t 4)) (.o 9 20 (.len (.t 19)) (.o 10 21 (.call 21 261 [(.t 20)]) (.o 11 22 (.mov (.t 4)) (.o 12 23 (.lit 23 1 [(.n 1)] 6 [(0, 1, (.t 12)), (1, 1, (.t 14)), (2, 1, (.t 16)), (3, 1, (.t 18)), (4, 1, (.t 21)), (5, 1, (.t 22))]) (.o 13 24 (.call 24 201 [(.t 23)]) (.o 14 10 (.mov (.t 24)) .done))))))))))))))) .ret))
theorem dg_impl_recordBytes : Tryz.f309.body.bind (digC Tryz.prog Tryz.f309.ntmps []) = some c_impl_recordBytes := by kernel_rfl
theorem rs_impl_recordBytes : resSlots Tryz.prog Tryz.f309 = some [.s 10] := by kernel_rfl
theorem ok_impl_recordBytes (n : List (List UInt8)) (t c l : Int) (d : List UInt8) (hn : SmallBB n) (hd : d.length ≤ 4194304) :
  FnOK Tryz.prog 309 [.agg [.d (encBB n)], .one (.d (.sc (.int .i64 t))), .one (.d (.sc (.int .i64 c))), .one (.d (.sc (.int .i64 l))), .one (.d (encB d))] (fun ra _ => ra = [.one (.own true (encB (wireN n ++ w2 t ++ w2 c ++ w4 l ++ w2 (d.length : Int) ++ d)))]) := by
 refine FnOK.ofK Tryz.func309 (by kernel_rfl) dg_impl_recordBytes rs_impl_recordBytes rfl rfl ?_
 delta c_impl_recordBytes T.o X.i C.g
 have n1 := hn.len
 have n2 := hn.flat
 have n3 := wireN_len n
 refine Kbc (kBox Y Y Y Y Y (Ka Y (Kdb (Kc (Ke Y Y Y (Ku true (ok_impl_Name_wire _ prx) ⟨⟨⟨Y, trivial⟩, leb⟩, trivial⟩ Y Y Y (fun _ => (Ka Y (Ku true (ok_impl_two _) ⟨Y, trivial⟩ Y Y Y (fun _ => (Ka Y (Ku true (ok_impl_two _) ⟨Y, trivial⟩ Y Y Y (fun _ => (kMem [(53248, ⟨1, 0, .arr true _⟩), (61440, ⟨1, 0, .arr true _⟩), (69632, ⟨1, 0, .arr true _⟩)] [(3, .c (.d _)), (17, .c (.un)), (4, .c (.d _)), (19, .c (.un)), (20, .c (.un)), (12, .c (.arr 53248 1)), (14, .c (.arr 61440 1)), (16, .c (.arr 69632 1)), (18, .c (.un)), (21, .c (.un)), (22, .c (.un)), (23, .c (.un)), (24, .c (.un))] [] ⟨Y, Y, Y, trivial⟩ ⟨Y, Y, Y, Y, Y, Y, Y, Y, Y, Y, Y, Y, Y, trivial⟩ Y (Ka Y (Ku true (ok_impl_four _) ⟨Y, trivial⟩ Y Y Y (fun _ => (Ka Y (Kq Y Y (Ku true (ok_impl_two _) ⟨Y, trivial⟩ Y Y Y (fun _ => (Ka Y (kLitD Y Y Y Y ?_)))))))))))))))))))))))
 refine Ku true (ok_slices_Concat_Lbyte_byte [wireN n, w2 t, w2 c, w4 l, w2 (d.length : Int), d] (by simp) (by simp [w2_len, w4_len]; omega)) ⟨Y, trivial⟩ Y Y Y (fun _ => ?_)
 refine kMem [(102400, ⟨1, 0, .arr true _⟩)] [(24, .c (.arr 102400 1))] [] ⟨Y, trivial⟩ ⟨Y, trivial⟩ Y (Ka Y (Kd (kMem [(102400, ⟨1, 0, .arr true _⟩)] [(10, .c (.arr 102400 1))] [] ⟨Y, trivial⟩ ⟨Y, trivial⟩ Y (Kr (Er (ra := [.one (.own true _)]) rfl ?_)))))
 simp

def c_impl_Rr_data : C := (.g (.o 0 1 (.box 1 (.t 0)) (.o 1 2 (.mov (.n 1)) .done)) (.seq (.block 0 (.g (.o 0 7 (.fad (.t 1) 1) (.o 1 8 (.load none (.t 7)) (.o 2 9 (.bin .eql (.t 8) (.i 1)) (.o 3 6 (.mov (.t 9)) .done)))) (.cond (.t 6) (.g (.o 0 10 (.fad (.t 1) 3) (.o 1 11 (.load none (.t 10)) (.o 2 12 (.call 12 200 [(.t 11)]) (.o 3 2 (.mov (.t 12)) .done)))) .ret) (.g (.o 0 14 (.fad (.t 1) 1) (.o 1 15 (.load none (.t 14)) (.o 2 16 (.call 16 144 [(.t 15)]) (.o 3 13 (.mov (.t 16)) .done)))) (.cond (.t 13) (.g (.o 0 17 (.fad (.t 1) 4) (.o 1 18 (.load (some 1) (.t 17)) (.o 2 19 (.call 19 247 [(.t 18)]) (.o 3 3 (.mov (.t 19)) .done)))) (.seq (.g (.o 0 20 (.fad (.t 1) 6) (.o 1 21 (.load none (.t 20)) (.o 2 22 (.len (.t 21)) (.o 3 23 (.mov (.i 0)) .done)))) (.block 1 (.loop (.g (.o 0 24 (.bin .lss (.t 23) (.t 22)) .done) (.seq (.cond (.t 24) .skip (.exit 1)) (.seq (.block 2 (.g (.o 0 25 (.iad 1 (.t 21) (.t 23)) (.o 1 26 (.load none (.t 25)) (.o 2 5 (.mov (.t 26)) .done))) (.reg false (.o 0 27 (.mov (.t 3)) (.o 1 28 (.mov (.t 5)) (.o 2 29 (.call 29 200 [(.t 28)]) (.o 3 30 (.app 30 1 1 (.t 27) (.t 29)) (.o 4 3 (.mov (.t 30)) .done)))))))) (.reg false (.o 0 31 (.bin .add (.t 23) (.i 1)) (.o 1 23 (.mov (.t 31)) .done))))))))) (.g (.o 0 32 (.mov (.t 3)) (.o 1 2 (.mov (.t 32)) .done)) .ret))) .skip))))) (.g (.o 0 33 (.fad (.t 1) 5) (.o 1 34 (.load none (.t 33)) (.o 2 35 (.len (.t 34)) (.o 3 36 (.conv .u8 (.t 35)) (.o 4 37 (.lit 37 1 [(.v (.int .u8 0))] 1 [(0, 1, (.t 36))]) (.o 5 38 (.fad (.t 1) 5) (.o 6 39 (.load none (.t 38)) (.o 7 40 (.app 40 1 1 (.t 37) (.t 39)) (.o 8 2 (.mov (.t 40)) .done))))))))) .ret)))
theorem dg_impl_Rr_data : Tryz.f179.body.bind (digC Tryz.prog Tryz.f179.ntmps []) = some c_impl_Rr_data := by kernel_rfl
theorem rs_impl_Rr_data : resSlots Tryz.prog Tryz.f179 = some [.s 2] := by kernel_rfl
theorem ok_impl_Rr_data (r : Rr) (hs : SmallR r) :
  FnOK Tryz.prog 179 [.agg (r.cells.map .d)] (fun ra _ => ra = [.one (.own true (encB (rdata r)))]) := by
 refine FnOK.ofK Tryz.func179 (by kernel_rfl) dg_impl_Rr_data rs_impl_Rr_data rfl rfl ?_
 delta c_impl_Rr_data T.o X.i C.g
 have ht := hs.t
 have t1 := hs.t.len
 have t2 := hs.t.flat
 have x1 := hs.x
 have m1 := hs.m
 by_cases h1 : r.ty = 1
 ·rw [rdata_A h1]
  refine Kbc (kBox Y Y Y Y Y (Ka Y (Kdb (Kt (Kbc (Kf Y Y (Ke Y Y Y (Kj Y Y Y (Ka Y (Kd (Km Y (fun g0 => Kbc (Kf Y Y (Ke Y Y Y (Ku true (ok_impl_four _) ⟨Y, trivial⟩ Y Y Y (fun _ => (Ka Y (Kd (Kr (Er (ra := [.one (.own true _)]) rfl rfl))))))))) (fun g0 => om))))))))))))
 cases h2 : hasTo r.ty
 ·rw [rdata_text h1 h2]
  refine Kbc (kBox Y Y Y Y Y (Ka Y (Kdb (Kt (Kbc (Kf Y Y (Ke Y Y Y (Kj Y Y Y (Ka Y (Kd (Km Y (fun g0 => om) (fun g0 => Kbc (Kf Y Y (Ke Y Y Y (Kp (ok_impl_hasTo _) ⟨Y, trivial⟩ Y Y Y Y Y (Ka Y (Kd (kCond Y (fun g1 => (by (simp [*] at g1))) (fun g1 => Kn (Kv (Kbc (Kf Y Y (Ke Y Y Y (Kq Y Y (kConvU8 Y (kLit Y Y Y Y (Kf Y Y (Ke Y Y Y (kApp1R Y Y (src_encB _ _) rfl rfl rfl rfl rfl om (Ka Y (Kd (Kr (Er (ra := [.one (.own true _)]) rfl rfl)))))))))))))))))))))))))))))))))
 ·rw [rdata_to h1 h2]
  refine Kbc (kBox Y Y Y Y Y (Ka Y (Kdb (Kt (Kbc (Kf Y Y (Ke Y Y Y (Kj Y Y Y (Ka Y (Kd (Km Y (fun g0 => om) (fun g0 => Kbc (Kf Y Y (Ke Y Y Y (Kp (ok_impl_hasTo _) ⟨Y, trivial⟩ Y Y Y Y Y (Ka Y (Kd (kCond Y (fun g1 => Kbc (Kf Y Y (Ke Y Y Y (Ku true (ok_impl_Name_wire _ pr) ⟨⟨⟨Y, trivial⟩, leb⟩, trivial⟩ Y Y Y (fun _ => (Ka Y (Kdb (Kbc (Kf Y Y (Ke Y Y Y (Kq Y Y (Ka Y (Kd (Kt ?_)))))))))))))) (fun g1 => (by (simp [*] at g1)))))))))))))))))))))
  refine kLoop (α := { i : Nat // i ≤ r.nums.length }) (fun y => ⟨tabSl [(3, .c (.arr (rid 19 0) 1)), (21, .dv (encI r.nums)), (22, .i r.nums.length), (23, .i y.1)], obTab 1 [(rid 19 0, ⟨1, 0, .arr true (encB (wireN r.to ++ (r.nums.take y.1).flatMap w4))⟩)], []⟩) (fun y => r.nums.length - y.1) ⟨0, by simp⟩ (by simp only [List.take_zero, List.flatMap_nil, List.append_nil]; exact .normA) ?_
  rintro ⟨i, hi⟩
  simp only
  have hl : (wireN r.to ++ (r.nums.take i).flatMap w4).length ≤ 33554432 := by
   rw [List.length_append, wireN_len, w4s_len, List.length_take]; omega
  have hl4 : ∀ n, (w4 n).length = 4 := w4_len
  rcases Nat.lt_or_ge i r.nums.length with hlt | hge
  ·have hst : wireN r.to ++ (r.nums.take (i + 1)).flatMap w4 = wireN r.to ++ (r.nums.take i).flatMap w4 ++ w4 r.nums[i] := by rw [flatMap_take _ _ _ hlt, List.append_assoc]
   have h4 := hl4 r.nums[i]
   refine Kbc (Kj Y Y Y (Kdb (Km Y (fun g0 => Kn (Kb (Kt (Kbc (kIadR Y Y Y om (Ky Y Y (Ka Y (Kd (Kc (Ka Y (Ka Y (Ku true (ok_impl_four _) ⟨Y, trivial⟩ Y Y Y (fun _ => (kAppR Y Y Y Y Y Y Y Y om (Ka Y (Kd (Kv (Kc (kAdd Y Y om (Ka Y (Kd ?_))))))))))))))))))))) (fun g0 => om))))
   refine kInv ⟨⟨i + 1, by omega⟩, by simp only; omega, ?_⟩
   simp only [hst]
   exact .normA
  ·rw [show i = r.nums.length by omega, List.take_length]
   refine Kbc (Kj Y Y Y (Kdb (Km Y (fun g0 => om) (fun g0 => kExit (kExC (kExI (kExB (Kbc (Ka Y (Ka Y (Kd (Kr (Er (ra := [.one (.own true _)]) rfl rfl)))))))))))))

def c_impl_Want_wire : C := (.g (.o 0 1 (.box 1 (.t 0)) (.o 1 2 (.mov (.n 1)) .done)) (.seq (.g (.o 0 3 (.fad (.t 1) 8) (.o 1 4 (.load none (.t 3)) .done)) (.cond (.t 4) (.g (.o 0 5 (.fad (.t 1) 0) (.o 1 6 (.fad (.t 5) 0) (.o 2 7 (.load (some 1) (.t 6)) (.o 3 8 (.fad (.t 1) 0) (.o 4 9 (.fad (.t 8) 1) (.o 5 10 (.load none (.t 9)) (.o 6 11 (.fad (.t 1) 7) (.o 7 12 (.load none (.t 11)) (.o 8 13 (.call 13 309 [(.t 7), (.t 10), (.t 12), (.i 0), (.n 1)]) (.o 9 2 (.mov (.t 13)) .done)))))))))) .ret) .skip)) (.seq (.reg true (.op 0 [] (some 14) none true (.fad (.t 1) 0) (.op 1 [] (some 15) none true (.fad (.t 14) 0) (.op 2 [] (some 16) none true (.load (some 1) (.t 15)) (.op 3 [] (some 17) none true (.fad (.t 1) 0) (.op 4 [] (some 18) none true (.fad (.t 17) 1) (.op 5 [] (some 19) none true (.load none (.t 18)) (.op 6 [] (some 20) none true (.fad (.t 1) 7) (.op 7 [] (some 21) none true (.load none (.t 20)) (.op 8 [] (some 22) none true (.fad (.t 1) 0) (.op 9 [] (some 23) none true (.fad (.t 22) 2) (.op 10 [] (some 24) none true (.load none (.t 23)) (.op 11 [] (some 25) none true (.fad (.t 1) 0) (.op 12 [] (some 26) none true (.load (some 7) (.t 25)) (.op 13 [12] (some 27) none false (.call 27 179 [(.t 26)]) (.op 14 [2, 5, 7, 10, 12] (some 28) none false (.call 28 309 [(.t 16), (.t 19), (.t 21), (.t 24), (.t 27)]) (.op 15 [] (some 2) none true (.mov (.t 28)) .done))))))))))))))))) .ret)))
theorem dg_impl_Want_wire : Tryz.f262.body.bind (digC Tryz.prog Tryz.f262.ntmps []) = some c_impl_Want_wire := by kernel_rfl
theorem rs_impl_Want_wire : resSlots Tryz.prog Tryz.f262 = some [.s 2] := by kernel_rfl
theorem ok_impl_Want_wire (w : Want) (hs : SmallW w) (hk : wantOk w = true) :
  FnOK Tryz.prog 262 [.agg (w.cells.map .d)] (fun ra _ => ra = [.one (.own true (encB (wantB w)))]) := by
 refine FnOK.ofK Tryz.func262 (by kernel_rfl) dg_impl_Want_wire rs_impl_Want_wire rfl rfl ?_
 delta c_impl_Want_wire T.o X.i C.g
 have k9 := hs.r.n
 have k8 := hs.r
 cases hb2 : w.bare
 ·have k2 := rdata_small (want_rr hk hb2)
  refine Kbc (kBox Y Y Y Y Y (Ka Y (Kdb (Kbc (Kf Y Y (Ke Y Y Y (Kd (kCond Y (fun g0 => (by (simp [*] at g0))) (fun g0 => Kn (Kb (kRegD (Kf Y Y (Kf Y Y (Ke Y Y Y (Kf Y Y (Kf Y Y (Ke Y Y Y (Kf Y Y (Ke Y Y Y (Kf Y Y (Kf Y Y (Ke Y Y Y (Kf Y Y (Ke Y Y Y (Kx Y Y (Ku true (ok_impl_Rr_data _ prx) ⟨⟨⟨Y, Y, Y, Y, Y, Y, Y, trivial⟩, leb⟩, trivial⟩ Y Y Y (fun _ => (Ks Y Y (Ku true (ok_impl_recordBytes _ _ _ _ _ prx prx) ⟨⟨⟨Y, trivial⟩, leb⟩, rfl, rfl, rfl, rfl, trivial⟩ Y Y Y (fun _ => (Ka Y (Kd (kH (Kr (Er (ra := [.one (.own true _)]) rfl ?_)))))))))))))))))))))))))))))))))))
  exact congrArg (fun z => [RA.one (RV.own true (encB z))]) (by unfold wantB; rw [if_neg (by simp [hb2])]; rfl)
 ·refine Kbc (kBox Y Y Y Y Y (Ka Y (Kdb (Kbc (Kf Y Y (Ke Y Y Y (Kd (kCond Y (fun g0 => Kbc (Kf Y Y (Kf Y Y (Ke Y Y Y (Kf Y Y (Kf Y Y (Ke Y Y Y (Kf Y Y (Ke Y Y Y ?_))))))))) (fun g0 => (by (simp [*] at g0)))))))))))
  refine Ku true (ok_impl_recordBytes w.rr.name w.rr.ty w.cls 0 [] k9 (by simp)) ⟨⟨⟨Y, trivial⟩, leb⟩, rfl, rfl, rfl, rfl, trivial⟩ Y Y Y (fun _ => ?_)
  refine Ka Y (Kd (Kr (Er (ra := [.one (.own true _)]) rfl ?_)))
  exact congrArg (fun z => [RA.one (RV.own true (encB z))]) (by unfold wantB; rw [if_pos hb2]; simp)

def c_impl_Rr_wire : C := (.g (.o 0 1 (.box 1 (.t 0)) (.o 1 2 (.mov (.n 1)) .done)) (.seq (.reg true (.op 0 [] (some 3) none true (.fad (.t 1) 0) (.op 1 [] (some 4) none true (.load (some 1) (.t 3)) (.op 2 [] (some 5) none true (.fad (.t 1) 1) (.op 3 [] (some 6) none true (.load none (.t 5)) (.op 4 [] (some 7) none true (.fad (.t 1) 2) (.op 5 [] (some 8) none true (.load none (.t 7)) (.op 6 [] (some 9) none true (.load (some 7) (.t 1)) (.op 7 [6] (some 10) none false (.call 10 179 [(.t 9)]) (.op 8 [1, 3, 5, 6] (some 11) none false (.call 11 309 [(.t 4), (.t 6), (.i 1), (.t 8), (.t 10)]) (.op 9 [] (some 2) none true (.mov (.t 11)) .done))))))))))) .ret))
theorem dg_impl_Rr_wire : Tryz.f263.body.bind (digC Tryz.prog Tryz.f263.ntmps []) = some c_impl_Rr_wire := by kernel_rfl
theorem rs_impl_Rr_wire : resSlots Tryz.prog Tryz.f263 = some [.s 2] := by kernel_rfl
theorem ok_impl_Rr_wire (r : Rr) (hs : SmallR r) (hk : rrOk r = true) :
  FnOK Tryz.prog 263 [.agg (r.cells.map .d)] (fun ra _ => ra = [.one (.own true (encB (rrB r 1)))]) := by
 refine FnOK.ofK Tryz.func263 (by kernel_rfl) dg_impl_Rr_wire rs_impl_Rr_wire rfl rfl ?_
 delta c_impl_Rr_wire T.o X.i C.g
 have k9 := hs.n
 have k2 := rdata_small hk
 refine Kbc (kBox Y Y Y Y Y (Ka Y (Kdb (kRegD (Kf Y Y (Ke Y Y Y (Kf Y Y (Ke Y Y Y (Kf Y Y (Ke Y Y Y (kMem [(8192, ⟨1, 0, .box [.d _, .d _, .d _, .d _, .d _, .d _, .d _]⟩)] [(1, .c (.ptr 8192 1 0)), (9, .c (.un)), (4, .g [.d _]), (6, .c (.d _)), (8, .c (.d _)), (10, .c (.un)), (11, .c (.un))] [8192, 8192, 8192] ⟨Y, trivial⟩ ⟨Y, Y, Y, Y, Y, Y, Y, trivial⟩ Y (Ke Y Y Y (Kx Y Y (Ku true (ok_impl_Rr_data _ prx) ⟨⟨⟨Y, Y, Y, Y, Y, Y, Y, trivial⟩, leb⟩, trivial⟩ Y Y Y (fun _ => (Ks Y Y (Ku true (ok_impl_recordBytes _ _ _ _ _ prx prx) ⟨⟨⟨Y, trivial⟩, leb⟩, rfl, rfl, rfl, rfl, trivial⟩ Y Y Y (fun _ => (Ka Y (Kd (kH (kMem [(49152, ⟨1, 0, .arr true _⟩)] [(2, .c (.arr 49152 1))] [] ⟨Y, trivial⟩ ⟨Y, trivial⟩ Y (Kr (Er (ra := [.one (.own true _)]) rfl rfl))))))))))))))))))))))))

end Go.Proofs.YtdfcphdolipapaaGreat.FnFindsFn
