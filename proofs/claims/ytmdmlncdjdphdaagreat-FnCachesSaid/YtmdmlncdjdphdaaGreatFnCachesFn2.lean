/- What the functions that FnCaches reaches compute, one contract each; each with the bounds that it states. -/
import Derived.Test.YtmdmlncdjdphdaaGreatFnCachesFn1
import Derived.Test.YtmdmlncdjdphdaaGreatProg
import Derived.KernelRfl
set_option maxRecDepth 100000
set_option maxHeartbeats 8000000
set_option linter.unusedVariables false
set_option linter.unusedSimpArgs false
namespace Go.Proofs.YtmdmlncdjdphdaaGreat.FnCachesFn
open Go Hearth Go.Proofs

def c_spec_l3bent : C := (.g (.o 0 2 (.alloc 2 [(.n 1), (.i 0), (.i 0), (.i 0), (.n 1), (.n 1), (.n 1)]) .done) (.g (.o 0 4 (.mov (.t 0)) (.o 1 5 (.call 5 199 [(.t 4)]) (.o 2 3 (.alloc 3 [(.n 1), (.i 0), (.i 0), (.i 0), (.n 1), (.n 1), (.n 1)]) (.op 3 [] none none false (.store (some 7) (.t 3) (.t 5)) .done)))) (.seq (.g (.o 0 6 (.mov (.t 0)) (.o 1 7 (.call 7 68 [(.t 6), (.i 7)]) .done)) (.cond (.t 7) (.g (.o 0 8 (.mov (.t 0)) (.o 1 9 (.call 9 117 [(.t 8), (.i 7)]) .done)) (.block 0 (.g (.o 0 18 (.bin .eql (.t 9) (.i 0)) (.o 1 17 (.mov (.t 18)) .done)) (.cond (.t 17) (.reg false (.o 0 19 (.mov (.t 0)) (.o 1 20 (.call 20 126 [(.t 19)]) (.o 2 21 (.fad (.t 3) 0) (.op 3 [] none none false (.store (some 1) (.t 21) (.t 20)) .done))))) (.g (.o 0 23 (.bin .eql (.t 9) (.i 1)) (.o 1 22 (.mov (.t 23)) .done)) (.cond (.t 22) (.reg false (.o 0 24 (.mov (.t 0)) (.o 1 25 (.lit 25 1 [(.i 0)] 7 [(0, 1, (.i 0)), (1, 1, (.i 3)), (2, 1, (.i 28)), (3, 1, (.i 255)), (4, 1, (.i (-1))), (5, 1, (.i 1)), (6, 1, (.i 5))]) (.o 2 26 (.call 26 118 [(.t 24), (.t 25)]) (.o 3 27 (.fad (.t 3) 1) (.op 4 [] none none false (.store none (.t 27) (.t 26)) .done)))))) (.g (.o 0 29 (.bin .eql (.t 9) (.i 2)) (.o 1 28 (.mov (.t 29)) .done)) (.cond (.t 28) (.reg false (.o 0 30 (.mov (.t 0)) (.o 1 31 (.lit 31 1 [(.i 0)] 2 [(0, 1, (.i (-1))), (1, 1, (.i 100001))]) (.o 2 32 (.call 32 118 [(.t 30), (.t 31)]) (.o 3 33 (.fad (.t 3) 2) (.op 4 [] none none false (.store none (.t 33) (.t 32)) .done)))))) (.g (.o 0 35 (.bin .eql (.t 9) (.i 3)) (.o 1 34 (.mov (.t 35)) .done)) (.cond (.t 34) (.reg false (.o 0 36 (.mov (.t 0)) (.o 1 37 (.lit 37 1 [(.i 0)] 3 [(0, 1, (.i (-1))), (1, 1, (.i 4294967296)), (2, 1, (.i 7))]) (.o 2 38 (.call 38 118 [(.t 36), (.t 37)]) (.o 3 39 (.fad (.t 3) 3) (.op 4 [] none none false (.store none (.t 39) (.t 38)) .done)))))) (.g (.o 0 41 (.bin .eql (.t 9) (.i 4)) (.o 1 40 (.mov (.t 41)) .done)) (.cond (.t 40) (.reg false (.o 0 42 (.mov (.t 0)) (.o 1 43 (.call 43 126 [(.t 42)]) (.o 2 44 (.fad (.t 3) 4) (.op 3 [] none none false (.store (some 1) (.t 44) (.t 43)) .done))))) (.g (.o 0 46 (.bin .eql (.t 9) (.i 5)) (.o 1 45 (.mov (.t 46)) .done)) (.cond (.t 45) (.reg false (.o 0 47 (.mov (.t 0)) (.o 1 48 (.call 48 117 [(.t 47), (.i 2)]) (.o 2 49 (.bin .add (.i 40) (.t 48)) (.o 3 50 (.mk 50 1 [(.v (.int .u8 0))] 1 (.t 49)) (.o 4 51 (.fad (.t 3) 5) (.op 5 [] none none false (.store none (.t 51) (.t 50)) .done))))))) (.reg true (.op 0 [] (some 10) none true (.fad (.t 3) 6) (.op 1 [] (some 11) none true (.load none (.t 10)) (.op 2 [] (some 12) none true (.mov (.t 0)) (.o 3 13 (.call 13 117 [(.t 12), (.i 5)]) (.o 4 14 (.lit 14 1 [(.i 0)] 1 [(0, 1, (.t 13))]) (.op 5 [1] (some 15) none false (.app 15 1 8 (.t 11) (.t 14)) (.op 6 [] (some 16) none true (.fad (.t 3) 6) (.op 7 [1] none none false (.store none (.t 16) (.t 15)) .done))))))))))))))))))))))) .skip)) (.g (.o 0 52 (.load (some 7) (.t 3)) (.op 1 [] none none false (.store (some 7) (.t 2) (.t 52)) .done)) .ret))))
theorem dg_spec_l3bent : Tryz.f148.body.bind (digC Tryz.prog Tryz.f148.ntmps []) = some c_spec_l3bent := by kernel_rfl
theorem rs_spec_l3bent : resSlots Tryz.prog Tryz.f148 = some [.m 2 (some 7)] := by kernel_rfl
theorem ok_spec_l3bent (c : Cu) :
    FnOK Tryz.prog 148 [.one (.box c.cells)] (fun ra os => ∃ x : Rr × Cu, (SmallR x.1) ∧ ra = [.agg [.d (encBB x.1.name), .d (.sc (.int .i64 x.1.ty)), .d (.sc (.int .i64 x.1.ttl)), .d (.sc (.int .i64 x.1.addr)), .d (encBB x.1.to), .d (encB x.1.text), .d (Hearth.encI x.1.nums)]] ∧ os.b 0 = x.2.cells) := by
  refine FnOK.ofK Tryz.func148 (by kernel_rfl) dg_spec_l3bent rs_spec_l3bent rfl rfl ?_
  delta c_spec_l3bent T.o X.i C.g
  refine Kbc (kAlloc Y Y (Kdb (Kc (Ka Y (Kz (ok_spec_l3draw _) ⟨⟨rfl, _, rfl, rfl⟩, trivial⟩ Y Y Y (fun _ => rfl) (fun x0 hx0 => (kAlloc Y Y (Ko Y Y Y Y (Kdb (Kbc (Ka Y (Kz (ok_spec_l1Once _ _) ⟨⟨rfl, _, rfl, rfl⟩, rfl, trivial⟩ Y Y Y (fun _ => rfl) (fun x1 hx1 => (Kd (kCond Y (fun g2 => Kbc (Ka Y (Kz (ok_spec_l1Below _ _) ⟨⟨rfl, _, rfl, rfl⟩, rfl, trivial⟩ Y Y Y (fun _ => rfl) (fun x3 hx3 => (Kd (Kt (Kbc (Kj Y Y Y (Ka Y (Kd (Km Y (fun g4 => Kc (Ka Y (Kz (ok_spec_l2bent _) ⟨⟨rfl, _, rfl, rfl⟩, trivial⟩ Y Y Y (fun _ => rfl) (fun x5 hx5 => (Kf Y Y (Ko Y Y Y Y (Kd (Kv (Kbc (Ke Y Y Y (Ko Y Y Y Y (Kd (Kr (Er (ra := [.agg [(.d _), (.d _), (.d _), (.d _), (.d _), (.d _), (.d _)]]) rfl ?_)))))))))))))) (fun g4 => Kbc (Kj Y Y Y (Ka Y (Kd (Km Y (fun g6 => Kc (Ka Y (kLitD Y Y Y Y (Kz (ok_spec_l1PickInt _ _ pry pry pry) ⟨⟨rfl, _, rfl, rfl⟩, rfl, trivial⟩ Y Y Y (fun _ => rfl) (fun x7 hx7 => (Kf Y Y (Ko Y Y Y Y (Kd (Kv (Kbc (Ke Y Y Y (Ko Y Y Y Y (Kd (Kr (Er (ra := [.agg [(.d _), (.d _), (.d _), (.d _), (.d _), (.d _), (.d _)]]) rfl ?_))))))))))))))) (fun g6 => Kbc (Kj Y Y Y (Ka Y (Kd (Km Y (fun g8 => Kc (Ka Y (kLitD Y Y Y Y (Kz (ok_spec_l1PickInt _ _ pry pry pry) ⟨⟨rfl, _, rfl, rfl⟩, rfl, trivial⟩ Y Y Y (fun _ => rfl) (fun x9 hx9 => (Kf Y Y (Ko Y Y Y Y (Kd (Kv (Kbc (Ke Y Y Y (Ko Y Y Y Y (Kd (Kr (Er (ra := [.agg [(.d _), (.d _), (.d _), (.d _), (.d _), (.d _), (.d _)]]) rfl ?_))))))))))))))) (fun g8 => Kbc (Kj Y Y Y (Ka Y (Kd (Km Y (fun g10 => Kc (kMem [(0, ⟨0, 3, .box [.d _, .d _, .d _]⟩), (16384, ⟨1, 0, .box [.arr 24576 1, .d _, .d _, .d _, .arr 24580 1, .arr 24581 1, .arr 24582 1]⟩), (24576, ⟨1, 0, .arr true _⟩), (24580, ⟨1, 0, .arr true _⟩), (24581, ⟨1, 0, .arr true _⟩), (24582, ⟨1, 0, .arr true _⟩)] [(0, .c (.ptr 0 0 0)), (36, .c (.un)), (37, .c (.un)), (3, .c (.ptr 16384 1 0)), (39, .c (.un)), (38, .c (.un))] [] ⟨Y, Y, Y, Y, Y, Y, trivial⟩ ⟨Y, Y, Y, Y, Y, Y, trivial⟩ Y (Ka Y (kLitD Y Y Y Y (Kz (ok_spec_l1PickInt _ _ pry pry pry) ⟨⟨rfl, _, rfl, rfl⟩, rfl, trivial⟩ Y Y Y (fun _ => rfl) (fun x11 hx11 => (Kf Y Y (Ko Y Y Y Y (Kd (Kv (Kbc (Ke Y Y Y (kMem [(12288, ⟨1, 0, .box [.nil 1, .d _, .d _, .d _, .nil 1, .nil 1, .nil 1]⟩), (24576, ⟨1, 0, .arr true _⟩), (24580, ⟨1, 0, .arr true _⟩), (24581, ⟨1, 0, .arr true _⟩), (24582, ⟨1, 0, .arr true _⟩)] [(2, .c (.ptr 12288 1 0)), (52, .g [.arr 24576 1, .d _, .d _, .d _, .arr 24580 1, .arr 24581 1, .arr 24582 1])] [] ⟨Y, Y, Y, Y, Y, trivial⟩ ⟨Y, Y, trivial⟩ Y (Ko Y Y Y Y (Kd (kMem [(12288, ⟨1, 0, .box [.arr 24576 1, .d _, .d _, .d _, .arr 24580 1, .arr 24581 1, .arr 24582 1]⟩), (24576, ⟨1, 0, .arr true _⟩), (24580, ⟨1, 0, .arr true _⟩), (24581, ⟨1, 0, .arr true _⟩), (24582, ⟨1, 0, .arr true _⟩)] [(2, .c (.ptr 12288 1 0))] [] ⟨Y, Y, Y, Y, Y, trivial⟩ ⟨Y, trivial⟩ Y (Kr (Er (ra := [.agg [(.d _), (.d _), (.d _), (.d _), (.d _), (.d _), (.d _)]]) rfl ?_)))))))))))))))))) (fun g10 => Kbc (Kj Y Y Y (Ka Y (Kd (Km Y (fun g12 => Kc (Ka Y (Kz (ok_spec_l2bent _) ⟨⟨rfl, _, rfl, rfl⟩, trivial⟩ Y Y Y (fun _ => rfl) (fun x13 hx13 => (Kf Y Y (Ko Y Y Y Y (Kd (Kv (Kbc (Ke Y Y Y (kMem [(12288, ⟨1, 0, .box [.nil 1, .d _, .d _, .d _, .nil 1, .nil 1, .nil 1]⟩), (24576, ⟨1, 0, .arr true _⟩), (24581, ⟨1, 0, .arr true _⟩), (24582, ⟨1, 0, .arr true _⟩)] [(2, .c (.ptr 12288 1 0)), (52, .g [.arr 24576 1, .d _, .d _, .d _, .d _, .arr 24581 1, .arr 24582 1])] [] ⟨Y, Y, Y, Y, trivial⟩ ⟨Y, Y, trivial⟩ Y (Ko Y Y Y Y (Kd (Kr (Er (ra := [.agg [(.d _), (.d _), (.d _), (.d _), (.d _), (.d _), (.d _)]]) rfl ?_))))))))))))))) (fun g12 => Kbc (Kj Y Y Y (Ka Y (Kd (Km Y (fun g14 => Kc (Ka Y (Kz (ok_spec_l1Below _ _) ⟨⟨rfl, _, rfl, rfl⟩, rfl, trivial⟩ Y Y Y (fun _ => rfl) (fun x15 hx15 => (kAdd Y Y om ?_))))) (fun g14 => kRegD (Kf Y Y (Ke Y Y Y (Ka Y (Kz (ok_spec_l1Below _ _) ⟨⟨rfl, _, rfl, rfl⟩, rfl, trivial⟩ Y Y Y (fun _ => rfl) (fun x16 hx16 => (kLitG Y Y Y Y (Ks Y Y ?_)))))))))))))))))))))))))))))))))))))))))))) (fun g2 => Kn (Kbc (Ke Y Y Y (Ko Y Y Y Y (Kd (Kr (Er (ra := [.agg [(.d _), (.d _), (.d _), (.d _), (.d _), (.d _), (.d _)]]) rfl ?_))))))))))))))))))))))
  · exact ⟨({ x0.1 with name := x5.1 }, x5.2), ⟨.bent hx5, (rrOk_small hx0).t, (rrOk_small hx0).x, (rrOk_small hx0).m⟩, rfl, rfl⟩
  · exact ⟨({ x0.1 with ty := x7.1 }, x7.2), ⟨(rrOk_small hx0).n, (rrOk_small hx0).t, (rrOk_small hx0).x, (rrOk_small hx0).m⟩, rfl, rfl⟩
  · exact ⟨({ x0.1 with ttl := x9.1 }, x9.2), ⟨(rrOk_small hx0).n, (rrOk_small hx0).t, (rrOk_small hx0).x, (rrOk_small hx0).m⟩, rfl, rfl⟩
  · exact ⟨({ x0.1 with addr := x11.1 }, x11.2), ⟨(rrOk_small hx0).n, (rrOk_small hx0).t, (rrOk_small hx0).x, (rrOk_small hx0).m⟩, rfl, rfl⟩
  · exact ⟨({ x0.1 with to := x13.1 }, x13.2), ⟨(rrOk_small hx0).n, .bent hx13, (rrOk_small hx0).x, (rrOk_small hx0).m⟩, rfl, rfl⟩
  · refine kMk Y om rfl rfl rfl rfl rfl ?_
    rw [show DV.sl 1 (List.replicate (Int.toNat (40 + x15.1)) [.sc (.int .u8 0)]) = encB (List.replicate (Int.toNat (40 + x15.1)) 0) by simp [encB]]
    refine Kf Y Y (Ko Y Y Y Y (Kd (Kv (Kbc (Ke Y Y Y (Ko Y Y Y Y (Kd (Kr (Er (ra := [.agg [(.d _), (.d _), (.d _), (.d _), (.d _), (.d _), (.d _)]]) rfl ?_)))))))))
    exact ⟨({ x0.1 with text := List.replicate (Int.toNat (40 + x15.1)) 0 }, x15.2), ⟨(rrOk_small hx0).n, (rrOk_small hx0).t, show (List.replicate (Int.toNat (40 + x15.1)) (0 : UInt8)).length ≤ 4194304 from by rw [List.length_replicate]; omega, (rrOk_small hx0).m⟩, rfl, rfl⟩
  · have hm := (rrOk_lens hx0).1
    refine kAppR1 (z := x16.1) Y Y Y Y Y Y Y Y om ?_
    refine Kf Y Y (Ks Y Y (Ko Y Y Y Y (Kd (kH (Kv (Kbc (Ke Y Y Y (Ko Y Y Y Y (Kd (kMem [(12288, ⟨1, 0, .box [.arr 24576 1, .d _, .d _, .d _, .arr 24580 1, .arr 24581 1, .arr 24582 2]⟩), (24576, ⟨1, 0, .arr true _⟩), (24580, ⟨1, 0, .arr true _⟩), (24581, ⟨1, 0, .arr true _⟩), (24582, ⟨2, 0, .arr true _⟩)] [(2, .c (.ptr 12288 1 0))] [] ⟨Y, Y, Y, Y, Y, trivial⟩ ⟨Y, trivial⟩ Y (Kr (Er (ra := [.agg [(.d _), (.d _), (.d _), (.d _), (.d _), (.d _), (.d _)]]) rfl ?_))))))))))))
    exact ⟨({ x0.1 with nums := x0.1.nums ++ [x16.1] }, x16.2), ⟨(rrOk_small hx0).n, (rrOk_small hx0).t, (rrOk_small hx0).x, show (x0.1.nums ++ [x16.1]).length ≤ 4194304 from by rw [List.length_append]; simp; omega⟩, rfl, rfl⟩
  · exact ⟨(x0.1, x1.2), (rrOk_small hx0), rfl, rfl⟩

theorem oko_spec_l10rrs (c : Cu) :
    FnOK Tryz.prog 147 [.one (.box c.cells)] (fun ra os => ∃ x : List Rr × Cu, DrawnS x.1 ∧ ra = [.one (.own false (encR x.1))] ∧ os.b 0 = x.2.cells) := by
  refine FnOK.ofK Tryz.func147 (by kernel_rfl) dg_spec_l10rrs rs_spec_l10rrs rfl rfl ?_
  delta c_spec_l10rrs T.o X.i C.g
  have hstopo9 := trivial
  refine Kbc (Ka Y (Kdb (Kc (Ka Y (Kz (ok_spec_l3draw _) ⟨⟨rfl, _, rfl, rfl⟩, trivial⟩ Y Y Y (fun _ => rfl) (fun x0 hx0 => (kAlloc Y Y (kMem [(16384, ⟨1, 0, .box [.nil 1, .d _, .d _, .d _, .nil 1, .nil 1, .nil 1]⟩), (32768, ⟨1, 0, .arr true _⟩), (32772, ⟨1, 0, .arr true _⟩), (32773, ⟨1, 0, .arr true _⟩), (32774, ⟨1, 0, .arr true _⟩)] [(3, .c (.ptr 16384 1 0)), (7, .g [.arr 32768 1, .d _, .d _, .d _, .arr 32772 1, .arr 32773 1, .arr 32774 1])] [] ⟨Y, Y, Y, Y, Y, trivial⟩ ⟨Y, Y, trivial⟩ Y (Ko Y Y Y Y (Kdb ?_))))))))))
  clear hstopo9
  refine kSub (Sub.frzBox (rid 3 0) (rid 7 0) 0 rfl rfl rfl rfl rfl) ?_
  refine kSub (Sub.frzBox (rid 3 0) (rid 7 4) 4 rfl rfl rfl rfl rfl) ?_
  refine kSub (Sub.frzBox (rid 3 0) (rid 7 5) 5 rfl rfl rfl rfl rfl) ?_
  refine kSub (Sub.frzBox (rid 3 0) (rid 7 6) 6 rfl rfl rfl rfl rfl) ?_
  have hsm := rrOk_small hx0
  obtain ⟨hq1, hq2, hq3, hq4, hq5⟩ := rrOk_ty hx0
  have hq6 := rrOk_addr hx0
  refine Kc (Ke Y Y Y (kLitG Y Y Y Y (Ka Y (Kdb (Kbc (Kf Y Y (Ke Y Y Y (Kj Y Y Y (Ka Y (kGP Y (fun g1 => kMem [(0, ⟨0, 1, .box [.d _, .d _, .d _]⟩)] [(0, .c (.ptr 0 0 0)), (14, .c (.un)), (13, .c (.d _)), (15, .c (.un))] [] ⟨Y, trivial⟩ ⟨Y, Y, Y, Y, trivial⟩ Y (Ki Y (Ka Y (Ki Y (Kz (ok_spec_l1Once _ _) ⟨⟨rfl, _, rfl, rfl⟩, rfl, trivial⟩ Y Y Y (fun _ => rfl) (fun x2 hx2 => (Kk Y (Ka Y (Kd (kCond Y (fun g3 => Kbc (Ke Y Y Y (Ku true (ok_spec_l3own _ prx) ⟨⟨⟨Y, Y, Y, Y, Y, Y, Y, trivial⟩, leb⟩, trivial⟩ Y Y Y (fun _ => (kAlloc Y Y (kMem [(24576, ⟨1, 0, .box [.nil 1, .d _, .d _, .d _, .nil 1, .nil 1, .nil 1]⟩), (77824, ⟨1, 0, .arr true _⟩), (77828, ⟨1, 0, .arr true _⟩), (77829, ⟨1, 0, .arr true _⟩), (77830, ⟨1, 0, .arr true _⟩)] [(5, .c (.ptr 24576 1 0)), (18, .g [.arr 77824 1, .d _, .d _, .d _, .arr 77828 1, .arr 77829 1, .arr 77830 1])] [] ⟨Y, Y, Y, Y, Y, trivial⟩ ⟨Y, Y, trivial⟩ Y (Ko Y Y Y Y (Kdb (Kc (Kf Y Y (Ke Y Y Y (kAdd Y Y om (Kf Y Y (Ko Y Y Y Y (Kdb (Kc (Kf Y Y (Ke Y Y Y (Kj Y Y Y (Kd (Km Y (fun g4 => Kc (kMem [(40960, ⟨1, 0, .arr false _⟩), (24576, ⟨1, 0, .box [.arr 77824 1, .d _, .d _, .d _, .arr 77828 1, .arr 77829 1, .arr 77830 1]⟩), (77824, ⟨1, 0, .arr true _⟩), (77828, ⟨1, 0, .arr true _⟩), (77829, ⟨1, 0, .arr true _⟩), (77830, ⟨1, 0, .arr true _⟩)] [(4, .c (.arr 40960 1)), (5, .c (.ptr 24576 1 0)), (27, .c (.un)), (26, .c (.un)), (28, .c (.un)), (29, .c (.un))] [] ⟨Y, Y, Y, Y, Y, Y, trivial⟩ ⟨Y, Y, Y, Y, Y, Y, trivial⟩ Y (Ka Y (Ke Y Y Y (kLitG Y Y Y Y ?_))))) (fun g4 => Kn (Kbc (kMem [(40960, ⟨1, 0, .arr false _⟩)] [(4, .c (.arr 40960 1)), (30, .c (.un))] [] ⟨Y, trivial⟩ ⟨Y, Y, trivial⟩ Y (Ka Y (Ka Y (Kd (kMem [(40960, ⟨1, 0, .arr false _⟩)] [(2, .c (.arr 40960 1))] [] ⟨Y, trivial⟩ ⟨Y, trivial⟩ Y (Kr (Er (ra := [.one (.own false _)]) rfl ?_)))))))))))))))))))))))))))))) (fun g3 => Kn (Kbc (Ka Y (Ka Y (Kd (kMem [(40960, ⟨1, 0, .arr false _⟩)] [(2, .c (.arr 40960 1))] [] ⟨Y, trivial⟩ ⟨Y, trivial⟩ Y (Kr (Er (ra := [.one (.own false _)]) rfl ?_)))))))))))))))))) (fun g1 => kMem [(0, ⟨0, 1, .box [.d _, .d _, .d _]⟩)] [(0, .c (.ptr 0 0 0)), (14, .c (.un)), (13, .c (.d _)), (15, .c (.un))] [] ⟨Y, trivial⟩ ⟨Y, Y, Y, Y, trivial⟩ Y (Kg Y (Kg Y (Kl Y (Ka Y (Kd (kCondF Y (Kn (Kbc (Ka Y (Ka Y (Kd (kMem [(40960, ⟨1, 0, .arr false _⟩)] [(2, .c (.arr 40960 1))] [] ⟨Y, trivial⟩ ⟨Y, trivial⟩ Y (Kr (Er (ra := [.one (.own false _)]) rfl ?_)))))))))))))))))))))))))
  · refine kAppRec (l := [x0.1]) Y Y Y Y Y Y Y (by simp) ?_
    refine Ka Y (Kdb (Kc (Ka Y (Ka Y (Kd (kMem [(40960, ⟨2, 0, .arr false _⟩)] [(2, .c (.arr 40960 2))] [] ⟨Y, trivial⟩ ⟨Y, trivial⟩ Y (Kr (Er (ra := [.one (.own false _)]) rfl ?_))))))))
    exact ⟨([x0.1, { x0.1 with addr := x0.1.addr + 1 }], x2.2), ⟨⟨by simp, by simp⟩, fun r hr => by
      simp only [List.mem_cons, List.not_mem_nil, or_false] at hr
      rcases hr with rfl | rfl
      · exact ⟨hsm, by omega, by omega⟩
      · exact ⟨⟨hsm.n, hsm.t, hsm.x, hsm.m⟩, by simp only; omega, by simp only; omega⟩⟩, rfl, rfl⟩
  all_goals (
    have hone : DrawnS [x0.1] := ⟨⟨by simp, by simp⟩, fun r hr => by
      simp only [List.mem_cons, List.not_mem_nil, or_false] at hr
      rw [hr]
      exact ⟨hsm, by omega, by omega⟩⟩
    first | exact ⟨([x0.1], x2.2), hone, rfl, rfl⟩ | exact ⟨([x0.1], x0.2), hone, rfl, rfl⟩)
def c_spec_DrawCachePut : C := (.g (.o 0 2 (.alloc 2 [(.i 0), (.i 0), (.n 7)]) (.o 1 3 (.mov (.n 7)) (.o 2 4 (.mov (.i 0)) .done))) (.g (.o 0 8 (.mov (.t 0)) (.o 1 9 (.call 9 63 [(.t 8)]) (.o 2 5 (.mov (.t 9)) .done))) (.g (.o 0 10 (.mov (.t 5)) (.o 1 11 (.call 11 137 [(.t 10)]) (.o 2 6 (.alloc 6 [(.i 0), (.i 0), (.n 7)]) (.op 3 [] none none false (.store (some 3) (.t 6) (.t 11)) .done)))) (.g (.o 0 12 (.mov (.t 5)) (.o 1 13 (.call 13 147 [(.t 12)]) (.o 2 7 (.mov (.t 13)) .done))) (.seq (.g (.o 0 14 (.mov (.t 5)) (.o 1 15 (.call 15 68 [(.t 14), (.i 9)]) .done)) (.cond (.t 15) (.reg false (.o 0 16 (.mov (.t 7)) (.o 1 17 (.mov (.t 5)) (.o 2 18 (.call 18 148 [(.t 17)]) (.o 3 19 (.lit 19 7 [(.n 1), (.i 0), (.i 0), (.i 0), (.n 1), (.n 1), (.n 1)] 1 [(0, 7, (.t 18))]) (.o 4 20 (.app 20 7 120 (.t 16) (.t 19)) (.o 5 7 (.mov (.t 20)) .done))))))) .skip)) (.seq (.reg true (.op 0 [] (some 21) none true (.load (some 3) (.t 6)) (.op 1 [] (some 22) none true (.mov (.t 7)) (.op 2 [] (some 23) none true (.mov (.t 5)) (.o 3 24 (.lit 24 1 [(.i 0)] 6 [(0, 1, (.i 0)), (1, 1, (.i 1)), (2, 1, (.i 2)), (3, 1, (.i 3)), (4, 1, (.i 4)), (5, 1, (.i (-1)))]) (.o 4 25 (.call 25 118 [(.t 23), (.t 24)]) (.op 5 [0] none none false (.store (some 3) (.t 2) (.t 21)) (.op 6 [] (some 3) none true (.mov (.t 22)) (.op 7 [] (some 4) none true (.mov (.t 25)) .done))))))))) .ret))))))
theorem dg_spec_DrawCachePut : Tryz.f59.body.bind (digC Tryz.prog Tryz.f59.ntmps []) = some c_spec_DrawCachePut := by kernel_rfl
theorem rs_spec_DrawCachePut : resSlots Tryz.prog Tryz.f59 = some [.m 2 (some 3), .s 3, .s 4] := by kernel_rfl
theorem ok_spec_DrawCachePut (b : List UInt8) (hb : (b.length : Int) ≤ 9223372036854775807) :
    FnOK Tryz.prog 59 [.one (.d (encB b))] (fun ra _ => ∃ x : Cache × List Rr × Int, (BentC x.1 ∧ (0 < x.2.1.length ∧ x.2.1.length ≤ 3 ∧ ∀ r ∈ x.2.1, SmallR r) ∧ x.2.2 ∈ [0, 1, 2, 3, 4, -1]) ∧ ra = [.agg [.d (.sc (.int .i64 x.1.now)), .d (.sc (.int .i64 x.1.turn)), .d (encS x.1.slots)], .one (.d (encR x.2.1)), .one (.d (.sc (.int .i64 x.2.2)))]) := by
  refine FnOK.ofK Tryz.func59 (by kernel_rfl) dg_spec_DrawCachePut rs_spec_DrawCachePut rfl rfl ?_
  delta c_spec_DrawCachePut T.o X.i C.g
  have hstopo13 := trivial
  refine Kbc (kAlloc Y Y (Ka Y (Ka Y (Kdb (Kc (Ka Y (kCallX false (ok_spec_l1New _ prx) ⟨Y, trivial⟩ Y (fun _ => rfl) (fun _ => rfl) (fun x0 _ hx0 => (Ka Y (Kdb (Kc (Ka Y (Kz (ok_spec_l10bent _) ⟨⟨rfl, _, rfl, rfl⟩, trivial⟩ Y Y Y (fun _ => rfl) (fun x1 hx1 => (kAlloc Y Y (kMem [(28672, ⟨1, 0, .box [.d _, .d _, .nil 7]⟩)] [(6, .c (.ptr 28672 1 0)), (11, .g [.d _, .d _, .d _])] [] ⟨Y, trivial⟩ ⟨Y, Y, trivial⟩ Y (Ko Y Y Y Y (Kdb ?_))))))))))))))))))
  clear hstopo13
  refine Kc (Ka Y (Kz (oko_spec_l10rrs _) ⟨⟨rfl, _, rfl, rfl⟩, trivial⟩ Y Y Y (fun _ => rfl) (fun x2 hx2 => ?_)))
  obtain ⟨⟨e1, e2⟩, e3⟩ := id hx2
  refine Ka Y (Kdb (Kbc (Ka Y (Kz (ok_spec_l1Once _ _) ⟨⟨rfl, _, rfl, rfl⟩, rfl, trivial⟩ Y Y Y (fun _ => rfl) (fun x3 hx3 => (Kd (kCond Y (fun g4 => Kc (Ka Y (Ka Y (Kz (ok_spec_l3bent _) ⟨⟨rfl, _, rfl, rfl⟩, trivial⟩ Y Y Y (fun _ => rfl) (fun x5 hx5 => (kMem [(57344, ⟨1, 0, .arr false _⟩)] [(18, .g [.d _, .d _, .d _, .d _, .d _, .d _, .d _]), (16, .c (.arr 57344 1)), (19, .c (.un)), (20, .c (.un))] [] ⟨Y, trivial⟩ ⟨Y, Y, Y, Y, trivial⟩ Y (kLitG Y Y Y Y (kAppRec Y Y Y Y Y Y Y prl (Ka Y (Kdb (kRegD (Ke Y Y Y (Ka Y (Ka Y (kLitD Y Y Y Y (kMem [(40960, ⟨1, 4, .box [.d _, .d _, .d _]⟩), (12288, ⟨1, 0, .box [.d _, .d _, .nil 7]⟩), (57344, ⟨2, 0, .arr false _⟩)] [(23, .c (.ptr 40960 1 0)), (24, .c (.d _)), (2, .c (.ptr 12288 1 0)), (21, .g [.d _, .d _, .d _]), (22, .c (.arr 57344 2)), (25, .c (.un))] [28672] ⟨Y, Y, Y, trivial⟩ ⟨Y, Y, Y, Y, Y, Y, trivial⟩ Y (Kz (ok_spec_l1PickInt _ _ prx prx prx) ⟨⟨rfl, _, rfl, rfl⟩, rfl, trivial⟩ Y Y Y (fun _ => rfl) (fun x6 hx6 => (kMem [(12288, ⟨1, 0, .box [.d _, .d _, .nil 7]⟩), (57344, ⟨2, 0, .arr false _⟩)] [(2, .c (.ptr 12288 1 0)), (21, .g [.d _, .d _, .d _]), (22, .c (.arr 57344 2)), (25, .c (.d _))] [28672] ⟨Y, Y, trivial⟩ ⟨Y, Y, Y, Y, trivial⟩ Y (Ks Y Y (Ko Y Y Y Y (Ka Y (Ka Y (Kd (kH (kMem [(12288, ⟨1, 0, .box [.d _, .d _, .d _]⟩), (57344, ⟨2, 0, .arr false _⟩)] [(2, .c (.ptr 12288 1 0)), (3, .c (.arr 57344 2)), (4, .c (.d _))] [] ⟨Y, Y, trivial⟩ ⟨Y, Y, Y, trivial⟩ Y (Kr (Er (ra := [.agg [(.d _), (.d _), (.d _)], .one (.d _), .one (.d _)]) rfl ?_)))))))))))))))))))))))))))) (fun g4 => Kn (Kb (kRegD (Ke Y Y Y (Ka Y (kMem [(40960, ⟨1, 3, .box [.d _, .d _, .d _]⟩), (12288, ⟨1, 0, .box [.d _, .d _, .nil 7]⟩), (57344, ⟨1, 0, .arr false _⟩)] [(5, .c (.ptr 40960 1 0)), (23, .c (.un)), (24, .c (.un)), (2, .c (.ptr 12288 1 0)), (21, .g [.d _, .d _, .d _]), (22, .c (.arr 57344 1)), (25, .c (.un))] [28672] ⟨Y, Y, Y, trivial⟩ ⟨Y, Y, Y, Y, Y, Y, Y, trivial⟩ Y (Ka Y (kLitD Y Y Y Y (Kz (ok_spec_l1PickInt _ _ prx prx prx) ⟨⟨rfl, _, rfl, rfl⟩, rfl, trivial⟩ Y Y Y (fun _ => rfl) (fun x7 hx7 => (kMem [(12288, ⟨1, 0, .box [.d _, .d _, .nil 7]⟩), (57344, ⟨1, 0, .arr false _⟩)] [(2, .c (.ptr 12288 1 0)), (21, .g [.d _, .d _, .d _]), (22, .c (.arr 57344 1)), (25, .c (.d _))] [28672] ⟨Y, Y, trivial⟩ ⟨Y, Y, Y, Y, trivial⟩ Y (Ks Y Y (Ko Y Y Y Y (Ka Y (Ka Y (Kd (kH (kMem [(12288, ⟨1, 0, .box [.d _, .d _, .d _]⟩), (57344, ⟨1, 0, .arr false _⟩)] [(2, .c (.ptr 12288 1 0)), (3, .c (.arr 57344 1)), (4, .c (.d _))] [] ⟨Y, Y, trivial⟩ ⟨Y, Y, Y, trivial⟩ Y (Kr (Er (ra := [.agg [(.d _), (.d _), (.d _)], .one (.d _), .one (.d _)]) rfl ?_)))))))))))))))))))))))))))
  · exact ⟨(x1.1, x2.1 ++ [x5.1], x6.1), ⟨hx1, ⟨by simp, by simp; omega, fun r hr => by
      rcases List.mem_append.1 hr with h | h
      · exact (e3 r h).1
      · simp only [List.mem_singleton] at h; rw [h]; exact hx5⟩, hx6⟩, rfl⟩
  · exact ⟨(x1.1, x2.1, x7.1), ⟨hx1, ⟨e1, by simp only; omega, fun r hr => (e3 r hr).1⟩, hx7⟩, rfl⟩

theorem ok_bytes_Compare (a b : List UInt8) : FnOK Tryz.prog 226 [.one (.d (encB a)), .one (.d (encB b))] (fun ra _ => ra = [.one (.d (.sc (.int .i64 (cmpB a b))))]) := by
  refine FnOK.ofWalkB Tryz.func226 rfl (by kernel_rfl) fun w va vb h1 h2 => ?_
  have hc := run_compare (P := Tryz.prog) (w := w) (va := va) (vb := vb) Tryz.func291 (by kernel_rfl) rfl (by kernel_rfl) (by kernel_rfl) h1 h2
  go_enter Tryz.func226, Tryz.ntmps226
  go_wp2
  all_goals go_ret
  exact ⟨rfl, Go.RowKit.Below.refl _ _, by first | exact Nat.le_refl _ | exact Nat.le_succ _ | (simp only [Go.World.drew, Go.World.drewN]; omega)⟩

def c_cmp_isNaN_int : C := (.g (.o 0 2 (.mov (.v (.bool false))) .done) (.g (.o 0 3 (.mov (.t 0)) (.o 1 4 (.mov (.t 0)) (.o 2 5 (.bin .neq (.t 3) (.t 4)) (.o 3 2 (.mov (.t 5)) .done)))) .ret))
theorem dg_cmp_isNaN_int : Tryz.f290.body.bind (digC Tryz.prog Tryz.f290.ntmps []) = some c_cmp_isNaN_int := by kernel_rfl
theorem rs_cmp_isNaN_int : resSlots Tryz.prog Tryz.f290 = some [.s 2] := by kernel_rfl
theorem ok_cmp_isNaN_int (a : Int) :
    FnOK Tryz.prog 290 [.one (.d (.sc (.int .i64 a)))] (fun ra _ => ra = [.one (.d (.sc (.bool false)))]) := by
  refine FnOK.ofK Tryz.func290 (by kernel_rfl) dg_cmp_isNaN_int rs_cmp_isNaN_int rfl rfl ?_
  delta c_cmp_isNaN_int T.o X.i C.g
  refine Kbc (Ka Y (Kdb (Kc (Ka Y (Ka Y (Kj Y Y Y (Ka Y (Kd (Kr (Er (ra := [.one (.d _)]) rfl ?_))))))))))
  rw [show (a != a) = false by simp]

def c_cmp_Compare_int : C := (.g (.o 0 4 (.mov (.i 0)) .done) (.g (.o 0 7 (.mov (.t 0)) (.o 1 8 (.call 8 290 [(.t 7)]) (.o 2 5 (.mov (.t 8)) .done))) (.g (.o 0 9 (.mov (.t 1)) (.o 1 10 (.call 10 290 [(.t 9)]) (.o 2 6 (.mov (.t 10)) .done))) (.seq (.g (.o 0 11 (.mov (.t 5)) .done) (.cond (.t 11) (.seq (.g (.o 0 12 (.mov (.t 6)) .done) (.cond (.t 12) (.g (.o 0 4 (.mov (.i 0)) .done) .ret) .skip)) (.g (.o 0 4 (.mov (.i (-1))) .done) .ret)) .skip)) (.seq (.g (.o 0 13 (.mov (.t 6)) .done) (.cond (.t 13) (.g (.o 0 4 (.mov (.i 1)) .done) .ret) .skip)) (.seq (.g (.o 0 14 (.mov (.t 0)) (.o 1 15 (.mov (.t 1)) (.o 2 16 (.bin .lss (.t 14) (.t 15)) .done))) (.cond (.t 16) (.g (.o 0 4 (.mov (.i (-1))) .done) .ret) .skip)) (.seq (.g (.o 0 17 (.mov (.t 0)) (.o 1 18 (.mov (.t 1)) (.o 2 19 (.bin .gtr (.t 17) (.t 18)) .done))) (.cond (.t 19) (.g (.o 0 4 (.mov (.i 1)) .done) .ret) .skip)) (.g (.o 0 4 (.mov (.i 0)) .done) .ret))))))))
theorem dg_cmp_Compare_int : Tryz.f225.body.bind (digC Tryz.prog Tryz.f225.ntmps []) = some c_cmp_Compare_int := by kernel_rfl
theorem rs_cmp_Compare_int : resSlots Tryz.prog Tryz.f225 = some [.s 4] := by kernel_rfl
theorem ok_cmp_Compare_int (a b : Int) :
    FnOK Tryz.prog 225 [.one (.d (.sc (.int .i64 a))), .one (.d (.sc (.int .i64 b)))] (fun ra _ => ra = [.one (.d (.sc (.int .i64 (cmpI a b))))]) := by
  refine FnOK.ofK Tryz.func225 (by kernel_rfl) dg_cmp_Compare_int rs_cmp_Compare_int rfl rfl ?_
  delta c_cmp_Compare_int T.o X.i C.g
  refine Kbc (Ka Y (Kdb (Kc (Ka Y (Kp (ok_cmp_isNaN_int _) ⟨Y, trivial⟩ Y Y Y Y Y (Ka Y (Kdb (Kc (Ka Y (Kp (ok_cmp_isNaN_int _) ⟨Y, trivial⟩ Y Y Y Y Y (Ka Y (Kdb (Kbc (Ka Y (Kd (kCondF Y (Kn (Kb (Kbc (Ka Y (Kd (kCondF Y (Kn (Kb (Kbc (Ka Y (Ka Y (Kj Y Y Y (Kd (Km Y (fun g0 => Kbc (Ka Y (Kd (Kr (Er (ra := [.one (.d _)]) rfl ?_))))) (fun g0 => Kn (Kb (Kbc (Ka Y (Ka Y (Kj Y Y Y (Kd (Km Y (fun g1 => Kbc (Ka Y (Kd (Kr (Er (ra := [.one (.d _)]) rfl ?_))))) (fun g1 => Kn (Kbc (Ka Y (Kd (Kr (Er (ra := [.one (.d _)]) rfl ?_))))))))))))))))))))))))))))))))))))))))))))
  all_goals (refine congrArg (fun z : Int => [RA.one (RV.d (DV.sc (Value.int IntKind.i64 z)))]) ?_; unfold cmpI; split <;> first | omega | (split <;> omega))

def c_impl_Name_compare : C := (.g (.o 0 2 (.box 2 (.t 0)) (.o 1 3 (.box 3 (.t 1)) (.o 2 4 (.mov (.i 0)) .done))) (.seq (.g (.o 0 5 (.mov (.i 1)) .done) (.block 0 (.loop (.seq (.g (.o 0 7 (.mov (.t 5)) (.o 1 8 (.fad (.t 2) 0) (.o 2 9 (.load none (.t 8)) (.o 3 10 (.len (.t 9)) (.o 4 11 (.fad (.t 3) 0) (.o 5 12 (.load none (.t 11)) (.o 6 13 (.len (.t 12)) (.o 7 14 (.mm false (.t 10) (.t 13)) (.o 8 15 (.bin .leq (.t 7) (.t 14)) .done))))))))) (.cond (.t 15) .skip (.exit 0))) (.seq (.block 1 (.seq (.reg true (.op 0 [] (some 18) none true (.fad (.t 2) 0) (.op 1 [] (some 19) none true (.load none (.t 18)) (.op 2 [] (some 20) none true (.fad (.t 2) 0) (.op 3 [] (some 21) none true (.load none (.t 20)) (.op 4 [] (some 22) none true (.len (.t 21)) (.op 5 [] (some 23) none true (.mov (.t 5)) (.op 6 [] (some 24) none true (.bin .sub (.t 22) (.t 23)) (.op 7 [] (some 25) none true (.iad 1 (.t 19) (.t 24)) (.op 8 [] (some 26) none true (.load none (.t 25)) (.op 9 [] (some 27) none true (.fad (.t 3) 0) (.op 10 [] (some 28) none true (.load none (.t 27)) (.op 11 [] (some 29) none true (.fad (.t 3) 0) (.op 12 [] (some 30) none true (.load none (.t 29)) (.op 13 [] (some 31) none true (.len (.t 30)) (.op 14 [] (some 32) none true (.mov (.t 5)) (.op 15 [] (some 33) none true (.bin .sub (.t 31) (.t 32)) (.op 16 [] (some 34) none true (.iad 1 (.t 28) (.t 33)) (.op 17 [] (some 35) none true (.load none (.t 34)) (.op 18 [8, 1, 3, 17, 10, 12] (some 36) none false (.call 36 226 [(.t 26), (.t 35)]) (.op 19 [] (some 6) none true (.mov (.t 36)) .done))))))))))))))))))))) (.g (.o 0 37 (.mov (.t 6)) (.o 1 38 (.bin .neq (.t 37) (.i 0)) .done)) (.cond (.t 38) (.g (.o 0 39 (.mov (.t 6)) (.o 1 4 (.mov (.t 39)) .done)) .ret) .skip)))) (.reg false (.o 0 16 (.mov (.t 5)) (.o 1 17 (.bin .add (.t 16) (.i 1)) (.o 2 5 (.mov (.t 17)) .done))))))))) (.g (.o 0 40 (.fad (.t 2) 0) (.o 1 41 (.load none (.t 40)) (.o 2 42 (.len (.t 41)) (.o 3 43 (.fad (.t 3) 0) (.o 4 44 (.load none (.t 43)) (.o 5 45 (.len (.t 44)) (.o 6 46 (.call 46 225 [(.t 42), (.t 45)]) (.o 7 4 (.mov (.t 46)) .done)))))))) .ret)))
theorem dg_impl_Name_compare : Tryz.f221.body.bind (digC Tryz.prog Tryz.f221.ntmps []) = some c_impl_Name_compare := by kernel_rfl
theorem rs_impl_Name_compare : resSlots Tryz.prog Tryz.f221 = some [.s 4] := by kernel_rfl
theorem ok_impl_Name_compare (a b : List (List UInt8)) (ha : a.length ≤ 4194304) (hb : b.length ≤ 4194304) :
    FnOK Tryz.prog 221 [.agg [.d (encBB a)], .agg [.d (encBB b)]] (fun ra _ => ra = [.one (.d (.sc (.int .i64 (cmpN a b))))]) := by
  refine FnOK.ofK Tryz.func221 (by kernel_rfl) dg_impl_Name_compare rs_impl_Name_compare rfl rfl ?_
  delta c_impl_Name_compare T.o X.i C.g
  refine Kbc (kBox Y Y Y Y Y (kBox Y Y Y Y Y (Ka Y (Kdb (Kbc (Ka Y (Kd (Kt ?_))))))))
  refine kLoop (α := { k : Nat // k ≤ a.length ∧ k ≤ b.length ∧ cmpN a b = cmpL (a.reverse.drop k) (b.reverse.drop k) })
    (fun y => ⟨tabSl [(2, .c (.ptr (rid 2 0) 1 0)), (3, .c (.ptr (rid 3 0) 1 0)), (5, .i (y.1 + 1))], obTab 1 [(rid 2 0, ⟨1, 0, .box [.d (encBB a)]⟩), (rid 3 0, ⟨1, 0, .box [.d (encBB b)]⟩)], []⟩) (fun y => a.length - y.1) ⟨0, by simp [cmpN]⟩
    .normA ?_
  rintro ⟨k, h1, h2, h3⟩
  simp only
  rcases Nat.lt_or_ge k a.length with hla | hga
  · rcases Nat.lt_or_ge k b.length with hlb | hgb
    · have hst := cmpL_step a b k hla hlb (a.length - (k + 1) : Int).toNat (b.length - (k + 1) : Int).toNat (by omega) (by omega)
      refine Kb (Kbc (Ka Y (Kf Y Y (Ke Y Y Y (Kq Y Y (Kf Y Y (Ke Y Y Y (Kq Y Y (kMmMin Y Y (Kj Y Y Y (Kd (Km Y (fun g0 => Kn (Kb (Kt (Kb (kRegD (Kf Y Y (Ke Y Y Y (Kf Y Y (Ke Y Y Y (Kq Y Y (Ka Y (kDif Y Y om (kIadT Y Y om (Ky Y Y (Kf Y Y (Ke Y Y Y (Kf Y Y (Ke Y Y Y (Kq Y Y (Ka Y (kDif Y Y om (kIadT Y Y om (Ky Y Y (Ks Y Y (Kp (ok_bytes_Compare _ _) ⟨Y, Y, trivial⟩ Y Y Y Y Y (Ka Y (Kd (kH (Kbc (Ka Y (Kj Y Y Y (Kd (kCondIN Y (fun g1 => Kbc (Ka Y (Ka Y (Kd (Kr (Er (ra := [.one (.d _)]) rfl ?_)))))) (fun g1 => Kn (Kv (Kc (Ka Y (kAdd Y Y om (Ka Y (Kd ?_)))))))))))))))))))))))))))))))))))))))) (fun g0 => om)))))))))))))
      · rw [h3, hst, if_neg (by assumption)]
      · refine kInv ⟨⟨k + 1, hla, hlb, ?_⟩, by simp only; omega, .normA⟩
        rw [h3, hst, if_pos (by assumption)]
    · rw [cmpL_end a b k h1 h2 (by omega)] at h3
      refine Kb (Kbc (Ka Y (Kf Y Y (Ke Y Y Y (Kq Y Y (Kf Y Y (Ke Y Y Y (Kq Y Y (kMmMin Y Y (Kj Y Y Y (Kd (Km Y (fun g0 => om) (fun g0 => kExit (kExC (kExI (kExB (Kbc (Kf Y Y (Ke Y Y Y (Kq Y Y (Kf Y Y (Ke Y Y Y (Kq Y Y (Kp (ok_cmp_Compare_int _ _) ⟨Y, Y, trivial⟩ Y Y Y Y Y (Ka Y (Kd (Kr (Er (ra := [.one (.d _)]) rfl ?_))))))))))))))))))))))))))))
      all_goals (rw [h3]; refine congrArg (fun z : Int => [RA.one (RV.d (DV.sc (Value.int IntKind.i64 z)))]) ?_; unfold cmpI; split <;> (repeat' split) <;> omega)
  · rw [cmpL_end a b k h1 h2 (by omega)] at h3
    refine Kb (Kbc (Ka Y (Kf Y Y (Ke Y Y Y (Kq Y Y (Kf Y Y (Ke Y Y Y (Kq Y Y (kMmMin Y Y (Kj Y Y Y (Kd (Km Y (fun g0 => om) (fun g0 => kExit (kExC (kExI (kExB (Kbc (Kf Y Y (Ke Y Y Y (Kq Y Y (Kf Y Y (Ke Y Y Y (Kq Y Y (Kp (ok_cmp_Compare_int _ _) ⟨Y, Y, trivial⟩ Y Y Y Y Y (Ka Y (Kd (Kr (Er (ra := [.one (.d _)]) rfl ?_))))))))))))))))))))))))))))
    all_goals (rw [h3]; refine congrArg (fun z : Int => [RA.one (RV.d (DV.sc (Value.int IntKind.i64 z)))]) ?_; unfold cmpI; split <;> (repeat' split) <;> omega)

def c_impl_Name_is : C := (.g (.o 0 2 (.box 2 (.t 0)) (.o 1 3 (.box 3 (.t 1)) (.o 2 4 (.mov (.v (.bool false))) .done))) (.g (.o 0 5 (.load (some 1) (.t 2)) (.o 1 6 (.load (some 1) (.t 3)) (.o 2 7 (.call 7 221 [(.t 5), (.t 6)]) (.o 3 8 (.bin .eql (.t 7) (.i 0)) (.o 4 4 (.mov (.t 8)) .done))))) .ret))
theorem dg_impl_Name_is : Tryz.f131.body.bind (digC Tryz.prog Tryz.f131.ntmps []) = some c_impl_Name_is := by kernel_rfl
theorem rs_impl_Name_is : resSlots Tryz.prog Tryz.f131 = some [.s 4] := by kernel_rfl
theorem ok_impl_Name_is (a b : List (List UInt8)) (ha : a.length ≤ 4194304) (hb : b.length ≤ 4194304) :
    FnOK Tryz.prog 131 [.agg [.d (encBB a)], .agg [.d (encBB b)]] (fun ra _ => ra = [.one (.d (.sc (.bool (decide (a = b)))))]) := by
  refine FnOK.ofK Tryz.func131 (by kernel_rfl) dg_impl_Name_is rs_impl_Name_is rfl rfl ?_
  delta c_impl_Name_is T.o X.i C.g
  rw [← cmpN_zero]
  refine Kbc (kBox Y Y Y Y Y (kBox Y Y Y Y Y (Ka Y (Kdb (Kc (Ke Y Y Y (Ke Y Y Y (Kp (ok_impl_Name_compare _ _ pr pr) ⟨⟨⟨Y, trivial⟩, leb⟩, ⟨⟨Y, trivial⟩, leb⟩, trivial⟩ Y Y Y Y Y (Kj Y Y Y (Ka Y (Kd (Kr (Er (ra := [.one (.d _)]) rfl rfl)))))))))))))

def c_impl_Cache_find_1 : C := (.g (.o 0 3 (.box 3 (.t 0)) (.o 1 4 (.mov (.v (.bool false))) .done)) (.g (.o 0 5 (.fad (.t 3) 1) (.o 1 6 (.load none (.t 5)) (.o 2 7 (.load none (.t 1)) (.o 3 8 (.bin .eql (.t 6) (.t 7)) (.o 4 9 (.mov (.t 8)) (.op 5 [] (some 10) (some (9, true)) false (.fad (.t 3) 0) (.op 6 [] (some 11) (some (9, true)) false (.load (some 1) (.t 10)) (.op 7 [] (some 12) (some (9, true)) false (.load (some 1) (.t 2)) (.op 8 [] (some 13) (some (9, true)) false (.call 13 131 [(.t 11), (.t 12)]) (.o 9 14 (.pick (.t 9) (.t 13) (.v (.bool false))) (.o 10 4 (.mov (.t 14)) .done))))))))))) .ret))
theorem dg_impl_Cache_find_1 : Tryz.f251.body.bind (digC Tryz.prog Tryz.f251.ntmps []) = some c_impl_Cache_find_1 := by kernel_rfl
theorem rs_impl_Cache_find_1 : resSlots Tryz.prog Tryz.f251 = some [.s 4] := by kernel_rfl
theorem ok_impl_Cache_find_1 (s : Slot) (n : List (List UInt8)) (t : Int) (hs : SmallS s) (hn : n.length ≤ 4194304) :
    FnOK Tryz.prog 251 [.agg (s.cells.map .d), .one (.ptr [.d (.sc (.int .i64 t))]), .one (.ptr [.d (encBB n)])] (fun ra _ => ra = [.one (.d (.sc (.bool (decide (s.name = n) && s.ty == t))))]) := by
  refine FnOK.ofK Tryz.func251 (by kernel_rfl) dg_impl_Cache_find_1 rs_impl_Cache_find_1 rfl rfl ?_
  delta c_impl_Cache_find_1 T.o X.i C.g
  have hml := hs.n.len
  refine Kbc (kBox Y Y Y Y Y (Ka Y (Kdb (Kc (Kf Y Y (Ke Y Y Y (kLoadC Y Y (Kj Y Y Y (Ka Y (kGP Y (fun g0 => Ki Y (Kf Y Y (Ki Y (Ke Y Y Y (Ki Y (kLoadC Y Y (Ki Y (Kp (ok_impl_Name_is _ _ prx prx) ⟨⟨⟨Y, trivial⟩, leb⟩, ⟨⟨Y, trivial⟩, leb⟩, trivial⟩ Y Y Y Y Y (Kk Y (Ka Y (Ka Y (Kd (Kr (Er (ra := [.one (.d _)]) rfl ?_)))))))))))))) (fun g0 => Kg Y (Kg Y (Kg Y (Kg Y (Kl Y (Ka Y (Ka Y (Kd (Kr (Er (ra := [.one (.d _)]) rfl ?_))))))))))))))))))))
  · rw [show (s.ty == t) = true by simp [*], Bool.and_true]
  · rw [show (s.ty == t) = false by simp [*], Bool.and_false]

def c_slices_IndexFunc_Limpl_Slot_impl_Slot : C := (.g (.o 0 4 (.mov (.i 0)) .done) (.seq (.g (.o 0 6 (.mov (.t 0)) (.o 1 7 (.len (.t 6)) (.o 2 8 (.mov (.i 0)) .done))) (.block 0 (.loop (.g (.o 0 9 (.bin .lss (.t 8) (.t 7)) .done) (.seq (.cond (.t 9) .skip (.exit 0)) (.seq (.block 1 (.g (.o 0 10 (.mov (.t 8)) (.o 1 5 (.mov (.t 10)) .done)) (.g (.o 0 11 (.mov (.t 1)) (.o 1 12 (.mov (.t 0)) (.o 2 13 (.mov (.t 5)) (.o 3 14 (.iad 7 (.t 12) (.t 13)) (.o 4 15 (.load (some 7) (.t 14)) (.o 5 16 (.callv 16 (.t 11) [(.t 15)]) .done)))))) (.cond (.t 16) (.g (.o 0 17 (.mov (.t 5)) (.o 1 4 (.mov (.t 17)) .done)) .ret) .skip)))) (.reg false (.o 0 18 (.bin .add (.t 8) (.i 1)) (.o 1 8 (.mov (.t 18)) .done))))))))) (.g (.o 0 4 (.mov (.i (-1))) .done) .ret)))
theorem dg_slices_IndexFunc_Limpl_Slot_impl_Slot : Tryz.f231.body.bind (digC Tryz.prog Tryz.f231.ntmps []) = some c_slices_IndexFunc_Limpl_Slot_impl_Slot := by kernel_rfl
theorem rs_slices_IndexFunc_Limpl_Slot_impl_Slot : resSlots Tryz.prog Tryz.f231 = some [.s 4] := by kernel_rfl
theorem ok_slices_IndexFunc_Limpl_Slot_impl_Slot (l : List Slot) (D : Slot → Prop) (g : Slot → Bool) (hl : l.length ≤ 4194304) (hD : ∀ x ∈ l, D x) :
    FnOK Tryz.prog 231 [.one (.d (encS l)), .one (.fv false (fcAgg D Slot.cells g))] (fun ra _ => ra = [.one (.d (.sc (.int .i64 (idx g l))))]) := by
  refine FnOK.ofK Tryz.func231 (by kernel_rfl) dg_slices_IndexFunc_Limpl_Slot_impl_Slot rs_slices_IndexFunc_Limpl_Slot_impl_Slot rfl rfl ?_
  delta c_slices_IndexFunc_Limpl_Slot_impl_Slot T.o X.i C.g
  refine Kbc (Ka Y (Kdb (Kbc (Ka Y (Kq Y Y (Ka Y (Kd (Kt ?_))))))))
  refine kLoop (α := { i : Nat // i ≤ l.length ∧ ∀ x ∈ l.take i, g x = false })
    (fun y => ⟨tabSl [(0, .dv (encS l)), (1, .c (.fv false (fcAgg D Slot.cells g))), (7, .i l.length), (8, .i y.1)], obTab 1 [], []⟩) (fun y => l.length - y.1) ⟨0, by simp⟩
    .normA ?_
  rintro ⟨i, hi, hg⟩
  simp only
  rcases Nat.lt_or_ge i l.length with hlt | hge
  · refine Kbc (Kj Y Y Y (Kdb (Km Y (fun g0 => Kn (Kb (Kt (Kbc (Ka Y (Ka Y (Kdb (Kc (Ka Y (Ka Y (Ka Y (kIadR Y Y Y prl (Ky Y Y ?_))))))))))))) (fun g0 => om))))
    refine kCallv Y ⟨l[i], hD _ (List.getElem_mem hlt), rfl, rfl⟩ ⟨⟨⟨Y, Y, Y, Y, Y, Y, Y, trivial⟩, leb⟩, trivial⟩ (.inr ?_) rfl ?_ rfl ?_
    · rintro _ rfl; rfl
    · rintro _ rfl; exact leb
    rintro _ rfl
    refine Kd (kCond Y (fun g0 => Kbc (Ka Y (Ka Y (Kd (Kr (Er (ra := [.one (.d _)]) rfl ?_)))))) (fun g0 => Kn (Kv (Kc (kAdd Y Y om (Ka Y (Kd ?_)))))))
    · have : l.findIdx? g = some i := by
        rw [List.findIdx?_eq_some_iff_getElem]
        refine ⟨hlt, by assumption, fun j hj => ?_⟩
        simpa using hg _ (by rw [List.mem_take_iff_getElem]; exact ⟨j, by omega, rfl⟩)
      simp [idx, this]
    · refine kInv ⟨⟨i + 1, hlt, ?_⟩, by simp only; omega, .normA⟩
      intro x hx
      rw [← List.take_append_getElem hlt, List.mem_append] at hx
      rcases hx with hx | hx
      · exact hg x hx
      · simp at hx; rw [hx]; assumption
  · refine Kbc (Kj Y Y Y (Kdb (Km Y (fun g0 => om) (fun g0 => kExit (kExC (kExI (kExB (Kbc (Ka Y (Kd (Kr (Er (ra := [.one (.d _)]) rfl ?_))))))))))))
    have : l.findIdx? g = none := by
      rw [List.findIdx?_eq_none_iff]
      intro x hx
      rw [show i = l.length by omega, List.take_length] at hg
      exact hg x hx
    simp [idx, this]

def c_impl_Cache_find : C := (.g (.o 0 3 (.box 3 (.t 0)) (.o 1 4 (.box 4 (.t 1)) (.o 2 5 (.box 5 (.t 2)) (.o 3 6 (.mov (.i 0)) .done)))) (.g (.o 0 7 (.fad (.t 3) 2) (.o 1 8 (.load none (.t 7)) (.o 2 9 (.clo 251 [] [(.t 5), (.t 4)]) (.o 3 10 (.call 10 231 [(.t 8), (.t 9)]) (.o 4 6 (.mov (.t 10)) .done))))) .ret))
theorem dg_impl_Cache_find : Tryz.f181.body.bind (digC Tryz.prog Tryz.f181.ntmps []) = some c_impl_Cache_find := by kernel_rfl
theorem rs_impl_Cache_find : resSlots Tryz.prog Tryz.f181 = some [.s 6] := by kernel_rfl
theorem ok_impl_Cache_find (c : Cache) (n : List (List UInt8)) (t : Int) (hs : SmallSs c.slots) (hn : n.length ≤ 4194304) :
    FnOK Tryz.prog 181 [.agg (c.cells.map .d), .agg [.d (encBB n)], .one (.d (.sc (.int .i64 t)))] (fun ra _ => ra = [.one (.d (.sc (.int .i64 (findS c.slots n t))))]) := by
  refine FnOK.ofK Tryz.func181 (by kernel_rfl) dg_impl_Cache_find rs_impl_Cache_find rfl rfl ?_
  delta c_impl_Cache_find T.o X.i C.g
  have h1 := hs.len
  refine Kbc (kBox Y Y Y Y Y (kBox Y Y Y Y Y (kBox Y Y Y Y Y (Ka Y (Kdb (Kc (Kf Y Y (Ke Y Y Y (kClo Y Y ?_)))))))))
  refine Kp (ok_slices_IndexFunc_Limpl_Slot_impl_Slot c.slots SmallS (fun s => decide (s.name = n) && s.ty == t) h1 hs.mem) ⟨rfl, ⟨rfl, ⟨_, Tryz.func251, rfl, by kernel_rfl⟩, _, rfl, ?_⟩, trivial⟩ Y Y Y Y Y ?_
  · rintro _ R ⟨x, hx, rfl, rfl⟩
    exact ⟨by rintro _ rfl; rfl, ok_impl_Cache_find_1 x n t hx hn⟩
  refine Ka Y (Kd (Kr (Er (ra := [.one (.d _)]) rfl rfl)))

def c_slices_Clone_Limpl_Slot_impl_Slot : C := (.g (.o 0 2 (.mov (.n 7)) .done) (.seq (.g (.o 0 3 (.mov (.t 0)) (.o 1 4 (.eqn false (.t 3)) .done)) (.cond (.t 4) (.g (.o 0 2 (.mov (.n 7)) .done) .ret) .skip)) (.g (.o 0 5 (.lit 5 7 [(.n 1), (.i 0), (.i 0), (.n 7), (.i 0), (.i 0), (.i 0)] 0 []) (.o 1 6 (.mov (.t 0)) (.o 2 7 (.app 7 7 88 (.t 5) (.t 6)) (.o 3 2 (.mov (.t 7)) .done)))) .ret)))
theorem dg_slices_Clone_Limpl_Slot_impl_Slot : Tryz.f295.body.bind (digC Tryz.prog Tryz.f295.ntmps []) = some c_slices_Clone_Limpl_Slot_impl_Slot := by kernel_rfl
theorem rs_slices_Clone_Limpl_Slot_impl_Slot : resSlots Tryz.prog Tryz.f295 = some [.s 2] := by kernel_rfl
theorem ok_slices_Clone_Limpl_Slot_impl_Slot (b : List Slot) (hb : b.length ≤ 4194304) :
    FnOK Tryz.prog 295 [.one (.d (encS b))] (fun ra _ => ra = [.one (.own false (encS b))]) := by
  refine FnOK.ofK Tryz.func295 (by kernel_rfl) dg_slices_Clone_Limpl_Slot_impl_Slot rs_slices_Clone_Limpl_Slot_impl_Slot rfl rfl ?_
  delta c_slices_Clone_Limpl_Slot_impl_Slot T.o X.i C.g
  have hl : (encS b).len = b.length := len_encL _ _ _
  refine Kbc (Ka Y (Kd ?_))
  refine Kb (Kbc (Ka Y (kEqn Y Y Y fun n hn => Kd ?_)))
  refine kCond Y (fun h => ?_) (fun h => ?_)
  · refine Kbc (Ka Y (Kd (Kr ?_)))
    refine endRet (ra := [.one (.own false (.sl 7 []))]) rfl ⟨⟨rfl, trivial⟩, nodupB_sound rfl, trivial, trivial⟩ ?_
    have : b = [] := by
      rw [hl] at hn
      cases b with
      | nil => rfl
      | cons x l => have := hn (by simp); simp [this] at h
    rw [this]; rfl
  · refine Kn (Kbc ?_)
    refine kLit Y Y Y Y (Ka Y ?_)
    refine kApp (cy := .d (encS b)) rfl rfl rfl (rfl : _ = some (noNest (encS b), encS b, [])) rfl rfl ⟨rfl, rfl, Nat.succ_pos 6⟩ Y ?_ (Ka Y (Kd (Kr ?_)))
    · show ((DV.sl 7 (chunk 7 0 [])).len + (encS b).len) * 88 ≤ _ ∧ _
      rw [hl]; simp [DV.len, chunk]; omega
    refine endRet (ra := [.one (.own false _)]) rfl ⟨⟨⟨⟨_, rfl, fun h => absurd h (by decide)⟩, .inl (Nat.zero_lt_succ _)⟩, trivial⟩, nodupB_sound rfl, trivial, trivial⟩ ?_
    have e : (DV.sl 7 (chunk 7 0 [])).app (encS b) = encS b := by simp [DV.app, encL, DV.rows, DV.esz, chunk]
    exact congrArg (fun x => [RA.one (RV.own false x)]) e

theorem run_clear_rows {P : Program} (w : World) (t e ty : TypeId) (z : Value) (ht : P.underlying t = some (.slice e)) (hv : ∀ w, (zeroValue e).run P w = .ok z w) (h1 : ∀ v ∈ z.cells, v.oneCell' = true) (b o n c : Nat) (hn : 0 < n)
    (hc : ∀ j, j < (Builtin.zeroCells z.cells n).size → (w.cell? ⟨b, o + j, none⟩).isSome = true) (hf : ∀ j, j < (Builtin.zeroCells z.cells n).size → w.frozen? ⟨b, o + j, none⟩ = false) (h2 : ∀ v ∈ (Builtin.zeroCells z.cells n).toList, v.oneCell' = true) :
    (Builtin.clear_ #[t] ty #[.slice (some ⟨b, o, none⟩) n c]).run P w = .ok (.tuple #[]) (w.setCells b o (Builtin.zeroCells z.cells n).toList) := by
  have hst := run_storeCells_cells (P := P) b o (Builtin.zeroCells z.cells n).toList 0 w (by simpa using hc) (by simpa using hf) h2
  simp only [Nat.add_zero] at hst
  obtain ⟨m, rfl⟩ : ∃ m, n = m + 1 := ⟨n - 1, by omega⟩
  simp [Builtin.clear_, run_underlying ht, hv, hst]
theorem setCells_block {e : TypeId} (b : Nat) : ∀ (vs : List Value) (o : Nat) (w : World) (cur : Array Value), w.heap[b]? = some (.cells cur e (0, 0)) → o + vs.length ≤ cur.size →
    ∃ cur', (w.setCells b o vs).heap[b]? = some (.cells cur' e (0, 0)) ∧ cur'.size = cur.size ∧ (∀ t, t < o ∨ o + vs.length ≤ t → cur'[t]? = cur[t]?) ∧ (∀ j, j < vs.length → cur'[o + j]? = vs[j]?)
  | [], o, w, cur, h, _ => ⟨cur, h, rfl, fun _ _ => rfl, fun j hj => by simp at hj⟩
  | v :: r, o, w, cur, h, hl => by
    have hb : (w.setCell ⟨b, o, none⟩ v).heap[b]? = some (.cells (cur.setIfInBounds o v) e (0, 0)) := by
      have hlt : b < w.heap.size := (Array.getElem?_eq_some_iff.1 h).1
      simp [World.setCell, Array.getElem?_modify, h]
    simp only [List.length_cons] at hl
    obtain ⟨cur', h1, h2, h3, h4⟩ := setCells_block b r (o + 1) (w.setCell ⟨b, o, none⟩ v) (cur.setIfInBounds o v) hb (by simp; omega)
    refine ⟨cur', h1, by rw [h2]; simp, fun t ht => ?_, fun j hj => ?_⟩
    · simp only [List.length_cons] at ht
      rw [h3 t (by omega), Array.getElem?_setIfInBounds]
      rw [if_neg (by omega)]
    · match j with
      | 0 =>
        rw [Nat.add_zero, h3 o (by omega), Array.getElem?_setIfInBounds]
        simp; omega
      | j + 1 =>
        simp only [List.length_cons] at hj
        rw [show o + (j + 1) = o + 1 + j by omega, h4 j (by omega)]
        simp
theorem del_block {e : TypeId} {w : World} {b sz n i : Nat} {cur : Array Value} (hb : w.heap[b]? = some (.cells cur e (0, 0))) (hi : i < n) (hn : n * sz ≤ cur.size) {news zs : List Value}
    (hl : news.length = (n - (i + 1)) * sz) (hnews : ∀ j, j < news.length → cur[(i + 1) * sz + j]? = news[j]?) (hz : zs.length = sz) :
    ∃ cur', ((w.drew.setCells b (i * sz) news).setCells b ((n - 1) * sz) zs).heap[b]? = some (.cells cur' e (0, 0)) ∧ cur'.size = cur.size ∧ (∀ t, t < i * sz → cur'[t]? = cur[t]?) ∧ ∀ t, i * sz ≤ t → t < (n - 1) * sz → cur'[t]? = cur[t + sz]? := by
  have e1 : (n - 1) * sz + sz = n * sz := by
    obtain ⟨m, rfl⟩ : ∃ m, n = m + 1 := ⟨n - 1, by omega⟩
    simp [Nat.add_mul]
  have e2 : i * sz + (n - (i + 1)) * sz = (n - 1) * sz := by
    rw [← Nat.add_mul]; congr 1; omega
  have e3 : (i + 1) * sz = i * sz + sz := by rw [Nat.add_mul, Nat.one_mul]
  obtain ⟨c1, h1, h2, h3, h4⟩ := setCells_block b news (i * sz) w.drew cur hb (by omega)
  obtain ⟨c2, k1, k2, k3, k4⟩ := setCells_block b zs ((n - 1) * sz) _ c1 h1 (by omega)
  refine ⟨c2, k1, k2.trans h2, fun t ht => ?_, fun t ht1 ht2 => ?_⟩
  · rw [k3 t (by omega), h3 t (by omega)]
  · rw [k3 t (by omega)]
    obtain ⟨j, rfl⟩ : ∃ j, t = i * sz + j := ⟨t - i * sz, by omega⟩
    rw [h4 j (by omega), ← hnews j (by omega)]
    congr 1; omega
theorem setCells_other (b c : Nat) (hc : c ≠ b) : ∀ (vs : List Value) (o : Nat) (w : World), (w.setCells b o vs).heap[c]? = w.heap[c]? ∧ (w.setCells b o vs).heap.size = w.heap.size ∧ (w.setCells b o vs).os = w.os ∧ (w.setCells b o vs).tape = w.tape ∧ (w.setCells b o vs).output = w.output ∧ (w.setCells b o vs).drawn = w.drawn
  | [], _, _ => ⟨rfl, rfl, rfl, rfl, rfl, rfl⟩
  | v :: r, o, w => by
    obtain ⟨h1, h2, h3, h4, h5, h6⟩ := setCells_other b c hc r (o + 1) (w.setCell ⟨b, o, none⟩ v)
    have e : (w.setCell ⟨b, o, none⟩ v).heap[c]? = w.heap[c]? := by simp [World.setCell, Array.getElem?_modify, Ne.symm hc]
    exact ⟨h1.trans e, h2.trans (by simp [World.setCell]), h3, h4, h5, h6⟩
theorem FnOK.ofDelete {P : Program} {f : FuncId} {fn : Func} (hf : P.funcs[f]? = some fn) (hb : fn.body.isSome = true) (hname : (fn.name == "runtime.NumGoroutine") = false) {sz : Nat} {dp : Bool} {xs : List (List DV)} {i : Nat} (hi : i < xs.length)
    (walk : ∀ (w : World) (b cap : Nat) (cur : Array Value) (e : TypeId) (news : List Value), w.heap[b]? = some (.cells cur e (0, 0)) → xs.length ≤ cap → cap ≤ maxLen → cur.size = cap * sz → news.length = (xs.length - (i + 1)) * sz →
      (∀ j, j < news.length → cur[(i + 1) * sz + j]? = news[j]?) → (∀ u ∈ news, u.oneCell' = true) →
      Calls P f #[.slice (some ⟨b, 0, none⟩) xs.length cap, .int .i64 i, .int .i64 ((i : Int) + 1)] w fun e w' => e = .returned (.slice (some ⟨b, 0, none⟩) (xs.length - 1) cap) ∧ ∃ zs : List Value, zs.length = sz ∧ w' = (w.drew.setCells b (i * sz) news).setCells b ((xs.length - 1) * sz) zs) :
    FnOK P f [.one (.arr true dp (.sl sz xs)), .one (.d (.sc (.int .i64 i))), .one (.d (.sc (.int .i64 ((i : Int) + 1))))] (fun ra _ => ra = [.one (.own dp (.sl sz (xs.eraseIdx i)))]) := by
  refine ⟨⟨fn, hf, hb, hname⟩, fun w S Fs vs hs hv _ hFl hS _ => ?_⟩
  have hs3 : vs.size = 3 := hs
  obtain ⟨_, hp0⟩ := (hv 0 _ vs[0] rfl (Array.getElem?_eq_getElem (by omega)))
  have hp1 : vs[1] = _ := Pers.scEq (hv 1 _ vs[1] rfl (Array.getElem?_eq_getElem (by omega)))
  have hp2 : vs[2] = _ := Pers.scEq (hv 2 _ vs[2] rfl (Array.getElem?_eq_getElem (by omega)))
  rcases hp0 with ⟨h0, _⟩ | ⟨b, cap, cur, e, us, FsN, g1, g2, g3, g4, g5, g6, g7, g8, g9, g10, g11⟩
  · have : xs = [] := h0
    rw [this] at hi; simp at hi
  simp only [DV.rows, DV.esz] at g1 g4 g6 g7 g8 g11
  have hvs : vs = #[.slice (some ⟨b, 0, none⟩) xs.length cap, .int .i64 i, .int .i64 ((i : Int) + 1)] := by
    apply Array.ext
    · simpa using hs3
    · intro k h1' h2'
      match k with
      | 0 => exact g1
      | 1 => exact hp1
      | 2 => exact hp2
      | k + 3 => omega
  have hrow : ∀ k (hk : k < xs.length), xs[k]? = some xs[k] := fun k hk => List.getElem?_eq_getElem hk
  have hcellW : ∀ t, t < xs.length * sz → ∃ v : Value, cur[t]? = some v ∧ v.oneCell' = true := by
    intro t ht
    have hz0 : 0 < sz := Nat.pos_of_ne_zero fun h => by rw [h] at ht; omega
    have hk : t / sz < xs.length := Nat.div_lt_of_lt_mul (by rw [Nat.mul_comm]; exact ht)
    have hj : t % sz < sz := Nat.mod_lt _ hz0
    have hlen := g7 (t / sz) _ (hrow _ hk)
    have hd := List.getElem?_eq_getElem (l := xs[t / sz]) (i := t % sz) (by rw [hlen]; exact hj)
    have h1 := g8 (t / sz) (t % sz) _ _ (hrow _ hk) hd
    rw [Nat.div_add_mod' t sz] at h1
    exact ⟨_, h1, (g11 (t / sz) (t % sz) _ _ (hrow _ hk) hd).one⟩
  have hcap : xs.length * sz ≤ cur.size := by rw [g6]; exact Nat.mul_le_mul_right _ g4
  have e2 : (i + 1) * sz + (xs.length - (i + 1)) * sz = xs.length * sz := by
    rw [← Nat.add_mul]; congr 1; omega
  obtain ⟨news, hnews⟩ : ∃ news, news = (cur.toList.drop ((i + 1) * sz)).take ((xs.length - (i + 1)) * sz) := ⟨_, rfl⟩
  have hnl : news.length = (xs.length - (i + 1)) * sz := by rw [hnews]; simp; omega
  have hng : ∀ j, j < news.length → cur[(i + 1) * sz + j]? = news[j]? := by
    intro j hj
    rw [hnl] at hj
    rw [hnews, List.getElem?_take, if_pos hj, List.getElem?_drop]
    simp
  have hn1 : ∀ u ∈ news, u.oneCell' = true := by
    intro u hu
    obtain ⟨j, hj, rfl⟩ := List.getElem_of_mem hu
    obtain ⟨v, h1, h2⟩ := hcellW ((i + 1) * sz + j) (by rw [hnl] at hj; omega)
    rw [hng j hj, List.getElem?_eq_getElem hj] at h1
    cases h1
    exact h2
  rw [hvs]
  refine (walk w b cap cur e news g2 g4 g5 g6 hnl hng hn1).mono fun e' w' hm => ?_
  obtain ⟨rfl, zs, hz, rfl⟩ := hm
  obtain ⟨cur', k1, k2, k3, k4⟩ := del_block g2 hi hcap hnl hng hz
  have hbw : b < w.heap.size := (hFl _ b g3).1
  generalize hW : (w.drew.setCells b (i * sz) news).setCells b ((xs.length - 1) * sz) zs = W at k1
  have hoth : ∀ c, c ≠ b → W.heap[c]? = w.heap[c]? ∧ W.heap.size = w.heap.size ∧ W.os = w.os ∧ W.tape = w.tape ∧ W.output = w.output ∧ W.drawn = w.drew.drawn := by
    intro c hc
    obtain ⟨a1, a2, a3, a4, a5, a6⟩ := setCells_other b c hc zs ((xs.length - 1) * sz) (w.drew.setCells b (i * sz) news)
    obtain ⟨b1, b2, b3, b4, b5, b6⟩ := setCells_other b c hc news (i * sz) w.drew
    rw [← hW]
    exact ⟨a1.trans b1, a2.trans b2, a3.trans b3, a4.trans b4, a5.trans b5, a6.trans b6⟩
  obtain ⟨-, o2, o3, o4, o5, o6⟩ := hoth (b + 1) (by omega)
  have hS' : ∀ c, S c → c < w.heap.size ∧ c ≠ b := fun c hc => ⟨hS c hc, fun e => (hFl _ b g3).2 (e ▸ hc)⟩
  refine ⟨_, [.one (.own dp (.sl sz (xs.eraseIdx i)))], ⟨fun _ => .sl 0 [], fun _ => []⟩, fun q c => q = aid 0 0 ∧ Fs (aid 0 0) c, rfl, rfl, ⟨o3, o4, o5, by rw [o2]; exact Nat.le_refl _, fun c hc hM => (hoth c fun e => hM ⟨_, e ▸ g3⟩).1, by rw [o6]; exact Nat.le_succ _⟩,
    ⟨fun i j c h1 h2 => h1.1.trans h2.1.symm, fun i c hc => by rw [o2]; exact (hFl _ _ hc.2).1, fun i c hc => .inr ⟨aid 0 0, dp, .sl sz xs, rfl, hc.2⟩⟩, ⟨#[.slice (some ⟨b, 0, none⟩) (xs.length - 1) cap], rfl, rfl, fun t a u ha hu => ?_⟩, fun t k g v p u hg _ hp _ => ?_⟩
  · match t with
    | t + 1 => simp at ha
    | 0 =>
      simp at ha hu; subst ha; subst hu
      have hσ : ∀ (k : Nat) (cs : List DV), (xs.eraseIdx i)[k]? = some cs → k < xs.length - 1 ∧ xs[if k < i then k else k + 1]? = some cs := by
        intro k cs h
        have hk : k < (xs.eraseIdx i).length := (List.getElem?_eq_some_iff.1 h).1
        rw [List.length_eraseIdx, if_pos hi] at hk
        refine ⟨hk, ?_⟩
        rw [List.getElem?_eraseIdx] at h
        by_cases hki : k < i
        · rw [if_pos hki] at h ⊢
          exact h
        · rw [if_neg hki] at h ⊢
          exact h
      refine ⟨rfl, .inr ⟨b, cap, cur', e, fun k j => us (if k < i then k else k + 1) j, fun k j c => FsN (if k < i then k else k + 1) j c, ?_, k1, ⟨rfl, g3⟩, ?_, g5, by rw [k2]; exact g6, ?_, ?_, fun k j c hc => ⟨⟨rfl, (g9 _ j c hc).1⟩, (g9 _ j c hc).2⟩, ?_, ?_⟩⟩
      · simp [DV.rows, List.length_eraseIdx, hi]
      · simp only [DV.rows, List.length_eraseIdx, if_pos hi]; omega
      · intro k cs h
        exact g7 _ cs (hσ k cs h).2
      · intro k j cs d h hd
        obtain ⟨hk, h2⟩ := hσ k cs h
        have hj : j < sz := by rw [← g7 _ cs h2]; exact (List.getElem?_eq_some_iff.1 hd).1
        have hold := g8 _ j cs d h2 hd
        show cur'[k * sz + j]? = some (us (if k < i then k else k + 1) j)
        have f1 : (k + 1) * sz = k * sz + sz := by rw [Nat.add_mul, Nat.one_mul]
        have f2 := Nat.mul_le_mul_right sz (show k + 1 ≤ xs.length - 1 from hk)
        by_cases hki : k < i
        · have f3 := Nat.mul_le_mul_right sz (show k + 1 ≤ i from hki)
          rw [if_pos hki] at hold
          rw [k3 _ (by omega), if_pos hki]
          exact hold
        · have f3 := Nat.mul_le_mul_right sz (show i ≤ k by omega)
          rw [if_neg hki] at hold
          rw [k4 _ (by omega) (by omega), if_neg hki, ← hold]
          congr 1; omega
      · intro k j k' j' c h1 h2
        obtain ⟨a1, a2⟩ := g10 _ _ _ _ c h1 h2
        refine ⟨?_, a2⟩
        split at a1 <;> split at a1 <;> omega
      · intro k j cs d h hd
        obtain ⟨hk, h2⟩ := hσ k cs h
        refine (g11 _ j cs d h2 hd).mono (fun h => h) (fun c hc => ⟨(hoth c (hS' c hc).2).1, by rw [o2]; exact (hS' c hc).1, .inl hc, fun q hq => (hFl _ c hq.2).2 hc⟩) _ fun c hc => ⟨(hoth c (g9 _ j c hc).2).1, hc⟩
  · match t with
    | 0 =>
      simp at hg; subst hg
      simp only [GA.at] at hp
      split at hp
      · simp at hp; subst hp; trivial
      · simp at hp
    | 1 =>
      simp at hg; subst hg
      simp only [GA.at] at hp
      split at hp
      · simp at hp; subst hp; trivial
      · simp at hp
    | 2 =>
      simp at hg; subst hg
      simp only [GA.at] at hp
      split at hp
      · simp at hp; subst hp; trivial
      · simp at hp
    | t + 3 => simp at hg

def c_cmp_Or_int : C := (.g (.o 0 2 (.mov (.i 0)) .done) (.g (.o 0 3 (.mov (.i 0)) .done) (.seq (.g (.o 0 6 (.mov (.t 0)) (.o 1 7 (.len (.t 6)) (.o 2 8 (.mov (.i 0)) .done))) (.block 0 (.loop (.g (.o 0 9 (.bin .lss (.t 8) (.t 7)) .done) (.seq (.cond (.t 9) .skip (.exit 0)) (.seq (.block 1 (.g (.o 0 10 (.iad 1 (.t 6) (.t 8)) (.o 1 11 (.load none (.t 10)) (.o 2 5 (.mov (.t 11)) .done))) (.g (.o 0 12 (.mov (.t 5)) (.o 1 13 (.mov (.t 3)) (.o 2 14 (.bin .neq (.t 12) (.t 13)) .done))) (.cond (.t 14) (.g (.o 0 15 (.mov (.t 5)) (.o 1 2 (.mov (.t 15)) .done)) .ret) .skip)))) (.reg false (.o 0 16 (.bin .add (.t 8) (.i 1)) (.o 1 8 (.mov (.t 16)) .done))))))))) (.g (.o 0 17 (.mov (.t 3)) (.o 1 2 (.mov (.t 17)) .done)) .ret))))
theorem dg_cmp_Or_int : Tryz.f224.body.bind (digC Tryz.prog Tryz.f224.ntmps []) = some c_cmp_Or_int := by kernel_rfl
theorem rs_cmp_Or_int : resSlots Tryz.prog Tryz.f224 = some [.s 2] := by kernel_rfl
theorem ok_cmp_Or_int (l : List Int) (h : l.length ≤ 4194304) :
    FnOK Tryz.prog 224 [.one (.d (Hearth.encI l))] (fun ra _ => ra = [.one (.d (.sc (.int .i64 (orL l))))]) := by
  refine FnOK.ofK Tryz.func224 (by kernel_rfl) dg_cmp_Or_int rs_cmp_Or_int rfl rfl ?_
  delta c_cmp_Or_int T.o X.i C.g
  refine Kbc (Ka Y (Kdb (Kc (Ka Y (Kdb (Kbc (Ka Y (Kq Y Y (Ka Y (Kd (Kt ?_)))))))))))
  refine kLoop (α := { i : Nat // i ≤ l.length ∧ orL l = orL (l.drop i) }) (fun y => ⟨tabSl [(3, .i 0), (6, .dv (Hearth.encI l)), (7, .i l.length), (8, .i y.1)], obTab 1 [], []⟩) (fun y => l.length - y.1) ⟨0, by simp⟩ .normA ?_
  rintro ⟨i, hi, hr⟩
  simp only
  rcases Nat.lt_or_ge i l.length with hlt | hge
  · have hst := orL_drop l i hlt
    refine Kbc (Kj Y Y Y (Kdb (Km Y (fun g0 => Kn (Kb (Kt (Kbc (kIadR Y Y Y om (Ky Y Y (Ka Y (Kdb (Kc (Ka Y (Ka Y (Kj Y Y Y (Kd (kCondIN Y (fun g1 => Kbc (Ka Y (Ka Y (Kd (Kr (Er (ra := [.one (.d _)]) rfl ?_)))))) (fun g1 => Kn (Kv (Kc (kAdd Y Y om (Ka Y (Kd ?_)))))))))))))))))))) (fun g0 => om))))
    · rw [hr, hst, if_neg (by assumption)]
    · exact kInv ⟨⟨i + 1, by omega, by rw [hr, hst, if_pos (by assumption)]⟩, by simp only; omega, .normA⟩
  · have hst : orL l = 0 := by rw [hr, List.drop_eq_nil_of_le hge]; rfl
    rw [hst]
    refine Kbc (Kj Y Y Y (Kdb (Km Y (fun g0 => om) (fun g0 => kExit (kExC (kExI (kExB (Kbc (Ka Y (Ka Y (Kd (Kr (Er (ra := [.one (.d _)]) rfl rfl)))))))))))))
theorem ok_cmp_Or_int3 (a b c : Int) :
    FnOK Tryz.prog 224 [.one (.d (.sl 1 [[.sc (.int .i64 a)], [.sc (.int .i64 b)], [.sc (.int .i64 c)]]))] (fun ra _ => ra = [.one (.d (.sc (.int .i64 (orL [a, b, c]))))]) := ok_cmp_Or_int [a, b, c] (by simp)
theorem ok_cmp_Or_int2 (a b : Int) :
    FnOK Tryz.prog 224 [.one (.d (.sl 1 [[.sc (.int .i64 a)], [.sc (.int .i64 b)]]))] (fun ra _ => ra = [.one (.d (.sc (.int .i64 (orL [a, b]))))]) := ok_cmp_Or_int [a, b] (by simp)

def c_impl_Slot_compare : C := (.g (.o 0 2 (.box 2 (.t 0)) (.o 1 3 (.box 3 (.t 1)) (.o 2 4 (.mov (.i 0)) .done))) (.seq (.reg true (.op 0 [] (some 5) none true (.fad (.t 2) 0) (.op 1 [] (some 6) none true (.load (some 1) (.t 5)) (.op 2 [] (some 7) none true (.fad (.t 3) 0) (.op 3 [] (some 8) none true (.load (some 1) (.t 7)) (.op 5 [] (some 10) none true (.fad (.t 2) 1) (.op 6 [] (some 11) none true (.load none (.t 10)) (.op 7 [] (some 12) none true (.fad (.t 3) 1) (.op 8 [] (some 13) none true (.load none (.t 12)) (.op 4 [1, 3] (some 9) none false (.call 9 221 [(.t 6), (.t 8)]) (.op 9 [6, 8, 1, 3] (some 14) none false (.call 14 225 [(.t 11), (.t 13)]) (.op 10 [1, 3, 6, 8] (some 15) none false (.lit 15 1 [(.i 0)] 2 [(0, 1, (.t 9)), (1, 1, (.t 14))]) (.op 11 [1, 3, 6, 8] (some 16) none false (.call 16 224 [(.t 15)]) (.op 12 [] (some 4) none true (.mov (.t 16)) .done)))))))))))))) .ret))
theorem dg_impl_Slot_compare : Tryz.f142.body.bind (digC Tryz.prog Tryz.f142.ntmps []) = some c_impl_Slot_compare := by kernel_rfl
theorem rs_impl_Slot_compare : resSlots Tryz.prog Tryz.f142 = some [.s 4] := by kernel_rfl
theorem ok_impl_Slot_compare (a b : Slot) (ha : SmallS a) (hb : SmallS b) :
    FnOK Tryz.prog 142 [.agg (a.cells.map .d), .agg (b.cells.map .d)] (fun ra _ => ra = [.one (.d (.sc (.int .i64 (cmpS a b))))]) := by
  refine FnOK.ofK Tryz.func142 (by kernel_rfl) dg_impl_Slot_compare rs_impl_Slot_compare rfl rfl ?_
  delta c_impl_Slot_compare T.o X.i C.g
  have n1 := ha.n.len
  have n2 := ha.n.mem
  have m1 := hb.n.len
  have m2 := hb.n.mem
  rw [cmpS_or]
  refine Kbc (kBox Y Y Y Y Y (kBox Y Y Y Y Y (Ka Y (Kdb (kRegD (Kf Y Y (Ke Y Y Y (Kf Y Y (Ke Y Y Y (Kf Y Y (kMem [(12288, ⟨1, 0, .box [.d _, .d _, .d _, .d _, .d _, .d _, .d _]⟩), (16384, ⟨1, 0, .box [.d _, .d _, .d _, .d _, .d _, .d _, .d _]⟩)] [(10, .c (.ptr 12288 1 1)), (3, .c (.ptr 16384 1 0)), (12, .c (.un)), (6, .g [.d _]), (8, .g [.d _]), (11, .c (.un)), (13, .c (.un)), (9, .c (.un)), (14, .c (.un)), (15, .c (.un)), (16, .c (.un))] [16384, 12288] ⟨Y, Y, trivial⟩ ⟨Y, Y, Y, Y, Y, Y, Y, Y, Y, Y, Y, trivial⟩ Y (Ke Y Y Y (Kf Y Y (Ke Y Y Y (Kx Y Y (Kp (ok_impl_Name_compare _ _ prx prx) ⟨⟨⟨Y, trivial⟩, leb⟩, ⟨⟨Y, trivial⟩, leb⟩, trivial⟩ Y Y Y Y Y (Ks Y Y (Kp (ok_cmp_Compare_int _ _) ⟨Y, Y, trivial⟩ Y Y Y Y Y (Ks Y Y (kLitD Y Y Y Y (Ks Y Y (Kp (ok_cmp_Or_int2 _ _) ⟨Y, trivial⟩ Y Y Y Y Y (Ka Y (Kd (kH (Kr (Er (ra := [.one (.d _)]) rfl rfl)))))))))))))))))))))))))))

def c_impl_within : C := (.g (.o 0 6 (.mov (.v (.bool false))) .done) (.g (.o 0 7 (.mov (.t 1)) (.o 1 8 (.mov (.t 0)) (.o 2 9 (.bin .leq (.t 7) (.t 8)) (.o 3 10 (.mov (.t 9)) (.op 4 [] (some 11) (some (10, true)) false (.mov (.t 0)) (.op 5 [] (some 12) (some (10, true)) false (.mov (.t 2)) (.op 6 [] (some 13) (some (10, true)) false (.bin .leq (.t 11) (.t 12)) (.o 7 14 (.pick (.t 10) (.t 13) (.v (.bool false))) (.o 8 6 (.mov (.t 14)) .done))))))))) .ret))
theorem dg_impl_within : Tryz.f109.body.bind (digC Tryz.prog Tryz.f109.ntmps []) = some c_impl_within := by kernel_rfl
theorem rs_impl_within : resSlots Tryz.prog Tryz.f109 = some [.s 6] := by kernel_rfl
theorem ok_impl_within (n lo hi : Int) : FnOK Tryz.prog 109 [.one (.d (.sc (.int .i64 n))), .one (.d (.sc (.int .i64 lo))), .one (.d (.sc (.int .i64 hi)))] (fun ra _ => ra = [.one (.d (.sc (.bool (decide (lo ≤ n ∧ n ≤ hi)))))]) := by
  refine FnOK.ofK Tryz.func109 (by kernel_rfl) dg_impl_within rs_impl_within rfl rfl ?_
  delta c_impl_within T.o X.i C.g
  repeat' first
    | refine kSeq ?_ | refine kReg ?_ | refine kDone ?_ | refine kMovC rfl ?_ | refine kBin rfl rfl rfl ?_
    | refine kGT rfl ?_ | refine kGF rfl ?_ | refine kGU rfl ?_ | refine kG rfl (fun h => ?_) (fun h => ?_)
    | refine kPickT rfl ?_ | refine kPickF rfl ?_ | refine kPick rfl (fun h => ?_) (fun h => ?_) | refine kRet ?_
  all_goals refine endRet (ra := [.one (.d _)]) rfl ⟨⟨⟨rfl, .inl rfl⟩, trivial⟩, .nil, trivial, trivial, trivial, trivial⟩ ?_
  all_goals simp_all
  all_goals omega

def c_impl_all_byte_1 : C := (.g (.o 0 3 (.mov (.v (.bool false))) .done) (.g (.o 0 4 (.load none (.t 1)) (.o 1 5 (.mov (.t 0)) (.o 2 6 (.callv 6 (.t 4) [(.t 5)]) (.o 3 7 (.un .not (.t 6)) (.o 4 3 (.mov (.t 7)) .done))))) .ret))
theorem dg_impl_all_byte_1 : Tryz.f302.body.bind (digC Tryz.prog Tryz.f302.ntmps []) = some c_impl_all_byte_1 := by kernel_rfl
theorem rs_impl_all_byte_1 : resSlots Tryz.prog Tryz.f302 = some [.s 3] := by kernel_rfl
theorem ok_impl_all_byte_1 (x : DV) (D : DV → Prop) (g : DV → Bool) (hx : D x) :
    FnOK Tryz.prog 302 [.one (.d x), .one (.ptr [.fv false (fcPred D g)])] (fun ra _ => ra = [.one (.d (.sc (.bool (!g x))))]) := by
  refine FnOK.ofK Tryz.func302 (by kernel_rfl) dg_impl_all_byte_1 rs_impl_all_byte_1 rfl rfl ?_
  delta c_impl_all_byte_1 T.o X.i C.g
  refine Kbc (Ka Y (Kd ?_))
  refine Kbc (kLoadC Y Y (Ka Y (kCallv Y ⟨x, hx, rfl, rfl⟩ ⟨Y, trivial⟩ (.inr ?_) rfl ?_ rfl ?_)))
  · rintro _ rfl; rfl
  · rintro _ rfl; exact leb
  rintro _ rfl
  refine Kw Y Y (Ka Y (Kd (Kr ?_)))
  exact endRet (ra := [.one (.d _)]) rfl ⟨⟨⟨rfl, .inl rfl⟩, trivial⟩, .nil, trivial, trivial, trivial⟩ rfl

def c_slices_IndexFunc_Lbyte_byte : C := (.g (.o 0 4 (.mov (.i 0)) .done) (.seq (.g (.o 0 6 (.mov (.t 0)) (.o 1 7 (.len (.t 6)) (.o 2 8 (.mov (.i 0)) .done))) (.block 0 (.loop (.g (.o 0 9 (.bin .lss (.t 8) (.t 7)) .done) (.seq (.cond (.t 9) .skip (.exit 0)) (.seq (.block 1 (.g (.o 0 10 (.mov (.t 8)) (.o 1 5 (.mov (.t 10)) .done)) (.g (.o 0 11 (.mov (.t 1)) (.o 1 12 (.mov (.t 0)) (.o 2 13 (.mov (.t 5)) (.o 3 14 (.iad 1 (.t 12) (.t 13)) (.o 4 15 (.load none (.t 14)) (.o 5 16 (.callv 16 (.t 11) [(.t 15)]) .done)))))) (.cond (.t 16) (.g (.o 0 17 (.mov (.t 5)) (.o 1 4 (.mov (.t 17)) .done)) .ret) .skip)))) (.reg false (.o 0 18 (.bin .add (.t 8) (.i 1)) (.o 1 8 (.mov (.t 18)) .done))))))))) (.g (.o 0 4 (.mov (.i (-1))) .done) .ret)))
theorem dg_slices_IndexFunc_Lbyte_byte : Tryz.f337.body.bind (digC Tryz.prog Tryz.f337.ntmps []) = some c_slices_IndexFunc_Lbyte_byte := by kernel_rfl
theorem rs_slices_IndexFunc_Lbyte_byte : resSlots Tryz.prog Tryz.f337 = some [.s 4] := by kernel_rfl
theorem ok_slices_IndexFunc_Lbyte_byte (l : List DV) (D : DV → Prop) (g : DV → Bool) (hl : (l.length : Int) ≤ 9223372036854775807) (hD : ∀ x ∈ l, D x) :
    FnOK Tryz.prog 337 [.one (.d (lst l)), .one (.fv false (fcPred D g))] (fun ra _ => ra = [.one (.d (.sc (.int .i64 (idxF g l))))]) := by
  refine FnOK.ofK Tryz.func337 (by kernel_rfl) dg_slices_IndexFunc_Lbyte_byte rs_slices_IndexFunc_Lbyte_byte rfl rfl ?_
  delta c_slices_IndexFunc_Lbyte_byte T.o X.i C.g
  refine Kbc (Ka Y (Kd ?_))
  refine Kb (Kbc (Ka Y (kLen Y Y Y (Ka Y (Kd (Kt ?_))))))
  rw [len_lst]
  refine kLoop (α := { i : Nat // i ≤ l.length ∧ ∀ x ∈ l.take i, g x = false })
    (fun y => ⟨tabSl [(0, .dv (lst l)), (1, .c (.fv false (fcPred D g))), (7, .i l.length), (8, .i y.1)], (St.init [.one (.d (lst l)), .one (.fv false (fcPred D g))]).ob, []⟩) (fun y => l.length - y.1) ⟨0, by simp⟩
    (.tab rfl ⟨.refl _, .refl _, .refl _, .refl _, trivial⟩) ?_
  rintro ⟨i, hi, hg⟩
  simp only
  refine Kbc (Kj Y Y Y (Kd ?_))
  refine Kb (kCond Y (fun h1 => ?_) (fun h1 => ?_))
  · have hlt : i < l.length := by simp at h1; omega
    refine Kn (Kb (Kt (Kbc (Ka Y (Ka Y (Kd ?_))))))
    refine Kbc (Ka Y (Ka Y (Ka Y (kIadD Y Y Y Y ?_ ?_))))
    · rw [len_lst]; omega
    rw [show (lst l).row (i : Int).toNat = [l[i]] from row_lst l i hlt]
    refine Ky Y Y (kCallv Y ⟨l[i], hD _ (List.getElem_mem hlt), rfl, rfl⟩ ⟨Y, trivial⟩ (.inr ?_) rfl ?_ rfl ?_)
    · rintro _ rfl; rfl
    · rintro _ rfl; exact leb
    rintro _ rfl
    refine Kd (kCond Y (fun h2 => ?_) (fun h2 => ?_))
    · refine Kbc (Ka Y (Ka Y (Kd (Kr ?_))))
      refine endRet (ra := [.one (.d _)]) rfl ⟨⟨⟨rfl, .inl rfl⟩, trivial⟩, .nil, trivial, trivial, trivial⟩ ?_
      have : l.findIdx? g = some i := by
        rw [List.findIdx?_eq_some_iff_getElem]
        refine ⟨hlt, h2, fun j hj => ?_⟩
        simpa using hg _ (by rw [List.mem_take_iff_getElem]; exact ⟨j, by omega, rfl⟩)
      simp [idxF, this]
    · refine Kn (Kv (Kc (kAdd Y Y ?_ (Ka Y (Kd (kInv ?_))))))
      · omega
      refine ⟨⟨i + 1, hlt, ?_⟩, by simp only; omega, .tab rfl ⟨.refl _, .refl _, .refl _, .refl _, trivial⟩⟩
      intro x hx
      rw [← List.take_append_getElem hlt, List.mem_append] at hx
      rcases hx with hx | hx
      · exact hg x hx
      · simp at hx; rw [hx]; exact h2
  · refine kExit (kExC (kExI (kExB ?_)))
    have hge : i = l.length := by simp at h1; omega
    refine Kbc (Ka Y (Kd (Kr ?_)))
    refine endRet (ra := [.one (.d _)]) rfl ⟨⟨⟨rfl, .inl rfl⟩, trivial⟩, .nil, trivial, trivial, trivial⟩ ?_
    have : l.findIdx? g = none := by
      rw [List.findIdx?_eq_none_iff]
      intro x hx
      rw [hge, List.take_length] at hg
      exact hg x hx
    simp [idxF, this]

def c_slices_ContainsFunc_Lbyte_byte : C := (.g (.o 0 4 (.mov (.v (.bool false))) .done) (.g (.o 0 5 (.mov (.t 0)) (.o 1 6 (.mov (.t 1)) (.o 2 7 (.call 7 337 [(.t 5), (.t 6)]) (.o 3 8 (.bin .geq (.t 7) (.i 0)) (.o 4 4 (.mov (.t 8)) .done))))) .ret))
theorem dg_slices_ContainsFunc_Lbyte_byte : Tryz.f301.body.bind (digC Tryz.prog Tryz.f301.ntmps []) = some c_slices_ContainsFunc_Lbyte_byte := by kernel_rfl
theorem rs_slices_ContainsFunc_Lbyte_byte : resSlots Tryz.prog Tryz.f301 = some [.s 4] := by kernel_rfl
theorem ok_slices_ContainsFunc_Lbyte_byte (l : List DV) (D : DV → Prop) (g : DV → Bool) (hl : (l.length : Int) ≤ 9223372036854775807) (hD : ∀ x ∈ l, D x) :
    FnOK Tryz.prog 301 [.one (.d (lst l)), .one (.fv false (fcPred D g))] (fun ra _ => ra = [.one (.d (.sc (.bool (l.any g))))]) := by
  refine FnOK.ofK Tryz.func301 (by kernel_rfl) dg_slices_ContainsFunc_Lbyte_byte rs_slices_ContainsFunc_Lbyte_byte rfl rfl ?_
  delta c_slices_ContainsFunc_Lbyte_byte T.o X.i C.g
  refine Kbc (Ka Y (Kd ?_))
  refine Kbc (Ka Y (Ka Y ?_))
  refine Ku true (ok_slices_IndexFunc_Lbyte_byte l D g hl hD) ⟨rfl, ⟨fun h => h, fun _ _ h => h⟩, trivial⟩ rfl rfl rfl fun os => ?_
  refine Kj Y Y Y (Ka Y (Kd (Kr ?_)))
  refine endRet (ra := [.one (.d _)]) rfl ⟨⟨⟨rfl, .inl rfl⟩, trivial⟩, .nil, trivial, trivial, trivial⟩ ?_
  have : decide (idxF g l ≥ 0) = l.any g := by
    unfold idxF
    cases h : l.findIdx? g with
    | none =>
      rw [List.findIdx?_eq_none_iff] at h
      have : l.any g = false := by rw [List.any_eq_false]; intro x hx; simp [h x hx]
      rw [this]; rfl
    | some i =>
      rw [List.findIdx?_eq_some_iff_getElem] at h
      obtain ⟨h1, h2, _⟩ := h
      have : l.any g = true := by rw [List.any_eq_true]; exact ⟨_, List.getElem_mem h1, h2⟩
      rw [this]; simp
  rw [this]

def c_impl_all_byte : C := (.g (.o 0 3 (.box 3 (.t 1)) (.o 1 4 (.mov (.v (.bool false))) .done)) (.g (.o 0 5 (.mov (.t 0)) (.o 1 6 (.clo 302 [] [(.t 3)]) (.o 2 7 (.call 7 301 [(.t 5), (.t 6)]) (.o 3 8 (.un .not (.t 7)) (.o 4 4 (.mov (.t 8)) .done))))) .ret))
theorem dg_impl_all_byte : Tryz.f243.body.bind (digC Tryz.prog Tryz.f243.ntmps []) = some c_impl_all_byte := by kernel_rfl
theorem rs_impl_all_byte : resSlots Tryz.prog Tryz.f243 = some [.s 4] := by kernel_rfl
theorem ok_impl_all_byte (l : List DV) (D : DV → Prop) (g : DV → Bool) (hl : (l.length : Int) ≤ 9223372036854775807) (hD : ∀ x ∈ l, D x) :
    FnOK Tryz.prog 243 [.one (.d (lst l)), .one (.fv false (fcPred D g))] (fun ra _ => ra = [.one (.d (.sc (.bool (l.all g))))]) := by
  refine FnOK.ofK Tryz.func243 (by kernel_rfl) dg_impl_all_byte rs_impl_all_byte rfl rfl ?_
  delta c_impl_all_byte T.o X.i C.g
  refine Kbc (kBox Y Y Y Y Y (Ka Y (Kd ?_)))
  refine Kbc (Ka Y (kClo Y Y ?_))
  refine Ku true (ok_slices_ContainsFunc_Lbyte_byte l D (fun x => !g x) hl hD) ⟨rfl, ⟨rfl, ⟨_, Tryz.func302, rfl, by kernel_rfl⟩, _, rfl, ?_⟩, trivial⟩ rfl rfl rfl fun os => ?_
  · rintro l R ⟨x, hx, rfl, rfl⟩
    exact ⟨by rintro _ rfl; rfl, ok_impl_all_byte_1 x D g hx⟩
  refine Kw Y Y (Ka Y (Kd (Kr ?_)))
  refine endRet (ra := [.one (.d _)]) rfl ⟨⟨⟨rfl, .inl rfl⟩, trivial⟩, .nil, trivial, trivial, trivial⟩ ?_
  simp [List.all_eq_not_any_not]

def c_impl_LabelOk_1 : C := (.g (.o 0 2 (.mov (.v (.bool false))) .done) (.g (.o 0 3 (.mov (.t 0)) (.o 1 4 (.bin .geq (.t 3) (.v (.int .u8 97))) (.o 2 5 (.mov (.t 4)) (.op 3 [] (some 6) (some (5, true)) false (.mov (.t 0)) (.op 4 [] (some 7) (some (5, true)) false (.bin .leq (.t 6) (.v (.int .u8 122))) (.o 5 8 (.pick (.t 5) (.t 7) (.v (.bool false))) (.o 6 9 (.mov (.t 8)) (.op 7 [] (some 10) (some (9, false)) false (.mov (.t 0)) (.op 8 [] (some 11) (some (9, false)) false (.bin .geq (.t 10) (.v (.int .u8 48))) (.op 9 [] (some 12) (some (9, false)) false (.mov (.t 11)) (.op 10 [] (some 13) (some (12, true)) false (.mov (.t 0)) (.op 11 [] (some 14) (some (12, true)) false (.bin .leq (.t 13) (.v (.int .u8 57))) (.op 12 [] (some 15) (some (9, false)) false (.pick (.t 12) (.t 14) (.v (.bool false))) (.o 13 16 (.pick (.t 9) (.v (.bool true)) (.t 15)) (.o 14 17 (.mov (.t 16)) (.op 15 [] (some 18) (some (17, false)) false (.mov (.t 0)) (.op 16 [] (some 19) (some (17, false)) false (.bin .eql (.t 18) (.v (.int .u8 45))) (.o 17 20 (.pick (.t 17) (.v (.bool true)) (.t 19)) (.o 18 2 (.mov (.t 20)) .done))))))))))))))))))) .ret))
theorem dg_impl_LabelOk_1 : Tryz.f244.body.bind (digC Tryz.prog Tryz.f244.ntmps []) = some c_impl_LabelOk_1 := by kernel_rfl
theorem rs_impl_LabelOk_1 : resSlots Tryz.prog Tryz.f244 = some [.s 2] := by kernel_rfl
theorem ok_impl_LabelOk_1 (b : UInt8) : FnOK Tryz.prog 244 [.one (.d (.sc (.int .u8 b.toNat)))] (fun ra _ => ra = [.one (.d (.sc (.bool (okLetter b))))]) := by
  refine FnOK.ofK Tryz.func244 (by kernel_rfl) dg_impl_LabelOk_1 rs_impl_LabelOk_1 rfl rfl ?_
  delta c_impl_LabelOk_1 T.o X.i C.g
  repeat' first
    | refine kSeq ?_ | refine kReg ?_ | refine kDone ?_ | refine kMovC rfl ?_ | refine kBin rfl rfl rfl ?_
    | refine kGT rfl ?_ | refine kGF rfl ?_ | refine kGU rfl ?_ | refine kG rfl (fun h => ?_) (fun h => ?_)
    | refine kPickT rfl ?_ | refine kPickF rfl ?_ | refine kPick rfl (fun h => ?_) (fun h => ?_) | refine kRet ?_
  all_goals refine endRet (ra := [.one (.d _)]) rfl ⟨⟨⟨rfl, .inl rfl⟩, trivial⟩, .nil, trivial, trivial⟩ ?_
  all_goals simp_all [okLetter]
  all_goals first | omega | (rw [Bool.eq_iff_iff]; simp; omega)

def c_impl_LabelOk : C := (.g (.o 0 2 (.mov (.v (.bool false))) .done) (.g (.o 0 3 (.mov (.t 0)) (.o 1 4 (.len (.t 3)) (.o 2 5 (.call 5 109 [(.t 4), (.i 1), (.i 15)]) (.o 3 6 (.mov (.t 5)) (.op 4 [] (some 7) (some (6, true)) false (.mov (.t 0)) (.op 5 [] (some 8) (some (6, true)) false (.call 8 243 [(.t 7), (.fn 244)]) (.o 6 9 (.pick (.t 6) (.t 8) (.v (.bool false))) (.o 7 2 (.mov (.t 9)) .done)))))))) .ret))
theorem dg_impl_LabelOk : Tryz.f161.body.bind (digC Tryz.prog Tryz.f161.ntmps []) = some c_impl_LabelOk := by kernel_rfl
theorem rs_impl_LabelOk : resSlots Tryz.prog Tryz.f161 = some [.s 2] := by kernel_rfl
theorem ok_impl_LabelOk (b : List UInt8) (hb : b.length ≤ 4194304) :
    FnOK Tryz.prog 161 [.one (.d (encB b))] (fun ra _ => ra = [.one (.d (.sc (.bool (labelOk b))))]) := by
  refine FnOK.ofK Tryz.func161 (by kernel_rfl) dg_impl_LabelOk rs_impl_LabelOk rfl rfl ?_
  delta c_impl_LabelOk T.o X.i C.g
  refine Kbc (Ka Y (Kdb (Kc (Ka Y (Kq Y Y (Kp (ok_impl_within _ _ _) ⟨Y, Y, Y, trivial⟩ Y Y Y Y Y (Ka Y (kGP Y (fun g0 => Ki Y (Ka Y (Ki Y ?_))) (fun g0 => Kg Y (Kg Y (Kl Y (Ka Y (Ka Y (Kd (Kr (Er (ra := [.one (.d _)]) rfl ?_))))))))))))))))
  · refine Ku true (ok_impl_all_byte (b.map fun b : UInt8 => .sc (.int .u8 b.toNat)) is8 (fun x => okLetter (dec8 x)) (by simp; omega) (fun x hx => by obtain ⟨c, _, rfl⟩ := List.mem_map.1 hx; exact ⟨c, rfl⟩)) ⟨congrArg some (encB_lst b), ⟨rfl, rfl, ⟨_, Tryz.func244, rfl, by kernel_rfl⟩, ?_⟩, trivial⟩ Y Y Y (fun _ => ?_)
    · rintro _ R ⟨x, ⟨c, rfl⟩, rfl, rfl⟩
      have := ok_impl_LabelOk_1 c
      simp only [dec8_enc]
      exact this
    refine Kk Y (Ka Y (Ka Y (Kd (Kr (Er (ra := [.one (.d _)]) rfl ?_)))))
    rw [all_dec8, show labelOk b = b.all okLetter by simp only [labelOk]; rw [decide_eq_true (by omega), decide_eq_true (by omega)]; rfl]
  · rw [show labelOk b = false by simp only [labelOk]; rw [show (decide (1 ≤ b.length) && decide (b.length ≤ 15)) = false by simp; omega]; rfl]

def c_impl_all_Lbyte_1 : C := (.g (.o 0 3 (.mov (.v (.bool false))) .done) (.g (.o 0 4 (.load none (.t 1)) (.o 1 5 (.mov (.t 0)) (.o 2 6 (.callv 6 (.t 4) [(.t 5)]) (.o 3 7 (.un .not (.t 6)) (.o 4 3 (.mov (.t 7)) .done))))) .ret))
theorem dg_impl_all_Lbyte_1 : Tryz.f242.body.bind (digC Tryz.prog Tryz.f242.ntmps []) = some c_impl_all_Lbyte_1 := by kernel_rfl
theorem rs_impl_all_Lbyte_1 : resSlots Tryz.prog Tryz.f242 = some [.s 3] := by kernel_rfl
theorem ok_impl_all_Lbyte_1 (x : DV) (D : DV → Prop) (g : DV → Bool) (hx : D x) :
    FnOK Tryz.prog 242 [.one (.d x), .one (.ptr [.fv false (fcPred D g)])] (fun ra _ => ra = [.one (.d (.sc (.bool (!g x))))]) := by
  refine FnOK.ofK Tryz.func242 (by kernel_rfl) dg_impl_all_Lbyte_1 rs_impl_all_Lbyte_1 rfl rfl ?_
  delta c_impl_all_Lbyte_1 T.o X.i C.g
  refine Kbc (Ka Y (Kd ?_))
  refine Kbc (kLoadC Y Y (Ka Y (kCallv Y ⟨x, hx, rfl, rfl⟩ ⟨Y, trivial⟩ (.inr ?_) rfl ?_ rfl ?_)))
  · rintro _ rfl; rfl
  · rintro _ rfl; exact leb
  rintro _ rfl
  refine Kw Y Y (Ka Y (Kd (Kr ?_)))
  exact endRet (ra := [.one (.d _)]) rfl ⟨⟨⟨rfl, .inl rfl⟩, trivial⟩, .nil, trivial, trivial, trivial⟩ rfl

def c_slices_IndexFunc_LLbyte_Lbyte : C := (.g (.o 0 4 (.mov (.i 0)) .done) (.seq (.g (.o 0 6 (.mov (.t 0)) (.o 1 7 (.len (.t 6)) (.o 2 8 (.mov (.i 0)) .done))) (.block 0 (.loop (.g (.o 0 9 (.bin .lss (.t 8) (.t 7)) .done) (.seq (.cond (.t 9) .skip (.exit 0)) (.seq (.block 1 (.g (.o 0 10 (.mov (.t 8)) (.o 1 5 (.mov (.t 10)) .done)) (.g (.o 0 11 (.mov (.t 1)) (.o 1 12 (.mov (.t 0)) (.o 2 13 (.mov (.t 5)) (.o 3 14 (.iad 1 (.t 12) (.t 13)) (.o 4 15 (.load none (.t 14)) (.o 5 16 (.callv 16 (.t 11) [(.t 15)]) .done)))))) (.cond (.t 16) (.g (.o 0 17 (.mov (.t 5)) (.o 1 4 (.mov (.t 17)) .done)) .ret) .skip)))) (.reg false (.o 0 18 (.bin .add (.t 8) (.i 1)) (.o 1 8 (.mov (.t 18)) .done))))))))) (.g (.o 0 4 (.mov (.i (-1))) .done) .ret)))
theorem dg_slices_IndexFunc_LLbyte_Lbyte : Tryz.f300.body.bind (digC Tryz.prog Tryz.f300.ntmps []) = some c_slices_IndexFunc_LLbyte_Lbyte := by kernel_rfl
theorem rs_slices_IndexFunc_LLbyte_Lbyte : resSlots Tryz.prog Tryz.f300 = some [.s 4] := by kernel_rfl
theorem ok_slices_IndexFunc_LLbyte_Lbyte (l : List DV) (D : DV → Prop) (g : DV → Bool) (hl : (l.length : Int) ≤ 9223372036854775807) (hD : ∀ x ∈ l, D x) :
    FnOK Tryz.prog 300 [.one (.d (lst l)), .one (.fv false (fcPred D g))] (fun ra _ => ra = [.one (.d (.sc (.int .i64 (idxF g l))))]) := by
  refine FnOK.ofK Tryz.func300 (by kernel_rfl) dg_slices_IndexFunc_LLbyte_Lbyte rs_slices_IndexFunc_LLbyte_Lbyte rfl rfl ?_
  delta c_slices_IndexFunc_LLbyte_Lbyte T.o X.i C.g
  refine Kbc (Ka Y (Kd ?_))
  refine Kb (Kbc (Ka Y (kLen Y Y Y (Ka Y (Kd (Kt ?_))))))
  rw [len_lst]
  refine kLoop (α := { i : Nat // i ≤ l.length ∧ ∀ x ∈ l.take i, g x = false })
    (fun y => ⟨tabSl [(0, .dv (lst l)), (1, .c (.fv false (fcPred D g))), (7, .i l.length), (8, .i y.1)], (St.init [.one (.d (lst l)), .one (.fv false (fcPred D g))]).ob, []⟩) (fun y => l.length - y.1) ⟨0, by simp⟩
    (.tab rfl ⟨.refl _, .refl _, .refl _, .refl _, trivial⟩) ?_
  rintro ⟨i, hi, hg⟩
  simp only
  refine Kbc (Kj Y Y Y (Kd ?_))
  refine Kb (kCond Y (fun h1 => ?_) (fun h1 => ?_))
  · have hlt : i < l.length := by simp at h1; omega
    refine Kn (Kb (Kt (Kbc (Ka Y (Ka Y (Kd ?_))))))
    refine Kbc (Ka Y (Ka Y (Ka Y (kIadD Y Y Y Y ?_ ?_))))
    · rw [len_lst]; omega
    rw [show (lst l).row (i : Int).toNat = [l[i]] from row_lst l i hlt]
    refine Ky Y Y (kCallv Y ⟨l[i], hD _ (List.getElem_mem hlt), rfl, rfl⟩ ⟨Y, trivial⟩ (.inr ?_) rfl ?_ rfl ?_)
    · rintro _ rfl; rfl
    · rintro _ rfl; exact leb
    rintro _ rfl
    refine Kd (kCond Y (fun h2 => ?_) (fun h2 => ?_))
    · refine Kbc (Ka Y (Ka Y (Kd (Kr ?_))))
      refine endRet (ra := [.one (.d _)]) rfl ⟨⟨⟨rfl, .inl rfl⟩, trivial⟩, .nil, trivial, trivial, trivial⟩ ?_
      have : l.findIdx? g = some i := by
        rw [List.findIdx?_eq_some_iff_getElem]
        refine ⟨hlt, h2, fun j hj => ?_⟩
        simpa using hg _ (by rw [List.mem_take_iff_getElem]; exact ⟨j, by omega, rfl⟩)
      simp [idxF, this]
    · refine Kn (Kv (Kc (kAdd Y Y ?_ (Ka Y (Kd (kInv ?_))))))
      · omega
      refine ⟨⟨i + 1, hlt, ?_⟩, by simp only; omega, .tab rfl ⟨.refl _, .refl _, .refl _, .refl _, trivial⟩⟩
      intro x hx
      rw [← List.take_append_getElem hlt, List.mem_append] at hx
      rcases hx with hx | hx
      · exact hg x hx
      · simp at hx; rw [hx]; exact h2
  · refine kExit (kExC (kExI (kExB ?_)))
    have hge : i = l.length := by simp at h1; omega
    refine Kbc (Ka Y (Kd (Kr ?_)))
    refine endRet (ra := [.one (.d _)]) rfl ⟨⟨⟨rfl, .inl rfl⟩, trivial⟩, .nil, trivial, trivial, trivial⟩ ?_
    have : l.findIdx? g = none := by
      rw [List.findIdx?_eq_none_iff]
      intro x hx
      rw [hge, List.take_length] at hg
      exact hg x hx
    simp [idxF, this]

def c_slices_ContainsFunc_LLbyte_Lbyte : C := (.g (.o 0 4 (.mov (.v (.bool false))) .done) (.g (.o 0 5 (.mov (.t 0)) (.o 1 6 (.mov (.t 1)) (.o 2 7 (.call 7 300 [(.t 5), (.t 6)]) (.o 3 8 (.bin .geq (.t 7) (.i 0)) (.o 4 4 (.mov (.t 8)) .done))))) .ret))
theorem dg_slices_ContainsFunc_LLbyte_Lbyte : Tryz.f241.body.bind (digC Tryz.prog Tryz.f241.ntmps []) = some c_slices_ContainsFunc_LLbyte_Lbyte := by kernel_rfl
theorem rs_slices_ContainsFunc_LLbyte_Lbyte : resSlots Tryz.prog Tryz.f241 = some [.s 4] := by kernel_rfl
theorem ok_slices_ContainsFunc_LLbyte_Lbyte (l : List DV) (D : DV → Prop) (g : DV → Bool) (hl : (l.length : Int) ≤ 9223372036854775807) (hD : ∀ x ∈ l, D x) :
    FnOK Tryz.prog 241 [.one (.d (lst l)), .one (.fv false (fcPred D g))] (fun ra _ => ra = [.one (.d (.sc (.bool (l.any g))))]) := by
  refine FnOK.ofK Tryz.func241 (by kernel_rfl) dg_slices_ContainsFunc_LLbyte_Lbyte rs_slices_ContainsFunc_LLbyte_Lbyte rfl rfl ?_
  delta c_slices_ContainsFunc_LLbyte_Lbyte T.o X.i C.g
  refine Kbc (Ka Y (Kd ?_))
  refine Kbc (Ka Y (Ka Y ?_))
  refine Ku true (ok_slices_IndexFunc_LLbyte_Lbyte l D g hl hD) ⟨rfl, ⟨fun h => h, fun _ _ h => h⟩, trivial⟩ rfl rfl rfl fun os => ?_
  refine Kj Y Y Y (Ka Y (Kd (Kr ?_)))
  refine endRet (ra := [.one (.d _)]) rfl ⟨⟨⟨rfl, .inl rfl⟩, trivial⟩, .nil, trivial, trivial, trivial⟩ ?_
  have : decide (idxF g l ≥ 0) = l.any g := by
    unfold idxF
    cases h : l.findIdx? g with
    | none =>
      rw [List.findIdx?_eq_none_iff] at h
      have : l.any g = false := by rw [List.any_eq_false]; intro x hx; simp [h x hx]
      rw [this]; rfl
    | some i =>
      rw [List.findIdx?_eq_some_iff_getElem] at h
      obtain ⟨h1, h2, _⟩ := h
      have : l.any g = true := by rw [List.any_eq_true]; exact ⟨_, List.getElem_mem h1, h2⟩
      rw [this]; simp
  rw [this]

def c_impl_all_Lbyte : C := (.g (.o 0 3 (.box 3 (.t 1)) (.o 1 4 (.mov (.v (.bool false))) .done)) (.g (.o 0 5 (.mov (.t 0)) (.o 1 6 (.clo 242 [] [(.t 3)]) (.o 2 7 (.call 7 241 [(.t 5), (.t 6)]) (.o 3 8 (.un .not (.t 7)) (.o 4 4 (.mov (.t 8)) .done))))) .ret))
theorem dg_impl_all_Lbyte : Tryz.f160.body.bind (digC Tryz.prog Tryz.f160.ntmps []) = some c_impl_all_Lbyte := by kernel_rfl
theorem rs_impl_all_Lbyte : resSlots Tryz.prog Tryz.f160 = some [.s 4] := by kernel_rfl
theorem ok_impl_all_Lbyte (l : List DV) (D : DV → Prop) (g : DV → Bool) (hl : (l.length : Int) ≤ 9223372036854775807) (hD : ∀ x ∈ l, D x) :
    FnOK Tryz.prog 160 [.one (.d (lst l)), .one (.fv false (fcPred D g))] (fun ra _ => ra = [.one (.d (.sc (.bool (l.all g))))]) := by
  refine FnOK.ofK Tryz.func160 (by kernel_rfl) dg_impl_all_Lbyte rs_impl_all_Lbyte rfl rfl ?_
  delta c_impl_all_Lbyte T.o X.i C.g
  refine Kbc (kBox Y Y Y Y Y (Ka Y (Kd ?_)))
  refine Kbc (Ka Y (kClo Y Y ?_))
  refine Ku true (ok_slices_ContainsFunc_LLbyte_Lbyte l D (fun x => !g x) hl hD) ⟨rfl, ⟨rfl, ⟨_, Tryz.func242, rfl, by kernel_rfl⟩, _, rfl, ?_⟩, trivial⟩ rfl rfl rfl fun os => ?_
  · rintro l R ⟨x, hx, rfl, rfl⟩
    exact ⟨by rintro _ rfl; rfl, ok_impl_all_Lbyte_1 x D g hx⟩
  refine Kw Y Y (Ka Y (Kd (Kr ?_)))
  refine endRet (ra := [.one (.d _)]) rfl ⟨⟨⟨rfl, .inl rfl⟩, trivial⟩, .nil, trivial, trivial, trivial⟩ ?_
  simp [List.all_eq_not_any_not]

def c_impl_NameOk : C := (.g (.o 0 1 (.box 1 (.t 0)) (.o 1 2 (.mov (.v (.bool false))) .done)) (.g (.o 0 3 (.fad (.t 1) 0) (.o 1 4 (.load none (.t 3)) (.o 2 5 (.len (.t 4)) (.o 3 6 (.bin .leq (.t 5) (.i 6)) (.o 4 7 (.mov (.t 6)) (.op 5 [] (some 8) (some (7, true)) false (.fad (.t 1) 0) (.op 6 [] (some 9) (some (7, true)) false (.load none (.t 8)) (.op 7 [] (some 10) (some (7, true)) false (.call 10 160 [(.t 9), (.fn 161)]) (.o 8 11 (.pick (.t 7) (.t 10) (.v (.bool false))) (.o 9 2 (.mov (.t 11)) .done)))))))))) .ret))
theorem dg_impl_NameOk : Tryz.f71.body.bind (digC Tryz.prog Tryz.f71.ntmps []) = some c_impl_NameOk := by kernel_rfl
theorem rs_impl_NameOk : resSlots Tryz.prog Tryz.f71 = some [.s 2] := by kernel_rfl
theorem ok_impl_NameOk (a : List (List UInt8)) (ha : a.length ≤ 4194304) (hb : ∀ b ∈ a, b.length ≤ 4194304) :
    FnOK Tryz.prog 71 [.agg [.d (encBB a)]] (fun ra _ => ra = [.one (.d (.sc (.bool (nameOk a))))]) := by
  refine FnOK.ofK Tryz.func71 (by kernel_rfl) dg_impl_NameOk rs_impl_NameOk rfl rfl ?_
  delta c_impl_NameOk T.o X.i C.g
  refine Kbc (kBox Y Y Y Y Y (Ka Y (Kdb (Kc (Kf Y Y (Ke Y Y Y (Kq Y Y (Kj Y Y Y (Ka Y (kGP Y (fun g0 => Ki Y (Kf Y Y (Ki Y (Ke Y Y Y (Ki Y ?_))))) (fun g0 => Kg Y (Kg Y (Kg Y (Kl Y (Ka Y (Ka Y (Kd (Kr (Er (ra := [.one (.d _)]) rfl ?_)))))))))))))))))))
  · refine Ku true (ok_impl_all_Lbyte (a.map encB) (fun x => ∃ b : List UInt8, x = encB b ∧ b.length ≤ 4194304) (fun x => labelOk (decB x)) (by simp; omega) (fun x hx => by obtain ⟨c, h, rfl⟩ := List.mem_map.1 hx; exact ⟨c, rfl, hb c h⟩)) ⟨congrArg some (encBB_lst a), ⟨rfl, rfl, ⟨_, Tryz.func161, rfl, by kernel_rfl⟩, ?_⟩, trivial⟩ Y Y Y (fun _ => ?_)
    · rintro _ R ⟨x, ⟨c, rfl, h⟩, rfl, rfl⟩
      have := ok_impl_LabelOk c h
      simp only [decB_enc]
      exact this
    refine Kk Y (Ka Y (Ka Y (Kd (Kr (Er (ra := [.one (.d _)]) rfl ?_)))))
    rw [all_decB, show nameOk a = a.all labelOk by simp only [nameOk]; rw [decide_eq_true (by omega)]; rfl]
  · rw [show nameOk a = false by simp only [nameOk]; rw [decide_eq_false (by omega)]; rfl]

def typeTab : List (Int × ByteArray) := [(1, ⟨#[65]⟩), (2, ⟨#[78, 83]⟩), (5, ⟨#[67, 78, 65, 77, 69]⟩), (6, ⟨#[83, 79, 65]⟩), (12, ⟨#[80, 84, 82]⟩), (16, ⟨#[84, 88, 84]⟩), (49, ⟨#[68, 72, 67, 73, 68]⟩)]
def typeNm (n : Int) : ByteArray := ((typeTab.find? fun e => n == e.1).map (·.2)).getD ByteArray.empty
theorem ok_impl_typeName (n : Int) : FnOK Tryz.prog 180 [.one (.d (.sc (.int .i64 n)))] (fun ra _ => ra = [.one (.d (.sc (.string (typeNm n))))]) := by
  refine FnOK.ofWalk Tryz.func180 rfl (by kernel_rfl) fun w => ?_
  have kk : Tryz.prog.underlying 3 = some (.int .i64) := by kernel_rfl
  have hmm := @Go.RowKit.run_makeMap Tryz.prog
  go_enter Tryz.func180, Tryz.ntmps180
  go_wp2
  have t0 : Tab (w.alloc (.map #[] 0)) w.heap.size [] := ⟨_, _, (MapKept.heap_alloc w _).1, rfl⟩
  have b0 : BelowD w.heap.size w (w.alloc (.map #[] 0)) := ⟨(Go.RowKit.Below.refl _ _).alloc (Nat.le_refl _) _, Nat.le_refl _⟩
  have st : ∀ {w1 w2 : World}, BelowD w.heap.size w w1 → Ext w1 w2 (fun b => b = w.heap.size) → BelowD w.heap.size w w2 := fun h e => ⟨⟨e.os.trans h.1.os, e.tape.trans h.1.tape, e.output.trans h.1.output, Nat.le_trans h.1.size e.size, fun k hk => (e.same k (Nat.lt_of_lt_of_le hk h.1.size) (by omega)).trans (h.1.block k hk)⟩, Nat.le_trans h.2 e.drawn⟩
  refine upon_insert (kt := 3) (et := 9) ?_ kk t0 ?_ (fun w1 t1 e1 => ?_)
  · kernel_rfl
  · rfl
  have b1 := st b0 e1
  go_wp2
  refine upon_insert (kt := 3) (et := 9) ?_ kk t1 ?_ (fun w2 t2 e2 => ?_)
  · kernel_rfl
  · rfl
  have b2 := st b1 e2
  go_wp2
  refine upon_insert (kt := 3) (et := 9) ?_ kk t2 ?_ (fun w3 t3 e3 => ?_)
  · kernel_rfl
  · rfl
  have b3 := st b2 e3
  go_wp2
  refine upon_insert (kt := 3) (et := 9) ?_ kk t3 ?_ (fun w4 t4 e4 => ?_)
  · kernel_rfl
  · rfl
  have b4 := st b3 e4
  go_wp2
  refine upon_insert (kt := 3) (et := 9) ?_ kk t4 ?_ (fun w5 t5 e5 => ?_)
  · kernel_rfl
  · rfl
  have b5 := st b4 e5
  go_wp2
  refine upon_insert (kt := 3) (et := 9) ?_ kk t5 ?_ (fun w6 t6 e6 => ?_)
  · kernel_rfl
  · rfl
  have b6 := st b5 e6
  go_wp2
  refine upon_insert (kt := 3) (et := 9) ?_ kk t6 ?_ (fun w7 t7 e7 => ?_)
  · kernel_rfl
  · rfl
  have b7 := st b6 e7
  go_wp2
  refine upon_find (kt := 3) (et := 9) ?_ kk ?_ t7 ?_
  · kernel_rfl
  · rfl
  go_wp2
  all_goals go_ret
  exact ⟨rfl, b7⟩
theorem typeNm_ok (n : Int) : (!((typeNm n).toList == (⟨#[]⟩ : ByteArray).toList)) = tyOk n := by
  by_cases h1 : n = 1
  · subst h1; rw [ByteArray.toList_eq, ByteArray.toList_eq]; rfl
  by_cases h2 : n = 2
  · subst h2; rw [ByteArray.toList_eq, ByteArray.toList_eq]; rfl
  by_cases h3 : n = 5
  · subst h3; rw [ByteArray.toList_eq, ByteArray.toList_eq]; rfl
  by_cases h4 : n = 6
  · subst h4; rw [ByteArray.toList_eq, ByteArray.toList_eq]; rfl
  by_cases h5 : n = 12
  · subst h5; rw [ByteArray.toList_eq, ByteArray.toList_eq]; rfl
  by_cases h6 : n = 16
  · subst h6; rw [ByteArray.toList_eq, ByteArray.toList_eq]; rfl
  by_cases h7 : n = 49
  · subst h7; rw [ByteArray.toList_eq, ByteArray.toList_eq]; rfl
  have e : ∀ m : Int, n ≠ m → (n == m) = false := fun m h => by simpa using h
  have : typeNm n = ByteArray.empty := by
    unfold typeNm typeTab
    simp only [List.find?_cons, e 1 h1, e 2 h2, e 5 h3, e 6 h4, e 12 h5, e 16 h6, e 49 h7, List.find?_nil]
    rfl
  rw [this]
  simp only [tyOk, e 1 h1, e 2 h2, e 5 h3, e 6 h4, e 12 h5, e 16 h6, e 49 h7]
  rw [ByteArray.toList_eq, ByteArray.toList_eq]; rfl

def c_impl_TypeOk : C := (.g (.o 0 2 (.mov (.v (.bool false))) .done) (.g (.o 0 3 (.mov (.t 0)) (.o 1 4 (.call 4 180 [(.t 3)]) (.o 2 5 (.bin .neq (.t 4) (.v (.string ⟨#[]⟩))) (.o 3 2 (.mov (.t 5)) .done)))) .ret))
theorem dg_impl_TypeOk : Tryz.f89.body.bind (digC Tryz.prog Tryz.f89.ntmps []) = some c_impl_TypeOk := by kernel_rfl
theorem rs_impl_TypeOk : resSlots Tryz.prog Tryz.f89 = some [.s 2] := by kernel_rfl
theorem ok_impl_TypeOk (n : Int) : FnOK Tryz.prog 89 [.one (.d (.sc (.int .i64 n)))] (fun ra _ => ra = [.one (.d (.sc (.bool (tyOk n))))]) := by
  rw [← typeNm_ok]
  refine FnOK.ofK Tryz.func89 (by kernel_rfl) dg_impl_TypeOk rs_impl_TypeOk rfl rfl ?_
  delta c_impl_TypeOk T.o X.i C.g
  refine Kbc (Ka Y (Kdb (Kc (Ka Y (Kp (ok_impl_typeName _) ⟨Y, trivial⟩ Y Y Y Y Y (Kj Y Y Y (Ka Y (Kd (Kr (Er (ra := [.one (.d _)]) rfl rfl))))))))))

def c_impl_isWord : C := (.g (.o 0 2 (.mov (.v (.bool false))) .done) (.g (.o 0 3 (.mov (.t 0)) (.o 1 4 (.call 4 109 [(.t 3), (.i 0), (.i 4294967295)]) (.o 2 2 (.mov (.t 4)) .done))) .ret))
theorem dg_impl_isWord : Tryz.f192.body.bind (digC Tryz.prog Tryz.f192.ntmps []) = some c_impl_isWord := by kernel_rfl
theorem rs_impl_isWord : resSlots Tryz.prog Tryz.f192 = some [.s 2] := by kernel_rfl
theorem ok_impl_isWord (n : Int) : FnOK Tryz.prog 192 [.one (.d (.sc (.int .i64 n)))] (fun ra _ => ra = [.one (.d (.sc (.bool (isW n))))]) := by
  refine FnOK.ofK Tryz.func192 (by kernel_rfl) dg_impl_isWord rs_impl_isWord rfl rfl ?_
  delta c_impl_isWord T.o X.i C.g
  refine Kbc (Ka Y (Kdb (Kc (Ka Y (Kp (ok_impl_within _ _ _) ⟨Y, Y, Y, trivial⟩ Y Y Y Y Y (Ka Y (Kd (Kr (Er (ra := [.one (.d _)]) rfl ?_)))))))))
  rw [show isW n = decide (0 ≤ n ∧ n ≤ 4294967295) by unfold isW; rw [Bool.eq_iff_iff]; simp; omega]

def c_impl_hasTo : C := (.g (.o 0 2 (.mov (.v (.bool false))) .done) (.g (.o 0 3 (.mov (.t 0)) (.o 1 4 (.bin .eql (.t 3) (.i 2)) (.o 2 5 (.mov (.t 4)) (.op 3 [] (some 6) (some (5, false)) false (.mov (.t 0)) (.op 4 [] (some 7) (some (5, false)) false (.bin .eql (.t 6) (.i 5)) (.o 5 8 (.pick (.t 5) (.v (.bool true)) (.t 7)) (.o 6 9 (.mov (.t 8)) (.op 7 [] (some 10) (some (9, false)) false (.mov (.t 0)) (.op 8 [] (some 11) (some (9, false)) false (.bin .eql (.t 10) (.i 6)) (.o 9 12 (.pick (.t 9) (.v (.bool true)) (.t 11)) (.o 10 13 (.mov (.t 12)) (.op 11 [] (some 14) (some (13, false)) false (.mov (.t 0)) (.op 12 [] (some 15) (some (13, false)) false (.bin .eql (.t 14) (.i 12)) (.o 13 16 (.pick (.t 13) (.v (.bool true)) (.t 15)) (.o 14 2 (.mov (.t 16)) .done))))))))))))))) .ret))
theorem dg_impl_hasTo : Tryz.f239.body.bind (digC Tryz.prog Tryz.f239.ntmps []) = some c_impl_hasTo := by kernel_rfl
theorem rs_impl_hasTo : resSlots Tryz.prog Tryz.f239 = some [.s 2] := by kernel_rfl
theorem ok_impl_hasTo (n : Int) : FnOK Tryz.prog 239 [.one (.d (.sc (.int .i64 n)))] (fun ra _ => ra = [.one (.d (.sc (.bool (hasTo n))))]) := by
  refine FnOK.ofK Tryz.func239 (by kernel_rfl) dg_impl_hasTo rs_impl_hasTo rfl rfl ?_
  delta c_impl_hasTo T.o X.i C.g
  refine Kbc (Ka Y (Kdb (Kc (Ka Y (Kj Y Y Y (Ka Y (kGP Y (fun g0 => Kg Y (Kg Y (Kk Y (Ka Y (Ka Y (Kg Y (Kg Y (Kk Y (Ka Y (Ka Y (Kg Y (Kg Y (Kk Y (Ka Y (Ka Y (Kd (Kr (Er (ra := [.one (.d _)]) rfl ?_)))))))))))))))))) (fun g0 => Ki Y (Ka Y (Ki Y (Kj Y Y Y (Kl Y (Ka Y (Ka Y (kGP Y (fun g1 => Kg Y (Kg Y (Kk Y (Ka Y (Ka Y (Kg Y (Kg Y (Kk Y (Ka Y (Ka Y (Kd (Kr (Er (ra := [.one (.d _)]) rfl ?_))))))))))))) (fun g1 => Ki Y (Ka Y (Ki Y (Kj Y Y Y (Kl Y (Ka Y (Ka Y (kGP Y (fun g2 => Kg Y (Kg Y (Kk Y (Ka Y (Ka Y (Kd (Kr (Er (ra := [.one (.d _)]) rfl ?_)))))))) (fun g2 => Ki Y (Ka Y (Ki Y (Kj Y Y Y (Kl Y (Ka Y (Ka Y (Kd (Kr (Er (ra := [.one (.d _)]) rfl ?_)))))))))))))))))))))))))))))))))
  all_goals simp_all [hasTo]

def c_impl_hasText : C := (.g (.o 0 2 (.mov (.v (.bool false))) .done) (.g (.o 0 3 (.mov (.t 0)) (.o 1 4 (.bin .eql (.t 3) (.i 16)) (.o 2 5 (.mov (.t 4)) (.op 3 [] (some 6) (some (5, false)) false (.mov (.t 0)) (.op 4 [] (some 7) (some (5, false)) false (.bin .eql (.t 6) (.i 49)) (.o 5 8 (.pick (.t 5) (.v (.bool true)) (.t 7)) (.o 6 2 (.mov (.t 8)) .done))))))) .ret))
theorem dg_impl_hasText : Tryz.f240.body.bind (digC Tryz.prog Tryz.f240.ntmps []) = some c_impl_hasText := by kernel_rfl
theorem rs_impl_hasText : resSlots Tryz.prog Tryz.f240 = some [.s 2] := by kernel_rfl
theorem ok_impl_hasText (n : Int) : FnOK Tryz.prog 240 [.one (.d (.sc (.int .i64 n)))] (fun ra _ => ra = [.one (.d (.sc (.bool (hasText n))))]) := by
  refine FnOK.ofK Tryz.func240 (by kernel_rfl) dg_impl_hasText rs_impl_hasText rfl rfl ?_
  delta c_impl_hasText T.o X.i C.g
  refine Kbc (Ka Y (Kdb (Kc (Ka Y (Kj Y Y Y (Ka Y (kGP Y (fun g0 => Kg Y (Kg Y (Kk Y (Ka Y (Ka Y (Kd (Kr (Er (ra := [.one (.d _)]) rfl ?_)))))))) (fun g0 => Ki Y (Ka Y (Ki Y (Kj Y Y Y (Kl Y (Ka Y (Ka Y (Kd (Kr (Er (ra := [.one (.d _)]) rfl ?_)))))))))))))))))
  all_goals simp_all [hasText]

def c_impl_RrOk : C := (.g (.o 0 1 (.box 1 (.t 0)) (.o 1 2 (.mov (.v (.bool false))) .done)) (.seq (.g (.o 0 7 (.fad (.t 1) 0) (.o 1 8 (.load (some 1) (.t 7)) (.o 2 9 (.call 9 71 [(.t 8)]) (.o 3 10 (.un .not (.t 9)) (.o 4 11 (.mov (.t 10)) (.op 5 [] (some 12) (some (11, false)) false (.fad (.t 1) 1) (.op 6 [] (some 13) (some (11, false)) false (.load none (.t 12)) (.op 7 [] (some 14) (some (11, false)) false (.call 14 89 [(.t 13)]) (.op 8 [] (some 15) (some (11, false)) false (.un .not (.t 14)) (.o 9 16 (.pick (.t 11) (.v (.bool true)) (.t 15)) (.o 10 17 (.mov (.t 16)) (.op 11 [] (some 18) (some (17, false)) false (.fad (.t 1) 2) (.op 12 [] (some 19) (some (17, false)) false (.load none (.t 18)) (.op 13 [] (some 20) (some (17, false)) false (.call 20 109 [(.t 19), (.i 0), (.i 100000)]) (.op 14 [] (some 21) (some (17, false)) false (.un .not (.t 20)) (.o 15 22 (.pick (.t 17) (.v (.bool true)) (.t 21)) .done)))))))))))))))) (.cond (.t 22) (.g (.o 0 2 (.mov (.v (.bool false))) .done) .ret) .skip)) (.g (.o 0 23 (.fad (.t 1) 6) (.o 1 24 (.load none (.t 23)) (.o 2 25 (.len (.t 24)) (.o 3 26 (.bin .eql (.t 25) (.i 0)) (.o 4 3 (.mov (.t 26)) .done))))) (.seq (.g (.o 0 27 (.fad (.t 1) 1) (.o 1 28 (.load none (.t 27)) (.o 2 29 (.bin .eql (.t 28) (.i 6)) .done))) (.cond (.t 29) (.reg false (.o 0 30 (.fad (.t 1) 6) (.o 1 31 (.load none (.t 30)) (.o 2 32 (.len (.t 31)) (.o 3 33 (.bin .eql (.t 32) (.i 2)) (.o 4 34 (.mov (.t 33)) (.op 5 [] (some 35) (some (34, true)) false (.fad (.t 1) 6) (.op 6 [] (some 36) (some (34, true)) false (.load none (.t 35)) (.op 7 [] (some 37) (some (34, true)) false (.iad 1 (.t 36) (.i 0)) (.op 8 [] (some 38) (some (34, true)) false (.load none (.t 37)) (.op 9 [] (some 39) (some (34, true)) false (.call 39 192 [(.t 38)]) (.o 10 40 (.pick (.t 34) (.t 39) (.v (.bool false))) (.o 11 41 (.mov (.t 40)) (.op 12 [] (some 42) (some (41, true)) false (.fad (.t 1) 6) (.op 13 [] (some 43) (some (41, true)) false (.load none (.t 42)) (.op 14 [] (some 44) (some (41, true)) false (.iad 1 (.t 43) (.i 1)) (.op 15 [] (some 45) (some (41, true)) false (.load none (.t 44)) (.op 16 [] (some 46) (some (41, true)) false (.call 46 109 [(.t 45), (.i 0), (.i 100000)]) (.o 17 47 (.pick (.t 41) (.t 46) (.v (.bool false))) (.o 18 3 (.mov (.t 47)) .done)))))))))))))))))))) .skip)) (.g (.o 0 48 (.fad (.t 1) 3) (.o 1 49 (.load none (.t 48)) (.o 2 50 (.bin .eql (.t 49) (.i 0)) (.o 3 51 (.mov (.t 50)) (.op 4 [] (some 52) (some (51, false)) false (.fad (.t 1) 1) (.op 5 [] (some 53) (some (51, false)) false (.load none (.t 52)) (.op 6 [] (some 54) (some (51, false)) false (.bin .eql (.t 53) (.i 1)) (.op 7 [] (some 55) (some (51, false)) false (.mov (.t 54)) (.op 8 [] (some 56) (some (55, true)) false (.fad (.t 1) 3) (.op 9 [] (some 57) (some (55, true)) false (.load none (.t 56)) (.op 10 [] (some 58) (some (55, true)) false (.call 58 192 [(.t 57)]) (.op 11 [] (some 59) (some (51, false)) false (.pick (.t 55) (.t 58) (.v (.bool false))) (.o 12 60 (.pick (.t 51) (.v (.bool true)) (.t 59)) (.o 13 4 (.mov (.t 60)) .done)))))))))))))) (.g (.o 0 61 (.fad (.t 1) 4) (.o 1 62 (.fad (.t 61) 0) (.o 2 63 (.load none (.t 62)) (.o 3 64 (.len (.t 63)) (.o 4 65 (.bin .eql (.t 64) (.i 0)) (.o 5 66 (.mov (.t 65)) (.op 6 [] (some 67) (some (66, false)) false (.fad (.t 1) 1) (.op 7 [] (some 68) (some (66, false)) false (.load none (.t 67)) (.op 8 [] (some 69) (some (66, false)) false (.call 69 239 [(.t 68)]) (.op 9 [] (some 70) (some (66, false)) false (.mov (.t 69)) (.op 10 [] (some 71) (some (70, true)) false (.fad (.t 1) 4) (.op 11 [] (some 72) (some (70, true)) false (.load (some 1) (.t 71)) (.op 12 [] (some 73) (some (70, true)) false (.call 73 71 [(.t 72)]) (.op 13 [] (some 74) (some (66, false)) false (.pick (.t 70) (.t 73) (.v (.bool false))) (.o 14 75 (.pick (.t 66) (.v (.bool true)) (.t 74)) (.o 15 5 (.mov (.t 75)) .done)))))))))))))))) (.g (.o 0 76 (.fad (.t 1) 5) (.o 1 77 (.load none (.t 76)) (.o 2 78 (.len (.t 77)) (.o 3 79 (.bin .eql (.t 78) (.i 0)) (.o 4 80 (.mov (.t 79)) (.op 5 [] (some 81) (some (80, false)) false (.fad (.t 1) 1) (.op 6 [] (some 82) (some (80, false)) false (.load none (.t 81)) (.op 7 [] (some 83) (some (80, false)) false (.call 83 240 [(.t 82)]) (.op 8 [] (some 84) (some (80, false)) false (.mov (.t 83)) (.op 9 [] (some 85) (some (84, true)) false (.fad (.t 1) 5) (.op 10 [] (some 86) (some (84, true)) false (.load none (.t 85)) (.op 11 [] (some 87) (some (84, true)) false (.len (.t 86)) (.op 12 [] (some 88) (some (84, true)) false (.bin .leq (.t 87) (.i 40)) (.op 13 [] (some 89) (some (80, false)) false (.pick (.t 84) (.t 88) (.v (.bool false))) (.o 14 90 (.pick (.t 80) (.v (.bool true)) (.t 89)) (.o 15 6 (.mov (.t 90)) .done)))))))))))))))) (.g (.o 0 91 (.mov (.t 3)) (.o 1 92 (.mov (.t 91)) (.op 2 [] (some 93) (some (92, true)) false (.mov (.t 4)) (.o 3 94 (.pick (.t 92) (.t 93) (.v (.bool false))) (.o 4 95 (.mov (.t 94)) (.op 5 [] (some 96) (some (95, true)) false (.mov (.t 5)) (.o 6 97 (.pick (.t 95) (.t 96) (.v (.bool false))) (.o 7 98 (.mov (.t 97)) (.op 8 [] (some 99) (some (98, true)) false (.mov (.t 6)) (.o 9 100 (.pick (.t 98) (.t 99) (.v (.bool false))) (.o 10 2 (.mov (.t 100)) .done))))))))))) .ret))))))))
theorem dg_impl_RrOk : Tryz.f159.body.bind (digC Tryz.prog Tryz.f159.ntmps []) = some c_impl_RrOk := by kernel_rfl
theorem rs_impl_RrOk : resSlots Tryz.prog Tryz.f159 = some [.s 2] := by kernel_rfl
theorem ok_impl_RrOk (r : Rr) (hs : SmallR r) :
    FnOK Tryz.prog 159 [.agg (r.cells.map .d)] (fun ra _ => ra = [.one (.d (.sc (.bool (rrOk r))))]) := by
  refine FnOK.ofK Tryz.func159 (by kernel_rfl) dg_impl_RrOk rs_impl_RrOk rfl rfl ?_
  delta c_impl_RrOk T.o X.i C.g
  have n1 := hs.n.len
  have n2 := hs.n.mem
  have t1 := hs.t.len
  have t2 := hs.t.mem
  have x1 := hs.x
  have m1 := hs.m
  refine Kbc (kBox Y Y Y Y Y (Ka Y (Kd ?_)))
  by_cases h0 : nameOk r.name = true ∧ tyOk r.ty = true ∧ (0 ≤ r.ttl ∧ r.ttl ≤ 100000)
  case neg =>
    rw [show rrOk r = false by simp only [rrOk]; revert h0; cases nameOk r.name <;> cases tyOk r.ty <;> simp <;> intros <;> omega]
    refine Kb ?_
    cases h1 : nameOk r.name
    case false => refine kSeq (kReg (kFadP rfl rfl (kLoadP rfl rfl rfl (kCallD (ok_impl_NameOk _ pr pr) ⟨⟨⟨rfl, trivial⟩, leb⟩, trivial⟩ rfl rfl rfl rfl rfl (kUn rfl rfl (kMovC rfl (kGN rfl (fun g0 => kGF rfl (kGF rfl (kGF rfl (kGF rfl (kPickT rfl (kMovC rfl (kMovC rfl (kGF rfl (kGF rfl (kGF rfl (kGF rfl (kPickT rfl (kMovC rfl (kDone (kCondT rfl (kSeq (kReg (kMovC rfl (kDone (kRet (endRetA (ra := [.one (.d _)]) rfl rfl))))))))))))))))))))) (fun g0 => (by (simp [*] at g0))))))))))
    cases h2 : tyOk r.ty
    case false => refine kSeq (kReg (kFadP rfl rfl (kLoadP rfl rfl rfl (kCallD (ok_impl_NameOk _ pr pr) ⟨⟨⟨rfl, trivial⟩, leb⟩, trivial⟩ rfl rfl rfl rfl rfl (kUn rfl rfl (kMovC rfl (kGN rfl (fun g0 => (by (simp [*] at g0))) (fun g0 => kGT rfl (kFadP rfl rfl (kGT rfl (kLoadP rfl rfl rfl (kGT rfl (kCallD (ok_impl_TypeOk _) ⟨rfl, trivial⟩ rfl rfl rfl rfl rfl (kGT rfl (kUn rfl rfl (kPickF rfl (kMovC rfl (kMovC rfl (kGN rfl (fun g1 => kGF rfl (kGF rfl (kGF rfl (kGF rfl (kPickT rfl (kMovC rfl (kDone (kCondT rfl (kSeq (kReg (kMovC rfl (kDone (kRet (endRetA (ra := [.one (.d _)]) rfl rfl)))))))))))))) (fun g1 => (by (simp [*] at g1))))))))))))))))))))))
    have h3 : ¬ (0 ≤ r.ttl ∧ r.ttl ≤ 100000) := fun h => h0 ⟨h1, h2, h⟩
    refine Kbc (Kf Y Y (Ke Y Y Y (Kp (ok_impl_NameOk _ pr pr) ⟨⟨⟨Y, trivial⟩, leb⟩, trivial⟩ Y Y Y Y Y (Kw Y Y (Ka Y (kGN Y (fun g0 => (by (simp [*] at g0))) (fun g0 => Ki Y (Kf Y Y (Ki Y (Ke Y Y Y (Ki Y (Kp (ok_impl_TypeOk _) ⟨Y, trivial⟩ Y Y Y Y Y (Ki Y (Kw Y Y (Kl Y (Ka Y (Ka Y (kGN Y (fun g1 => (by (simp [*] at g1))) (fun g1 => Ki Y (Kf Y Y (Ki Y (Ke Y Y Y (Ki Y (Kp (ok_impl_within _ _ _) ⟨Y, Y, Y, trivial⟩ Y Y Y Y Y (Ki Y (Kw Y Y (Kl Y (Ka Y (Kd (kCondN Y (fun g2 => Kbc (Ka Y (Kd (Kr (Er (ra := [.one (.d _)]) rfl rfl))))) (fun g2 => (by (simp [*] at g2)))))))))))))))))))))))))))))))))
  obtain ⟨h1, h2, h3⟩ := h0
  rw [show rrOk r = dataOk r by simp only [rrOk]; rw [h1, h2, decide_eq_true h3.1, decide_eq_true h3.2]; rfl]
  refine Kb (kCut ⟨tabSl [(1, .c (.ptr (rid 1 0) 1 0))], obTab 1 [(rid 1 0, ⟨1, 0, .box (r.cells.map .d)⟩)], []⟩ ?_ (fun x hc => ?_))
  case refine_2 =>
    refine Kbc (Kf Y Y (Ke Y Y Y (Kp (ok_impl_NameOk _ pr pr) ⟨⟨⟨Y, trivial⟩, leb⟩, trivial⟩ Y Y Y Y Y (Kw Y Y (Ka Y (kGN Y (fun g0 => (by (simp [*] at g0))) (fun g0 => Ki Y (Kf Y Y (Ki Y (Ke Y Y Y (Ki Y (Kp (ok_impl_TypeOk _) ⟨Y, trivial⟩ Y Y Y Y Y (Ki Y (Kw Y Y (Kl Y (Ka Y (Ka Y (kGN Y (fun g1 => (by (simp [*] at g1))) (fun g1 => Ki Y (Kf Y Y (Ki Y (Ke Y Y Y (Ki Y (Kp (ok_impl_within _ _ _) ⟨Y, Y, Y, trivial⟩ Y Y Y Y Y (Ki Y (Kw Y Y (Kl Y (Ka Y (Kd (kCondN Y (fun g2 => (by (simp [*] at g2))) (fun g2 => Kn (hc _ .normA))))))))))))))))))))))))))))))))
  refine Kb (kCut ⟨tabSl [(1, .c (.ptr (rid 1 0) 1 0)), (3, .b (((r.nums.length : Int) == 0)))], obTab 1 [(rid 1 0, ⟨1, 0, .box (r.cells.map .d)⟩)], []⟩ ?_ (fun x hc => ?_))
  case refine_2 => refine kReg (kFadP rfl rfl (kLoadP rfl rfl rfl (kLenR rfl rfl (kBin rfl rfl rfl (kMovC rfl (kDone (hc _ .normA)))))))
  refine Kb (kCut ⟨tabSl [(1, .c (.ptr (rid 1 0) 1 0)), (3, .b ((if r.ty == 6 then numsOk r.nums else ((r.nums.length : Int) == 0))))], obTab 1 [(rid 1 0, ⟨1, 0, .box (r.cells.map .d)⟩)], []⟩ ?_ (fun x hc => ?_))
  case refine_2 =>
    refine Kbc (Kf Y Y (Ke Y Y Y (Kj Y Y Y (Kd (Km Y (fun g0 => Kc (Kf Y Y (Ke Y Y Y (Kq Y Y (Kj Y Y Y (Ka Y (kGP Y (fun g1 => Ki Y (Kf Y Y (Ki Y (Ke Y Y Y (Ki Y (kIadR Y Y Y om (Ki Y (Ky Y Y (Ki Y (Kp (ok_impl_isWord _) ⟨Y, trivial⟩ Y Y Y Y Y (Kk Y (Ka Y (Ka Y (kGS Y (fun g2 => Ki Y (Kf Y Y (Ki Y (Ke Y Y Y (Ki Y (kIadR Y Y Y om (Ki Y (Ky Y Y (Ki Y (Kp (ok_impl_within _ _ _) ⟨Y, Y, Y, trivial⟩ Y Y Y Y Y (Kk Y (Ka Y (Ka Y (Kd (hc _ .normA))))))))))))))) (fun g2 => Kg Y (Kg Y (Kg Y (Kg Y (Kg Y (Kl Y (Ka Y (Ka Y (Kd (hc _ .normA)))))))))))))))))))))))) (fun g1 => Kg Y (Kg Y (Kg Y (Kg Y (Kg Y (Kl Y (Ka Y (Ka Y (Kg Y (Kg Y (Kg Y (Kg Y (Kg Y (Kl Y (Ka Y (Ka Y (Kd (hc _ .normA))))))))))))))))))))))))) (fun g0 => Kn (hc _ .normA)))))))
  refine Kb (kCut ⟨tabSl [(1, .c (.ptr (rid 1 0) 1 0)), (3, .b ((if r.ty == 6 then numsOk r.nums else ((r.nums.length : Int) == 0)))), (4, .b ((if r.ty == 1 then isW r.addr else r.addr == 0)))], obTab 1 [(rid 1 0, ⟨1, 0, .box (r.cells.map .d)⟩)], []⟩ ?_ (fun x hc => ?_))
  case refine_2 =>
    refine Kc (Kf Y Y (Ke Y Y Y (Kj Y Y Y (Ka Y (kGP Y (fun g0 => Kg Y (Kg Y (Kg Y (Kg Y (kGU Y (kGU Y (kGU Y (Kg Y (Kk Y (Ka Y (Ka Y (Kd (hc _ .normA))))))))))))) (fun g0 => Ki Y (Kf Y Y (Ki Y (Ke Y Y Y (Ki Y (Kj Y Y Y (Ki Y (Ka Y (kGP Y (fun g1 => Ki Y (Kf Y Y (Ki Y (Ke Y Y Y (Ki Y (Kp (ok_impl_isWord _) ⟨Y, trivial⟩ Y Y Y Y Y (Ki Y (Kk Y (Ka Y (Kl Y (Ka Y (Ka Y (Kd (hc _ .normA)))))))))))))) (fun g1 => Kg Y (Kg Y (Kg Y (Ki Y (Kl Y (Ka Y (Kl Y (Ka Y (Ka Y (Kd (hc _ .normA)))))))))))))))))))))))))
  refine Kb (kCut ⟨tabSl [(1, .c (.ptr (rid 1 0) 1 0)), (3, .b ((if r.ty == 6 then numsOk r.nums else ((r.nums.length : Int) == 0)))), (4, .b ((if r.ty == 1 then isW r.addr else r.addr == 0))), (5, .b ((if hasTo r.ty then nameOk r.to else ((r.to.length : Int) == 0))))], obTab 1 [(rid 1 0, ⟨1, 0, .box (r.cells.map .d)⟩)], []⟩ ?_ (fun x hc => ?_))
  case refine_2 =>
    refine Kc (Kf Y Y (Kf Y Y (Ke Y Y Y (Kq Y Y (Kj Y Y Y (Ka Y (kGP Y (fun g0 => Kg Y (Kg Y (Kg Y (Kg Y (kGU Y (kGU Y (kGU Y (Kg Y (Kk Y (Ka Y (Ka Y (Kd (hc _ .normA))))))))))))) (fun g0 => Ki Y (Kf Y Y (Ki Y (Ke Y Y Y (Ki Y (Kp (ok_impl_hasTo _) ⟨Y, trivial⟩ Y Y Y Y Y (Ki Y (Ka Y (kGS Y (fun g1 => Ki Y (Kf Y Y (Ki Y (Ke Y Y Y (Ki Y (Kp (ok_impl_NameOk _ pr pr) ⟨⟨⟨Y, trivial⟩, leb⟩, trivial⟩ Y Y Y Y Y (Ki Y (Kk Y (Ka Y (Kl Y (Ka Y (Ka Y (Kd (hc _ .normA)))))))))))))) (fun g1 => Kg Y (Kg Y (Kg Y (Ki Y (Kl Y (Ka Y (Kl Y (Ka Y (Ka Y (Kd (hc _ .normA)))))))))))))))))))))))))))
  refine Kb (kCut ⟨tabSl [(1, .c (.ptr (rid 1 0) 1 0)), (3, .b ((if r.ty == 6 then numsOk r.nums else ((r.nums.length : Int) == 0)))), (4, .b ((if r.ty == 1 then isW r.addr else r.addr == 0))), (5, .b ((if hasTo r.ty then nameOk r.to else ((r.to.length : Int) == 0)))), (6, .b ((if hasText r.ty then decide ((r.text.length : Int) ≤ 40) else ((r.text.length : Int) == 0))))], obTab 1 [(rid 1 0, ⟨1, 0, .box (r.cells.map .d)⟩)], []⟩ ?_ (fun x hc => ?_))
  case refine_2 =>
    refine Kc (Kf Y Y (Ke Y Y Y (Kq Y Y (Kj Y Y Y (Ka Y (kGP Y (fun g0 => Kg Y (Kg Y (Kg Y (Kg Y (kGU Y (kGU Y (kGU Y (kGU Y (Kg Y (Kk Y (Ka Y (Ka Y (Kd (hc _ .normA)))))))))))))) (fun g0 => Ki Y (Kf Y Y (Ki Y (Ke Y Y Y (Ki Y (Kp (ok_impl_hasText _) ⟨Y, trivial⟩ Y Y Y Y Y (Ki Y (Ka Y (kGS Y (fun g1 => Ki Y (Kf Y Y (Ki Y (Ke Y Y Y (Ki Y (Kq Y Y (Ki Y (Kj Y Y Y (Ki Y (Kk Y (Ka Y (Kl Y (Ka Y (Ka Y (Kd (hc _ .normA)))))))))))))))) (fun g1 => Kg Y (Kg Y (Kg Y (Kg Y (Ki Y (Kl Y (Ka Y (Kl Y (Ka Y (Ka Y (Kd (hc _ .normA)))))))))))))))))))))))))))
  refine Kbc (Ka Y (Ka Y (kGS Y (fun g0 => Ki Y (Ka Y (Kk Y (Ka Y (Ka Y (kGS Y (fun g1 => Ki Y (Ka Y (Kk Y (Ka Y (Ka Y (kGS Y (fun g2 => Ki Y (Ka Y (Kk Y (Ka Y (Ka Y (Kd (Kr (Er (ra := [.one (.d _)]) rfl ?_)))))))) (fun g2 => Kg Y (Kl Y (Ka Y (Ka Y (Kd (Kr (Er (ra := [.one (.d _)]) rfl ?_))))))))))))) (fun g1 => Kg Y (Kl Y (Ka Y (Ka Y (Kg Y (Kl Y (Ka Y (Ka Y (Kd (Kr (Er (ra := [.one (.d _)]) rfl ?_))))))))))))))))) (fun g0 => Kg Y (Kl Y (Ka Y (Ka Y (Kg Y (Kl Y (Ka Y (Ka Y (Kg Y (Kl Y (Ka Y (Ka Y (Kd (Kr (Er (ra := [.one (.d _)]) rfl ?_))))))))))))))))))
  all_goals simp only [dataOk, *, Bool.true_and, Bool.false_and, Bool.and_true, Bool.and_false]

def c_impl_all_impl_Rr_1 : C := (.g (.o 0 2 (.box 2 (.t 0)) (.o 1 3 (.mov (.v (.bool false))) .done)) (.g (.o 0 4 (.load none (.t 1)) (.o 1 5 (.load (some 7) (.t 2)) (.o 2 6 (.callv 6 (.t 4) [(.t 5)]) (.o 3 7 (.un .not (.t 6)) (.o 4 3 (.mov (.t 7)) .done))))) .ret))
theorem dg_impl_all_impl_Rr_1 : Tryz.f238.body.bind (digC Tryz.prog Tryz.f238.ntmps []) = some c_impl_all_impl_Rr_1 := by kernel_rfl
theorem rs_impl_all_impl_Rr_1 : resSlots Tryz.prog Tryz.f238 = some [.s 3] := by kernel_rfl
theorem ok_impl_all_impl_Rr_1 (x : Rr) (D : Rr → Prop) (g : Rr → Bool) (hx : D x) :
    FnOK Tryz.prog 238 [.agg (x.cells.map .d), .one (.ptr [.fv false (fcAgg D Rr.cells g)])] (fun ra _ => ra = [.one (.d (.sc (.bool (!g x))))]) := by
  refine FnOK.ofK Tryz.func238 (by kernel_rfl) dg_impl_all_impl_Rr_1 rs_impl_all_impl_Rr_1 rfl rfl ?_
  delta c_impl_all_impl_Rr_1 T.o X.i C.g
  refine Kbc (kBox Y Y Y Y Y (Ka Y (Kdb (Kc (kLoadC Y Y (Ke Y Y Y ?_))))))
  refine kCallv Y ⟨x, hx, rfl, rfl⟩ ⟨⟨⟨Y, Y, Y, Y, Y, Y, Y, trivial⟩, leb⟩, trivial⟩ (.inr ?_) rfl ?_ rfl ?_
  · rintro _ rfl; rfl
  · rintro _ rfl; exact leb
  rintro _ rfl
  refine Kw Y Y (Ka Y (Kd (Kr (Er (ra := [.one (.d _)]) rfl rfl))))

def c_slices_IndexFunc_Limpl_Rr_impl_Rr : C := (.g (.o 0 4 (.mov (.i 0)) .done) (.seq (.g (.o 0 6 (.mov (.t 0)) (.o 1 7 (.len (.t 6)) (.o 2 8 (.mov (.i 0)) .done))) (.block 0 (.loop (.g (.o 0 9 (.bin .lss (.t 8) (.t 7)) .done) (.seq (.cond (.t 9) .skip (.exit 0)) (.seq (.block 1 (.g (.o 0 10 (.mov (.t 8)) (.o 1 5 (.mov (.t 10)) .done)) (.g (.o 0 11 (.mov (.t 1)) (.o 1 12 (.mov (.t 0)) (.o 2 13 (.mov (.t 5)) (.o 3 14 (.iad 7 (.t 12) (.t 13)) (.o 4 15 (.load (some 7) (.t 14)) (.o 5 16 (.callv 16 (.t 11) [(.t 15)]) .done)))))) (.cond (.t 16) (.g (.o 0 17 (.mov (.t 5)) (.o 1 4 (.mov (.t 17)) .done)) .ret) .skip)))) (.reg false (.o 0 18 (.bin .add (.t 8) (.i 1)) (.o 1 8 (.mov (.t 18)) .done))))))))) (.g (.o 0 4 (.mov (.i (-1))) .done) .ret)))
theorem dg_slices_IndexFunc_Limpl_Rr_impl_Rr : Tryz.f270.body.bind (digC Tryz.prog Tryz.f270.ntmps []) = some c_slices_IndexFunc_Limpl_Rr_impl_Rr := by kernel_rfl
theorem rs_slices_IndexFunc_Limpl_Rr_impl_Rr : resSlots Tryz.prog Tryz.f270 = some [.s 4] := by kernel_rfl
theorem ok_slices_IndexFunc_Limpl_Rr_impl_Rr (l : List Rr) (D : Rr → Prop) (g : Rr → Bool) (hl : l.length ≤ 4194304) (hD : ∀ x ∈ l, D x) :
    FnOK Tryz.prog 270 [.one (.d (encR l)), .one (.fv false (fcAgg D Rr.cells g))] (fun ra _ => ra = [.one (.d (.sc (.int .i64 (idx g l))))]) := by
  refine FnOK.ofK Tryz.func270 (by kernel_rfl) dg_slices_IndexFunc_Limpl_Rr_impl_Rr rs_slices_IndexFunc_Limpl_Rr_impl_Rr rfl rfl ?_
  delta c_slices_IndexFunc_Limpl_Rr_impl_Rr T.o X.i C.g
  refine Kbc (Ka Y (Kdb (Kbc (Ka Y (Kq Y Y (Ka Y (Kd (Kt ?_))))))))
  refine kLoop (α := { i : Nat // i ≤ l.length ∧ ∀ x ∈ l.take i, g x = false })
    (fun y => ⟨tabSl [(0, .dv (encR l)), (1, .c (.fv false (fcAgg D Rr.cells g))), (7, .i l.length), (8, .i y.1)], obTab 1 [], []⟩) (fun y => l.length - y.1) ⟨0, by simp⟩
    .normA ?_
  rintro ⟨i, hi, hg⟩
  simp only
  rcases Nat.lt_or_ge i l.length with hlt | hge
  · refine Kbc (Kj Y Y Y (Kdb (Km Y (fun g0 => Kn (Kb (Kt (Kbc (Ka Y (Ka Y (Kdb (Kc (Ka Y (Ka Y (Ka Y (kIadR Y Y Y om (Ky Y Y ?_))))))))))))) (fun g0 => om))))
    refine kCallv Y ⟨l[i], hD _ (List.getElem_mem hlt), rfl, rfl⟩ ⟨⟨⟨Y, Y, Y, Y, Y, Y, Y, trivial⟩, leb⟩, trivial⟩ (.inr ?_) rfl ?_ rfl ?_
    · rintro _ rfl; rfl
    · rintro _ rfl; exact leb
    rintro _ rfl
    refine Kd (kCond Y (fun g0 => Kbc (Ka Y (Ka Y (Kd (Kr (Er (ra := [.one (.d _)]) rfl ?_)))))) (fun g0 => Kn (Kv (Kc (kAdd Y Y om (Ka Y (Kd ?_)))))))
    · have : l.findIdx? g = some i := by
        rw [List.findIdx?_eq_some_iff_getElem]
        refine ⟨hlt, by assumption, fun j hj => ?_⟩
        simpa using hg _ (by rw [List.mem_take_iff_getElem]; exact ⟨j, by omega, rfl⟩)
      simp [idx, this]
    · refine kInv ⟨⟨i + 1, hlt, ?_⟩, by simp only; omega, .normA⟩
      intro x hx
      rw [← List.take_append_getElem hlt, List.mem_append] at hx
      rcases hx with hx | hx
      · exact hg x hx
      · simp at hx; rw [hx]; assumption
  · refine Kbc (Kj Y Y Y (Kdb (Km Y (fun g0 => om) (fun g0 => kExit (kExC (kExI (kExB (Kbc (Ka Y (Kd (Kr (Er (ra := [.one (.d _)]) rfl ?_))))))))))))
    have : l.findIdx? g = none := by
      rw [List.findIdx?_eq_none_iff]
      intro x hx
      rw [show i = l.length by omega, List.take_length] at hg
      exact hg x hx
    simp [idx, this]

def c_slices_ContainsFunc_Limpl_Rr_impl_Rr : C := (.g (.o 0 4 (.mov (.v (.bool false))) .done) (.g (.o 0 5 (.mov (.t 0)) (.o 1 6 (.mov (.t 1)) (.o 2 7 (.call 7 270 [(.t 5), (.t 6)]) (.o 3 8 (.bin .geq (.t 7) (.i 0)) (.o 4 4 (.mov (.t 8)) .done))))) .ret))
theorem dg_slices_ContainsFunc_Limpl_Rr_impl_Rr : Tryz.f197.body.bind (digC Tryz.prog Tryz.f197.ntmps []) = some c_slices_ContainsFunc_Limpl_Rr_impl_Rr := by kernel_rfl
theorem rs_slices_ContainsFunc_Limpl_Rr_impl_Rr : resSlots Tryz.prog Tryz.f197 = some [.s 4] := by kernel_rfl
theorem ok_slices_ContainsFunc_Limpl_Rr_impl_Rr (l : List Rr) (D : Rr → Prop) (g : Rr → Bool) (hl : l.length ≤ 4194304) (hD : ∀ x ∈ l, D x) :
    FnOK Tryz.prog 197 [.one (.d (encR l)), .one (.fv false (fcAgg D Rr.cells g))] (fun ra _ => ra = [.one (.d (.sc (.bool (l.any g))))]) := by
  refine FnOK.ofK Tryz.func197 (by kernel_rfl) dg_slices_ContainsFunc_Limpl_Rr_impl_Rr rs_slices_ContainsFunc_Limpl_Rr_impl_Rr rfl rfl ?_
  delta c_slices_ContainsFunc_Limpl_Rr_impl_Rr T.o X.i C.g
  refine Kbc (Ka Y (Kdb (Kc (Ka Y (Ka Y ?_)))))
  refine Ku true (ok_slices_IndexFunc_Limpl_Rr_impl_Rr l D g hl hD) ⟨rfl, ⟨fun h => h, fun _ _ h => h⟩, trivial⟩ rfl rfl rfl fun os => ?_
  rw [← idx_ge g l]
  refine Kj Y Y Y (Ka Y (Kd (Kr (Er (ra := [.one (.d _)]) rfl rfl))))

def c_impl_all_impl_Rr : C := (.g (.o 0 3 (.box 3 (.t 1)) (.o 1 4 (.mov (.v (.bool false))) .done)) (.g (.o 0 5 (.mov (.t 0)) (.o 1 6 (.clo 238 [] [(.t 3)]) (.o 2 7 (.call 7 197 [(.t 5), (.t 6)]) (.o 3 8 (.un .not (.t 7)) (.o 4 4 (.mov (.t 8)) .done))))) .ret))
theorem dg_impl_all_impl_Rr : Tryz.f158.body.bind (digC Tryz.prog Tryz.f158.ntmps []) = some c_impl_all_impl_Rr := by kernel_rfl
theorem rs_impl_all_impl_Rr : resSlots Tryz.prog Tryz.f158 = some [.s 4] := by kernel_rfl
theorem ok_impl_all_impl_Rr (l : List Rr) (D : Rr → Prop) (g : Rr → Bool) (hl : l.length ≤ 4194304) (hD : ∀ x ∈ l, D x) :
    FnOK Tryz.prog 158 [.one (.d (encR l)), .one (.fv false (fcAgg D Rr.cells g))] (fun ra _ => ra = [.one (.d (.sc (.bool (l.all g))))]) := by
  refine FnOK.ofK Tryz.func158 (by kernel_rfl) dg_impl_all_impl_Rr rs_impl_all_impl_Rr rfl rfl ?_
  delta c_impl_all_impl_Rr T.o X.i C.g
  refine Kbc (kBox Y Y Y Y Y (Ka Y (Kdb (Kc (Ka Y (kClo Y Y ?_))))))
  refine Ku true (ok_slices_ContainsFunc_Limpl_Rr_impl_Rr l D (fun x => !g x) hl hD) ⟨rfl, ⟨rfl, ⟨_, Tryz.func238, rfl, by kernel_rfl⟩, _, rfl, ?_⟩, trivial⟩ rfl rfl rfl fun os => ?_
  · rintro _ R ⟨x, hx, rfl, rfl⟩
    exact ⟨by rintro _ rfl; rfl, ok_impl_all_impl_Rr_1 x D g hx⟩
  rw [List.all_eq_not_any_not]
  refine Kw Y Y (Ka Y (Kd (Kr (Er (ra := [.one (.d _)]) rfl rfl))))

def c_impl_areRrs : C := (.g (.o 0 2 (.mov (.v (.bool false))) .done) (.g (.o 0 3 (.mov (.t 0)) (.o 1 4 (.len (.t 3)) (.o 2 5 (.bin .leq (.t 4) (.i 12)) (.o 3 6 (.mov (.t 5)) (.op 4 [] (some 7) (some (6, true)) false (.mov (.t 0)) (.op 5 [] (some 8) (some (6, true)) false (.call 8 158 [(.t 7), (.fn 159)]) (.o 6 9 (.pick (.t 6) (.t 8) (.v (.bool false))) (.o 7 2 (.mov (.t 9)) .done)))))))) .ret))
theorem dg_impl_areRrs : Tryz.f112.body.bind (digC Tryz.prog Tryz.f112.ntmps []) = some c_impl_areRrs := by kernel_rfl
theorem rs_impl_areRrs : resSlots Tryz.prog Tryz.f112 = some [.s 2] := by kernel_rfl
theorem ok_impl_areRrs (l : List Rr) (hs : SmallRs l) :
    FnOK Tryz.prog 112 [.one (.d (encR l))] (fun ra _ => ra = [.one (.d (.sc (.bool (rrsOk l))))]) := by
  refine FnOK.ofK Tryz.func112 (by kernel_rfl) dg_impl_areRrs rs_impl_areRrs rfl rfl ?_
  delta c_impl_areRrs T.o X.i C.g
  have h1 := hs.len
  refine Kbc (Ka Y (Kdb (Kc (Ka Y (Kq Y Y (Kj Y Y Y (Ka Y (kGP Y (fun g0 => Ki Y (Ka Y (Ki Y ?_))) (fun g0 => Kg Y (Kg Y (Kl Y (Ka Y (Ka Y (Kd (Kr (Er (ra := [.one (.d _)]) rfl ?_))))))))))))))))
  · refine Kp (ok_impl_all_impl_Rr l SmallR rrOk h1 hs.mem) ⟨rfl, ⟨rfl, rfl, ⟨_, Tryz.func159, rfl, by kernel_rfl⟩, ?_⟩, trivial⟩ Y Y Y Y Y ?_
    · rintro _ R ⟨x, h, rfl, rfl⟩
      exact ok_impl_RrOk x h
    refine Kk Y (Ka Y (Ka Y (Kd (Kr (Er (ra := [.one (.d _)]) rfl ?_)))))
    rw [show rrsOk l = l.all rrOk by simp only [rrsOk]; rw [decide_eq_true (by omega)]; rfl]
  · rw [show rrsOk l = false by simp only [rrsOk]; rw [decide_eq_false (by omega)]; rfl]

def c_impl_two : C := (.g (.o 0 2 (.mov (.n 1)) .done) (.g (.o 0 3 (.mov (.t 0)) (.o 1 4 (.bin .shr (.t 3) (.v (.int .u64 8))) (.o 2 5 (.conv .u8 (.t 4)) (.o 3 6 (.mov (.t 0)) (.o 4 7 (.conv .u8 (.t 6)) (.o 5 8 (.lit 8 1 [(.v (.int .u8 0))] 2 [(0, 1, (.t 5)), (1, 1, (.t 7))]) (.o 6 2 (.mov (.t 8)) .done))))))) .ret))
theorem dg_impl_two : Tryz.f212.body.bind (digC Tryz.prog Tryz.f212.ntmps []) = some c_impl_two := by kernel_rfl
theorem rs_impl_two : resSlots Tryz.prog Tryz.f212 = some [.s 2] := by kernel_rfl
theorem ok_impl_two (n : Int) :
    FnOK Tryz.prog 212 [.one (.d (.sc (.int .i64 n)))] (fun ra _ => ra = [.one (.own true (encB (w2 n)))]) := by
  refine FnOK.ofK Tryz.func212 (by kernel_rfl) dg_impl_two rs_impl_two rfl rfl ?_
  delta c_impl_two T.o X.i C.g
  refine Kbc (Ka Y (Kdb (Kc (Ka Y (kShr (m := 8) Y Y Y (kConvU8 Y (Ka Y (kConvU8 Y (kLit Y Y Y Y (Ka Y (Kd (Kr (Er (ra := [.one (.own true _)]) rfl rfl)))))))))))))

def c_impl_four : C := (.g (.o 0 2 (.mov (.n 1)) .done) (.g (.o 0 3 (.mov (.t 0)) (.o 1 4 (.bin .shr (.t 3) (.v (.int .u64 16))) (.o 2 5 (.call 5 212 [(.t 4)]) (.o 3 6 (.mov (.t 0)) (.o 4 7 (.call 7 212 [(.t 6)]) (.o 5 8 (.app 8 1 1 (.t 5) (.t 7)) (.o 6 2 (.mov (.t 8)) .done))))))) .ret))
theorem dg_impl_four : Tryz.f292.body.bind (digC Tryz.prog Tryz.f292.ntmps []) = some c_impl_four := by kernel_rfl
theorem rs_impl_four : resSlots Tryz.prog Tryz.f292 = some [.s 2] := by kernel_rfl
theorem ok_impl_four (n : Int) :
    FnOK Tryz.prog 292 [.one (.d (.sc (.int .i64 n)))] (fun ra _ => ra = [.one (.own true (encB (w4 n)))]) := by
  refine FnOK.ofK Tryz.func292 (by kernel_rfl) dg_impl_four rs_impl_four rfl rfl ?_
  delta c_impl_four T.o X.i C.g
  rw [← w4_two]
  have hl : ∀ m, (w2 m).length = 2 := fun _ => rfl
  have l1 := hl (sr n 16)
  have l2 := hl n
  refine Kbc (Ka Y (Kdb (Kc (Ka Y (kShr (m := 16) Y Y Y (Ku true (ok_impl_two _) ⟨Y, trivial⟩ Y Y Y (fun _ => (Ka Y (Ku true (ok_impl_two _) ⟨Y, trivial⟩ Y Y Y (fun _ => (kAppR Y Y Y Y Y Y Y Y om (Ka Y (Kd (Kr (Er (ra := [.one (.own true _)]) rfl rfl)))))))))))))))

def c_impl_Name_wire : C := (.g (.o 0 1 (.box 1 (.t 0)) (.o 1 2 (.mov (.n 1)) .done)) (.g (.o 0 6 (.lit 6 1 [(.v (.int .u8 0))] 0 []) (.o 1 3 (.mov (.t 6)) .done)) (.seq (.g (.o 0 7 (.fad (.t 1) 0) (.o 1 8 (.load none (.t 7)) (.o 2 9 (.len (.t 8)) (.o 3 10 (.mov (.i 0)) .done)))) (.block 0 (.loop (.g (.o 0 11 (.bin .lss (.t 10) (.t 9)) .done) (.seq (.cond (.t 11) .skip (.exit 0)) (.seq (.block 1 (.g (.o 0 12 (.iad 1 (.t 8) (.t 10)) (.o 1 13 (.load none (.t 12)) (.o 2 5 (.mov (.t 13)) .done))) (.reg false (.o 0 14 (.mov (.t 3)) (.o 1 15 (.mov (.t 5)) (.o 2 16 (.len (.t 15)) (.o 3 17 (.conv .u8 (.t 16)) (.o 4 18 (.lit 18 1 [(.v (.int .u8 0))] 1 [(0, 1, (.t 17))]) (.o 5 19 (.app 19 1 1 (.t 14) (.t 18)) (.o 6 20 (.mov (.t 5)) (.o 7 21 (.app 21 1 1 (.t 19) (.t 20)) (.o 8 3 (.mov (.t 21)) .done)))))))))))) (.reg false (.o 0 22 (.bin .add (.t 10) (.i 1)) (.o 1 10 (.mov (.t 22)) .done))))))))) (.g (.o 0 23 (.mov (.t 3)) (.o 1 24 (.lit 24 1 [(.v (.int .u8 0))] 1 [(0, 1, (.v (.int .u8 0)))]) (.o 2 25 (.app 25 1 1 (.t 23) (.t 24)) (.o 3 2 (.mov (.t 25)) .done)))) .ret))))
theorem dg_impl_Name_wire : Tryz.f214.body.bind (digC Tryz.prog Tryz.f214.ntmps []) = some c_impl_Name_wire := by kernel_rfl
theorem rs_impl_Name_wire : resSlots Tryz.prog Tryz.f214 = some [.s 2] := by kernel_rfl
theorem ok_impl_Name_wire (a : List (List UInt8)) (hs : SmallBB a) :
    FnOK Tryz.prog 214 [.agg [.d (encBB a)]] (fun ra _ => ra = [.one (.own true (encB (wireN a)))]) := by
  refine FnOK.ofK Tryz.func214 (by kernel_rfl) dg_impl_Name_wire rs_impl_Name_wire rfl rfl ?_
  delta c_impl_Name_wire T.o X.i C.g
  have h1 := hs.len
  have h2 := hs.flat
  refine Kbc (kBox Y Y Y Y Y (Ka Y (Kdb (Kc (kLit Y Y Y Y (Ka Y (Kdb (Kbc (Kf Y Y (Ke Y Y Y (Kq Y Y (Ka Y (Kd (Kt ?_))))))))))))))
  refine kLoop (α := { i : Nat // i ≤ a.length }) (fun y => ⟨tabSl [(3, .c (.arr (rid 6 0) 1)), (8, .dv (encBB a)), (9, .i a.length), (10, .i y.1)], obTab 1 [(rid 6 0, ⟨1, 0, .arr true (encB (wireL (a.take y.1)))⟩)], []⟩) (fun y => a.length - y.1) ⟨0, by simp⟩ .normA ?_
  rintro ⟨i, hi⟩
  simp only
  have hl := wireL_le a i
  rcases Nat.lt_or_ge i a.length with hlt | hge
  · have hst := wireL_take a i hlt
    have hm := hs.mem _ (List.getElem_mem hlt)
    have hlen : (wireL (a.take i) ++ [u8 a[i].length]).length = (wireL (a.take i)).length + 1 := by simp
    refine Kbc (Kj Y Y Y (Kdb (Km Y (fun g0 => Kn (Kb (Kt (Kbc (kIadR Y Y Y om (Ky Y Y (Ka Y (Kd (Kc (Ka Y (Ka Y (Kq Y Y (kConvU8 Y (kLit Y Y Y Y (kAppR1 Y Y Y Y Y Y Y Y om (Ka Y (kAppR Y Y Y (src_encB _ _) rfl rfl rfl rfl om (Ka Y (Kd (Kv (Kc (kAdd Y Y om (Ka Y (Kd ?_)))))))))))))))))))))))) (fun g0 => om))))
    refine kInv ⟨⟨i + 1, by omega⟩, by simp only; omega, ?_⟩
    simp only [hst]
    exact .normA
  · have he : wireN a = wireL (a.take i) ++ [0] := by rw [show i = a.length by omega, List.take_length]; rfl
    rw [he]
    refine Kbc (Kj Y Y Y (Kdb (Km Y (fun g0 => om) (fun g0 => kExit (kExC (kExI (kExB (Kbc (Ka Y (kLit Y Y Y Y (kAppR1 (z := (0 : UInt8)) rfl rfl rfl rfl rfl rfl rfl rfl om (Ka Y (Kd (Kr (Er (ra := [.one (.own true _)]) rfl rfl)))))))))))))))

def c_impl_Rr_data : C := (.g (.o 0 1 (.box 1 (.t 0)) (.o 1 2 (.mov (.n 1)) .done)) (.seq (.block 0 (.g (.o 0 7 (.fad (.t 1) 1) (.o 1 8 (.load none (.t 7)) (.o 2 9 (.bin .eql (.t 8) (.i 1)) (.o 3 6 (.mov (.t 9)) .done)))) (.cond (.t 6) (.g (.o 0 10 (.fad (.t 1) 3) (.o 1 11 (.load none (.t 10)) (.o 2 12 (.call 12 292 [(.t 11)]) (.o 3 2 (.mov (.t 12)) .done)))) .ret) (.g (.o 0 14 (.fad (.t 1) 1) (.o 1 15 (.load none (.t 14)) (.o 2 16 (.call 16 239 [(.t 15)]) (.o 3 13 (.mov (.t 16)) .done)))) (.cond (.t 13) (.g (.o 0 17 (.fad (.t 1) 4) (.o 1 18 (.load (some 1) (.t 17)) (.o 2 19 (.call 19 214 [(.t 18)]) (.o 3 3 (.mov (.t 19)) .done)))) (.seq (.g (.o 0 20 (.fad (.t 1) 6) (.o 1 21 (.load none (.t 20)) (.o 2 22 (.len (.t 21)) (.o 3 23 (.mov (.i 0)) .done)))) (.block 1 (.loop (.g (.o 0 24 (.bin .lss (.t 23) (.t 22)) .done) (.seq (.cond (.t 24) .skip (.exit 1)) (.seq (.block 2 (.g (.o 0 25 (.iad 1 (.t 21) (.t 23)) (.o 1 26 (.load none (.t 25)) (.o 2 5 (.mov (.t 26)) .done))) (.reg false (.o 0 27 (.mov (.t 3)) (.o 1 28 (.mov (.t 5)) (.o 2 29 (.call 29 292 [(.t 28)]) (.o 3 30 (.app 30 1 1 (.t 27) (.t 29)) (.o 4 3 (.mov (.t 30)) .done)))))))) (.reg false (.o 0 31 (.bin .add (.t 23) (.i 1)) (.o 1 23 (.mov (.t 31)) .done))))))))) (.g (.o 0 32 (.mov (.t 3)) (.o 1 2 (.mov (.t 32)) .done)) .ret))) .skip))))) (.g (.o 0 33 (.fad (.t 1) 5) (.o 1 34 (.load none (.t 33)) (.o 2 35 (.len (.t 34)) (.o 3 36 (.conv .u8 (.t 35)) (.o 4 37 (.lit 37 1 [(.v (.int .u8 0))] 1 [(0, 1, (.t 36))]) (.o 5 38 (.fad (.t 1) 5) (.o 6 39 (.load none (.t 38)) (.o 7 40 (.app 40 1 1 (.t 37) (.t 39)) (.o 8 2 (.mov (.t 40)) .done))))))))) .ret)))
theorem dg_impl_Rr_data : Tryz.f227.body.bind (digC Tryz.prog Tryz.f227.ntmps []) = some c_impl_Rr_data := by kernel_rfl
theorem rs_impl_Rr_data : resSlots Tryz.prog Tryz.f227 = some [.s 2] := by kernel_rfl
theorem ok_impl_Rr_data (r : Rr) (hs : SmallR r) :
    FnOK Tryz.prog 227 [.agg (r.cells.map .d)] (fun ra _ => ra = [.one (.own true (encB (rdata r)))]) := by
  refine FnOK.ofK Tryz.func227 (by kernel_rfl) dg_impl_Rr_data rs_impl_Rr_data rfl rfl ?_
  delta c_impl_Rr_data T.o X.i C.g
  have ht := hs.t
  have t1 := hs.t.len
  have t2 := hs.t.flat
  have x1 := hs.x
  have m1 := hs.m
  by_cases h1 : r.ty = 1
  · rw [rdata_A h1]
    refine Kbc (kBox Y Y Y Y Y (Ka Y (Kdb (Kt (Kbc (Kf Y Y (Ke Y Y Y (Kj Y Y Y (Ka Y (Kd (Km Y (fun g0 => Kbc (Kf Y Y (Ke Y Y Y (Ku true (ok_impl_four _) ⟨Y, trivial⟩ Y Y Y (fun _ => (Ka Y (Kd (Kr (Er (ra := [.one (.own true _)]) rfl rfl))))))))) (fun g0 => om))))))))))))
  cases h2 : hasTo r.ty
  · rw [rdata_text h1 h2]
    refine Kbc (kBox Y Y Y Y Y (Ka Y (Kdb (Kt (Kbc (Kf Y Y (Ke Y Y Y (Kj Y Y Y (Ka Y (Kd (Km Y (fun g0 => om) (fun g0 => Kbc (Kf Y Y (Ke Y Y Y (Kp (ok_impl_hasTo _) ⟨Y, trivial⟩ Y Y Y Y Y (Ka Y (Kd (kCond Y (fun g1 => (by (simp [*] at g1))) (fun g1 => Kn (Kv (Kbc (Kf Y Y (Ke Y Y Y (Kq Y Y (kConvU8 Y (kLit Y Y Y Y (Kf Y Y (Ke Y Y Y (kApp1R Y Y (src_encB _ _) rfl rfl rfl rfl rfl om (Ka Y (Kd (Kr (Er (ra := [.one (.own true _)]) rfl rfl)))))))))))))))))))))))))))))))))
  · rw [rdata_to h1 h2]
    refine Kbc (kBox Y Y Y Y Y (Ka Y (Kdb (Kt (Kbc (Kf Y Y (Ke Y Y Y (Kj Y Y Y (Ka Y (Kd (Km Y (fun g0 => om) (fun g0 => Kbc (Kf Y Y (Ke Y Y Y (Kp (ok_impl_hasTo _) ⟨Y, trivial⟩ Y Y Y Y Y (Ka Y (Kd (kCond Y (fun g1 => Kbc (Kf Y Y (Ke Y Y Y (Ku true (ok_impl_Name_wire _ pr) ⟨⟨⟨Y, trivial⟩, leb⟩, trivial⟩ Y Y Y (fun _ => (Ka Y (Kdb (Kbc (Kf Y Y (Ke Y Y Y (Kq Y Y (Ka Y (Kd (Kt ?_)))))))))))))) (fun g1 => (by (simp [*] at g1)))))))))))))))))))))
    refine kLoop (α := { i : Nat // i ≤ r.nums.length }) (fun y => ⟨tabSl [(3, .c (.arr (rid 19 0) 1)), (21, .dv (Hearth.encI r.nums)), (22, .i r.nums.length), (23, .i y.1)], obTab 1 [(rid 19 0, ⟨1, 0, .arr true (encB (wireN r.to ++ (r.nums.take y.1).flatMap w4))⟩)], []⟩) (fun y => r.nums.length - y.1) ⟨0, by simp⟩ (by simp only [List.take_zero, List.flatMap_nil, List.append_nil]; exact .normA) ?_
    rintro ⟨i, hi⟩
    simp only
    have hl : (wireN r.to ++ (r.nums.take i).flatMap w4).length ≤ 33554432 := by
      rw [List.length_append, wireN_len, w4s_len, List.length_take]; omega
    have hl4 : ∀ n, (w4 n).length = 4 := w4_len
    rcases Nat.lt_or_ge i r.nums.length with hlt | hge
    · have hst : wireN r.to ++ (r.nums.take (i + 1)).flatMap w4 = wireN r.to ++ (r.nums.take i).flatMap w4 ++ w4 r.nums[i] := by rw [flatMap_take _ _ _ hlt, List.append_assoc]
      have h4 := hl4 r.nums[i]
      refine Kbc (Kj Y Y Y (Kdb (Km Y (fun g0 => Kn (Kb (Kt (Kbc (kIadR Y Y Y om (Ky Y Y (Ka Y (Kd (Kc (Ka Y (Ka Y (Ku true (ok_impl_four _) ⟨Y, trivial⟩ Y Y Y (fun _ => (kAppR Y Y Y Y Y Y Y Y om (Ka Y (Kd (Kv (Kc (kAdd Y Y om (Ka Y (Kd ?_))))))))))))))))))))) (fun g0 => om))))
      refine kInv ⟨⟨i + 1, by omega⟩, by simp only; omega, ?_⟩
      simp only [hst]
      exact .normA
    · rw [show i = r.nums.length by omega, List.take_length]
      refine Kbc (Kj Y Y Y (Kdb (Km Y (fun g0 => om) (fun g0 => kExit (kExC (kExI (kExB (Kbc (Ka Y (Ka Y (Kd (Kr (Er (ra := [.one (.own true _)]) rfl rfl)))))))))))))

def c_impl_Rr_compare : C := (.g (.o 0 2 (.box 2 (.t 0)) (.o 1 3 (.box 3 (.t 1)) (.o 2 4 (.mov (.i 0)) .done))) (.seq (.reg true (.op 0 [] (some 5) none true (.fad (.t 2) 0) (.op 1 [] (some 6) none true (.load (some 1) (.t 5)) (.op 2 [] (some 7) none true (.fad (.t 3) 0) (.op 3 [] (some 8) none true (.load (some 1) (.t 7)) (.op 5 [] (some 10) none true (.fad (.t 2) 1) (.op 6 [] (some 11) none true (.load none (.t 10)) (.op 7 [] (some 12) none true (.fad (.t 3) 1) (.op 8 [] (some 13) none true (.load none (.t 12)) (.op 10 [] (some 15) none true (.load (some 7) (.t 2)) (.op 12 [] (some 17) none true (.load (some 7) (.t 3)) (.op 4 [1, 3] (some 9) none false (.call 9 221 [(.t 6), (.t 8)]) (.op 9 [6, 8, 1, 3] (some 14) none false (.call 14 225 [(.t 11), (.t 13)]) (.op 11 [10, 6, 8, 1, 3] (some 16) none false (.call 16 227 [(.t 15)]) (.op 13 [12, 10, 6, 8, 1, 3] (some 18) none false (.call 18 227 [(.t 17)]) (.op 14 [10, 6, 8, 1, 3, 12] (some 19) none false (.call 19 226 [(.t 16), (.t 18)]) (.op 15 [1, 3, 6, 8, 10, 12] (some 20) none false (.lit 20 1 [(.i 0)] 3 [(0, 1, (.t 9)), (1, 1, (.t 14)), (2, 1, (.t 19))]) (.op 16 [1, 3, 6, 8, 10, 12] (some 21) none false (.call 21 224 [(.t 20)]) (.op 17 [] (some 4) none true (.mov (.t 21)) .done))))))))))))))))))) .ret))
theorem dg_impl_Rr_compare : Tryz.f133.body.bind (digC Tryz.prog Tryz.f133.ntmps []) = some c_impl_Rr_compare := by kernel_rfl
theorem rs_impl_Rr_compare : resSlots Tryz.prog Tryz.f133 = some [.s 4] := by kernel_rfl
theorem ok_impl_Rr_compare (a b : Rr) (ha : SmallR a) (hb : SmallR b) :
    FnOK Tryz.prog 133 [.agg (a.cells.map .d), .agg (b.cells.map .d)] (fun ra _ => ra = [.one (.d (.sc (.int .i64 (cmpR a b))))]) := by
  refine FnOK.ofK Tryz.func133 (by kernel_rfl) dg_impl_Rr_compare rs_impl_Rr_compare rfl rfl ?_
  delta c_impl_Rr_compare T.o X.i C.g
  have n1 := ha.n.len
  have n2 := hb.n.len
  have r1 := rdata_le ha
  have r2 := rdata_le hb
  rw [cmpR_or]
  refine Kbc (kBox Y Y Y Y Y (kBox Y Y Y Y Y (Ka Y (Kdb (kRegD (Kf Y Y (Ke Y Y Y (Kf Y Y (Ke Y Y Y (Kf Y Y (Ke Y Y Y (Kf Y Y (Ke Y Y Y (Ke Y Y Y (Ke Y Y Y (Kx Y Y (Kp (ok_impl_Name_compare _ _ pr pr) ⟨⟨⟨Y, trivial⟩, leb⟩, ⟨⟨Y, trivial⟩, leb⟩, trivial⟩ Y Y Y Y Y (Kx Y Y (Kp (ok_cmp_Compare_int _ _) ⟨Y, Y, trivial⟩ Y Y Y Y Y (Kx Y Y (Ku true (ok_impl_Rr_data _ pr) ⟨⟨⟨Y, Y, Y, Y, Y, Y, Y, trivial⟩, leb⟩, trivial⟩ Y Y Y (fun _ => (Ks Y Y (Ku true (ok_impl_Rr_data _ pr) ⟨⟨⟨Y, Y, Y, Y, Y, Y, Y, trivial⟩, leb⟩, trivial⟩ Y Y Y (fun _ => (Ks Y Y (Kp (ok_bytes_Compare _ _) ⟨Y, Y, trivial⟩ Y Y Y Y Y (Ks Y Y (kLit Y Y Y Y (Ks Y Y (Kp (ok_cmp_Or_int3 _ _ _) ⟨Y, trivial⟩ Y Y Y Y Y (Ka Y (Kd (kH (Kr (Er (ra := [.one (.d _)]) rfl rfl))))))))))))))))))))))))))))))))))))

def c_impl_isSet : C := (.g (.o 0 2 (.mov (.v (.bool false))) .done) (.seq (.g (.o 0 5 (.mov (.t 0)) (.o 1 6 (.len (.t 5)) (.o 2 7 (.bin .eql (.t 6) (.i 0)) (.o 3 8 (.mov (.t 7)) (.op 4 [] (some 9) (some (8, false)) false (.mov (.t 0)) (.op 5 [] (some 10) (some (8, false)) false (.call 10 112 [(.t 9)]) (.op 6 [] (some 11) (some (8, false)) false (.un .not (.t 10)) (.o 7 12 (.pick (.t 8) (.v (.bool true)) (.t 11)) .done)))))))) (.cond (.t 12) (.g (.o 0 2 (.mov (.v (.bool false))) .done) .ret) .skip)) (.seq (.g (.o 0 13 (.mov (.t 0)) (.o 1 14 (.len (.t 13)) (.o 2 15 (.mov (.i 0)) .done))) (.block 0 (.loop (.g (.o 0 16 (.bin .lss (.t 15) (.t 14)) .done) (.seq (.cond (.t 16) .skip (.exit 0)) (.seq (.block 1 (.g (.o 0 17 (.mov (.t 15)) (.o 1 18 (.iad 7 (.t 13) (.t 15)) (.o 2 19 (.load (some 7) (.t 18)) (.o 3 4 (.alloc 4 [(.n 1), (.i 0), (.i 0), (.i 0), (.n 1), (.n 1), (.n 1)]) (.o 4 3 (.mov (.t 17)) (.op 5 [] none none false (.store (some 7) (.t 4) (.t 19)) .done)))))) (.seq (.reg true (.op 0 [] (some 20) none true (.fad (.t 4) 0) (.op 1 [] (some 21) none true (.load (some 1) (.t 20)) (.op 2 [] (some 22) none true (.mov (.t 0)) (.op 3 [] (some 23) none true (.iad 7 (.t 22) (.i 0)) (.op 4 [] (some 24) none true (.fad (.t 23) 0) (.op 5 [] (some 25) none true (.load (some 1) (.t 24)) (.op 6 [1, 5] (some 26) none false (.call 26 131 [(.t 21), (.t 25)]) (.op 7 [] (some 27) none true (.un .not (.t 26)) (.op 8 [] (some 28) none true (.mov (.t 27)) (.op 9 [] (some 29) (some (28, false)) true (.fad (.t 4) 1) (.op 10 [] (some 30) (some (28, false)) true (.load none (.t 29)) (.op 11 [] (some 31) (some (28, false)) true (.mov (.t 0)) (.op 12 [] (some 32) (some (28, false)) true (.iad 7 (.t 31) (.i 0)) (.op 13 [] (some 33) (some (28, false)) true (.fad (.t 32) 1) (.op 14 [] (some 34) (some (28, false)) true (.load none (.t 33)) (.op 15 [] (some 35) (some (28, false)) true (.bin .neq (.t 30) (.t 34)) (.op 16 [] (some 36) none true (.pick (.t 28) (.v (.bool true)) (.t 35)) (.op 17 [] (some 37) none true (.mov (.t 36)) (.op 18 [] (some 38) (some (37, false)) true (.fad (.t 4) 2) (.op 19 [] (some 39) (some (37, false)) true (.load none (.t 38)) (.op 20 [] (some 40) (some (37, false)) true (.mov (.t 0)) (.op 21 [] (some 41) (some (37, false)) true (.iad 7 (.t 40) (.i 0)) (.op 22 [] (some 42) (some (37, false)) true (.fad (.t 41) 2) (.op 23 [] (some 43) (some (37, false)) true (.load none (.t 42)) (.op 24 [] (some 44) (some (37, false)) true (.bin .neq (.t 39) (.t 43)) (.op 25 [] (some 45) none true (.pick (.t 37) (.v (.bool true)) (.t 44)) (.op 26 [] (some 46) none true (.mov (.t 45)) (.op 27 [] (some 47) (some (46, false)) true (.mov (.t 3)) (.op 28 [] (some 48) (some (46, false)) true (.bin .gtr (.t 47) (.i 0)) (.op 29 [] (some 49) (some (46, false)) true (.mov (.t 48)) (.op 30 [] (some 50) (some (49, true)) true (.mov (.t 0)) (.op 31 [] (some 51) (some (49, true)) true (.mov (.t 3)) (.op 32 [] (some 52) (some (49, true)) true (.bin .sub (.t 51) (.i 1)) (.op 33 [] (some 53) (some (49, true)) true (.iad 7 (.t 50) (.t 52)) (.op 34 [] (some 54) (some (49, true)) true (.load (some 7) (.t 53)) (.op 35 [] (some 55) (some (49, true)) true (.load (some 7) (.t 4)) (.op 36 [34, 19, 23, 35, 10, 14, 1, 5] (some 56) (some (49, true)) false (.call 56 133 [(.t 54), (.t 55)]) (.op 37 [] (some 57) (some (49, true)) true (.bin .geq (.t 56) (.i 0)) (.op 38 [] (some 58) (some (46, false)) true (.pick (.t 49) (.t 57) (.v (.bool false))) (.op 39 [] (some 59) none true (.pick (.t 46) (.v (.bool true)) (.t 58)) .done))))))))))))))))))))))))))))))))))))))))) (.cond (.t 59) (.g (.o 0 2 (.mov (.v (.bool false))) .done) .ret) .skip)))) (.reg false (.o 0 60 (.bin .add (.t 15) (.i 1)) (.o 1 15 (.mov (.t 60)) .done))))))))) (.g (.o 0 2 (.mov (.v (.bool true))) .done) .ret))))
theorem dg_impl_isSet : Tryz.f149.body.bind (digC Tryz.prog Tryz.f149.ntmps []) = some c_impl_isSet := by kernel_rfl
theorem rs_impl_isSet : resSlots Tryz.prog Tryz.f149 = some [.s 2] := by kernel_rfl
theorem ok_impl_isSet (l : List Rr) (hs : SmallRs l) :
    FnOK Tryz.prog 149 [.one (.d (encR l))] (fun ra _ => ra = [.one (.d (.sc (.bool (isSetR l))))]) := by
  refine FnOK.ofK Tryz.func149 (by kernel_rfl) dg_impl_isSet rs_impl_isSet rfl rfl ?_
  delta c_impl_isSet T.o X.i C.g
  have h1 := hs.len
  have hm := hs.mem
  by_cases a1 : 0 < l.length
  case neg =>
    rw [show isSetR l = false by rw [Bool.eq_false_iff]; intro h; have := isSetR_len h; omega]
    refine Kbc (Ka Y (Kdb (Kbc (Ka Y (Kq Y Y (Kj Y Y Y (Ka Y (kGP Y (fun g0 => Kg Y (Kg Y (Kg Y (Kk Y (Ka Y (Kd (kCondT Y (Kbc (Ka Y (Kd (Kr (Er (ra := [.one (.d _)]) rfl rfl)))))))))))) (fun g0 => om)))))))))
  cases a2 : rrsOk l
  · rw [show isSetR l = false by unfold isSetR; rw [a2]; simp]
    refine Kbc (Ka Y (Kdb (Kbc (Ka Y (Kq Y Y (Kj Y Y Y (Ka Y (kGP Y (fun g0 => om) (fun g0 => Ki Y (Ka Y (Ki Y (Kp (ok_impl_areRrs _ prx) ⟨Y, trivial⟩ Y Y Y Y Y (Ki Y (Kw Y Y (Kl Y (Ka Y (Kd (kCondN Y (fun g1 => Kbc (Ka Y (Kd (Kr (Er (ra := [.one (.d _)]) rfl rfl))))) (fun g1 => (by (simp [*] at g1)))))))))))))))))))))
  refine Kbc (Ka Y (Kdb (Kbc (Ka Y (Kq Y Y (Kj Y Y Y (Ka Y (kGP Y (fun g0 => om) (fun g0 => Ki Y (Ka Y (Ki Y (Kp (ok_impl_areRrs _ prx) ⟨Y, trivial⟩ Y Y Y Y Y (Ki Y (Kw Y Y (Kl Y (Ka Y (Kd (kCondN Y (fun g1 => (by (simp [*] at g1))) (fun g1 => Kn (Kb (Kbc (Ka Y (Kq Y Y (Ka Y (Kd (Kt ?_))))))))))))))))))))))))))
  refine kLoop (α := { i : Nat // i ≤ l.length ∧ (List.range i).all (setAt l) = true }) (fun y => ⟨tabSl [(0, .dv (encR l)), (13, .dv (encR l)), (14, .i l.length), (15, .i y.1)], obTab 1 [], []⟩) (fun y => l.length - y.1) ⟨0, by simp⟩ .normA ?_
  rintro ⟨i, hi, hz⟩
  simp only
  rcases Nat.lt_or_ge i l.length with hlt | hge
  · have hbi := hm _ (List.getElem_mem hlt)
    have hb0 := hm _ (List.getElem_mem a1)
    have n1 := hbi.n.len
    have n2 := hbi.n.mem
    have m1 := hb0.n.len
    have m2 := hb0.n.mem
    have hq := setAt_eq hlt a1
    refine Kbc (Kj Y Y Y (Kdb (Km Y (fun g0 => Kn (Kb (Kt (Kbc (Ka Y (kIadR Y Y Y prl (Ky Y Y (kAlloc Y Y (Ka Y (kMem [(20480, ⟨2, 0, .box [.nil 1, .d _, .d _, .d _, .nil 1, .nil 1, .nil 1]⟩)] [(4, .c (.ptr 20480 2 0)), (19, .g [.d _, .d _, .d _, .d _, .d _, .d _, .d _])] [] ⟨Y, trivial⟩ ⟨Y, Y, trivial⟩ Y (Ko Y Y Y Y (Kdb (kRegD (Kf Y Y (Ke Y Y Y (Ka Y (kIadR (m := 0) Y Y Y prl (kFadD Y (Ky Y Y (Ks Y Y (Kp (ok_impl_Name_is _ _ prx prx) ⟨⟨⟨Y, trivial⟩, leb⟩, ⟨⟨Y, trivial⟩, leb⟩, trivial⟩ Y Y Y Y Y (Kw Y Y (Ka Y (kGN Y (fun g1 => Kg Y (Kg Y (Kg Y (Kg Y (Kg Y (Kg Y (Kg Y (Kk Y (Ka Y (kMem [(20480, ⟨2, 0, .box [.d _, .d _, .d _, .d _, .d _, .d _, .d _]⟩)] [(36, .c (.d _)), (4, .c (.ptr 20480 2 0)), (0, .c (.d _)), (3, .c (.d _))] [] ⟨Y, trivial⟩ ⟨Y, Y, Y, Y, trivial⟩ Y (Ka Y (Kg Y (Kg Y (Kg Y (Kg Y (Kg Y (Kg Y (Kg Y (Kk Y (Ka Y (Ka Y (Kg Y (Kg Y (kMem [(20480, ⟨2, 0, .box [.d _, .d _, .d _, .d _, .d _, .d _, .d _]⟩)] [(48, .c (.un)), (0, .c (.d _)), (3, .c (.d _)), (4, .c (.ptr 20480 2 0)), (46, .c (.d _))] [] ⟨Y, trivial⟩ ⟨Y, Y, Y, Y, Y, trivial⟩ Y (Kg Y (kGU Y (kGU Y (kGU Y (kGU Y (kGU Y (kGU Y (Ks Y Y (kGU Y (kGU Y (Kg Y (Kk Y (Ka Y (Kd (kH (kCondT Y (Kbc (Ka Y (Kd (Kr (Er (ra := [.one (.d _)]) rfl ?_))))))))))))))))))))))))))))))))))))))))))))) (fun g1 => Ki Y (Kf Y Y (Ki Y (Ke Y Y Y (Ki Y (Ka Y (Ki Y (kIadR (m := 0) Y Y Y prl (Ki Y (kFadD Y (Ki Y (Ky Y Y (Ki Y (Kj Y Y Y (kMem [(20480, ⟨2, 0, .box [.d _, .d _, .d _, .d _, .d _, .d _, .d _]⟩)] [(28, .c (.d _)), (35, .c (.d _)), (4, .c (.ptr 20480 2 0)), (0, .c (.d _)), (3, .c (.d _))] [20480] ⟨Y, trivial⟩ ⟨Y, Y, Y, Y, Y, trivial⟩ Y (Kl Y (Ka Y (Ka Y (kGIN Y (fun g2 => Kg Y (Kg Y (Kg Y (Kg Y (Kg Y (Kg Y (Kg Y (Kk Y (Ka Y (Ka Y (kMem [(20480, ⟨2, 0, .box [.d _, .d _, .d _, .d _, .d _, .d _, .d _]⟩)] [(3, .c (.d _)), (0, .c (.d _)), (4, .c (.ptr 20480 2 0)), (46, .c (.d _))] [20480] ⟨Y, trivial⟩ ⟨Y, Y, Y, Y, trivial⟩ Y (Kg Y (Kg Y (Kg Y (kGU Y (kGU Y (kGU Y (kGU Y (kGU Y (kGU Y (Ks Y Y (kGU Y (kGU Y (Kg Y (Kk Y (Ka Y (Kd (kH (kCondT Y (Kbc (Ka Y (Kd (Kr (Er (ra := [.one (.d _)]) rfl ?_)))))))))))))))))))))))))))))))))) (fun g2 => Ki Y (Kf Y Y (Ki Y (Ke Y Y Y (Ki Y (Ka Y (Ki Y (kIadR (m := 0) Y Y Y prl (Ki Y (kFadD Y (Ki Y (Ky Y Y (Ki Y (Kj Y Y Y (Kl Y (Ka Y (kMem [(20480, ⟨2, 0, .box [.d _, .d _, .d _, .d _, .d _, .d _, .d _]⟩)] [(45, .c (.d _)), (3, .c (.d _)), (0, .c (.d _)), (4, .c (.ptr 20480 2 0))] [20480, 20480] ⟨Y, trivial⟩ ⟨Y, Y, Y, Y, trivial⟩ Y (Ka Y (kGIN Y (fun g3 => Kg Y (Kg Y (Kg Y (kGU Y (kGU Y (kGU Y (kGU Y (kGU Y (kGU Y (Ks Y Y (kGU Y (kGU Y (Kg Y (Kk Y (Ka Y (Kd (kH (kCondT Y (Kbc (Ka Y (Kd (Kr (Er (ra := [.one (.d _)]) rfl ?_))))))))))))))))))))))) (fun g3 => Ki Y (Ka Y (Ki Y (Kj Y Y Y (Ki Y (Ka Y (kGP Y (fun g4 => Ki Y (Ka Y (Ki Y (Ka Y (Ki Y (kDif Y Y om (Ki Y (kIadT Y Y prl (Ki Y (Ky Y Y (Ki Y (Ke Y Y Y (Ks Y Y (Ki Y (Kp (ok_impl_Rr_compare _ _ prx prx) ⟨⟨⟨Y, Y, Y, Y, Y, Y, Y, trivial⟩, leb⟩, ⟨⟨Y, Y, Y, Y, Y, Y, Y, trivial⟩, leb⟩, trivial⟩ Y Y Y Y Y (Ki Y (Kj Y Y Y (Ki Y (Kk Y (Ka Y (Kl Y (Ka Y (Kd (kH (Km Y (fun g5 => Kbc (Ka Y (Kd (Kr (Er (ra := [.one (.d _)]) rfl ?_))))) (fun g5 => Kn (Kv (Kc (kAdd Y Y om (Ka Y (Kd ?_))))))))))))))))))))))))))))))) (fun g4 => Kg Y (Kg Y (Kg Y (Kg Y (Kg Y (Kg Y (Ks Y Y (Kg Y (Kg Y (Ki Y (Kl Y (Ka Y (Kl Y (Ka Y (Kd (kH (kCondF Y (Kn (Kv (Kc (kAdd Y Y om (Ka Y (Kd ?_)))))))))))))))))))))))))))))))))))))))))))))))))))))))))))))))))))))))))))))))))))))))))))) (fun g0 => om))))
    all_goals first
      | (refine congrArg (fun z : Bool => [RA.one (RV.d (DV.sc (Value.bool z)))]) (set_no hlt (Bool.eq_false_iff.2 fun h => ?_)).symm
         rw [hq] at h
         simp only [Bool.and_eq_true, decide_eq_true_eq] at h
         obtain ⟨⟨⟨k1, k2⟩, k3⟩, k4⟩ := h
         first
           | (rw [prevB_pos (by omega) hlt (by omega), decide_eq_true_eq] at k4; omega)
           | (simp_all; done)
           | (simp_all; omega))
      | (have e1 : prevB l i = true := by
           first
             | (rw [prevB_pos (by omega) hlt (by omega)]; exact decide_eq_true (by omega))
             | (have : i = 0 := by omega
                subst this; exact prevB_zero)
         have hz' : setAt l i = true := by rw [hq, e1]; simp_all
         exact kInv ⟨⟨i + 1, by omega, range_all hz hz'⟩, by simp only; omega, .normA⟩)
  · refine Kbc (Kj Y Y Y (Kdb (Km Y (fun g0 => om) (fun g0 => kExit (kExC (kExI (kExB (Kbc (Ka Y (Kd (Kr (Er (ra := [.one (.d _)]) rfl ?_))))))))))))
    obtain rfl : i = l.length := by omega
    rw [show isSetR l = true by unfold isSetR; rw [a2, hz, decide_eq_true a1]; rfl]

def c_impl_Cache_slotOk : C := (.g (.o 0 2 (.box 2 (.t 0)) (.o 1 3 (.box 3 (.t 1)) (.o 2 4 (.mov (.v (.bool false))) .done))) (.seq (.g (.o 0 5 (.fad (.t 3) 0) (.o 1 6 (.load (some 1) (.t 5)) (.o 2 7 (.call 7 71 [(.t 6)]) (.o 3 8 (.un .not (.t 7)) (.o 4 9 (.mov (.t 8)) (.op 5 [] (some 10) (some (9, false)) false (.fad (.t 3) 1) (.op 6 [] (some 11) (some (9, false)) false (.load none (.t 10)) (.op 7 [] (some 12) (some (9, false)) false (.call 12 89 [(.t 11)]) (.op 8 [] (some 13) (some (9, false)) false (.un .not (.t 12)) (.o 9 14 (.pick (.t 9) (.v (.bool true)) (.t 13)) (.o 10 15 (.mov (.t 14)) (.op 11 [] (some 16) (some (15, false)) false (.fad (.t 3) 2) (.op 12 [] (some 17) (some (15, false)) false (.load none (.t 16)) (.op 13 [] (some 18) (some (15, false)) false (.call 18 109 [(.t 17), (.i 1), (.i 3)]) (.op 14 [] (some 19) (some (15, false)) false (.un .not (.t 18)) (.o 15 20 (.pick (.t 15) (.v (.bool true)) (.t 19)) (.o 16 21 (.mov (.t 20)) (.op 17 [] (some 22) (some (21, false)) false (.fad (.t 3) 4) (.op 18 [] (some 23) (some (21, false)) false (.load none (.t 22)) (.op 19 [] (some 24) (some (21, false)) false (.call 24 109 [(.t 23), (.i 0), (.i 3)]) (.op 20 [] (some 25) (some (21, false)) false (.un .not (.t 24)) (.o 21 26 (.pick (.t 21) (.v (.bool true)) (.t 25)) (.o 22 27 (.mov (.t 26)) (.op 23 [] (some 28) (some (27, false)) false (.fad (.t 3) 5) (.op 24 [] (some 29) (some (27, false)) false (.load none (.t 28)) (.op 25 [] (some 30) (some (27, false)) false (.fad (.t 2) 0) (.op 26 [] (some 31) (some (27, false)) false (.load none (.t 30)) (.op 27 [] (some 32) (some (27, false)) false (.bin .add (.t 31) (.i 1)) (.op 28 [] (some 33) (some (27, false)) false (.fad (.t 2) 0) (.op 29 [] (some 34) (some (27, false)) false (.load none (.t 33)) (.op 30 [] (some 35) (some (27, false)) false (.bin .add (.t 34) (.i 1000)) (.op 31 [] (some 36) (some (27, false)) false (.call 36 109 [(.t 29), (.t 32), (.t 35)]) (.op 32 [] (some 37) (some (27, false)) false (.un .not (.t 36)) (.o 33 38 (.pick (.t 27) (.v (.bool true)) (.t 37)) (.o 34 39 (.mov (.t 38)) (.op 35 [] (some 40) (some (39, false)) false (.fad (.t 3) 6) (.op 36 [] (some 41) (some (39, false)) false (.load none (.t 40)) (.op 37 [] (some 42) (some (39, false)) false (.fad (.t 2) 1) (.op 38 [] (some 43) (some (39, false)) false (.load none (.t 42)) (.op 39 [] (some 44) (some (39, false)) false (.call 44 109 [(.t 41), (.i 1), (.t 43)]) (.op 40 [] (some 45) (some (39, false)) false (.un .not (.t 44)) (.o 41 46 (.pick (.t 39) (.v (.bool true)) (.t 45)) .done)))))))))))))))))))))))))))))))))))))))))) (.cond (.t 46) (.g (.o 0 4 (.mov (.v (.bool false))) .done) .ret) .skip)) (.seq (.g (.o 0 47 (.fad (.t 3) 2) (.o 1 48 (.load none (.t 47)) (.o 2 49 (.bin .neq (.t 48) (.i 1)) .done))) (.cond (.t 49) (.g (.o 0 50 (.fad (.t 3) 3) (.o 1 51 (.load none (.t 50)) (.o 2 52 (.len (.t 51)) (.o 3 53 (.bin .eql (.t 52) (.i 0)) (.o 4 4 (.mov (.t 53)) .done))))) .ret) .skip)) (.seq (.reg true (.op 0 [] (some 54) none true (.fad (.t 3) 3) (.op 1 [] (some 55) none true (.load none (.t 54)) (.op 2 [1] (some 56) none false (.call 56 149 [(.t 55)]) (.op 3 [] (some 57) none true (.mov (.t 56)) (.op 4 [] (some 58) (some (57, true)) true (.fad (.t 3) 3) (.op 5 [] (some 59) (some (57, true)) true (.load none (.t 58)) (.op 6 [] (some 60) (some (57, true)) true (.iad 7 (.t 59) (.i 0)) (.op 7 [] (some 61) (some (57, true)) true (.fad (.t 60) 0) (.op 8 [] (some 62) (some (57, true)) true (.load (some 1) (.t 61)) (.op 9 [] (some 63) (some (57, true)) true (.fad (.t 3) 0) (.op 10 [] (some 64) (some (57, true)) true (.load (some 1) (.t 63)) (.op 11 [8, 5, 1, 10] (some 65) (some (57, true)) false (.call 65 131 [(.t 62), (.t 64)]) (.op 12 [] (some 66) none true (.pick (.t 57) (.t 65) (.v (.bool false))) (.op 13 [] (some 67) none true (.mov (.t 66)) (.op 14 [] (some 68) (some (67, true)) true (.fad (.t 3) 3) (.op 15 [] (some 69) (some (67, true)) true (.load none (.t 68)) (.op 16 [] (some 70) (some (67, true)) true (.iad 7 (.t 69) (.i 0)) (.op 17 [] (some 71) (some (67, true)) true (.fad (.t 70) 1) (.op 18 [] (some 72) (some (67, true)) true (.load none (.t 71)) (.op 19 [] (some 73) (some (67, true)) true (.fad (.t 3) 1) (.op 20 [] (some 74) (some (67, true)) true (.load none (.t 73)) (.op 21 [] (some 75) (some (67, true)) true (.bin .eql (.t 72) (.t 74)) (.op 22 [] (some 76) none true (.pick (.t 67) (.t 75) (.v (.bool false))) (.op 23 [] (some 4) none true (.mov (.t 76)) .done))))))))))))))))))))))))) .ret))))
theorem dg_impl_Cache_slotOk : Tryz.f141.body.bind (digC Tryz.prog Tryz.f141.ntmps []) = some c_impl_Cache_slotOk := by kernel_rfl
theorem rs_impl_Cache_slotOk : resSlots Tryz.prog Tryz.f141 = some [.s 4] := by kernel_rfl
theorem ok_impl_Cache_slotOk (c : Cache) (s : Slot) (hs : SmallS s) (hc : 0 ≤ c.now ∧ c.now ≤ 1000000) :
    FnOK Tryz.prog 141 [.agg (c.cells.map .d), .agg (s.cells.map .d)] (fun ra _ => ra = [.one (.d (.sc (.bool (slotOk c.now c.turn s))))]) := by
  refine FnOK.ofK Tryz.func141 (by kernel_rfl) dg_impl_Cache_slotOk rs_impl_Cache_slotOk rfl rfl ?_
  delta c_impl_Cache_slotOk T.o X.i C.g
  have n1 := hs.n.len
  have n2 := hs.n.mem
  have r1 := hs.r
  have r2 := hs.r.len
  by_cases h0 : nameOk s.name = true ∧ tyOk s.ty = true ∧ (1 ≤ s.kind ∧ s.kind ≤ 3) ∧ (0 ≤ s.rank ∧ s.rank ≤ 3) ∧ (c.now + 1 ≤ s.til ∧ s.til ≤ c.now + 1000) ∧ (1 ≤ s.used ∧ s.used ≤ c.turn)
  case neg =>
    rw [show slotOk c.now c.turn s = false by
      rw [Bool.eq_false_iff]; intro h
      unfold slotOk at h
      simp only [Bool.and_eq_true, decide_eq_true_eq] at h
      exact h0 ⟨h.1.1.1.1.1.1, h.1.1.1.1.1.2, h.1.1.1.1.2, h.1.1.1.2, h.1.1.2, h.1.2⟩]
    cases k1 : nameOk s.name
    case false => refine kSeq (kReg (kBox rfl rfl rfl rfl rfl (kBox rfl rfl rfl rfl rfl (kMovC rfl (kDone (kSeq (kSeq (kReg (kFadP rfl rfl (kLoadP rfl rfl rfl (kCallD (ok_impl_NameOk _ prx prx) ⟨⟨⟨rfl, trivial⟩, leb⟩, trivial⟩ rfl rfl rfl rfl rfl (kUn rfl rfl (kMovC rfl (kGN rfl (fun g0 => (kGF rfl (kGF rfl (kGF rfl (kGF rfl (kPickT rfl (kMovC rfl (kMovC rfl (kGF rfl (kGF rfl (kGF rfl (kGF rfl (kPickT rfl (kMovC rfl (kMovC rfl (kGF rfl (kGF rfl (kGF rfl (kGF rfl (kPickT rfl (kMovC rfl (kMovC rfl (kGF rfl (kGF rfl (kGF rfl (kGF rfl (kGF rfl (kGF rfl (kGF rfl (kGF rfl (kGF rfl (kGF rfl (kPickT rfl (kMovC rfl (kMovC rfl (kGF rfl (kGF rfl (kGF rfl (kGF rfl (kGF rfl (kGF rfl (kPickT rfl (kMovC rfl (kDone (kCondT rfl (kSeq (kReg (kMovC rfl (kDone (kRet (endRetA (ra := [.one (.d _)]) rfl rfl))))))))))))))))))))))))))))))))))))))))))))))))))) (fun g0 => (by (simp [*] at g0)))))))))))))))))
    cases k2 : tyOk s.ty
    case false => refine kSeq (kReg (kBox rfl rfl rfl rfl rfl (kBox rfl rfl rfl rfl rfl (kMovC rfl (kDone (kSeq (kSeq (kReg (kFadP rfl rfl (kLoadP rfl rfl rfl (kCallD (ok_impl_NameOk _ prx prx) ⟨⟨⟨rfl, trivial⟩, leb⟩, trivial⟩ rfl rfl rfl rfl rfl (kUn rfl rfl (kMovC rfl (kGN rfl (fun g0 => (by (simp [*] at g0))) (fun g0 => (kGT rfl (kFadP rfl rfl (kGT rfl (kLoadP rfl rfl rfl (kGT rfl (kCallD (ok_impl_TypeOk _) ⟨rfl, trivial⟩ rfl rfl rfl rfl rfl (kGT rfl (kUn rfl rfl (kPickF rfl (kMovC rfl (kMovC rfl (kGN rfl (fun g1 => kGF rfl (kGF rfl (kGF rfl (kGF rfl (kPickT rfl (kMovC rfl (kMovC rfl (kGF rfl (kGF rfl (kGF rfl (kGF rfl (kPickT rfl (kMovC rfl (kMovC rfl (kGF rfl (kGF rfl (kGF rfl (kGF rfl (kGF rfl (kGF rfl (kGF rfl (kGF rfl (kGF rfl (kGF rfl (kPickT rfl (kMovC rfl (kMovC rfl (kGF rfl (kGF rfl (kGF rfl (kGF rfl (kGF rfl (kGF rfl (kPickT rfl (kMovC rfl (kDone (kCondT rfl (kSeq (kReg (kMovC rfl (kDone (kRet (endRetA (ra := [.one (.d _)]) rfl rfl))))))))))))))))))))))))))))))))))))))))))) (fun g1 => (by (simp [*] at g1))))))))))))))))))))))))))))))
    by_cases k3 : 1 ≤ s.kind ∧ s.kind ≤ 3
    case neg => refine kSeq (kReg (kBox rfl rfl rfl rfl rfl (kBox rfl rfl rfl rfl rfl (kMovC rfl (kDone (kSeq (kSeq (kReg (kFadP rfl rfl (kLoadP rfl rfl rfl (kCallD (ok_impl_NameOk _ prx prx) ⟨⟨⟨rfl, trivial⟩, leb⟩, trivial⟩ rfl rfl rfl rfl rfl (kUn rfl rfl (kMovC rfl (kGN rfl (fun g0 => (by (simp [*] at g0))) (fun g0 => (kGT rfl (kFadP rfl rfl (kGT rfl (kLoadP rfl rfl rfl (kGT rfl (kCallD (ok_impl_TypeOk _) ⟨rfl, trivial⟩ rfl rfl rfl rfl rfl (kGT rfl (kUn rfl rfl (kPickF rfl (kMovC rfl (kMovC rfl (kGN rfl (fun g1 => (by (simp [*] at g1))) (fun g1 => kGT rfl (kFadP rfl rfl (kGT rfl (kLoadP rfl rfl rfl (kGT rfl (kCallD (ok_impl_within _ _ _) ⟨rfl, rfl, rfl, trivial⟩ rfl rfl rfl rfl rfl (kGT rfl (kUn rfl rfl (kPickF rfl (kMovC rfl (kMovC rfl (kGN rfl (fun g2 => kGF rfl (kGF rfl (kGF rfl (kGF rfl (kPickT rfl (kMovC rfl (kMovC rfl (kGF rfl (kGF rfl (kGF rfl (kGF rfl (kGF rfl (kGF rfl (kGF rfl (kGF rfl (kGF rfl (kGF rfl (kPickT rfl (kMovC rfl (kMovC rfl (kGF rfl (kGF rfl (kGF rfl (kGF rfl (kGF rfl (kGF rfl (kPickT rfl (kMovC rfl (kDone (kCondT rfl (kSeq (kReg (kMovC rfl (kDone (kRet (endRetA (ra := [.one (.d _)]) rfl rfl)))))))))))))))))))))))))))))))))))) (fun g2 => (by (simp [*] at g2))))))))))))))))))))))))))))))))))))))))))
    by_cases k4 : 0 ≤ s.rank ∧ s.rank ≤ 3
    case neg => refine kSeq (kReg (kBox rfl rfl rfl rfl rfl (kBox rfl rfl rfl rfl rfl (kMovC rfl (kDone (kSeq (kSeq (kReg (kFadP rfl rfl (kLoadP rfl rfl rfl (kCallD (ok_impl_NameOk _ prx prx) ⟨⟨⟨rfl, trivial⟩, leb⟩, trivial⟩ rfl rfl rfl rfl rfl (kUn rfl rfl (kMovC rfl (kGN rfl (fun g0 => (by (simp [*] at g0))) (fun g0 => (kGT rfl (kFadP rfl rfl (kGT rfl (kLoadP rfl rfl rfl (kGT rfl (kCallD (ok_impl_TypeOk _) ⟨rfl, trivial⟩ rfl rfl rfl rfl rfl (kGT rfl (kUn rfl rfl (kPickF rfl (kMovC rfl (kMovC rfl (kGN rfl (fun g1 => (by (simp [*] at g1))) (fun g1 => kGT rfl (kFadP rfl rfl (kGT rfl (kLoadP rfl rfl rfl (kGT rfl (kCallD (ok_impl_within _ _ _) ⟨rfl, rfl, rfl, trivial⟩ rfl rfl rfl rfl rfl (kGT rfl (kUn rfl rfl (kPickF rfl (kMovC rfl (kMovC rfl (kGN rfl (fun g2 => (by (simp [*] at g2))) (fun g2 => kGT rfl (kFadP rfl rfl (kGT rfl (kLoadP rfl rfl rfl (kGT rfl (kCallD (ok_impl_within _ _ _) ⟨rfl, rfl, rfl, trivial⟩ rfl rfl rfl rfl rfl (kGT rfl (kUn rfl rfl (kPickF rfl (kMovC rfl (kMovC rfl (kGN rfl (fun g3 => (kGF rfl (kGF rfl (kGF rfl (kGF rfl (kGF rfl (kGF rfl (kGF rfl (kGF rfl (kGF rfl (kGF rfl (kPickT rfl (kMovC rfl (kMovC rfl (kGF rfl (kGF rfl (kGF rfl (kGF rfl (kGF rfl (kGF rfl (kPickT rfl (kMovC rfl (kDone (kCondT rfl (kSeq (kReg (kMovC rfl (kDone (kRet (endRetA (ra := [.one (.d _)]) rfl rfl)))))))))))))))))))))))))))))) (fun g3 => (by (simp [*] at g3))))))))))))))))))))))))))))))))))))))))))))))))))))))
    by_cases k5 : c.now + 1 ≤ s.til ∧ s.til ≤ c.now + 1000
    case neg => refine kSeq (kReg (kBox rfl rfl rfl rfl rfl (kBox rfl rfl rfl rfl rfl (kMovC rfl (kDone (kSeq (kSeq (kReg (kFadP rfl rfl (kLoadP rfl rfl rfl (kCallD (ok_impl_NameOk _ prx prx) ⟨⟨⟨rfl, trivial⟩, leb⟩, trivial⟩ rfl rfl rfl rfl rfl (kUn rfl rfl (kMovC rfl (kGN rfl (fun g0 => (by (simp [*] at g0))) (fun g0 => (kGT rfl (kFadP rfl rfl (kGT rfl (kLoadP rfl rfl rfl (kGT rfl (kCallD (ok_impl_TypeOk _) ⟨rfl, trivial⟩ rfl rfl rfl rfl rfl (kGT rfl (kUn rfl rfl (kPickF rfl (kMovC rfl (kMovC rfl (kGN rfl (fun g1 => (by (simp [*] at g1))) (fun g1 => kGT rfl (kFadP rfl rfl (kGT rfl (kLoadP rfl rfl rfl (kGT rfl (kCallD (ok_impl_within _ _ _) ⟨rfl, rfl, rfl, trivial⟩ rfl rfl rfl rfl rfl (kGT rfl (kUn rfl rfl (kPickF rfl (kMovC rfl (kMovC rfl (kGN rfl (fun g2 => (by (simp [*] at g2))) (fun g2 => kGT rfl (kFadP rfl rfl (kGT rfl (kLoadP rfl rfl rfl (kGT rfl (kCallD (ok_impl_within _ _ _) ⟨rfl, rfl, rfl, trivial⟩ rfl rfl rfl rfl rfl (kGT rfl (kUn rfl rfl (kPickF rfl (kMovC rfl (kMovC rfl (kGN rfl (fun g3 => (by (simp [*] at g3))) (fun g3 => (kGT rfl (kFadP rfl rfl (kGT rfl (kLoadP rfl rfl rfl (kGT rfl (kFadP rfl rfl (kGT rfl (kLoadP rfl rfl rfl (kGT rfl (kAdd rfl rfl (by omega) (kGT rfl (kFadP rfl rfl (kGT rfl (kLoadP rfl rfl rfl (kGT rfl (kAdd rfl rfl (by omega) (kGT rfl (kCallD (ok_impl_within _ _ _) ⟨rfl, rfl, rfl, trivial⟩ rfl rfl rfl rfl rfl (kGT rfl (kUn rfl rfl (kPickF rfl (kMovC rfl (kMovC rfl (kGN rfl (fun g4 => kGF rfl (kGF rfl (kGF rfl (kGF rfl (kGF rfl (kGF rfl (kPickT rfl (kMovC rfl (kDone (kCondT rfl (kSeq (kReg (kMovC rfl (kDone (kRet (endRetA (ra := [.one (.d _)]) rfl rfl)))))))))))))))) (fun g4 => (by (simp [*] at g4)))))))))))))))))))))))))))))))))))))))))))))))))))))))))))))))))))))))))))))))
    have k6 : ¬ (1 ≤ s.used ∧ s.used ≤ c.turn) := fun h => h0 ⟨k1, k2, k3, k4, k5, h⟩
    refine Kbc (kBox Y Y Y Y Y (kBox Y Y Y Y Y (Ka Y (Kdb (Kbc (Kf Y Y (Ke Y Y Y (Kp (ok_impl_NameOk _ prx prx) ⟨⟨⟨Y, trivial⟩, leb⟩, trivial⟩ Y Y Y Y Y (Kw Y Y (Ka Y (kGN Y (fun g0 => (by (simp [*] at g0))) (fun g0 => (Ki Y (Kf Y Y (Ki Y (Ke Y Y Y (Ki Y (Kp (ok_impl_TypeOk _) ⟨Y, trivial⟩ Y Y Y Y Y (Ki Y (Kw Y Y (Kl Y (Ka Y (Ka Y (kGN Y (fun g1 => (by (simp [*] at g1))) (fun g1 => Ki Y (Kf Y Y (Ki Y (Ke Y Y Y (Ki Y (Kp (ok_impl_within _ _ _) ⟨Y, Y, Y, trivial⟩ Y Y Y Y Y (Ki Y (Kw Y Y (Kl Y (Ka Y (Ka Y (kGN Y (fun g2 => (by (simp [*] at g2))) (fun g2 => Ki Y (Kf Y Y (Ki Y (Ke Y Y Y (Ki Y (Kp (ok_impl_within _ _ _) ⟨Y, Y, Y, trivial⟩ Y Y Y Y Y (Ki Y (Kw Y Y (Kl Y (Ka Y (Ka Y (kGN Y (fun g3 => (by (simp [*] at g3))) (fun g3 => (Ki Y (Kf Y Y (Ki Y (Ke Y Y Y (Ki Y (Kf Y Y (Ki Y (Ke Y Y Y (Ki Y (kAdd Y Y om (Ki Y (Kf Y Y (Ki Y (Ke Y Y Y (Ki Y (kAdd Y Y om (Ki Y (Kp (ok_impl_within _ _ _) ⟨Y, Y, Y, trivial⟩ Y Y Y Y Y (Ki Y (Kw Y Y (Kl Y (Ka Y (Ka Y (kGN Y (fun g4 => (by (simp [*] at g4))) (fun g4 => Ki Y (Kf Y Y (Ki Y (Ke Y Y Y (Ki Y (Kf Y Y (Ki Y (Ke Y Y Y (Ki Y (Kp (ok_impl_within _ _ _) ⟨Y, Y, Y, trivial⟩ Y Y Y Y Y (Ki Y (Kw Y Y (Kl Y (Ka Y (Kd (kCondN Y (fun g5 => Kbc (Ka Y (Kd (Kr (Er (ra := [.one (.d _)]) rfl rfl))))) (fun g5 => (by (simp [*] at g5))))))))))))))))))))))))))))))))))))))))))))))))))))))))))))))))))))))))))))))))))))))))))))
  obtain ⟨k1, k2, k3, k4, k5, k6⟩ := h0
  rw [show slotOk c.now c.turn s = hitOk s by unfold slotOk; rw [k1, k2, decide_eq_true k3, decide_eq_true k4, decide_eq_true k5, decide_eq_true k6]; rfl]
  have hps : isSetR s.rrs = true → 0 < s.rrs.length := fun h => (isSetR_len h).1
  by_cases hk : s.kind = 1
  case neg =>
    rw [show hitOk s = decide ((s.rrs.length : Int) = 0) by unfold hitOk; rw [if_neg hk]; exact decide_eq_decide.2 (by omega)]
    refine Kbc (kBox Y Y Y Y Y (kBox Y Y Y Y Y (Ka Y (Kdb (Kbc (Kf Y Y (Ke Y Y Y (Kp (ok_impl_NameOk _ prx prx) ⟨⟨⟨Y, trivial⟩, leb⟩, trivial⟩ Y Y Y Y Y (Kw Y Y (Ka Y (kGN Y (fun g0 => (by (simp [*] at g0))) (fun g0 => (Ki Y (Kf Y Y (Ki Y (Ke Y Y Y (Ki Y (Kp (ok_impl_TypeOk _) ⟨Y, trivial⟩ Y Y Y Y Y (Ki Y (Kw Y Y (Kl Y (Ka Y (Ka Y (kGN Y (fun g1 => (by (simp [*] at g1))) (fun g1 => Ki Y (Kf Y Y (Ki Y (Ke Y Y Y (Ki Y (Kp (ok_impl_within _ _ _) ⟨Y, Y, Y, trivial⟩ Y Y Y Y Y (Ki Y (Kw Y Y (Kl Y (Ka Y (Ka Y (kGN Y (fun g2 => (by (simp [*] at g2))) (fun g2 => Ki Y (Kf Y Y (Ki Y (Ke Y Y Y (Ki Y (Kp (ok_impl_within _ _ _) ⟨Y, Y, Y, trivial⟩ Y Y Y Y Y (Ki Y (Kw Y Y (Kl Y (Ka Y (Ka Y (kGN Y (fun g3 => (by (simp [*] at g3))) (fun g3 => (Ki Y (Kf Y Y (Ki Y (Ke Y Y Y (Ki Y (Kf Y Y (Ki Y (Ke Y Y Y (Ki Y (kAdd Y Y om (Ki Y (Kf Y Y (Ki Y (Ke Y Y Y (Ki Y (kAdd Y Y om (Ki Y (Kp (ok_impl_within _ _ _) ⟨Y, Y, Y, trivial⟩ Y Y Y Y Y (Ki Y (Kw Y Y (Kl Y (Ka Y (Ka Y (kGN Y (fun g4 => (by (simp [*] at g4))) (fun g4 => Ki Y (Kf Y Y (Ki Y (Ke Y Y Y (Ki Y (Kf Y Y (Ki Y (Ke Y Y Y (Ki Y (Kp (ok_impl_within _ _ _) ⟨Y, Y, Y, trivial⟩ Y Y Y Y Y (Ki Y (Kw Y Y (Kl Y (Ka Y (Kd (kCondN Y (fun g5 => (by (simp [*] at g5))) (fun g5 => Kn (Kb (Kbc (Kf Y Y (Ke Y Y Y (Kj Y Y Y (Kd (kCondIN Y (fun g6 => Kbc (Kf Y Y (Ke Y Y Y (Kq Y Y (Kj Y Y Y (Ka Y (Kd (Kr (Er (ra := [.one (.d _)]) rfl rfl))))))))) (fun g6 => om))))))))))))))))))))))))))))))))))))))))))))))))))))))))))))))))))))))))))))))))))))))))))))))))))
  cases hq : isSetR s.rrs
  · rw [show hitOk s = false by unfold hitOk; rw [if_pos hk, hq]; rfl]
    refine Kbc (kBox Y Y Y Y Y (kBox Y Y Y Y Y (Ka Y (Kdb (Kbc (Kf Y Y (Ke Y Y Y (Kp (ok_impl_NameOk _ prx prx) ⟨⟨⟨Y, trivial⟩, leb⟩, trivial⟩ Y Y Y Y Y (Kw Y Y (Ka Y (kGN Y (fun g0 => (by (simp [*] at g0))) (fun g0 => (Ki Y (Kf Y Y (Ki Y (Ke Y Y Y (Ki Y (Kp (ok_impl_TypeOk _) ⟨Y, trivial⟩ Y Y Y Y Y (Ki Y (Kw Y Y (Kl Y (Ka Y (Ka Y (kGN Y (fun g1 => (by (simp [*] at g1))) (fun g1 => Ki Y (Kf Y Y (Ki Y (Ke Y Y Y (Ki Y (Kp (ok_impl_within _ _ _) ⟨Y, Y, Y, trivial⟩ Y Y Y Y Y (Ki Y (Kw Y Y (Kl Y (Ka Y (Ka Y (kGN Y (fun g2 => (by (simp [*] at g2))) (fun g2 => Ki Y (Kf Y Y (Ki Y (Ke Y Y Y (Ki Y (Kp (ok_impl_within _ _ _) ⟨Y, Y, Y, trivial⟩ Y Y Y Y Y (Ki Y (Kw Y Y (Kl Y (Ka Y (Ka Y (kGN Y (fun g3 => (by (simp [*] at g3))) (fun g3 => (Ki Y (Kf Y Y (Ki Y (Ke Y Y Y (Ki Y (Kf Y Y (Ki Y (Ke Y Y Y (Ki Y (kAdd Y Y om (Ki Y (Kf Y Y (Ki Y (Ke Y Y Y (Ki Y (kAdd Y Y om (Ki Y (Kp (ok_impl_within _ _ _) ⟨Y, Y, Y, trivial⟩ Y Y Y Y Y (Ki Y (Kw Y Y (Kl Y (Ka Y (Ka Y (kGN Y (fun g4 => (by (simp [*] at g4))) (fun g4 => Ki Y (Kf Y Y (Ki Y (Ke Y Y Y (Ki Y (Kf Y Y (Ki Y (Ke Y Y Y (Ki Y (Kp (ok_impl_within _ _ _) ⟨Y, Y, Y, trivial⟩ Y Y Y Y Y (Ki Y (Kw Y Y (Kl Y (Ka Y (Kd (kCondN Y (fun g5 => (by (simp [*] at g5))) (fun g5 => Kn (Kb (Kbc (Kf Y Y (Ke Y Y Y (Kj Y Y Y (Kd (kCondIN Y (fun g6 => om) (fun g6 => Kn (Kb (kRegD (Kf Y Y (Ke Y Y Y (Ks Y Y (Kp (ok_impl_isSet _ prx) ⟨Y, trivial⟩ Y Y Y Y Y (Ka Y (kGS Y (fun g7 => (by (simp [*] at g7))) (fun g7 => Kg Y (Kg Y (Kg Y (Kg Y (Kg Y (Kg Y (Kg Y (Ks Y Y (Kg Y (Kl Y (Ka Y (Ka Y (Kg Y (Kg Y (Kg Y (Kg Y (Kg Y (Kg Y (Kg Y (Kg Y (Kl Y (Ka Y (Ka Y (Kd (kH (Kr (Er (ra := [.one (.d _)]) rfl rfl)))))))))))))))))))))))))))))))))))))))))))))))))))))))))))))))))))))))))))))))))))))))))))))))))))))))))))))))))))))))))))))))))))))
  have hp := hps hq
  have hb0 := r1.mem _ (List.getElem_mem hp)
  have m1 := hb0.n.len
  have m2 := hb0.n.mem
  have e0 : s.rrs.getD 0 emptyR = s.rrs[0] := by rw [List.getD_eq_getElem?_getD, List.getElem?_eq_getElem hp]; rfl
  rw [show hitOk s = (decide (s.rrs[0].name = s.name) && decide (s.rrs[0].ty = s.ty)) by unfold hitOk; rw [if_pos hk, hq, e0]; rfl]
  refine Kbc (kBox Y Y Y Y Y (kBox Y Y Y Y Y (Ka Y (Kdb (Kbc (Kf Y Y (Ke Y Y Y (Kp (ok_impl_NameOk _ prx prx) ⟨⟨⟨Y, trivial⟩, leb⟩, trivial⟩ Y Y Y Y Y (Kw Y Y (Ka Y (kGN Y (fun g0 => (by (simp [*] at g0))) (fun g0 => (Ki Y (Kf Y Y (Ki Y (Ke Y Y Y (Ki Y (Kp (ok_impl_TypeOk _) ⟨Y, trivial⟩ Y Y Y Y Y (Ki Y (Kw Y Y (Kl Y (Ka Y (Ka Y (kGN Y (fun g1 => (by (simp [*] at g1))) (fun g1 => Ki Y (Kf Y Y (Ki Y (Ke Y Y Y (Ki Y (Kp (ok_impl_within _ _ _) ⟨Y, Y, Y, trivial⟩ Y Y Y Y Y (Ki Y (Kw Y Y (Kl Y (Ka Y (Ka Y (kGN Y (fun g2 => (by (simp [*] at g2))) (fun g2 => Ki Y (Kf Y Y (Ki Y (Ke Y Y Y (Ki Y (Kp (ok_impl_within _ _ _) ⟨Y, Y, Y, trivial⟩ Y Y Y Y Y (Ki Y (Kw Y Y (Kl Y (Ka Y (Ka Y (kGN Y (fun g3 => (by (simp [*] at g3))) (fun g3 => (Ki Y (Kf Y Y (Ki Y (Ke Y Y Y (Ki Y (Kf Y Y (Ki Y (Ke Y Y Y (Ki Y (kAdd Y Y om (Ki Y (Kf Y Y (Ki Y (Ke Y Y Y (Ki Y (kAdd Y Y om (Ki Y (Kp (ok_impl_within _ _ _) ⟨Y, Y, Y, trivial⟩ Y Y Y Y Y (Ki Y (Kw Y Y (Kl Y (Ka Y (Ka Y (kGN Y (fun g4 => (by (simp [*] at g4))) (fun g4 => Ki Y (Kf Y Y (Ki Y (Ke Y Y Y (Ki Y (Kf Y Y (Ki Y (Ke Y Y Y (Ki Y (Kp (ok_impl_within _ _ _) ⟨Y, Y, Y, trivial⟩ Y Y Y Y Y (Ki Y (Kw Y Y (Kl Y (Ka Y (Kd (kCondN Y (fun g5 => (by (simp [*] at g5))) (fun g5 => Kn (Kb (Kbc (Kf Y Y (Ke Y Y Y (Kj Y Y Y (Kd (kCondIN Y (fun g6 => om) (fun g6 => Kn (Kb (kRegD (Kf Y Y (Ke Y Y Y (Ks Y Y (Kp (ok_impl_isSet _ prx) ⟨Y, trivial⟩ Y Y Y Y Y (Ka Y (kGS Y (fun g7 => Ki Y (Kf Y Y (Ki Y (Ke Y Y Y (Ki Y (kIadR (m := 0) Y Y Y prl (Ki Y (kFadD Y (Ki Y (Ky Y Y (Ki Y (Kf Y Y (Ki Y (Ke Y Y Y (Ks Y Y (Ki Y (Kp (ok_impl_Name_is _ _ prx prx) ⟨⟨⟨Y, trivial⟩, leb⟩, ⟨⟨Y, trivial⟩, leb⟩, trivial⟩ Y Y Y Y Y (Kk Y (Ka Y (Ka Y (kGP Y (fun g8 => Ki Y (Kf Y Y (Ki Y (Ke Y Y Y (Ki Y (kIadR (m := 0) Y Y Y prl (Ki Y (kFadD Y (Ki Y (Ky Y Y (Ki Y (Kf Y Y (Ki Y (Ke Y Y Y (Ki Y (Kj Y Y Y (Kk Y (Ka Y (Ka Y (Kd (kH (Kr (Er (ra := [.one (.d _)]) rfl ?_))))))))))))))))))))))) (fun g8 => Kg Y (Kg Y (Kg Y (Kg Y (Kg Y (Kg Y (Kg Y (Kg Y (Kl Y (Ka Y (Ka Y (Kd (kH (Kr (Er (ra := [.one (.d _)]) rfl ?_)))))))))))))))))))))))))))))))))))) (fun g7 => (by (simp [*] at g7)))))))))))))))))))))))))))))))))))))))))))))))))))))))))))))))))))))))))))))))))))))))))))))))))))))))))))))
  · rw [decide_eq_true (by assumption : s.rrs[0].name = s.name), Bool.true_and]
    rfl
  · rw [decide_eq_false (by assumption : ¬ s.rrs[0].name = s.name), Bool.false_and]

def c_impl_all_impl_Slot_1 : C := (.g (.o 0 2 (.box 2 (.t 0)) (.o 1 3 (.mov (.v (.bool false))) .done)) (.g (.o 0 4 (.load none (.t 1)) (.o 1 5 (.load (some 7) (.t 2)) (.o 2 6 (.callv 6 (.t 4) [(.t 5)]) (.o 3 7 (.un .not (.t 6)) (.o 4 3 (.mov (.t 7)) .done))))) .ret))
theorem dg_impl_all_impl_Slot_1 : Tryz.f230.body.bind (digC Tryz.prog Tryz.f230.ntmps []) = some c_impl_all_impl_Slot_1 := by kernel_rfl
theorem rs_impl_all_impl_Slot_1 : resSlots Tryz.prog Tryz.f230 = some [.s 3] := by kernel_rfl
theorem ok_impl_all_impl_Slot_1 (x : Slot) (D : Slot → Prop) (g : Slot → Bool) (hx : D x) :
    FnOK Tryz.prog 230 [.agg (x.cells.map .d), .one (.ptr [.fv false (fcAgg D Slot.cells g)])] (fun ra _ => ra = [.one (.d (.sc (.bool (!g x))))]) := by
  refine FnOK.ofK Tryz.func230 (by kernel_rfl) dg_impl_all_impl_Slot_1 rs_impl_all_impl_Slot_1 rfl rfl ?_
  delta c_impl_all_impl_Slot_1 T.o X.i C.g
  refine Kbc (kBox Y Y Y Y Y (Ka Y (Kdb (Kc (kLoadC Y Y (Ke Y Y Y ?_))))))
  refine kCallv Y ⟨x, hx, rfl, rfl⟩ ⟨⟨⟨Y, Y, Y, Y, Y, Y, Y, trivial⟩, leb⟩, trivial⟩ (.inr ?_) rfl ?_ rfl ?_
  · rintro _ rfl; rfl
  · rintro _ rfl; exact leb
  rintro _ rfl
  refine Kw Y Y (Ka Y (Kd (Kr (Er (ra := [.one (.d _)]) rfl rfl))))

def c_slices_ContainsFunc_Limpl_Slot_impl_Slot : C := (.g (.o 0 4 (.mov (.v (.bool false))) .done) (.g (.o 0 5 (.mov (.t 0)) (.o 1 6 (.mov (.t 1)) (.o 2 7 (.call 7 231 [(.t 5), (.t 6)]) (.o 3 8 (.bin .geq (.t 7) (.i 0)) (.o 4 4 (.mov (.t 8)) .done))))) .ret))
theorem dg_slices_ContainsFunc_Limpl_Slot_impl_Slot : Tryz.f143.body.bind (digC Tryz.prog Tryz.f143.ntmps []) = some c_slices_ContainsFunc_Limpl_Slot_impl_Slot := by kernel_rfl
theorem rs_slices_ContainsFunc_Limpl_Slot_impl_Slot : resSlots Tryz.prog Tryz.f143 = some [.s 4] := by kernel_rfl
theorem ok_slices_ContainsFunc_Limpl_Slot_impl_Slot (l : List Slot) (D : Slot → Prop) (g : Slot → Bool) (hl : l.length ≤ 4194304) (hD : ∀ x ∈ l, D x) :
    FnOK Tryz.prog 143 [.one (.d (encS l)), .one (.fv false (fcAgg D Slot.cells g))] (fun ra _ => ra = [.one (.d (.sc (.bool (l.any g))))]) := by
  refine FnOK.ofK Tryz.func143 (by kernel_rfl) dg_slices_ContainsFunc_Limpl_Slot_impl_Slot rs_slices_ContainsFunc_Limpl_Slot_impl_Slot rfl rfl ?_
  delta c_slices_ContainsFunc_Limpl_Slot_impl_Slot T.o X.i C.g
  refine Kbc (Ka Y (Kdb (Kc (Ka Y (Ka Y ?_)))))
  refine Ku true (ok_slices_IndexFunc_Limpl_Slot_impl_Slot l D g hl hD) ⟨rfl, ⟨fun h => h, fun _ _ h => h⟩, trivial⟩ rfl rfl rfl fun os => ?_
  rw [← idx_ge g l]
  refine Kj Y Y Y (Ka Y (Kd (Kr (Er (ra := [.one (.d _)]) rfl rfl))))

def c_impl_all_impl_Slot : C := (.g (.o 0 3 (.box 3 (.t 1)) (.o 1 4 (.mov (.v (.bool false))) .done)) (.g (.o 0 5 (.mov (.t 0)) (.o 1 6 (.clo 230 [] [(.t 3)]) (.o 2 7 (.call 7 143 [(.t 5), (.t 6)]) (.o 3 8 (.un .not (.t 7)) (.o 4 4 (.mov (.t 8)) .done))))) .ret))
theorem dg_impl_all_impl_Slot : Tryz.f140.body.bind (digC Tryz.prog Tryz.f140.ntmps []) = some c_impl_all_impl_Slot := by kernel_rfl
theorem rs_impl_all_impl_Slot : resSlots Tryz.prog Tryz.f140 = some [.s 4] := by kernel_rfl
theorem ok_impl_all_impl_Slot (l : List Slot) (D : Slot → Prop) (g : Slot → Bool) (hl : l.length ≤ 4194304) (hD : ∀ x ∈ l, D x) :
    FnOK Tryz.prog 140 [.one (.d (encS l)), .one (.fv false (fcAgg D Slot.cells g))] (fun ra _ => ra = [.one (.d (.sc (.bool (l.all g))))]) := by
  refine FnOK.ofK Tryz.func140 (by kernel_rfl) dg_impl_all_impl_Slot rs_impl_all_impl_Slot rfl rfl ?_
  delta c_impl_all_impl_Slot T.o X.i C.g
  refine Kbc (kBox Y Y Y Y Y (Ka Y (Kdb (Kc (Ka Y (kClo Y Y ?_))))))
  refine Ku true (ok_slices_ContainsFunc_Limpl_Slot_impl_Slot l D (fun x => !g x) hl hD) ⟨rfl, ⟨rfl, ⟨_, Tryz.func230, rfl, by kernel_rfl⟩, _, rfl, ?_⟩, trivial⟩ rfl rfl rfl fun os => ?_
  · rintro _ R ⟨x, hx, rfl, rfl⟩
    exact ⟨by rintro _ rfl; rfl, ok_impl_all_impl_Slot_1 x D g hx⟩
  rw [List.all_eq_not_any_not]
  refine Kw Y Y (Ka Y (Kd (Kr (Er (ra := [.one (.d _)]) rfl rfl))))

def c_impl_CacheOk_1 : C := (.g (.o 0 2 (.box 2 (.t 0)) (.o 1 3 (.mov (.v (.bool false))) .done)) (.g (.o 0 4 (.fad (.t 2) 6) (.o 1 5 (.load none (.t 4)) (.o 2 6 (.fad (.t 1) 6) (.o 3 7 (.load none (.t 6)) (.o 4 8 (.bin .eql (.t 5) (.t 7)) (.o 5 3 (.mov (.t 8)) .done)))))) .ret))
theorem dg_impl_CacheOk_1 : Tryz.f144.body.bind (digC Tryz.prog Tryz.f144.ntmps []) = some c_impl_CacheOk_1 := by kernel_rfl
theorem rs_impl_CacheOk_1 : resSlots Tryz.prog Tryz.f144 = some [.s 3] := by kernel_rfl
theorem ok_impl_CacheOk_1 (x s : Slot) :
    FnOK Tryz.prog 144 [.agg (x.cells.map .d), .one (.ptr (s.cells.map .d))] (fun ra _ => ra = [.one (.d (.sc (.bool (x.used == s.used))))]) := by
  refine FnOK.ofK Tryz.func144 (by kernel_rfl) dg_impl_CacheOk_1 rs_impl_CacheOk_1 rfl rfl ?_
  delta c_impl_CacheOk_1 T.o X.i C.g
  refine Kbc (kBox Y Y Y Y Y (Ka Y (Kdb (Kc (Kf Y Y (Ke Y Y Y (kFadC Y (kLoadC Y Y (Kj Y Y Y (Ka Y (Kd (Kr (Er (ra := [.one (.d _)]) rfl rfl)))))))))))))

def c_impl_CacheOk : C := (.g (.o 0 1 (.box 1 (.t 0)) (.o 1 2 (.mov (.v (.bool false))) .done)) (.seq (.g (.o 0 5 (.fad (.t 1) 0) (.o 1 6 (.load none (.t 5)) (.o 2 7 (.call 7 109 [(.t 6), (.i 0), (.i 1000000)]) (.o 3 8 (.un .not (.t 7)) (.o 4 9 (.mov (.t 8)) (.op 5 [] (some 10) (some (9, false)) false (.fad (.t 1) 1) (.op 6 [] (some 11) (some (9, false)) false (.load none (.t 10)) (.op 7 [] (some 12) (some (9, false)) false (.call 12 109 [(.t 11), (.i 0), (.i 1000000)]) (.op 8 [] (some 13) (some (9, false)) false (.un .not (.t 12)) (.o 9 14 (.pick (.t 9) (.v (.bool true)) (.t 13)) (.o 10 15 (.mov (.t 14)) (.op 11 [] (some 16) (some (15, false)) false (.fad (.t 1) 2) (.op 12 [] (some 17) (some (15, false)) false (.load none (.t 16)) (.op 13 [] (some 18) (some (15, false)) false (.len (.t 17)) (.op 14 [] (some 19) (some (15, false)) false (.bin .gtr (.t 18) (.i 8)) (.o 15 20 (.pick (.t 15) (.v (.bool true)) (.t 19)) (.o 16 21 (.mov (.t 20)) (.op 17 [] (some 22) (some (21, false)) false (.fad (.t 1) 2) (.op 18 [] (some 23) (some (21, false)) false (.load none (.t 22)) (.op 19 [] (some 24) (some (21, false)) false (.load (some 3) (.t 1)) (.op 20 [] (some 25) (some (21, false)) false (.clo 141 [(.t 24)] []) (.op 21 [] (some 26) (some (21, false)) false (.call 26 140 [(.t 23), (.t 25)]) (.op 22 [] (some 27) (some (21, false)) false (.un .not (.t 26)) (.o 23 28 (.pick (.t 21) (.v (.bool true)) (.t 27)) .done)))))))))))))))))))))))) (.cond (.t 28) (.g (.o 0 2 (.mov (.v (.bool false))) .done) .ret) .skip)) (.seq (.g (.o 0 29 (.fad (.t 1) 2) (.o 1 30 (.load none (.t 29)) (.o 2 31 (.len (.t 30)) (.o 3 32 (.mov (.i 0)) .done)))) (.block 0 (.loop (.g (.o 0 33 (.bin .lss (.t 32) (.t 31)) .done) (.seq (.cond (.t 33) .skip (.exit 0)) (.seq (.block 1 (.g (.o 0 34 (.mov (.t 32)) (.o 1 35 (.iad 7 (.t 30) (.t 32)) (.o 2 36 (.load (some 7) (.t 35)) (.o 3 4 (.alloc 4 [(.n 1), (.i 0), (.i 0), (.n 7), (.i 0), (.i 0), (.i 0)]) (.o 4 3 (.mov (.t 34)) (.op 5 [] none none false (.store (some 7) (.t 4) (.t 36)) .done)))))) (.seq (.reg true (.op 0 [] (some 37) none true (.mov (.t 3)) (.op 1 [] (some 38) none true (.bin .gtr (.t 37) (.i 0)) (.op 2 [] (some 39) none true (.mov (.t 38)) (.op 3 [] (some 40) (some (39, true)) true (.fad (.t 1) 2) (.op 4 [] (some 41) (some (39, true)) true (.load none (.t 40)) (.op 5 [] (some 42) (some (39, true)) true (.mov (.t 3)) (.op 6 [] (some 43) (some (39, true)) true (.bin .sub (.t 42) (.i 1)) (.op 7 [] (some 44) (some (39, true)) true (.iad 7 (.t 41) (.t 43)) (.op 8 [] (some 45) (some (39, true)) true (.load (some 7) (.t 44)) (.op 9 [] (some 46) (some (39, true)) true (.load (some 7) (.t 4)) (.op 10 [8, 4, 9] (some 47) (some (39, true)) false (.call 47 142 [(.t 45), (.t 46)]) (.op 11 [] (some 48) (some (39, true)) true (.bin .geq (.t 47) (.i 0)) (.op 12 [] (some 49) none true (.pick (.t 39) (.t 48) (.v (.bool false))) (.op 13 [] (some 50) none true (.mov (.t 49)) (.op 14 [] (some 51) (some (50, false)) true (.fad (.t 1) 2) (.op 15 [] (some 52) (some (50, false)) true (.load none (.t 51)) (.op 16 [] (some 53) (some (50, false)) true (.mov (.t 3)) (.op 17 [] (some 54) (some (50, false)) true (.cut 7 (.t 52) none (some (.t 53))) (.op 18 [] (some 55) (some (50, false)) true (.clo 144 [] [(.t 4)]) (.op 19 [15, 8, 9, 4] (some 56) (some (50, false)) false (.call 56 143 [(.t 54), (.t 55)]) (.op 20 [] (some 57) none true (.pick (.t 50) (.v (.bool true)) (.t 56)) .done)))))))))))))))))))))) (.cond (.t 57) (.g (.o 0 2 (.mov (.v (.bool false))) .done) .ret) .skip)))) (.reg false (.o 0 58 (.bin .add (.t 32) (.i 1)) (.o 1 32 (.mov (.t 58)) .done))))))))) (.g (.o 0 2 (.mov (.v (.bool true))) .done) .ret))))
theorem dg_impl_CacheOk : Tryz.f56.body.bind (digC Tryz.prog Tryz.f56.ntmps []) = some c_impl_CacheOk := by kernel_rfl
theorem rs_impl_CacheOk : resSlots Tryz.prog Tryz.f56 = some [.s 2] := by kernel_rfl
theorem ok_impl_CacheOk (c : Cache) (hs : SmallSs c.slots) :
    FnOK Tryz.prog 56 [.agg (c.cells.map .d)] (fun ra _ => ra = [.one (.d (.sc (.bool (cacheOk c))))]) := by
  refine FnOK.ofK Tryz.func56 (by kernel_rfl) dg_impl_CacheOk rs_impl_CacheOk rfl rfl ?_
  delta c_impl_CacheOk T.o X.i C.g
  have h1 := hs.len
  have hm := hs.mem
  by_cases h0 : (0 ≤ c.now ∧ c.now ≤ 1000000) ∧ (0 ≤ c.turn ∧ c.turn ≤ 1000000) ∧ c.slots.length ≤ 8
  case neg =>
    rw [show cacheOk c = false by
      rw [Bool.eq_false_iff]; intro h
      unfold cacheOk at h
      simp only [Bool.and_eq_true, decide_eq_true_eq] at h
      exact h0 ⟨h.1.1.1.1, h.1.1.1.2, h.1.1.2⟩]
    by_cases k1 : 0 ≤ c.now ∧ c.now ≤ 1000000
    case neg => refine kSeq (kReg (kBox rfl rfl rfl rfl rfl (kMovC rfl (kDone (kSeq (kSeq (kReg (kFadP rfl rfl (kLoadP rfl rfl rfl (kCallD (ok_impl_within _ _ _) ⟨rfl, rfl, rfl, trivial⟩ rfl rfl rfl rfl rfl (kUn rfl rfl (kMovC rfl (kGN rfl (fun g0 => kGF rfl (kGF rfl (kMem [(8192, ⟨1, 0, .box [.d _, .d _, .d _]⟩)] ((11, .c (.un)) :: (12, .c (.un)) :: (9, .c (.d _)) :: (13, .c (.un)) :: (14, .c (.un)) :: (1, .c (.ptr 8192 1 0)) :: (16, .c (.un)) :: (17, .c (.un)) :: (18, .c (.un)) :: (15, .c (.un)) :: (19, .c (.un)) :: (20, .c (.un)) :: (22, .c (.un)) :: (24, .c (.un)) :: (23, .c (.un)) :: (25, .c (.un)) :: (26, .c (.un)) :: (21, .c (.un)) :: (27, .c (.un)) :: []) [] ⟨rfl, trivial⟩ ⟨rfl, rfl, rfl, rfl, rfl, rfl, rfl, rfl, rfl, rfl, rfl, rfl, rfl, rfl, rfl, rfl, rfl, rfl, rfl, trivial⟩ rfl (kGF rfl (kGF rfl (kPickT rfl (kMovC rfl (kMovC rfl (kGF rfl (kGF rfl (kGF rfl (kGF rfl (kPickT rfl (kMovC rfl (kMovC rfl (kGF rfl (kGF rfl (kMem [(8192, ⟨1, 0, .box [.d _, .d _, .d _]⟩)] [(1, .c (.ptr 8192 1 0)), (24, .c (.un)), (23, .c (.un)), (25, .c (.un)), (26, .c (.un)), (21, .c (.d _)), (27, .c (.un))] [] ⟨rfl, trivial⟩ ⟨rfl, rfl, rfl, rfl, rfl, rfl, rfl, trivial⟩ rfl (kGF rfl (kGF rfl (kGF rfl (kGF rfl (kPickT rfl (kMovC rfl (kDone (kCondT rfl (kSeq (kReg (kMovC rfl (kDone (kRet (endRetA (ra := [.one (.d _)]) rfl rfl)))))))))))))))))))))))))))))))) (fun g0 => (by (simp [*] at g0))))))))))))))))
    by_cases k2 : 0 ≤ c.turn ∧ c.turn ≤ 1000000
    case neg => refine kSeq (kReg (kBox rfl rfl rfl rfl rfl (kMovC rfl (kDone (kSeq (kSeq (kReg (kFadP rfl rfl (kLoadP rfl rfl rfl (kCallD (ok_impl_within _ _ _) ⟨rfl, rfl, rfl, trivial⟩ rfl rfl rfl rfl rfl (kUn rfl rfl (kMovC rfl (kGN rfl (fun g0 => (by (simp [*] at g0))) (fun g0 => kGT rfl (kFadP rfl rfl (kGT rfl (kLoadP rfl rfl rfl (kMem [(8192, ⟨1, 0, .box [.d _, .d _, .d _]⟩)] ((11, .c (.d _)) :: (12, .c (.un)) :: (9, .c (.d _)) :: (13, .c (.un)) :: (14, .c (.un)) :: (1, .c (.ptr 8192 1 0)) :: (16, .c (.un)) :: (17, .c (.un)) :: (18, .c (.un)) :: (15, .c (.un)) :: (19, .c (.un)) :: (20, .c (.un)) :: (22, .c (.un)) :: (24, .c (.un)) :: (23, .c (.un)) :: (25, .c (.un)) :: (26, .c (.un)) :: (21, .c (.un)) :: (27, .c (.un)) :: []) [] ⟨rfl, trivial⟩ ⟨rfl, rfl, rfl, rfl, rfl, rfl, rfl, rfl, rfl, rfl, rfl, rfl, rfl, rfl, rfl, rfl, rfl, rfl, rfl, trivial⟩ rfl (kGT rfl (kCallD (ok_impl_within _ _ _) ⟨rfl, rfl, rfl, trivial⟩ rfl rfl rfl rfl rfl (kGT rfl (kUn rfl rfl (kPickF rfl (kMovC rfl (kMovC rfl (kGN rfl (fun g1 => kGF rfl (kGF rfl (kGF rfl (kGF rfl (kPickT rfl (kMovC rfl (kMovC rfl (kGF rfl (kMem [(8192, ⟨1, 0, .box [.d _, .d _, .d _]⟩)] [(22, .c (.un)), (1, .c (.ptr 8192 1 0)), (24, .c (.un)), (23, .c (.un)), (25, .c (.un)), (26, .c (.un)), (21, .c (.d _)), (27, .c (.un))] [] ⟨rfl, trivial⟩ ⟨rfl, rfl, rfl, rfl, rfl, rfl, rfl, rfl, trivial⟩ rfl (kGF rfl (kGF rfl (kGF rfl (kGF rfl (kGF rfl (kPickT rfl (kMovC rfl (kDone (kCondT rfl (kSeq (kReg (kMovC rfl (kDone (kRet (endRetA (ra := [.one (.d _)]) rfl rfl)))))))))))))))))))))))) (fun g1 => (by (simp [*] at g1)))))))))))))))))))))))))))))
    have k3 : ¬ c.slots.length ≤ 8 := fun h => h0 ⟨k1, k2, h⟩
    refine Kbc (kBox Y Y Y Y Y (Ka Y (Kdb (Kbc (Kf Y Y (Ke Y Y Y (Kp (ok_impl_within _ _ _) ⟨Y, Y, Y, trivial⟩ Y Y Y Y Y (Kw Y Y (Ka Y (kGN Y (fun g0 => (by (simp [*] at g0))) (fun g0 => Ki Y (Kf Y Y (Ki Y (Ke Y Y Y (kMem [(8192, ⟨1, 0, .box [.d _, .d _, .d _]⟩)] ((11, .c (.d _)) :: (12, .c (.un)) :: (9, .c (.d _)) :: (13, .c (.un)) :: (14, .c (.un)) :: (1, .c (.ptr 8192 1 0)) :: (16, .c (.un)) :: (17, .c (.un)) :: (18, .c (.un)) :: (15, .c (.un)) :: (19, .c (.un)) :: (20, .c (.un)) :: (22, .c (.un)) :: (24, .c (.un)) :: (23, .c (.un)) :: (25, .c (.un)) :: (26, .c (.un)) :: (21, .c (.un)) :: (27, .c (.un)) :: []) [] ⟨Y, trivial⟩ ⟨Y, Y, Y, Y, Y, Y, Y, Y, Y, Y, Y, Y, Y, Y, Y, Y, Y, Y, Y, trivial⟩ Y (Ki Y (Kp (ok_impl_within _ _ _) ⟨Y, Y, Y, trivial⟩ Y Y Y Y Y (Ki Y (Kw Y Y (Kl Y (Ka Y (Ka Y (kGN Y (fun g1 => (by (simp [*] at g1))) (fun g1 => Ki Y (Kf Y Y (Ki Y (Ke Y Y Y (Ki Y (Kq Y Y (Ki Y (Kj Y Y Y (Kl Y (Ka Y (Ka Y (kMem [(8192, ⟨1, 0, .box [.d _, .d _, .d _]⟩)] [(1, .c (.ptr 8192 1 0)), (22, .c (.un)), (24, .c (.un)), (23, .c (.un)), (25, .c (.un)), (26, .c (.un)), (21, .c (.d _)), (27, .c (.un))] [] ⟨Y, trivial⟩ ⟨Y, Y, Y, Y, Y, Y, Y, Y, trivial⟩ Y (kGP Y (fun g2 => Kg Y (Kg Y (Kg Y (Kg Y (Kg Y (Kg Y (Kk Y (Ka Y (Kd (kCondT Y (Kbc (Ka Y (Kd (Kr (Er (ra := [.one (.d _)]) rfl rfl))))))))))))))) (fun g2 => om)))))))))))))))))))))))))))))))))))))
  obtain ⟨k1, k2, k3⟩ := h0
  refine Kbc (kBox Y Y Y Y Y (Ka Y (Kdb (Kbc (Kf Y Y (Ke Y Y Y (Kp (ok_impl_within _ _ _) ⟨Y, Y, Y, trivial⟩ Y Y Y Y Y (Kw Y Y (Ka Y (kGN Y (fun g0 => (by (simp [*] at g0))) (fun g0 => Ki Y (Kf Y Y (Ki Y (Ke Y Y Y (kMem [(8192, ⟨1, 0, .box [.d _, .d _, .d _]⟩)] ((11, .c (.d _)) :: (12, .c (.un)) :: (9, .c (.d _)) :: (13, .c (.un)) :: (14, .c (.un)) :: (1, .c (.ptr 8192 1 0)) :: (16, .c (.un)) :: (17, .c (.un)) :: (18, .c (.un)) :: (15, .c (.un)) :: (19, .c (.un)) :: (20, .c (.un)) :: (22, .c (.un)) :: (24, .c (.un)) :: (23, .c (.un)) :: (25, .c (.un)) :: (26, .c (.un)) :: (21, .c (.un)) :: (27, .c (.un)) :: []) [] ⟨Y, trivial⟩ ⟨Y, Y, Y, Y, Y, Y, Y, Y, Y, Y, Y, Y, Y, Y, Y, Y, Y, Y, Y, trivial⟩ Y (Ki Y (Kp (ok_impl_within _ _ _) ⟨Y, Y, Y, trivial⟩ Y Y Y Y Y (Ki Y (Kw Y Y (Kl Y (Ka Y (Ka Y (kGN Y (fun g1 => (by (simp [*] at g1))) (fun g1 => Ki Y (Kf Y Y (Ki Y (Ke Y Y Y (Ki Y (Kq Y Y (Ki Y (Kj Y Y Y (Kl Y (Ka Y (Ka Y (kMem [(8192, ⟨1, 0, .box [.d _, .d _, .d _]⟩)] [(1, .c (.ptr 8192 1 0)), (22, .c (.un)), (24, .c (.un)), (23, .c (.un)), (25, .c (.un)), (26, .c (.un)), (21, .c (.d _)), (27, .c (.un))] [] ⟨Y, trivial⟩ ⟨Y, Y, Y, Y, Y, Y, Y, Y, trivial⟩ Y (kGP Y (fun g2 => om) (fun g2 => Ki Y (Kf Y Y (Ki Y (Ke Y Y Y (Ki Y (Ke Y Y Y (Ki Y (kClo Y Y (Ki Y ?_)))))))))))))))))))))))))))))))))))))))))))))
  refine Ku true (ok_impl_all_impl_Slot c.slots SmallS (slotOk c.now c.turn) h1 hm) ⟨rfl, ⟨rfl, ⟨_, Tryz.func141, rfl, by kernel_rfl⟩, _, rfl, ?_⟩, trivial⟩ Y Y Y (fun os => ?_)
  · rintro _ R ⟨x, h, rfl, rfl⟩
    exact ⟨by rintro _ rfl; rfl, ok_impl_Cache_slotOk c x h k1⟩
  cases a3 : c.slots.all (slotOk c.now c.turn)
  · rw [show cacheOk c = false by unfold cacheOk; rw [a3]; simp]
    refine Ki Y (Kw Y Y (Kl Y (Ka Y (Kd (kCondT Y (Kbc (Ka Y (Kd (Kr (Er (ra := [.one (.d _)]) rfl rfl))))))))))
  refine Ki Y (Kw Y Y (Kl Y (Ka Y (Kd (kCondF Y (Kn (Kb (Kbc (Kf Y Y (kMem [(8192, ⟨1, 0, .box [.d _, .d _, .d _]⟩)] [(29, .c (.ptr 8192 1 2)), (30, .c (.un))] [] ⟨Y, trivial⟩ ⟨Y, Y, trivial⟩ Y (Ke Y Y Y (Kq Y Y (Ka Y (Kd (Kt ?_)))))))))))))))
  refine kLoop (α := { i : Nat // i ≤ c.slots.length ∧ (List.range i).all (sAt c.slots) = true }) (fun y => ⟨tabSl [(1, .c (.ptr (rid 1 0) 1 0)), (30, .dv (encS c.slots)), (31, .i c.slots.length), (32, .i y.1)], obTab 1 [(rid 1 0, ⟨1, 0, .box (c.cells.map .d)⟩)], []⟩) (fun y => c.slots.length - y.1) ⟨0, by simp⟩ .normA ?_
  rintro ⟨i, hi, hz⟩
  simp only
  rcases Nat.lt_or_ge i c.slots.length with hlt | hge
  · have hbi := hm _ (List.getElem_mem hlt)
    have hq := sAt_eq hlt
    refine Kbc (Kj Y Y Y (Kdb (Km Y (fun g0 => Kn (Kb (Kt (Kbc (Ka Y (kIadR Y Y Y prl (Ky Y Y (kAlloc Y Y (Ka Y (kMem [(20480, ⟨2, 0, .box [.nil 1, .d _, .d _, .nil 7, .d _, .d _, .d _]⟩)] [(4, .c (.ptr 20480 2 0)), (36, .g [.d _, .d _, .d _, .d _, .d _, .d _, .d _])] [] ⟨Y, trivial⟩ ⟨Y, Y, trivial⟩ Y (Ko Y Y Y Y (Kdb (kRegD (Ka Y (Kj Y Y Y (Ka Y (kGP Y (fun g1 => Ki Y (Kf Y Y (Ki Y (Ke Y Y Y (Ki Y (Ka Y (Ki Y (kDif Y Y om (Ki Y (kIadT Y Y prl (kMem [(20480, ⟨2, 0, .box [.d _, .d _, .d _, .d _, .d _, .d _, .d _]⟩), (8192, ⟨1, 0, .box [.d _, .d _, .d _]⟩)] [(4, .c (.ptr 20480 2 0)), (39, .c (.d _)), (1, .c (.ptr 8192 1 0)), (3, .c (.d _))] [8192] ⟨Y, Y, trivial⟩ ⟨Y, Y, Y, Y, trivial⟩ Y (Ki Y (Ky Y Y (Ki Y (Ke Y Y Y (Ks Y Y (Ki Y (Kp (ok_impl_Slot_compare _ _ prx prx) ⟨⟨⟨Y, Y, Y, Y, Y, Y, Y, trivial⟩, leb⟩, ⟨⟨Y, Y, Y, Y, Y, Y, Y, trivial⟩, leb⟩, trivial⟩ Y Y Y Y Y (Ki Y (Kj Y Y Y (Kk Y (Ka Y (Ka Y (kGP Y (fun g2 => Kg Y (Kg Y (Kg Y (Kg Y (Kg Y (Ks Y Y (Kg Y (Kk Y (Ka Y (Kd (kH (kCondT Y (Kbc (Ka Y (Kd (Kr (Er (ra := [.one (.d _)]) rfl ?_))))))))))))))))) (fun g2 => Ki Y (Kf Y Y (Ki Y (Ke Y Y Y (Ki Y (Ka Y (Ki Y (kCutH Y Y Y om (Ki Y (kClo Y Y (Ks Y Y (Ki Y ?_)))))))))))))))))))))))))))))))))))) (fun g1 => Kg Y (Kg Y (Kg Y (Kg Y (Kg Y (Kg Y (kMem [(20480, ⟨2, 0, .box [.d _, .d _, .d _, .d _, .d _, .d _, .d _]⟩), (8192, ⟨1, 0, .box [.d _, .d _, .d _]⟩)] [(4, .c (.ptr 20480 2 0)), (45, .c (.un)), (39, .c (.d _)), (1, .c (.ptr 8192 1 0)), (3, .c (.d _))] [] ⟨Y, Y, trivial⟩ ⟨Y, Y, Y, Y, Y, trivial⟩ Y (Kg Y (Ks Y Y (Kg Y (Kg Y (Kl Y (Ka Y (Ka Y (Ki Y (Kf Y Y (Ki Y (Ke Y Y Y (Ki Y (Ka Y (Ki Y (kCutH Y Y Y om (Ki Y (kClo Y Y (Ks Y Y (Ki Y ?_))))))))))))))))))))))))))))))))))))))))))) (fun g0 => om))))
    · rw [cache_no hlt (by rw [hq, prevS_pos (by omega) hlt (by omega), decide_eq_false (by omega)]; rfl)]
    · refine Ku true (ok_slices_ContainsFunc_Limpl_Slot_impl_Slot (c.slots.take i) SmallS (fun o => o.used == c.slots[i].used) (by simp; omega) (fun x hx => hm x (List.mem_of_mem_take hx))) ⟨rfl, ⟨rfl, ⟨_, Tryz.func144, rfl, by kernel_rfl⟩, _, rfl, ?_⟩, trivial⟩ Y Y Y (fun os => ?_)
      · rintro _ R ⟨x, hx, rfl, rfl⟩
        exact ⟨by rintro _ rfl; rfl, ok_impl_CacheOk_1 x c.slots[i]⟩
      cases hu : (c.slots.take i).any fun o => o.used == c.slots[i].used
      · refine Kl Y (Ka Y (Kd (kH (kCondF Y (Kn (Kv (Kc (kAdd Y Y om (Ka Y (Kd ?_))))))))))
        refine kInv ⟨⟨i + 1, by omega, range_all hz (by rw [hq, hu, prevS_pos om hlt om, decide_eq_true om]; rfl)⟩, by simp only; omega, .normA⟩
      · refine Kl Y (Ka Y (Kd (kH (kCondT Y (Kbc (Ka Y (Kd (Kr (Er (ra := [.one (.d _)]) rfl ?_)))))))))
        rw [cache_no hlt (by rw [hq, hu]; simp)]
    · refine Ku true (ok_slices_ContainsFunc_Limpl_Slot_impl_Slot (c.slots.take i) SmallS (fun o => o.used == c.slots[i].used) (by simp; omega) (fun x hx => hm x (List.mem_of_mem_take hx))) ⟨rfl, ⟨rfl, ⟨_, Tryz.func144, rfl, by kernel_rfl⟩, _, rfl, ?_⟩, trivial⟩ Y Y Y (fun os => ?_)
      · rintro _ R ⟨x, hx, rfl, rfl⟩
        exact ⟨by rintro _ rfl; rfl, ok_impl_CacheOk_1 x c.slots[i]⟩
      cases hu : (c.slots.take i).any fun o => o.used == c.slots[i].used
      · refine Kl Y (Ka Y (Kd (kH (kCondF Y (Kn (Kv (Kc (kAdd Y Y om (Ka Y (Kd ?_))))))))))
        refine kInv ⟨⟨i + 1, by omega, range_all hz (by rw [hq, hu, show prevS c.slots i = true from (by cases (show i = 0 by omega); exact prevS_zero)]; rfl)⟩, by simp only; omega, .normA⟩
      · refine Kl Y (Ka Y (Kd (kH (kCondT Y (Kbc (Ka Y (Kd (Kr (Er (ra := [.one (.d _)]) rfl ?_)))))))))
        rw [cache_no hlt (by rw [hq, hu]; simp)]
  · rw [show cacheOk c = true by unfold cacheOk; rw [a3, decide_eq_true k1, decide_eq_true k2, decide_eq_true k3, show (List.range c.slots.length).all (sAt c.slots) = true by rw [show c.slots.length = i by omega]; exact hz]; rfl]
    refine Kbc (Kj Y Y Y (Kdb (Km Y (fun g0 => om) (fun g0 => kExit (kExC (kExI (kExB (Kbc (Ka Y (Kd (Kr (Er (ra := [.one (.d _)]) rfl rfl))))))))))))

def c_bytes_Clone : C := (.g (.o 0 2 (.mov (.n 1)) .done) (.seq (.g (.o 0 3 (.mov (.t 0)) (.o 1 4 (.eqn false (.t 3)) .done)) (.cond (.t 4) (.g (.o 0 2 (.mov (.n 1)) .done) .ret) .skip)) (.g (.o 0 5 (.lit 5 1 [(.v (.int .u8 0))] 0 []) (.o 1 6 (.mov (.t 0)) (.o 2 7 (.app 7 1 1 (.t 5) (.t 6)) (.o 3 2 (.mov (.t 7)) .done)))) .ret)))
theorem dg_bytes_Clone : Tryz.f233.body.bind (digC Tryz.prog Tryz.f233.ntmps []) = some c_bytes_Clone := by kernel_rfl
theorem rs_bytes_Clone : resSlots Tryz.prog Tryz.f233 = some [.s 2] := by kernel_rfl
theorem ok_bytes_Clone (b : List UInt8) (hb : b.length ≤ 140737488355328) :
    FnOK Tryz.prog 233 [.one (.d (encB b))] (fun ra _ => ra = [.one (.own true (encB b))]) := by
  refine FnOK.ofK Tryz.func233 (by kernel_rfl) dg_bytes_Clone rs_bytes_Clone rfl rfl ?_
  delta c_bytes_Clone T.o X.i C.g
  refine Kbc (Ka Y (Kd ?_))
  refine Kb (Kbc (Ka Y (kEqn Y Y Y fun n hn => Kd ?_)))
  refine kCond Y (fun h => ?_) (fun h => ?_)
  · refine Kbc (Ka Y (Kd (Kr ?_)))
    refine endRet (ra := [.one (.own true (.sl 1 []))]) rfl ⟨⟨rfl, trivial⟩, nodupB_sound rfl, trivial, trivial⟩ ?_
    have : b = [] := by
      rw [len_encB] at hn
      cases b with
      | nil => rfl
      | cons x l => have := hn (by simp); simp [this] at h
    rw [this]; rfl
  · refine Kn (Kbc ?_)
    refine kLit Y Y Y Y (Ka Y ?_)
    refine kApp (cy := .d (encB b)) rfl rfl rfl (src_encB _ b) rfl rfl ⟨rfl, rfl, Nat.zero_lt_one⟩ Y ?_ (Ka Y (Kd (Kr ?_)))
    · show ((DV.sl 1 (chunk 1 0 [])).len + (encB b).len) * 1 ≤ _ ∧ _
      rw [len_encB]; simp [DV.len, chunk]; omega
    refine endRet (ra := [.one (.own true _)]) rfl ⟨⟨⟨⟨_, rfl, fun _ => rfl⟩, .inl (Nat.zero_lt_succ _)⟩, trivial⟩, nodupB_sound rfl, trivial, trivial⟩ ?_
    exact congrArg (fun x => [RA.one (RV.own true x)]) (app_nil_encB b)

def c_impl_Name_copied : C := (.g (.o 0 1 (.box 1 (.t 0)) (.o 1 2 (.alloc 2 [(.n 1)]) .done)) (.g (.o 0 6 (.build [(.n 1)] []) (.o 1 3 (.alloc 3 [(.n 1)]) (.op 2 [] none none false (.store (some 1) (.t 3) (.t 6)) .done))) (.seq (.g (.o 0 7 (.fad (.t 1) 0) (.o 1 8 (.load none (.t 7)) (.o 2 9 (.len (.t 8)) (.o 3 10 (.mov (.i 0)) .done)))) (.block 0 (.loop (.g (.o 0 11 (.bin .lss (.t 10) (.t 9)) .done) (.seq (.cond (.t 11) .skip (.exit 0)) (.seq (.block 1 (.g (.o 0 12 (.iad 1 (.t 8) (.t 10)) (.o 1 13 (.load none (.t 12)) (.o 2 5 (.mov (.t 13)) .done))) (.reg true (.op 0 [] (some 14) none true (.fad (.t 3) 0) (.op 1 [] (some 15) none true (.load none (.t 14)) (.op 2 [] (some 16) none true (.mov (.t 5)) (.o 3 17 (.call 17 233 [(.t 16)]) (.o 4 18 (.lit 18 1 [(.n 1)] 1 [(0, 1, (.t 17))]) (.op 5 [1] (some 19) none false (.app 19 1 24 (.t 15) (.t 18)) (.op 6 [] (some 20) none true (.fad (.t 3) 0) (.op 7 [1] none none false (.store none (.t 20) (.t 19)) .done))))))))))) (.reg false (.o 0 21 (.bin .add (.t 10) (.i 1)) (.o 1 10 (.mov (.t 21)) .done))))))))) (.g (.o 0 22 (.load (some 1) (.t 3)) (.op 1 [] none none false (.store (some 1) (.t 2) (.t 22)) .done)) .ret))))
theorem dg_impl_Name_copied : Tryz.f151.body.bind (digC Tryz.prog Tryz.f151.ntmps []) = some c_impl_Name_copied := by kernel_rfl
theorem rs_impl_Name_copied : resSlots Tryz.prog Tryz.f151 = some [.m 2 (some 1)] := by kernel_rfl
theorem ok_impl_Name_copied (a : List (List UInt8)) (ha : a.length ≤ 4194304) (hb : ∀ b ∈ a, b.length ≤ 4194304) :
    FnOK Tryz.prog 151 [.agg [.d (encBB a)]] (fun ra _ => ra = [.agg [.own true (encBB a)]]) := by
  refine FnOK.ofK Tryz.func151 (by kernel_rfl) dg_impl_Name_copied rs_impl_Name_copied rfl rfl ?_
  delta c_impl_Name_copied T.o X.i C.g
  refine Kbc (kBox Y Y Y Y Y (kAlloc Y Y (Kd ?_)))
  refine Kbc (kBuild Y (kAlloc Y Y (Ko Y Y Y Y (Kd ?_))))
  refine Kb (Kbc (Kf Y Y (Ke Y Y Y (kLen Y Y Y (Ka Y (Kd (Kt ?_)))))))
  rw [len_encBB]
  refine kSub (Sub.nilBox (id := rid 3 0) (id2 := rid 5000 0) (j := 0) rfl rfl rfl (by decide) (by decide)) ?_
  refine kLoop (α := { i : Nat // i ≤ a.length })
    (fun y => ⟨tabSl [(1, .c (.ptr (rid 1 0) 1 0)), (2, .c (.ptr (rid 2 0) 1 0)), (3, .c (.ptr (rid 3 0) 1 0)), (8, .dv (encBB a)), (9, .i a.length), (10, .i y.1)],
      obTab 1 [(rid 1 0, ⟨1, 0, .box [.d (encBB a)]⟩), (rid 2 0, ⟨1, 0, .box [.nil 1]⟩), (rid 3 0, ⟨1, 0, .box [.arr (rid 5000 0) 1]⟩), (rid 5000 0, ⟨1, 0, .arr true (encBB (a.take y.1))⟩)], []⟩) (fun y => a.length - y.1) ⟨0, by simp⟩
    (.norm ?_ ?_) ?_
  · repeat' first | exact trivial | exact rfl | exact .inl rfl | refine ⟨_, rfl, ?_⟩ | refine ⟨?_, ?_⟩ | fail
  · repeat' first | exact trivial | exact rfl | exact .inl rfl | refine ⟨_, rfl, ?_⟩ | refine ⟨?_, ?_⟩ | fail
  rintro ⟨i, hi⟩
  simp only at hi ⊢
  refine Kbc (Kj Y Y Y (Kdb ?_))
  refine kCond Y (fun h1 => ?_) (fun h1 => ?_)
  · have hlt : i < a.length := by simp at h1; omega
    refine Kn (Kb (Kt (Kbc ?_)))
    refine kIadD Y Y Y Y ?_ ?_
    · rw [len_encBB]; omega
    rw [show (encBB a).row (i : Int).toNat = [encB a[i]] from row_encBB a i hlt]
    refine Ky Y Y (Ka Y (Kd (kRegD (Kf Y Y (Ke Y Y Y (Ka Y ?_))))))
    refine Ku false (ok_bytes_Clone a[i] (Nat.le_trans (hb _ (List.getElem_mem hlt)) om)) ⟨Y, trivial⟩ rfl rfl rfl fun os => ?_
    refine kLit Y Y Y Y (Ks Y Y ?_)
    refine kApp Y Y Y Y Y Y ⟨rfl, rfl, Nat.zero_lt_one⟩ Y ?_ ?_
    · show ((encBB (a.take i)).len + (DV.sl 1 [[encB a[i]]]).len) * 24 ≤ _ ∧ (encBB (a.take i)).len + (DV.sl 1 [[encB a[i]]]).len ≤ _
      rw [len_encBB, List.length_take]; simp [DV.len, DV.rows]; omega
    refine Kf Y Y (Ks Y Y (Ko Y Y Y Y (Kd (kH (Kv (Kc (kAdd Y Y om (Ka Y (Kd ?_)))))))))
    refine kInv ⟨⟨i + 1, hlt⟩, by simp only; omega, .norm ?_ ?_⟩
    · repeat' first | exact trivial | exact rfl | exact .inl rfl | refine ⟨_, rfl, ?_⟩ | refine ⟨?_, ?_⟩ | fail
    · repeat' first | exact trivial | exact rfl | exact .inl rfl | refine ⟨_, rfl, ?_⟩ | refine ⟨?_, ?_⟩ | fail
      rw [← List.take_append_getElem hlt, ← app_encBB]
      rfl
  · refine kExit (kExC (kExI (kExB (Kbc (Ke Y Y Y (Ko Y Y Y Y (Kd ?_)))))))
    have hge : i = a.length := by simp at h1; omega
    subst hge
    refine Kr (endRet (ra := [.agg [.own true _]]) rfl ⟨⟨⟨⟨⟨⟨_, rfl, fun _ => rfl⟩, .inl Nat.zero_lt_one⟩, trivial⟩, leb⟩, trivial⟩, nodupB_sound rfl, ⟨trivial, trivial⟩, trivial⟩ ?_)
    rw [List.take_length]

def c_slices_Clone_Lint_int : C := (.g (.o 0 2 (.mov (.n 1)) .done) (.seq (.g (.o 0 3 (.mov (.t 0)) (.o 1 4 (.eqn false (.t 3)) .done)) (.cond (.t 4) (.g (.o 0 2 (.mov (.n 1)) .done) .ret) .skip)) (.g (.o 0 5 (.lit 5 1 [(.i 0)] 0 []) (.o 1 6 (.mov (.t 0)) (.o 2 7 (.app 7 1 8 (.t 5) (.t 6)) (.o 3 2 (.mov (.t 7)) .done)))) .ret)))
theorem dg_slices_Clone_Lint_int : Tryz.f188.body.bind (digC Tryz.prog Tryz.f188.ntmps []) = some c_slices_Clone_Lint_int := by kernel_rfl
theorem rs_slices_Clone_Lint_int : resSlots Tryz.prog Tryz.f188 = some [.s 2] := by kernel_rfl
theorem ok_slices_Clone_Lint_int (b : List Int) (hb : b.length ≤ 4194304) :
    FnOK Tryz.prog 188 [.one (.d (Hearth.encI b))] (fun ra _ => ra = [.one (.own true (Hearth.encI b))]) := by
  refine FnOK.ofK Tryz.func188 (by kernel_rfl) dg_slices_Clone_Lint_int rs_slices_Clone_Lint_int rfl rfl ?_
  delta c_slices_Clone_Lint_int T.o X.i C.g
  refine Kbc (Ka Y (Kd ?_))
  refine Kb (Kbc (Ka Y (kEqn Y Y Y fun n hn => Kd ?_)))
  refine kCond Y (fun h => ?_) (fun h => ?_)
  · refine Kbc (Ka Y (Kd (Kr ?_)))
    refine endRet (ra := [.one (.own true (.sl 1 []))]) rfl ⟨⟨rfl, trivial⟩, nodupB_sound rfl, trivial, trivial⟩ ?_
    have : b = [] := by
      rw [len_encI] at hn
      cases b with
      | nil => rfl
      | cons x l => have := hn (by simp); simp [this] at h
    rw [this]; rfl
  · refine Kn (Kbc ?_)
    refine kLit Y Y Y Y (Ka Y ?_)
    refine kApp (cy := .d (Hearth.encI b)) rfl rfl rfl (src_encI _ b) rfl rfl ⟨rfl, rfl, Nat.zero_lt_one⟩ Y ?_ (Ka Y (Kd (Kr ?_)))
    · show ((DV.sl 1 (chunk 1 0 [])).len + (Hearth.encI b).len) * 8 ≤ _ ∧ _
      rw [len_encI]; simp [DV.len, chunk]; omega
    refine endRet (ra := [.one (.own true _)]) rfl ⟨⟨⟨⟨_, rfl, fun _ => rfl⟩, .inl (Nat.zero_lt_succ _)⟩, trivial⟩, nodupB_sound rfl, trivial, trivial⟩ ?_
    exact congrArg (fun x => [RA.one (RV.own true x)]) (app_nil_encI b)

def c_impl_Rr_copied : C := (.g (.o 0 1 (.box 1 (.t 0)) (.o 1 2 (.alloc 2 [(.n 1), (.i 0), (.i 0), (.i 0), (.n 1), (.n 1), (.n 1)]) .done)) (.seq (.reg true (.op 0 [] (some 3) none true (.fad (.t 1) 0) (.op 1 [] (some 4) none true (.load (some 1) (.t 3)) (.op 3 [] (some 6) none true (.fad (.t 1) 4) (.op 4 [] (some 7) none true (.load (some 1) (.t 6)) (.op 6 [] (some 9) none true (.fad (.t 1) 5) (.op 7 [] (some 10) none true (.load none (.t 9)) (.op 9 [] (some 12) none true (.fad (.t 1) 6) (.op 10 [] (some 13) none true (.load none (.t 12)) (.op 2 [1] (some 5) none false (.call 5 151 [(.t 4)]) (.op 12 [] (some 15) none true (.fad (.t 1) 0) (.op 5 [4, 1] (some 8) none false (.call 8 151 [(.t 7)]) (.op 8 [7, 4, 1] (some 11) none false (.call 11 233 [(.t 10)]) (.op 11 [10, 7, 4, 1] (some 14) none false (.call 14 188 [(.t 13)]) (.op 13 [1, 4, 7, 10] none none false (.store (some 1) (.t 15) (.t 5)) (.op 14 [] (some 16) none true (.fad (.t 1) 4) (.op 15 [1, 4, 7, 10] none none false (.store (some 1) (.t 16) (.t 8)) (.op 16 [] (some 17) none true (.fad (.t 1) 5) (.op 17 [1, 4, 7, 10] none none false (.store none (.t 17) (.t 11)) (.op 18 [] (some 18) none true (.fad (.t 1) 6) (.op 19 [1, 4, 7, 10] none none false (.store none (.t 18) (.t 14)) .done))))))))))))))))))))) (.g (.o 0 19 (.load (some 7) (.t 1)) (.op 1 [] none none false (.store (some 7) (.t 2) (.t 19)) .done)) .ret)))
theorem dg_impl_Rr_copied : Tryz.f172.body.bind (digC Tryz.prog Tryz.f172.ntmps []) = some c_impl_Rr_copied := by kernel_rfl
theorem rs_impl_Rr_copied : resSlots Tryz.prog Tryz.f172 = some [.m 2 (some 7)] := by kernel_rfl
theorem ok_impl_Rr_copied (r : Rr) (hs : SmallR r) :
    FnOK Tryz.prog 172 [.agg (r.cells.map .d)] (fun ra _ => ra = [.agg [.own true (encBB r.name), .d (.sc (.int .i64 r.ty)), .d (.sc (.int .i64 r.ttl)), .d (.sc (.int .i64 r.addr)), .own true (encBB r.to), .own true (encB r.text), .own true (Hearth.encI r.nums)]]) := by
  refine FnOK.ofK Tryz.func172 (by kernel_rfl) dg_impl_Rr_copied rs_impl_Rr_copied rfl rfl ?_
  delta c_impl_Rr_copied T.o X.i C.g
  have n1 := hs.n.len
  have n2 := hs.n.mem
  have t1 := hs.t.len
  have t2 := hs.t.mem
  have x1 := hs.x
  have m1 := hs.m
  refine Kb (kCut ⟨tabSl [(1, .c (.ptr (rid 1 0) 1 0)), (2, .c (.ptr (rid 2 0) 1 0))], obTab 1 [(rid 1 0, ⟨1, 0, .box (r.cells.map .d)⟩), (rid 2 0, ⟨1, 0, .box [.nil 1, .d (.sc (.int .i64 0)), .d (.sc (.int .i64 0)), .d (.sc (.int .i64 0)), .nil 1, .nil 1, .nil 1]⟩)], []⟩ ?_ (fun x hc => ?_))
  case refine_2 => refine kReg (kBox rfl rfl rfl rfl rfl (kAlloc rfl rfl (kDone (hc _ .normA))))
  refine Kb (kCut ⟨tabSl [(1, .c (.ptr (rid 1 0) 1 0)), (2, .c (.ptr (rid 2 0) 1 0))], obTab 1 [(rid 1 0, ⟨1, 0, .box [.arr (rid 5 0) 1, .d (.sc (.int .i64 r.ty)), .d (.sc (.int .i64 r.ttl)), .d (.sc (.int .i64 r.addr)), .arr (rid 8 0) 1, .arr (rid 11 0) 1, .arr (rid 14 0) 1]⟩), (rid 2 0, ⟨1, 0, .box [.nil 1, .d (.sc (.int .i64 0)), .d (.sc (.int .i64 0)), .d (.sc (.int .i64 0)), .nil 1, .nil 1, .nil 1]⟩), (rid 5 0, ⟨1, 0, .arr true (encBB r.name)⟩), (rid 8 0, ⟨1, 0, .arr true (encBB r.to)⟩), (rid 11 0, ⟨1, 0, .arr true (encB r.text)⟩), (rid 14 0, ⟨1, 0, .arr true (Hearth.encI r.nums)⟩)], []⟩ ?_ (fun x hc => ?_))
  case refine_2 => refine kRegD (kFadP rfl rfl (kLoadP rfl rfl rfl (kFadP rfl rfl (kLoadP rfl rfl rfl (kFadP rfl rfl (kLoadP rfl rfl rfl (kFadP rfl rfl (kLoadP rfl rfl rfl (kRelK rfl rfl (kCall1 true (ok_impl_Name_copied _ pr pr) ⟨⟨⟨rfl, trivial⟩, leb⟩, trivial⟩ rfl rfl rfl (fun _ => (kFadP rfl rfl (kRelK rfl rfl (kCall1 true (ok_impl_Name_copied _ pr pr) ⟨⟨⟨rfl, trivial⟩, leb⟩, trivial⟩ rfl rfl rfl (fun _ => (kRelK rfl rfl (kCall1 true (ok_bytes_Clone _ pr) ⟨rfl, trivial⟩ rfl rfl rfl (fun _ => (kRelF rfl rfl (kCall1 true (ok_slices_Clone_Lint_int _ pr) ⟨rfl, trivial⟩ rfl rfl rfl (fun _ => (kRelF rfl rfl (kStoreP rfl rfl rfl rfl (kFadP rfl rfl (kRelF rfl rfl (kStoreP rfl rfl rfl rfl (kFadP rfl rfl (kRelF rfl rfl (kStoreP rfl rfl rfl rfl (kFadP rfl rfl (kRelF rfl rfl (kStoreP rfl rfl rfl rfl (kDone (kH (kMem [(8192, ⟨1, 0, .box [.arr 24576 2, .d _, .d _, .d _, .arr 36864 2, .arr 49152 2, .arr 61440 2]⟩), (12288, ⟨1, 0, .box [.nil 1, .d _, .d _, .d _, .nil 1, .nil 1, .nil 1]⟩), (24576, ⟨2, 0, .arr true _⟩), (36864, ⟨2, 0, .arr true _⟩), (49152, ⟨2, 0, .arr true _⟩), (61440, ⟨2, 0, .arr true _⟩)] [(1, .c (.ptr 8192 1 0)), (2, .c (.ptr 12288 1 0))] [] ⟨rfl, rfl, rfl, rfl, rfl, rfl, trivial⟩ ⟨rfl, rfl, trivial⟩ rfl (hc _ .normA))))))))))))))))))))))))))))))))))))
  refine Kb (kCut ⟨tabSl [(2, .c (.ptr (rid 2 0) 1 0))], obTab 1 [(rid 2 0, ⟨1, 0, .box [.arr (rid 5 0) 1, .d (.sc (.int .i64 r.ty)), .d (.sc (.int .i64 r.ttl)), .d (.sc (.int .i64 r.addr)), .arr (rid 8 0) 1, .arr (rid 11 0) 1, .arr (rid 14 0) 1]⟩), (rid 5 0, ⟨1, 0, .arr true (encBB r.name)⟩), (rid 8 0, ⟨1, 0, .arr true (encBB r.to)⟩), (rid 11 0, ⟨1, 0, .arr true (encB r.text)⟩), (rid 14 0, ⟨1, 0, .arr true (Hearth.encI r.nums)⟩)], []⟩ ?_ (fun x hc => ?_))
  case refine_2 => refine kReg (kLoadP rfl rfl rfl (kStoreP rfl rfl rfl rfl (kDone (hc _ .normA))))
  refine (Kr (Er (ra := [.agg [(.own true _), (.d _), (.d _), (.d _), (.own true _), (.own true _), (.own true _)]]) rfl rfl))

def c_impl_copyRrs : C := (.g (.o 0 2 (.mov (.n 7)) .done) (.g (.o 0 6 (.lit 6 7 [(.n 1), (.i 0), (.i 0), (.i 0), (.n 1), (.n 1), (.n 1)] 0 []) (.o 1 3 (.mov (.t 6)) .done)) (.seq (.g (.o 0 7 (.mov (.t 0)) (.o 1 8 (.len (.t 7)) (.o 2 9 (.mov (.i 0)) .done))) (.block 0 (.loop (.g (.o 0 10 (.bin .lss (.t 9) (.t 8)) .done) (.seq (.cond (.t 10) .skip (.exit 0)) (.seq (.block 1 (.g (.o 0 11 (.iad 7 (.t 7) (.t 9)) (.o 1 12 (.load (some 7) (.t 11)) (.o 2 5 (.alloc 5 [(.n 1), (.i 0), (.i 0), (.i 0), (.n 1), (.n 1), (.n 1)]) (.op 3 [] none none false (.store (some 7) (.t 5) (.t 12)) .done)))) (.reg false (.o 0 13 (.mov (.t 3)) (.o 1 14 (.load (some 7) (.t 5)) (.o 2 15 (.call 15 172 [(.t 14)]) (.o 3 16 (.lit 16 7 [(.n 1), (.i 0), (.i 0), (.i 0), (.n 1), (.n 1), (.n 1)] 1 [(0, 7, (.t 15))]) (.o 4 17 (.app 17 7 120 (.t 13) (.t 16)) (.o 5 3 (.mov (.t 17)) .done))))))))) (.reg false (.o 0 18 (.bin .add (.t 9) (.i 1)) (.o 1 9 (.mov (.t 18)) .done))))))))) (.g (.o 0 19 (.mov (.t 3)) (.o 1 2 (.mov (.t 19)) .done)) .ret))))
theorem dg_impl_copyRrs : Tryz.f81.body.bind (digC Tryz.prog Tryz.f81.ntmps []) = some c_impl_copyRrs := by kernel_rfl
theorem rs_impl_copyRrs : resSlots Tryz.prog Tryz.f81 = some [.s 2] := by kernel_rfl
theorem ok_impl_copyRrs (l : List Rr) (hs : SmallRs l) :
    FnOK Tryz.prog 81 [.one (.d (encR l))] (fun ra _ => ra = [.one (.own true (encR l))]) := by
  refine FnOK.ofK Tryz.func81 (by kernel_rfl) dg_impl_copyRrs rs_impl_copyRrs rfl rfl ?_
  delta c_impl_copyRrs T.o X.i C.g
  have h1 := hs.len
  refine Kbc (Ka Y (Kdb (Kc (kLit Y Y Y Y (Ka Y (Kdb (Kbc (Ka Y (Kq Y Y (Ka Y (Kd (Kt ?_))))))))))))
  refine kLoop (α := { i : Nat // i ≤ l.length }) (fun y => ⟨tabSl [(3, .c (.arr (rid 6 0) 1)), (7, .dv (encR l)), (8, .i l.length), (9, .i y.1)], obTab 1 [(rid 6 0, ⟨1, 0, .arr true (encR (l.take y.1))⟩)], []⟩) (fun y => l.length - y.1) ⟨0, by simp⟩ .normA ?_
  rintro ⟨i, hi⟩
  simp only
  have hlen : (l.take i).length = i := by simp; omega
  rcases Nat.lt_or_ge i l.length with hlt | hge
  · have hbi := hs.mem _ (List.getElem_mem hlt)
    refine Kbc (Kj Y Y Y (Kdb (Km Y (fun g0 => Kn (Kb (Kt (Kbc (kIadR Y Y Y om (Ky Y Y (kAlloc Y Y (Ko Y Y Y Y (Kd (Kc (Ka Y (Ke Y Y Y (Ku true (ok_impl_Rr_copied _ pr) ⟨⟨⟨Y, Y, Y, Y, Y, Y, Y, trivial⟩, leb⟩, trivial⟩ Y Y Y (fun _ => (kLit Y Y Y Y (kAppRec Y Y Y Y Y Y Y om (Ka Y (Kd (Kv (Kc (kAdd Y Y om (Ka Y (Kd ?_))))))))))))))))))))))) (fun g0 => om))))
    exact kInv ⟨⟨i + 1, by omega⟩, by simp only; omega, .normA⟩
  · refine Kbc (Kj Y Y Y (Kdb (Km Y (fun g0 => om) (fun g0 => kExit (kExC (kExI (kExB (Kbc (Ka Y (Ka Y (Kd (Kr (Er (ra := [.one (.own true _)]) rfl ?_)))))))))))))
    rw [show i = l.length by omega, List.take_length]

def c_impl_Cache_copied : C := (.g (.o 0 1 (.box 1 (.t 0)) (.o 1 2 (.alloc 2 [(.i 0), (.i 0), (.n 7)]) .done)) (.g (.o 0 6 (.fad (.t 1) 0) (.o 1 7 (.load none (.t 6)) (.o 2 8 (.fad (.t 1) 1) (.o 3 9 (.load none (.t 8)) (.o 4 10 (.build [(.i 0), (.i 0), (.n 7)] [(0, 1, (.t 7)), (1, 1, (.t 9))]) (.o 5 3 (.alloc 3 [(.i 0), (.i 0), (.n 7)]) (.op 6 [] none none false (.store (some 3) (.t 3) (.t 10)) .done))))))) (.seq (.g (.o 0 11 (.fad (.t 1) 2) (.o 1 12 (.load none (.t 11)) (.o 2 13 (.len (.t 12)) (.o 3 14 (.mov (.i 0)) .done)))) (.block 0 (.loop (.g (.o 0 15 (.bin .lss (.t 14) (.t 13)) .done) (.seq (.cond (.t 15) .skip (.exit 0)) (.seq (.block 1 (.g (.o 0 16 (.iad 7 (.t 12) (.t 14)) (.o 1 17 (.load (some 7) (.t 16)) (.o 2 5 (.alloc 5 [(.n 1), (.i 0), (.i 0), (.n 7), (.i 0), (.i 0), (.i 0)]) (.op 3 [] none none false (.store (some 7) (.t 5) (.t 17)) .done)))) (.seq (.reg true (.op 0 [] (some 18) none true (.fad (.t 5) 0) (.op 1 [] (some 19) none true (.load (some 1) (.t 18)) (.op 3 [] (some 21) none true (.fad (.t 5) 3) (.op 4 [] (some 22) none true (.load none (.t 21)) (.op 2 [1] (some 20) none false (.call 20 151 [(.t 19)]) (.op 6 [] (some 24) none true (.fad (.t 5) 0) (.op 5 [4, 1] (some 23) none false (.call 23 81 [(.t 22)]) (.op 7 [1, 4] none none false (.store (some 1) (.t 24) (.t 20)) (.op 8 [] (some 25) none true (.fad (.t 5) 3) (.op 9 [1, 4] none none false (.store none (.t 25) (.t 23)) .done))))))))))) (.reg false (.o 0 26 (.fad (.t 3) 2) (.o 1 27 (.load none (.t 26)) (.o 2 28 (.load (some 7) (.t 5)) (.o 3 29 (.lit 29 7 [(.n 1), (.i 0), (.i 0), (.n 7), (.i 0), (.i 0), (.i 0)] 1 [(0, 7, (.t 28))]) (.o 4 30 (.app 30 7 88 (.t 27) (.t 29)) (.o 5 31 (.fad (.t 3) 2) (.op 6 [] none none false (.store none (.t 31) (.t 30)) .done))))))))))) (.reg false (.o 0 32 (.bin .add (.t 14) (.i 1)) (.o 1 14 (.mov (.t 32)) .done))))))))) (.g (.o 0 33 (.load (some 3) (.t 3)) (.op 1 [] none none false (.store (some 3) (.t 2) (.t 33)) .done)) .ret))))
theorem dg_impl_Cache_copied : Tryz.f91.body.bind (digC Tryz.prog Tryz.f91.ntmps []) = some c_impl_Cache_copied := by kernel_rfl
theorem rs_impl_Cache_copied : resSlots Tryz.prog Tryz.f91 = some [.m 2 (some 3)] := by kernel_rfl
theorem ok_impl_Cache_copied (c : Cache) (hs : SmallSs c.slots) :
    FnOK Tryz.prog 91 [.agg (c.cells.map .d)] (fun ra _ => ra = [.agg [.d (.sc (.int .i64 c.now)), .d (.sc (.int .i64 c.turn)), .own true (encS c.slots)]]) := by
  refine FnOK.ofK Tryz.func91 (by kernel_rfl) dg_impl_Cache_copied rs_impl_Cache_copied rfl rfl ?_
  delta c_impl_Cache_copied T.o X.i C.g
  have h1 := hs.len
  have hm := hs.mem
  refine Kbc (kBox Y Y Y Y Y (kAlloc Y Y (Kdb (Kc (Kf Y Y (Ke Y Y Y (Kf Y Y (Ke Y Y Y (kBuildG Y (kAlloc Y Y (kMem [(16384, ⟨1, 0, .box [.d _, .d _, .nil 7]⟩)] [(3, .c (.ptr 16384 1 0)), (10, .g [.d _, .d _, .nil 7])] [] ⟨Y, trivial⟩ ⟨Y, Y, trivial⟩ Y (Ko Y Y Y Y (Kdb (Kbc (Kf Y Y (Ke Y Y Y (Kq Y Y (Ka Y (Kd (Kt ?_))))))))))))))))))))
  refine kSub (Sub.nilBox (id := rid 3 0) (id2 := rid 5000 0) (j := 2) rfl rfl rfl (by decide) (by decide)) ?_
  refine kLoop (α := { i : Nat // i ≤ c.slots.length }) (fun y => ⟨tabSl [(1, .c (.ptr (rid 1 0) 1 0)), (2, .c (.ptr (rid 2 0) 1 0)), (3, .c (.ptr (rid 3 0) 1 0)), (12, .dv (encS c.slots)), (13, .i c.slots.length), (14, .i y.1)], obTab 1 [(rid 1 0, ⟨1, 0, .box (c.cells.map .d)⟩), (rid 2 0, ⟨1, 0, .box [.d (.sc (.int .i64 0)), .d (.sc (.int .i64 0)), .nil 7]⟩), (rid 3 0, ⟨1, 0, .box [.d (.sc (.int .i64 c.now)), .d (.sc (.int .i64 c.turn)), .arr (rid 5000 0) 1]⟩), (rid 5000 0, ⟨1, 0, .arr true (encS (c.slots.take y.1))⟩)], []⟩) (fun y => c.slots.length - y.1) ⟨0, by simp⟩ .normA ?_
  rintro ⟨i, hi⟩
  simp only
  have hlen : (c.slots.take i).length = i := by simp; omega
  rcases Nat.lt_or_ge i c.slots.length with hlt | hge
  · have hbi := hm _ (List.getElem_mem hlt)
    have n1 := hbi.n.len
    have n2 := hbi.n.mem
    have r1 := hbi.r
    refine Kbc (Kj Y Y Y (Kdb (Km Y (fun g0 => Kn (Kb (Kt (Kbc (kIadR Y Y Y prl (Ky Y Y (kAlloc Y Y (kMem [(24576, ⟨2, 0, .box [.nil 1, .d _, .d _, .nil 7, .d _, .d _, .d _]⟩)] [(5, .c (.ptr 24576 2 0)), (17, .g [.d _, .d _, .d _, .d _, .d _, .d _, .d _])] [] ⟨Y, trivial⟩ ⟨Y, Y, trivial⟩ Y (Ko Y Y Y Y (Kdb (kRegD (Kf Y Y (Ke Y Y Y (Kf Y Y (Ke Y Y Y (Kx Y Y (Ku true (ok_impl_Name_copied _ prx prx) ⟨⟨⟨Y, trivial⟩, leb⟩, trivial⟩ Y Y Y (fun _ => (Kf Y Y (Ks Y Y (Ku true (ok_impl_copyRrs _ prx) ⟨Y, trivial⟩ Y Y Y (fun _ => (Ks Y Y (Ko Y Y Y Y (Kf Y Y (Ks Y Y (Ko Y Y Y Y (Kd (kH (Kc (Kf Y Y (Ke Y Y Y (Ke Y Y Y (kLitG Y Y Y Y (kAppSlot Y Y Y Y Y Y Y prl (Kf Y Y (kMem [(16384, ⟨1, 0, .box [.d _, .d _, .arr 20484096 1]⟩), (20484096, ⟨2, 0, .arr true _⟩)] [(31, .c (.ptr 16384 1 2)), (30, .c (.arr 20484096 2))] [] ⟨Y, Y, trivial⟩ ⟨Y, Y, trivial⟩ Y (Ko Y Y Y Y (Kd (Kv (Kc (kAdd Y Y om (Ka Y (Kd ?_)))))))))))))))))))))))))))))))))))))))))))) (fun g0 => om))))
    exact kInv ⟨⟨i + 1, by omega⟩, by simp only; omega, .normA⟩
  · refine Kbc (Kj Y Y Y (Kdb (Km Y (fun g0 => om) (fun g0 => kExit (kExC (kExI (kExB (Kbc (Ke Y Y Y (kMem [(12288, ⟨1, 0, .box [.d _, .d _, .nil 7]⟩), (20484096, ⟨1, 0, .arr true _⟩)] [(2, .c (.ptr 12288 1 0)), (33, .g [.d _, .d _, .arr 20484096 1])] [] ⟨Y, Y, trivial⟩ ⟨Y, Y, trivial⟩ Y (Ko Y Y Y Y (Kd (kMem [(12288, ⟨1, 0, .box [.d _, .d _, .arr 20484096 1]⟩), (20484096, ⟨1, 0, .arr true _⟩)] [(2, .c (.ptr 12288 1 0))] [] ⟨Y, Y, trivial⟩ ⟨Y, trivial⟩ Y (Kr (Er (ra := [.agg [(.d _), (.d _), (.own true _)]]) rfl ?_)))))))))))))))
    rw [show i = c.slots.length by omega, List.take_length]

def c_impl_Cache_get : C := (.g (.o 0 3 (.box 3 (.t 0)) (.o 1 4 (.box 4 (.t 1)) (.o 2 6 (.alloc 6 [(.i 0), (.i 0), (.n 7)]) (.o 3 7 (.mov (.n 7)) (.o 4 8 (.mov (.i 0)) .done))))) (.g (.o 0 13 (.load (some 3) (.t 3)) (.o 1 14 (.load (some 1) (.t 4)) (.o 2 15 (.mov (.t 2)) (.o 3 16 (.call 16 181 [(.t 13), (.t 14), (.t 15)]) (.o 4 9 (.mov (.t 16)) .done))))) (.seq (.g (.o 0 17 (.mov (.t 9)) (.o 1 18 (.bin .lss (.t 17) (.i 0)) .done)) (.cond (.t 18) (.g (.o 0 19 (.load (some 3) (.t 3)) (.op 1 [] none none false (.store (some 3) (.t 6) (.t 19)) (.o 2 7 (.mov (.n 7)) (.o 3 8 (.mov (.i 0)) .done)))) .ret) .skip)) (.g (.o 0 20 (.load (some 3) (.t 3)) (.o 1 21 (.call 21 91 [(.t 20)]) (.op 2 [] none none false (.store (some 3) (.t 3) (.t 21)) .done))) (.g (.o 0 22 (.fad (.t 3) 2) (.o 1 23 (.load none (.t 22)) (.o 2 24 (.mov (.t 9)) (.o 3 25 (.iad 7 (.t 23) (.t 24)) (.o 4 10 (.mov (.t 25)) .done))))) (.seq (.g (.o 0 26 (.fad (.t 3) 1) (.o 1 27 (.load none (.t 26)) (.o 2 28 (.bin .lss (.t 27) (.i 1000000)) .done))) (.cond (.t 28) (.g (.o 0 29 (.fad (.t 3) 1) (.o 1 30 (.load none (.t 29)) (.o 2 31 (.bin .add (.t 30) (.i 1)) (.o 3 32 (.fad (.t 3) 1) (.op 4 [] none none false (.store none (.t 32) (.t 31)) .done))))) (.reg false (.o 0 33 (.mov (.t 10)) (.o 1 34 (.fad (.t 3) 1) (.o 2 35 (.load none (.t 34)) (.o 3 36 (.nck (.t 33)) (.o 4 37 (.fad (.t 36) 6) (.op 5 [] none none false (.store none (.t 37) (.t 35)) .done)))))))) .skip)) (.g (.o 0 38 (.mov (.t 10)) (.o 1 39 (.nck (.t 38)) (.o 2 40 (.fad (.t 39) 3) (.o 3 41 (.load none (.t 40)) (.o 4 42 (.call 42 81 [(.t 41)]) (.o 5 11 (.mov (.t 42)) .done)))))) (.seq (.g (.o 0 43 (.mov (.t 11)) (.o 1 44 (.len (.t 43)) (.o 2 45 (.mov (.i 0)) .done))) (.block 0 (.loop (.g (.o 0 46 (.bin .lss (.t 45) (.t 44)) .done) (.seq (.cond (.t 46) .skip (.exit 0)) (.seq (.block 1 (.g (.o 0 47 (.mov (.t 45)) (.o 1 12 (.mov (.t 47)) .done)) (.reg true (.op 0 [] (some 48) none true (.mov (.t 11)) (.op 1 [] (some 49) none true (.mov (.t 12)) (.op 2 [] (some 50) none true (.mov (.t 11)) (.op 3 [] (some 51) none true (.mov (.t 12)) (.op 4 [] (some 52) none true (.iad 7 (.t 50) (.t 51)) (.op 5 [] (some 53) none true (.fad (.t 52) 2) (.op 6 [] (some 54) none true (.load none (.t 53)) (.op 7 [] (some 55) none true (.mov (.t 10)) (.op 8 [] (some 56) none true (.nck (.t 55)) (.op 9 [] (some 57) none true (.fad (.t 56) 5) (.op 10 [] (some 58) none true (.load none (.t 57)) (.op 11 [] (some 59) none true (.fad (.t 3) 0) (.op 12 [] (some 60) none true (.load none (.t 59)) (.op 13 [] (some 61) none true (.bin .sub (.t 58) (.t 60)) (.op 14 [] (some 62) none true (.mm false (.t 54) (.t 61)) (.op 15 [] (some 63) none true (.iad 7 (.t 48) (.t 49)) (.op 16 [] (some 64) none true (.fad (.t 63) 2) (.op 17 [6, 10, 12] none none false (.store none (.t 64) (.t 62)) .done))))))))))))))))))))) (.reg false (.o 0 65 (.bin .add (.t 45) (.i 1)) (.o 1 45 (.mov (.t 65)) .done))))))))) (.seq (.reg true (.op 0 [] (some 66) none true (.load (some 3) (.t 3)) (.op 1 [] (some 67) none true (.mov (.t 11)) (.op 2 [] (some 68) none true (.mov (.t 10)) (.op 3 [] (some 69) none true (.nck (.t 68)) (.op 4 [] (some 70) none true (.fad (.t 69) 2) (.op 5 [] (some 71) none true (.load none (.t 70)) (.op 6 [0] none none false (.store (some 3) (.t 6) (.t 66)) (.op 7 [] (some 7) none true (.mov (.t 67)) (.op 8 [] (some 8) none true (.mov (.t 71)) .done)))))))))) .ret)))))))))
theorem dg_impl_Cache_get : Tryz.f90.body.bind (digC Tryz.prog Tryz.f90.ntmps []) = some c_impl_Cache_get := by kernel_rfl
theorem rs_impl_Cache_get : resSlots Tryz.prog Tryz.f90 = some [.m 6 (some 3), .s 7, .s 8] := by kernel_rfl
theorem ok_impl_Cache_get (c : Cache) (n : List (List UInt8)) (t : Int) (hs : SmallSs c.slots) (hn : n.length ≤ 4194304) (hc : 0 ≤ c.now ∧ 0 ≤ c.turn ∧ c.turn ≤ 1000000) (hu : ∀ s ∈ c.slots, 0 ≤ s.til ∧ s.til ≤ 100000000 ∧ c.now ≤ 100000000) :
    FnOK Tryz.prog 90 [.agg (c.cells.map .d), .agg [.d (encBB n)], .one (.d (.sc (.int .i64 t)))] (fun ra _ => ra = [.agg [.d (.sc (.int .i64 (getC c n t).now)), .d (.sc (.int .i64 (getC c n t).turn)), .d (encS (getC c n t).slots)], .one (.own true (encR (getL c n t))), .one (.d (.sc (.int .i64 (getK c n t))))]) := by
  refine FnOK.ofK Tryz.func90 (by kernel_rfl) dg_impl_Cache_get rs_impl_Cache_get rfl rfl ?_
  delta c_impl_Cache_get T.o X.i C.g
  have hl := hs.len
  have hstopo18 := trivial
  refine Kbc (kBox Y Y Y Y Y (kBox Y Y Y Y Y (kAlloc Y Y (Ka Y (Ka Y (Kdb (Kc (Ke Y Y Y (Ke Y Y Y (Ka Y (Kp (ok_impl_Cache_find _ _ _ prx prx) ⟨⟨⟨Y, Y, Y, trivial⟩, leb⟩, ⟨⟨Y, trivial⟩, leb⟩, rfl, trivial⟩ Y Y Y Y Y (Ka Y (Kdb (Kb ?_))))))))))))))
  clear hstopo18
  rcases findS_cases c.slots n t with e | ⟨i, hi, e⟩
  · rw [e]
    have e1 : getC c n t = c := by unfold getC; rw [e]; rfl
    have e2 : getL c n t = [] := by unfold getL; rw [e]; rfl
    have e3 : getK c n t = 0 := by unfold getK; rw [e]; rfl
    rw [e1, e2, e3]
    refine Kc (Ka Y (Kj Y Y Y (Kd (kCondT Y (Kbc (kMem [(16384, ⟨1, 0, .box [.d _, .d _, .d _]⟩), (28672, ⟨1, 0, .box [.d _, .d _, .nil 7]⟩)] [(3, .c (.ptr 16384 1 0)), (6, .c (.ptr 28672 1 0)), (19, .c (.un))] [] ⟨Y, Y, trivial⟩ ⟨Y, Y, Y, trivial⟩ Y (Ke Y Y Y (kMem [(28672, ⟨1, 0, .box [.d _, .d _, .nil 7]⟩)] [(6, .c (.ptr 28672 1 0)), (19, .g [.d _, .d _, .d _])] [] ⟨Y, trivial⟩ ⟨Y, Y, trivial⟩ Y (Ko Y Y Y Y (Ka Y (Ka Y (Kd (kMem [(28672, ⟨1, 0, .box [.d _, .d _, .d _]⟩)] [(6, .c (.ptr 28672 1 0)), (7, .c (.nil 7)), (8, .c (.d _))] [] ⟨Y, trivial⟩ ⟨Y, Y, Y, trivial⟩ Y (Kr (Er (ra := [.agg [(.d _), (.d _), (.d _)], .one (.own true _), .one (.d _)]) rfl rfl)))))))))))))))
  · rw [e]
    have hsi := slotAt_eq hi e
    have hu1 := hu _ (List.getElem_mem hi)
    have hsm := hs.mem _ (List.getElem_mem hi)
    have hsr := hsm.r
    have hsrl := hsr.len
    have e2 : getL c n t = c.slots[i].rrs.map (cutTtl (c.slots[i].til - c.now)) := by unfold getL; rw [e, if_neg (by omega), hsi]
    have e3 : getK c n t = c.slots[i].kind := by unfold getK; rw [e, if_neg (by omega), hsi]
    rw [e2, e3]
    have hg : getC c n t = (if c.turn < 1000000 then (⟨c.now, c.turn + 1, c.slots.set i { c.slots[i] with used := c.turn + 1 }⟩ : Cache) else c) := by
      unfold getC; rw [hsi, e, if_neg (show ¬ ((i : Int) < 0) by omega), Int.toNat_natCast]
    have c1 : (getC c n t).now = c.now := by rw [hg]; split <;> rfl
    have c2 : (getC c n t).slots.length = c.slots.length := by rw [hg]; split <;> simp
    have c3 : ∀ h : i < (getC c n t).slots.length, (getC c n t).slots[i].rrs = c.slots[i].rrs ∧ (getC c n t).slots[i].til = c.slots[i].til ∧ (getC c n t).slots[i].kind = c.slots[i].kind := by
      rw [hg]; intro h; split <;> simp
    have hstopo26 := trivial
    refine Kc (Ka Y (Kj Y Y Y (Kd (kCondF Y (Kn (Kbc (kMem [(16384, ⟨1, 0, .box [.d _, .d _, .d _]⟩)] [(3, .c (.ptr 16384 1 0)), (20, .c (.un)), (21, .c (.un))] [] ⟨Y, trivial⟩ ⟨Y, Y, Y, trivial⟩ Y (Ke Y Y Y (Ku true (ok_impl_Cache_copied _ prx) ⟨⟨⟨Y, Y, Y, trivial⟩, leb⟩, trivial⟩ Y Y Y (fun _ => (kMem [(16384, ⟨1, 0, .box [.d _, .d _, .d _]⟩), (90114, ⟨1, 0, .arr true _⟩)] [(3, .c (.ptr 16384 1 0)), (21, .g [.d _, .d _, .arr 90114 1])] [] ⟨Y, Y, trivial⟩ ⟨Y, Y, trivial⟩ Y (Ko Y Y Y Y (Kdb (Kc (Kf Y Y (Ke Y Y Y (Ka Y (kIadAR Y Y Y Y prl (Ka Y (Kdb (Kb ?_)))))))))))))))))))))
    clear hstopo26
    refine kCut2 ⟨tabSl [(3, .c (.ptr (rid 3 0) 1 0)), (6, .c (.ptr (rid 6 0) 1 0)), (9, .i i), (10, .c (.ept (rid 21 2) 1 i 0))], obTab 1 [(rid 3 0, ⟨1, 0, .box [.d (.sc (.int .i64 c.now)), .d (.sc (.int .i64 (getC c n t).turn)), .arr (rid 21 2) 1]⟩), (rid 6 0, ⟨1, 0, .box [.d (.sc (.int .i64 0)), .d (.sc (.int .i64 0)), .nil 7]⟩), (rid 21 2, ⟨1, 0, .arr true (encS (getC c n t).slots)⟩)], []⟩ ?_ (fun x hc => ?_)
    case refine_2 =>
      refine Kc (Kf Y Y (Ke Y Y Y (Kj Y Y Y (Kd (Km Y (fun g0 => Kbc (kMem [(16384, ⟨1, 0, .box [.d _, .d _, .arr 90114 1]⟩), (90114, ⟨1, 0, .arr true _⟩)] [(3, .c (.ptr 16384 1 0)), (29, .c (.un)), (30, .c (.un)), (32, .c (.un)), (31, .c (.un))] [] ⟨Y, Y, trivial⟩ ⟨Y, Y, Y, Y, Y, trivial⟩ Y (Kf Y Y (Ke Y Y Y (kAdd Y Y om (Kf Y Y (Ko Y Y Y Y (Kd (Kc (Ka Y (Kf Y Y (Ke Y Y Y (kNck Y Y (kFadE Y Y ?_)))))))))))))) (fun g0 => Kn ?_))))))
      · refine kStoreER (f := Slot.cells) (l := c.slots) (i := i) (z := { c.slots[i] with used := c.turn + 1 }) Y Y Y Y Y Y Y hi rfl ?_
        refine Kd ?_
        exact hc _ (by rw [hg, if_pos (by assumption)]; exact .normA)
      · exact hc _ (by rw [hg, if_neg (by assumption)]; exact .normA)
    clear hg e2 e3
    rw [c1]
    generalize getC c n t = D at *
    have hiD : i < D.slots.length := by omega
    obtain ⟨d1, d2, d3⟩ := c3 hiD
    have hDr : SmallRs D.slots[i].rrs := by rw [d1]; exact hsr
    have hdt : 0 ≤ D.slots[i].til ∧ D.slots[i].til ≤ 100000000 := by rw [d2]; omega
    rw [← d1, ← d2, ← d3]
    refine Kbc (Ka Y (kNck Y Y (kFadE Y Y (kLoadER Y Y prl rfl ?_))))
    refine Ku true (ok_impl_copyRrs D.slots[i].rrs hDr) ⟨rd_subS rfl hiD rfl, trivial⟩ Y Y Y (fun _ => ?_)
    refine Ka Y (Kdb (Kbc (Ka Y (Kq Y Y (Ka Y (Kd (Kt ?_)))))))
    obtain ⟨m, em⟩ : ∃ m, m = D.slots[i].til - c.now := ⟨_, rfl⟩
    rw [← em]
    refine kLoop (α := { y : Nat × List Rr // y.1 ≤ D.slots[i].rrs.length ∧ y.2 = (D.slots[i].rrs.take y.1).map (cutTtl m) ++ D.slots[i].rrs.drop y.1 }) (fun y => ⟨tabSl [(3, .c (.ptr (rid 3 0) 1 0)), (6, .c (.ptr (rid 6 0) 1 0)), (10, .c (.ept (rid 21 2) 1 i 0)), (11, .c (.arr (rid 42 0) 1)), (44, .i D.slots[i].rrs.length), (45, .i y.1.1)], obTab 1 [(rid 3 0, ⟨1, 0, .box [.d (.sc (.int .i64 c.now)), .d (.sc (.int .i64 D.turn)), .arr (rid 21 2) 1]⟩), (rid 6 0, ⟨1, 0, .box [.d (.sc (.int .i64 0)), .d (.sc (.int .i64 0)), .nil 7]⟩), (rid 21 2, ⟨1, 0, .arr true (encS D.slots)⟩), (rid 42 0, ⟨1, 0, .arr true (encR y.1.2)⟩)], []⟩) (fun y => D.slots[i].rrs.length - y.1.1) ⟨(0, D.slots[i].rrs), Nat.zero_le _, by simp⟩ .normA ?_
    rintro ⟨⟨j, V⟩, hj, hV⟩
    simp only at hj hV ⊢
    have hVl : V.length = D.slots[i].rrs.length := by rw [hV]; simp; omega
    have hrl := hDr.len
    rcases Nat.lt_or_ge j D.slots[i].rrs.length with hlt | hge
    · have hjV : j < V.length := by omega
      have hVj : V[j] = D.slots[i].rrs[j] := by
        simp only [hV]
        rw [List.getElem_append_right (by simp; omega)]
        simp; congr 1; omega
      have hmin : min V[j].ttl (D.slots[i].til - c.now) = (cutTtl m D.slots[i].rrs[j]).ttl := by
        rw [← hVj, em]; unfold cutTtl; split <;> (first | omega | (simp only; omega))
      have he : cutTtl m D.slots[i].rrs[j] = { V[j] with ttl := (cutTtl m D.slots[i].rrs[j]).ttl } := by
        rw [← hVj]; unfold cutTtl; split <;> rfl
      have hstep : V.set j (cutTtl m D.slots[i].rrs[j]) = (D.slots[i].rrs.take (j + 1)).map (cutTtl m) ++ D.slots[i].rrs.drop (j + 1) := by
        rw [hV, List.set_append_right _ _ (by simp; omega)]
        rw [show j - (List.map (cutTtl m) (List.take j D.slots[i].rrs)).length = 0 by simp; omega, List.drop_eq_getElem_cons hlt, List.set_cons_zero, ← List.take_append_getElem hlt, List.map_append]
        simp
      refine Kbc (Kj Y Y Y (Kdb (Km Y (fun g0 => Kn (Kb (Kt (Kbc (Ka Y (Ka Y (Kd (kRegD (Ka Y (Ka Y (Ka Y (Ka Y (kIadAR Y Y Y Y prl (kFadE Y Y (kLoadER Y Y prl rfl (Ka Y (kMem [(16384, ⟨1, 0, .box [.d _, .d _, .arr 90114 1]⟩), (176128, ⟨1, 0, .arr true _⟩), (90114, ⟨1, 0, .arr true _⟩)] [(3, .c (.ptr 16384 1 0)), (54, .c (.d _)), (48, .c (.arr 176128 1)), (49, .c (.d _))] [176128] ⟨Y, Y, Y, trivial⟩ ⟨Y, Y, Y, Y, trivial⟩ Y (kNck Y Y (kFadE Y Y (kLoadER Y Y prl rfl (Kf Y Y (Ke Y Y Y (kDif Y Y om (kMmMin Y Y (kIadAR Y Y Y Y prl (kFadE Y Y (Ks Y Y ?_))))))))))))))))))))))))))) (fun g0 => om))))
      refine kStoreER (f := Rr.cells) (l := V) (i := j) (z := { V[j] with ttl := min V[j].ttl (D.slots[i].til - c.now) }) rfl rfl rfl rfl rfl rfl rfl hjV rfl ?_
      refine Kd (kH (Kv (Kc (kAdd Y Y om (Ka Y (Kd ?_))))))
      exact kInv ⟨⟨(j + 1, V.set j { V[j] with ttl := min V[j].ttl (D.slots[i].til - c.now) }), by omega, by rw [hmin, ← he]; exact hstep⟩, by simp only; omega, .normA⟩
    · have hjL : j = D.slots[i].rrs.length := by omega
      have hVe : V = D.slots[i].rrs.map (cutTtl m) := by rw [hV, hjL]; simp
      refine Kbc (Kj Y Y Y (Kdb (Km Y (fun g0 => om) (fun g0 => kExit (kExC (kExI (kExB (Kb (kRegD (Ke Y Y Y (Ka Y (Ka Y (kNck Y Y (kFadE Y Y (kLoadER Y Y prl rfl (kMem [(28672, ⟨1, 0, .box [.d _, .d _, .nil 7]⟩), (90114, ⟨1, 0, .arr true _⟩), (176128, ⟨1, 0, .arr true _⟩)] [(6, .c (.ptr 28672 1 0)), (66, .g [.d _, .d _, .arr 90114 1]), (67, .c (.arr 176128 1)), (71, .c (.d _))] [90114, 16384] ⟨Y, Y, Y, trivial⟩ ⟨Y, Y, Y, Y, trivial⟩ Y (Kx Y Y (Ko Y Y Y Y (Ka Y (Ka Y (Kd (kH (kMem [(28672, ⟨1, 0, .box [.d _, .d _, .arr 90114 1]⟩), (176128, ⟨1, 0, .arr true _⟩), (90114, ⟨1, 0, .arr true _⟩)] [(6, .c (.ptr 28672 1 0)), (7, .c (.arr 176128 1)), (8, .c (.d _))] [] ⟨Y, Y, Y, trivial⟩ ⟨Y, Y, Y, trivial⟩ Y (Kr (Er (ra := [.agg [(.d _), (.d _), (.d _)], .one (.own true _), .one (.d _)]) rfl ?_)))))))))))))))))))))))))
      rw [hVe]

def c_impl_CacheGet : C := (.g (.o 0 3 (.box 3 (.t 0)) (.o 1 4 (.box 4 (.t 1)) (.o 2 6 (.alloc 6 [(.i 0), (.i 0), (.n 7)]) (.o 3 7 (.mov (.n 7)) (.o 4 8 (.mov (.i 0)) .done))))) (.seq (.g (.o 0 12 (.load (some 3) (.t 3)) (.o 1 13 (.call 13 56 [(.t 12)]) (.o 2 14 (.un .not (.t 13)) (.o 3 15 (.mov (.t 14)) (.op 4 [] (some 16) (some (15, false)) false (.load (some 1) (.t 4)) (.op 5 [] (some 17) (some (15, false)) false (.call 17 71 [(.t 16)]) (.op 6 [] (some 18) (some (15, false)) false (.un .not (.t 17)) (.o 7 19 (.pick (.t 15) (.v (.bool true)) (.t 18)) (.o 8 20 (.mov (.t 19)) (.op 9 [] (some 21) (some (20, false)) false (.mov (.t 2)) (.op 10 [] (some 22) (some (20, false)) false (.call 22 89 [(.t 21)]) (.op 11 [] (some 23) (some (20, false)) false (.un .not (.t 22)) (.o 12 24 (.pick (.t 20) (.v (.bool true)) (.t 23)) .done))))))))))))) (.cond (.t 24) (.g (.o 0 25 (.build [(.i 0), (.i 0), (.n 7)] []) (.op 1 [] none none false (.store (some 3) (.t 6) (.t 25)) (.o 2 7 (.mov (.n 7)) (.o 3 8 (.mov (.i 0)) .done)))) .ret) .skip)) (.g (.o 0 27 (.load (some 3) (.t 3)) (.o 1 28 (.load (some 1) (.t 4)) (.o 2 29 (.mov (.t 2)) (.o 3 30 (.call 30 90 [(.t 27), (.t 28), (.t 29)]) (.o 4 26 (.mov (.t 30)) (.o 5 31 (.ext (.t 26) 0) (.o 6 32 (.ext (.t 26) 1) (.o 7 33 (.ext (.t 26) 2) (.o 8 9 (.alloc 9 [(.i 0), (.i 0), (.n 7)]) (.op 9 [] none none false (.store (some 3) (.t 9) (.t 31)) (.o 10 10 (.mov (.t 32)) (.o 11 11 (.mov (.t 33)) .done)))))))))))) (.g (.o 0 34 (.load (some 3) (.t 9)) (.o 1 35 (.call 35 91 [(.t 34)]) (.o 2 36 (.mov (.t 10)) (.o 3 37 (.mov (.t 11)) (.op 4 [] none none false (.store (some 3) (.t 6) (.t 35)) (.o 5 7 (.mov (.t 36)) (.o 6 8 (.mov (.t 37)) .done))))))) .ret))))
theorem dg_impl_CacheGet : Tryz.f23.body.bind (digC Tryz.prog Tryz.f23.ntmps []) = some c_impl_CacheGet := by kernel_rfl
theorem rs_impl_CacheGet : resSlots Tryz.prog Tryz.f23 = some [.m 6 (some 3), .s 7, .s 8] := by kernel_rfl
theorem ok_impl_CacheGet (c : Cache) (n : List (List UInt8)) (t : Int) (hs : SmallSs c.slots) (hn : SmallBB n) :
    FnOK Tryz.prog 23 [.agg (c.cells.map .d), .agg [.d (encBB n)], .one (.d (.sc (.int .i64 t)))] (fun ra _ => ra = [.agg [.d (.sc (.int .i64 (cgC c n t).now)), .d (.sc (.int .i64 (cgC c n t).turn)), .own true (encS (cgC c n t).slots)], .one (.own true (encR (cgL c n t))), .one (.d (.sc (.int .i64 (cgK c n t))))]) := by
  refine FnOK.ofK Tryz.func23 (by kernel_rfl) dg_impl_CacheGet rs_impl_CacheGet rfl rfl ?_
  delta c_impl_CacheGet T.o X.i C.g
  have hn1 := hn.len
  have hn2 := hn.mem
  by_cases hok : cgOk c n t = true
  case neg =>
    rw [show cgC c n t = zeroCg by unfold cgC; rw [if_neg hok], show cgL c n t = [] by unfold cgL; rw [if_neg hok], show cgK c n t = 0 by unfold cgK; rw [if_neg hok]]
    cases k1 : cacheOk c
    · refine Kbc (kBox Y Y Y Y Y (kBox Y Y Y Y Y (kAlloc Y Y (Ka Y (Ka Y (Kdb (Kbc (Ke Y Y Y (Kp (ok_impl_CacheOk _ prx) ⟨⟨⟨Y, Y, Y, trivial⟩, leb⟩, trivial⟩ Y Y Y Y Y (Kw Y Y (kMem [(20480, ⟨1, 0, .box [.d _]⟩)] [(14, .c (.d _)), (4, .c (.ptr 20480 1 0)), (16, .c (.un)), (17, .c (.un)), (15, .c (.un)), (18, .c (.un)), (19, .c (.un)), (2, .c (.d _)), (21, .c (.un)), (22, .c (.un)), (20, .c (.un)), (23, .c (.un))] [] ⟨Y, trivial⟩ ⟨Y, Y, Y, Y, Y, Y, Y, Y, Y, Y, Y, Y, trivial⟩ Y (Ka Y (kGN Y (fun g0 => Kg Y (Kg Y (Kg Y (Kk Y (Ka Y (Ka Y (Kg Y (Kg Y (Kg Y (Kk Y (Ka Y (Kd (kCondT Y (Kbc (kMem [(28672, ⟨1, 0, .box [.d _, .d _, .nil 7]⟩)] [(6, .c (.ptr 28672 1 0)), (25, .c (.un))] [] ⟨Y, trivial⟩ ⟨Y, Y, trivial⟩ Y (kBuildG Y (kMem [(28672, ⟨1, 0, .box [.d _, .d _, .nil 7]⟩)] [(6, .c (.ptr 28672 1 0)), (25, .g [.d _, .d _, .nil 7])] [] ⟨Y, trivial⟩ ⟨Y, Y, trivial⟩ Y (Ko Y Y Y Y (Ka Y (Ka Y (Kd (kMem [(28672, ⟨1, 0, .box [.d _, .d _, .nil 7]⟩)] [(6, .c (.ptr 28672 1 0)), (7, .c (.nil 7)), (8, .c (.d _))] [] ⟨Y, trivial⟩ ⟨Y, Y, Y, trivial⟩ Y (Kr (Er (ra := [.agg [(.d _), (.d _), (.own true _)], .one (.own true _), .one (.d _)]) rfl rfl)))))))))))))))))))))))) (fun g0 => (by (simp [*] at g0))))))))))))))))
    cases k2 : nameOk n
    · refine Kbc (kBox Y Y Y Y Y (kBox Y Y Y Y Y (kAlloc Y Y (Ka Y (Ka Y (Kdb (Kbc (Ke Y Y Y (Kp (ok_impl_CacheOk _ prx) ⟨⟨⟨Y, Y, Y, trivial⟩, leb⟩, trivial⟩ Y Y Y Y Y (Kw Y Y (kMem [(20480, ⟨1, 0, .box [.d _]⟩)] [(14, .c (.d _)), (4, .c (.ptr 20480 1 0)), (16, .c (.un)), (17, .c (.un)), (15, .c (.un)), (18, .c (.un)), (19, .c (.un)), (2, .c (.d _)), (21, .c (.un)), (22, .c (.un)), (20, .c (.un)), (23, .c (.un))] [] ⟨Y, trivial⟩ ⟨Y, Y, Y, Y, Y, Y, Y, Y, Y, Y, Y, Y, trivial⟩ Y (Ka Y (kGN Y (fun g0 => (by (simp [*] at g0))) (fun g0 => Ki Y (Ke Y Y Y (Ki Y (Kp (ok_impl_NameOk _ prx prx) ⟨⟨⟨Y, trivial⟩, leb⟩, trivial⟩ Y Y Y Y Y (Ki Y (Kw Y Y (Kl Y (Ka Y (Ka Y (kGN Y (fun g1 => Kg Y (Kg Y (Kg Y (Kk Y (Ka Y (Kd (kCondT Y (Kbc (kMem [(28672, ⟨1, 0, .box [.d _, .d _, .nil 7]⟩)] [(6, .c (.ptr 28672 1 0)), (25, .c (.un))] [] ⟨Y, trivial⟩ ⟨Y, Y, trivial⟩ Y (kBuildG Y (kMem [(28672, ⟨1, 0, .box [.d _, .d _, .nil 7]⟩)] [(6, .c (.ptr 28672 1 0)), (25, .g [.d _, .d _, .nil 7])] [] ⟨Y, trivial⟩ ⟨Y, Y, trivial⟩ Y (Ko Y Y Y Y (Ka Y (Ka Y (Kd (kMem [(28672, ⟨1, 0, .box [.d _, .d _, .nil 7]⟩)] [(6, .c (.ptr 28672 1 0)), (7, .c (.nil 7)), (8, .c (.d _))] [] ⟨Y, trivial⟩ ⟨Y, Y, Y, trivial⟩ Y (Kr (Er (ra := [.agg [(.d _), (.d _), (.own true _)], .one (.own true _), .one (.d _)]) rfl rfl)))))))))))))))))) (fun g1 => (by (simp [*] at g1))))))))))))))))))))))))))
    have k3 : tyOk t = false := by
      unfold cgOk at hok; rw [k1, k2] at hok; simpa using hok
    refine Kbc (kBox Y Y Y Y Y (kBox Y Y Y Y Y (kAlloc Y Y (Ka Y (Ka Y (Kdb (Kbc (Ke Y Y Y (Kp (ok_impl_CacheOk _ prx) ⟨⟨⟨Y, Y, Y, trivial⟩, leb⟩, trivial⟩ Y Y Y Y Y (Kw Y Y (kMem [(20480, ⟨1, 0, .box [.d _]⟩)] [(14, .c (.d _)), (4, .c (.ptr 20480 1 0)), (16, .c (.un)), (17, .c (.un)), (15, .c (.un)), (18, .c (.un)), (19, .c (.un)), (2, .c (.d _)), (21, .c (.un)), (22, .c (.un)), (20, .c (.un)), (23, .c (.un))] [] ⟨Y, trivial⟩ ⟨Y, Y, Y, Y, Y, Y, Y, Y, Y, Y, Y, Y, trivial⟩ Y (Ka Y (kGN Y (fun g0 => (by (simp [*] at g0))) (fun g0 => Ki Y (Ke Y Y Y (Ki Y (Kp (ok_impl_NameOk _ prx prx) ⟨⟨⟨Y, trivial⟩, leb⟩, trivial⟩ Y Y Y Y Y (Ki Y (Kw Y Y (Kl Y (Ka Y (Ka Y (kGN Y (fun g1 => (by (simp [*] at g1))) (fun g1 => Ki Y (Ka Y (Ki Y (Kp (ok_impl_TypeOk _) ⟨Y, trivial⟩ Y Y Y Y Y (Ki Y (Kw Y Y (Kl Y (Ka Y (Kd (kCondN Y (fun g2 => Kbc (kMem [(28672, ⟨1, 0, .box [.d _, .d _, .nil 7]⟩)] [(6, .c (.ptr 28672 1 0)), (25, .c (.un))] [] ⟨Y, trivial⟩ ⟨Y, Y, trivial⟩ Y (kBuildG Y (kMem [(28672, ⟨1, 0, .box [.d _, .d _, .nil 7]⟩)] [(6, .c (.ptr 28672 1 0)), (25, .g [.d _, .d _, .nil 7])] [] ⟨Y, trivial⟩ ⟨Y, Y, trivial⟩ Y (Ko Y Y Y Y (Ka Y (Ka Y (Kd (kMem [(28672, ⟨1, 0, .box [.d _, .d _, .nil 7]⟩)] [(6, .c (.ptr 28672 1 0)), (7, .c (.nil 7)), (8, .c (.d _))] [] ⟨Y, trivial⟩ ⟨Y, Y, Y, trivial⟩ Y (Kr (Er (ra := [.agg [(.d _), (.d _), (.own true _)], .one (.own true _), .one (.d _)]) rfl rfl))))))))))) (fun g2 => (by (simp [*] at g2))))))))))))))))))))))))))))))))))))
  rw [show cgC c n t = getC c n t by unfold cgC; rw [if_pos hok], show cgL c n t = getL c n t by unfold cgL; rw [if_pos hok], show cgK c n t = getK c n t by unfold cgK; rw [if_pos hok]]
  unfold cgOk at hok
  simp only [Bool.and_eq_true] at hok
  obtain ⟨⟨k1, k2⟩, k3⟩ := hok
  obtain ⟨b1, b2⟩ := cache_bounds k1
  have hgs := getC_small (n := n) (t := t) hs
  refine Kbc (kBox Y Y Y Y Y (kBox Y Y Y Y Y (kAlloc Y Y (Ka Y (Ka Y (Kdb (Kbc (Ke Y Y Y (Kp (ok_impl_CacheOk _ prx) ⟨⟨⟨Y, Y, Y, trivial⟩, leb⟩, trivial⟩ Y Y Y Y Y (Kw Y Y (kMem [(20480, ⟨1, 0, .box [.d _]⟩)] [(14, .c (.d _)), (4, .c (.ptr 20480 1 0)), (16, .c (.un)), (17, .c (.un)), (15, .c (.un)), (18, .c (.un)), (19, .c (.un)), (2, .c (.d _)), (21, .c (.un)), (22, .c (.un)), (20, .c (.un)), (23, .c (.un))] [] ⟨Y, trivial⟩ ⟨Y, Y, Y, Y, Y, Y, Y, Y, Y, Y, Y, Y, trivial⟩ Y (Ka Y (kGN Y (fun g0 => (by (simp [*] at g0))) (fun g0 => Ki Y (Ke Y Y Y (Ki Y (Kp (ok_impl_NameOk _ prx prx) ⟨⟨⟨Y, trivial⟩, leb⟩, trivial⟩ Y Y Y Y Y (Ki Y (Kw Y Y (Kl Y (Ka Y (Ka Y (kGN Y (fun g1 => (by (simp [*] at g1))) (fun g1 => Ki Y (Ka Y (Ki Y (Kp (ok_impl_TypeOk _) ⟨Y, trivial⟩ Y Y Y Y Y (Ki Y (Kw Y Y (Kl Y (Ka Y (Kd (kCondN Y (fun g2 => (by (simp [*] at g2))) (fun g2 => Kn (Kbc (kMem [(16384, ⟨1, 0, .box [.d _, .d _, .d _]⟩), (20480, ⟨1, 0, .box [.d _]⟩)] [(3, .c (.ptr 16384 1 0)), (4, .c (.ptr 20480 1 0)), (2, .c (.d _)), (27, .c (.un)), (28, .c (.un)), (29, .c (.un)), (30, .c (.un)), (26, .c (.un)), (9, .c (.un)), (31, .c (.un)), (32, .c (.un)), (33, .c (.un))] [] ⟨Y, Y, trivial⟩ ⟨Y, Y, Y, Y, Y, Y, Y, Y, Y, Y, Y, Y, trivial⟩ Y (Ke Y Y Y (Ke Y Y Y (Ka Y (Ku false (ok_impl_Cache_get _ _ _ prx prx prx prx) ⟨⟨⟨Y, Y, Y, trivial⟩, leb⟩, ⟨⟨Y, trivial⟩, leb⟩, rfl, trivial⟩ Y Y Y (fun _ => (kMovT Y (kExtC Y Y (kExtC Y Y (kExtC Y Y (kAlloc Y Y (kMem [(40960, ⟨1, 0, .box [.d _, .d _, .nil 7]⟩), (127040, ⟨1, 0, .arr true _⟩)] [(9, .c (.ptr 40960 1 0)), (31, .g [.d _, .d _, .d _]), (32, .c (.arr 127040 1)), (33, .c (.d _))] [] ⟨Y, Y, trivial⟩ ⟨Y, Y, Y, Y, trivial⟩ Y (Ko Y Y Y Y (Ka Y (Ka Y (Kdb (Kc (Ke Y Y Y (Ku true (ok_impl_Cache_copied _ prx) ⟨⟨⟨Y, Y, Y, trivial⟩, leb⟩, trivial⟩ Y Y Y (fun _ => (Ka Y (Ka Y (kMem [(28672, ⟨1, 0, .box [.d _, .d _, .nil 7]⟩), (147458, ⟨1, 0, .arr true _⟩), (127040, ⟨1, 0, .arr true _⟩)] [(6, .c (.ptr 28672 1 0)), (35, .g [.d _, .d _, .arr 147458 1]), (36, .c (.arr 127040 1)), (37, .c (.d _))] [] ⟨Y, Y, Y, trivial⟩ ⟨Y, Y, Y, Y, trivial⟩ Y (Ko Y Y Y Y (Ka Y (Ka Y (Kd (kMem [(28672, ⟨1, 0, .box [.d _, .d _, .arr 147458 1]⟩), (127040, ⟨1, 0, .arr true _⟩), (147458, ⟨1, 0, .arr true _⟩)] [(6, .c (.ptr 28672 1 0)), (7, .c (.arr 127040 1)), (8, .c (.d _))] [] ⟨Y, Y, Y, trivial⟩ ⟨Y, Y, Y, trivial⟩ Y (Kr (Er (ra := [.agg [(.d _), (.d _), (.own true _)], .one (.own true _), .one (.d _)]) rfl rfl)))))))))))))))))))))))))))))))))))))))))))))))))))))))))))))))))

end Go.Proofs.YtmdmlncdjdphdaaGreat.FnCachesFn
