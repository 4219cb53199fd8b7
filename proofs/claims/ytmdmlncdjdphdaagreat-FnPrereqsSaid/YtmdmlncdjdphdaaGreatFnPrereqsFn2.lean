/- What the functions that FnPrereqs reaches compute, one contract each; each with the bounds that it states. -/
import Derived.Test.YtmdmlncdjdphdaaGreatFnPrereqsFn1
import Derived.Test.YtmdmlncdjdphdaaGreatProg
import Derived.KernelRfl
set_option maxRecDepth 100000
set_option maxHeartbeats 8000000
set_option linter.unusedVariables false
set_option linter.unusedSimpArgs false
namespace Go.Proofs.YtmdmlncdjdphdaaGreat.FnPrereqsFn
open Go Hearth Go.Proofs

def c_spec_l5bent : C := (.g (.o 0 2 (.alloc 2 [(.n 1), (.n 7)]) .done) (.g (.o 0 4 (.mov (.t 0)) (.o 1 5 (.call 5 152 [(.t 4)]) (.o 2 3 (.alloc 3 [(.n 1), (.n 7)]) (.op 3 [] none none false (.store (some 2) (.t 3) (.t 5)) .done)))) (.seq (.g (.o 0 6 (.mov (.t 0)) (.o 1 7 (.call 7 68 [(.t 6), (.i 9)]) .done)) (.cond (.t 7) (.g (.o 0 8 (.mov (.t 0)) (.o 1 9 (.call 9 117 [(.t 8), (.i 4)]) .done)) (.block 0 (.g (.o 0 15 (.bin .eql (.t 9) (.i 0)) (.o 1 14 (.mov (.t 15)) .done)) (.cond (.t 14) (.reg false (.o 0 16 (.mov (.t 0)) (.o 1 17 (.call 17 126 [(.t 16)]) (.o 2 18 (.fad (.t 3) 0) (.op 3 [] none none false (.store (some 1) (.t 18) (.t 17)) .done))))) (.g (.o 0 20 (.bin .eql (.t 9) (.i 1)) (.o 1 19 (.mov (.t 20)) .done)) (.cond (.t 19) (.reg true (.op 0 [] (some 21) none true (.fad (.t 3) 1) (.op 1 [] (some 22) none true (.load none (.t 21)) (.op 2 [] (some 23) none true (.mov (.t 0)) (.o 3 24 (.call 24 148 [(.t 23)]) (.o 4 25 (.lit 25 7 [(.n 1), (.i 0), (.i 0), (.i 0), (.n 1), (.n 1), (.n 1)] 1 [(0, 7, (.t 24))]) (.op 5 [1] (some 26) none false (.app 26 7 120 (.t 22) (.t 25)) (.op 6 [] (some 27) none true (.fad (.t 3) 1) (.op 7 [1] none none false (.store none (.t 27) (.t 26)) .done))))))))) (.g (.o 0 29 (.bin .eql (.t 9) (.i 2)) (.o 1 28 (.mov (.t 29)) .done)) (.cond (.t 28) (.reg false (.o 0 30 (.fad (.t 3) 1) (.o 1 31 (.load none (.t 30)) (.o 2 32 (.cut 7 (.t 31) (some (.i 1)) none) (.o 3 33 (.fad (.t 3) 1) (.op 4 [] none none false (.store none (.t 33) (.t 32)) .done)))))) (.reg false (.o 0 10 (.fad (.t 3) 1) (.o 1 11 (.load none (.t 10)) (.o 2 12 (.iad 7 (.t 11) (.i 0)) (.o 3 13 (.fad (.t 12) 2) (.op 4 [] none none false (.store none (.t 13) (.i (-1))) .done)))))))))))))) .skip)) (.g (.o 0 34 (.load (some 2) (.t 3)) (.op 1 [] none none false (.store (some 2) (.t 2) (.t 34)) .done)) .ret))))
theorem dg_spec_l5bent : Tryz.f64.body.bind (digC Tryz.prog Tryz.f64.ntmps []) = some c_spec_l5bent := by kernel_rfl
theorem rs_spec_l5bent : resSlots Tryz.prog Tryz.f64 = some [.m 2 (some 2)] := by kernel_rfl
theorem ok_spec_l5bent (c : Cu) :
    FnOK Tryz.prog 64 [.one (.box c.cells)] (fun ra os => ∃ x : Zone × Cu, (SmallZ x.1) ∧ ra = [.agg [.d (encBB x.1.origin), .d (encR x.1.rrs)]] ∧ os.b 0 = x.2.cells) := by
  refine FnOK.ofK Tryz.func64 (by kernel_rfl) dg_spec_l5bent rs_spec_l5bent rfl rfl ?_
  delta c_spec_l5bent T.o X.i C.g
  refine Kbc (kAlloc Y Y (Kdb (Kc (Ka Y (Kz (ok_spec_l5draw _) ⟨⟨rfl, _, rfl, rfl⟩, trivial⟩ Y Y Y (fun _ => rfl) (fun x0 hx0 => (kAlloc Y Y (Ko Y Y Y Y (Kdb (Kbc (Ka Y (Kz (ok_spec_l1Once _ _) ⟨⟨rfl, _, rfl, rfl⟩, rfl, trivial⟩ Y Y Y (fun _ => rfl) (fun x1 hx1 => (Kd (kCond Y (fun g2 => Kbc (Ka Y (Kz (ok_spec_l1Below _ _) ⟨⟨rfl, _, rfl, rfl⟩, rfl, trivial⟩ Y Y Y (fun _ => rfl) (fun x3 hx3 => (Kd (Kt (Kbc (Kj Y Y Y (Ka Y (Kd (Km Y (fun g4 => Kc (Ka Y (Kz (ok_spec_l2bent _) ⟨⟨rfl, _, rfl, rfl⟩, trivial⟩ Y Y Y (fun _ => rfl) (fun x5 hx5 => (Kf Y Y (Ko Y Y Y Y (Kd (Kv (Kbc (Ke Y Y Y (Ko Y Y Y Y (Kd (Kr (Er (ra := [.agg [(.d _), (.d _)]]) rfl ?_)))))))))))))) (fun g4 => Kbc (Kj Y Y Y (Ka Y (Kd (Km Y (fun g6 => kRegD (Kf Y Y (Ke Y Y Y (Ka Y (Kz (ok_spec_l3bent _) ⟨⟨rfl, _, rfl, rfl⟩, trivial⟩ Y Y Y (fun _ => rfl) (fun x7 hx7 => (kLitG Y Y Y Y (Ks Y Y ?_)))))))) (fun g6 => Kbc (Kj Y Y Y (Ka Y (Kd (Km Y (fun g8 => Kc (Kf Y Y (Ke Y Y Y ?_))) (fun g8 => Kc (Kf Y Y (Ke Y Y Y ?_)))))))))))))))))))))))) (fun g2 => Kn (Kbc (Ke Y Y Y (Ko Y Y Y Y (Kd (Kr (Er (ra := [.agg [(.d _), (.d _)]]) rfl ?_))))))))))))))))))))))
  · exact ⟨(⟨x5.1, x0.1.rrs⟩, x5.2), ⟨.bent hx5, (zoneOk_small hx0).r⟩, rfl, rfl⟩
  · have hp := zoneOk_pos hx0
    have hs := zoneOk_small hx0
    refine kAppRec Y Y Y Y Y Y Y prl (Kf Y Y (Ks Y Y (Ko Y Y Y Y (Kd (kH (Kv (Kbc (Ke Y Y Y (Ko Y Y Y Y (Kd (Kr (Er (ra := [.agg [(.d _), (.d _)]]) rfl ?_))))))))))))
    exact ⟨(⟨x0.1.origin, x0.1.rrs ++ [x7.1]⟩, x7.2), ⟨hs.o, ⟨by simp; omega, fun r hr => by
      rcases List.mem_append.1 hr with hr | hr
      · exact hs.r.mem r hr
      · simp only [List.mem_singleton] at hr; rw [hr]; exact hx7⟩⟩, rfl, rfl⟩
  · have hp := zoneOk_pos hx0
    have hs := zoneOk_small hx0
    refine kCutAL (a := 1) Y Y Y Y Y Y om ?_
    refine Kf Y Y (Ko Y Y Y Y (Kd (Kv (Kbc (Ke Y Y Y (Ko Y Y Y Y (Kd (Kr (Er (ra := [.agg [(.d _), (.d _)]]) rfl ?_)))))))))
    exact ⟨(⟨x0.1.origin, x0.1.rrs.drop 1⟩, x3.2), ⟨hs.o, ⟨by simp; omega, fun r hr => hs.r.mem r (List.mem_of_mem_drop hr)⟩⟩, rfl, rfl⟩
  · have hp := zoneOk_pos hx0
    have hs := zoneOk_small hx0
    refine kIadAR (m := 0) Y Y Y Y prl (kFadE Y Y ?_)
    refine kStoreER (z := ({ x0.1.rrs[0]'hp.1 with ttl := -1 } : Rr)) rfl rfl rfl rfl rfl rfl rfl hp.1 rfl ?_
    refine Kd (Kv (Kbc (Ke Y Y Y (Ko Y Y Y Y (Kd (Kr (Er (ra := [.agg [(.d _), (.d _)]]) rfl ?_)))))))
    exact ⟨(⟨x0.1.origin, x0.1.rrs.set 0 { x0.1.rrs[0]'hp.1 with ttl := -1 }⟩, x3.2), ⟨hs.o, ⟨by simp; omega, fun r hr => by
      rcases List.mem_or_eq_of_mem_set hr with hr | hr
      · exact hs.r.mem r hr
      · have := hs.r.mem _ (List.getElem_mem hp.1)
        rw [hr]; exact ⟨this.n, this.t, this.x, this.m⟩⟩⟩, rfl, rfl⟩
  · exact ⟨(x0.1, x1.2), zoneOk_small hx0, rfl, rfl⟩

def c_spec_l5type : C := (.g (.o 0 2 (.mov (.i 0)) .done) (.g (.o 0 3 (.mov (.t 0)) (.o 1 4 (.lit 4 1 [(.i 0)] 8 [(0, 1, (.i 1)), (1, 1, (.i 1)), (2, 1, (.i 2)), (3, 1, (.i 5)), (4, 1, (.i 255)), (5, 1, (.i 6)), (6, 1, (.i 16)), (7, 1, (.i 28))]) (.o 2 5 (.call 5 118 [(.t 3), (.t 4)]) (.o 3 2 (.mov (.t 5)) .done)))) .ret))
theorem dg_spec_l5type : Tryz.f127.body.bind (digC Tryz.prog Tryz.f127.ntmps []) = some c_spec_l5type := by kernel_rfl
theorem rs_spec_l5type : resSlots Tryz.prog Tryz.f127 = some [.s 2] := by kernel_rfl
theorem ok_spec_l5type (c : Cu) :
    FnOK Tryz.prog 127 [.one (.box c.cells)] (fun ra os => ∃ x : Int × Cu, True ∧ ra = [.one (.d (.sc (.int .i64 x.1)))] ∧ os.b 0 = x.2.cells) := by
  refine FnOK.ofK Tryz.func127 (by kernel_rfl) dg_spec_l5type rs_spec_l5type rfl rfl ?_
  delta c_spec_l5type T.o X.i C.g
  refine Kbc (Ka Y (Kdb (Kc (Ka Y (kLitD Y Y Y Y (Kz (ok_spec_l1PickInt _ _ pry pry pry) ⟨⟨rfl, _, rfl, rfl⟩, rfl, trivial⟩ Y Y Y (fun _ => rfl) (fun x0 hx0 => (Ka Y (Kd (Kr (Er (ra := [.one (.d _)]) rfl ?_)))))))))))
  exact ⟨(x0.1, x0.2), trivial, rfl, rfl⟩

def c_spec_DrawSetOf : C := (.g (.o 0 2 (.alloc 2 [(.n 1), (.n 7)]) (.o 1 3 (.alloc 3 [(.n 1)]) (.o 2 4 (.mov (.i 0)) .done))) (.g (.o 0 7 (.mov (.t 0)) (.o 1 8 (.call 8 63 [(.t 7)]) (.o 2 5 (.mov (.t 8)) .done))) (.g (.o 0 9 (.mov (.t 5)) (.o 1 10 (.call 10 64 [(.t 9)]) (.o 2 6 (.alloc 6 [(.n 1), (.n 7)]) (.op 3 [] none none false (.store (some 2) (.t 6) (.t 10)) .done)))) (.seq (.g (.o 0 11 (.mov (.t 5)) (.o 1 12 (.call 12 68 [(.t 11), (.i 6)]) .done)) (.cond (.t 12) (.seq (.reg true (.op 0 [] (some 13) none true (.load (some 2) (.t 6)) (.op 1 [] (some 14) none true (.mov (.t 5)) (.op 3 [] (some 16) none true (.mov (.t 5)) (.o 2 15 (.call 15 126 [(.t 14)]) (.o 4 17 (.call 17 127 [(.t 16)]) (.op 5 [0] none none false (.store (some 2) (.t 2) (.t 13)) (.op 6 [0] none none false (.store (some 1) (.t 3) (.t 15)) (.op 7 [] (some 4) none true (.mov (.t 17)) .done))))))))) .ret) .skip)) (.seq (.reg true (.op 0 [] (some 18) none true (.load (some 2) (.t 6)) (.op 1 [] (some 19) none true (.mov (.t 5)) (.op 3 [] (some 21) none true (.mov (.t 5)) (.o 2 20 (.call 20 65 [(.t 19)]) (.o 4 22 (.call 22 127 [(.t 21)]) (.op 5 [0] none none false (.store (some 2) (.t 2) (.t 18)) (.op 6 [0] none none false (.store (some 1) (.t 3) (.t 20)) (.op 7 [] (some 4) none true (.mov (.t 22)) .done))))))))) .ret)))))
theorem dg_spec_DrawSetOf : Tryz.f45.body.bind (digC Tryz.prog Tryz.f45.ntmps []) = some c_spec_DrawSetOf := by kernel_rfl
theorem rs_spec_DrawSetOf : resSlots Tryz.prog Tryz.f45 = some [.m 2 (some 2), .m 3 (some 1), .s 4] := by kernel_rfl
theorem ok_spec_DrawSetOf (code : List UInt8) (hb : (code.length : Int) ≤ 9223372036854775807) :
    FnOK Tryz.prog 45 [.one (.d (encB code))] (fun ra _ => ∃ x : Zone × List (List UInt8) × Int, (SmallZ x.1 ∧ SmallBB x.2.1) ∧ ra = [.agg [.d (encBB x.1.origin), .d (encR x.1.rrs)], .agg [.d (encBB x.2.1)], .one (.d (.sc (.int .i64 x.2.2)))]) := by
  refine FnOK.ofK Tryz.func45 (by kernel_rfl) dg_spec_DrawSetOf rs_spec_DrawSetOf rfl rfl ?_
  delta c_spec_DrawSetOf T.o X.i C.g
  refine Kbc (kAlloc Y Y (kAlloc Y Y (Ka Y (Kdb (Kc (Ka Y (kCallX false (ok_spec_l1New _ prx) ⟨Y, trivial⟩ Y (fun _ => rfl) (fun _ => rfl) (fun x0 _ hx0 => (Ka Y (Kdb (Kc (Ka Y (Kz (ok_spec_l5bent _) ⟨⟨rfl, _, rfl, rfl⟩, trivial⟩ Y Y Y (fun _ => rfl) (fun x1 hx1 => (kAlloc Y Y (Ko Y Y Y Y (Kdb (Kbc (Ka Y (Kz (ok_spec_l1Once _ _) ⟨⟨rfl, _, rfl, rfl⟩, rfl, trivial⟩ Y Y Y (fun _ => rfl) (fun x2 hx2 => (Kd (kCond Y (fun g3 => Kb (kRegD (Ke Y Y Y (Ka Y (Ka Y (Kz (ok_spec_l2bent _) ⟨⟨rfl, _, rfl, rfl⟩, trivial⟩ Y Y Y (fun _ => rfl) (fun x4 hx4 => (Kz (ok_spec_l5type _) ⟨⟨rfl, _, rfl, rfl⟩, trivial⟩ Y Y Y (fun _ => rfl) (fun x5 hx5 => (Ks Y Y (Ko Y Y Y Y (Ks Y Y (Ko Y Y Y Y (Ka Y (Kd (kH (Kr (Er (ra := [.agg [(.d _), (.d _)], .agg [(.d _)], .one (.d _)]) rfl ?_)))))))))))))))))) (fun g3 => Kn (Kb (kRegD (Ke Y Y Y (Ka Y (Ka Y (Kz (ok_spec_l5owned _) ⟨⟨rfl, _, rfl, rfl⟩, trivial⟩ Y Y Y (fun _ => rfl) (fun x6 hx6 => (Kz (ok_spec_l5type _) ⟨⟨rfl, _, rfl, rfl⟩, trivial⟩ Y Y Y (fun _ => rfl) (fun x7 hx7 => (Ks Y Y (Ko Y Y Y Y (Ks Y Y (Ko Y Y Y Y (Ka Y (Kd (kH (Kr (Er (ra := [.agg [(.d _), (.d _)], .agg [(.d _)], .one (.d _)]) rfl ?_))))))))))))))))))))))))))))))))))))))))))
  · exact ⟨(x1.1, x4.1, x5.1), ⟨hx1, .bent hx4⟩, rfl⟩
  · exact ⟨(x1.1, x6.1, x7.1), ⟨hx1, .ok hx6⟩, rfl⟩

def c_spec_l4drawWant : C := (.g (.o 0 4 (.alloc 4 [(.n 1), (.i 0), (.i 0), (.i 0), (.n 1), (.n 1), (.n 1), (.i 0), (.v (.bool false))]) .done) (.g (.o 0 6 (.mov (.t 0)) (.o 1 7 (.call 7 199 [(.t 6)]) (.o 2 5 (.alloc 5 [(.n 1), (.i 0), (.i 0), (.i 0), (.n 1), (.n 1), (.n 1)]) (.op 3 [] none none false (.store (some 7) (.t 5) (.t 7)) .done)))) (.seq (.g (.o 0 8 (.mov (.t 0)) (.o 1 9 (.call 9 117 [(.t 8), (.i 4)]) .done)) (.block 0 (.g (.o 0 11 (.bin .eql (.t 9) (.i 0)) (.o 1 10 (.mov (.t 11)) .done)) (.cond (.t 10) (.seq (.reg true (.op 0 [] (some 12) none true (.fad (.t 5) 0) (.op 1 [] (some 13) none true (.load (some 1) (.t 12)) (.op 2 [] (some 14) none true (.mov (.t 0)) (.op 3 [] (some 15) none true (.fad (.t 5) 1) (.op 4 [] (some 16) none true (.load none (.t 15)) (.op 5 [4] (some 17) none false (.lit 17 1 [(.i 0)] 2 [(0, 1, (.i 255)), (1, 1, (.t 16))]) (.op 6 [4] (some 18) none false (.call 18 118 [(.t 14), (.t 17)]) (.op 7 [] (some 19) none true (.build [(.n 1), (.i 0), (.i 0), (.i 0), (.n 1), (.n 1), (.n 1)] [(0, 1, (.t 13)), (1, 1, (.t 18))]) (.op 8 [] (some 20) none true (.build [(.n 1), (.i 0), (.i 0), (.i 0), (.n 1), (.n 1), (.n 1), (.i 0), (.v (.bool false))] [(0, 7, (.t 19)), (7, 1, (.i 255)), (8, 1, (.v (.bool true)))]) (.op 9 [1, 4] none none false (.store (some 9) (.t 4) (.t 20)) .done))))))))))) .ret) (.g (.o 0 22 (.bin .eql (.t 9) (.i 1)) (.o 1 21 (.mov (.t 22)) .done)) (.cond (.t 21) (.seq (.g (.o 0 23 (.mov (.t 1)) .done) (.cond (.t 23) (.seq (.reg true (.op 0 [] (some 24) none true (.fad (.t 5) 0) (.op 1 [] (some 25) none true (.load (some 1) (.t 24)) (.op 2 [] (some 26) none true (.mov (.t 0)) (.op 3 [] (some 27) none true (.fad (.t 5) 1) (.op 4 [] (some 28) none true (.load none (.t 27)) (.op 5 [4] (some 29) none false (.lit 29 1 [(.i 0)] 2 [(0, 1, (.i 255)), (1, 1, (.t 28))]) (.op 6 [4] (some 30) none false (.call 30 118 [(.t 26), (.t 29)]) (.op 7 [] (some 31) none true (.build [(.n 1), (.i 0), (.i 0), (.i 0), (.n 1), (.n 1), (.n 1)] [(0, 1, (.t 25)), (1, 1, (.t 30))]) (.op 8 [] (some 32) none true (.build [(.n 1), (.i 0), (.i 0), (.i 0), (.n 1), (.n 1), (.n 1), (.i 0), (.v (.bool false))] [(0, 7, (.t 31)), (7, 1, (.i 254)), (8, 1, (.v (.bool true)))]) (.op 9 [1, 4] none none false (.store (some 9) (.t 4) (.t 32)) .done))))))))))) .ret) .skip)) (.g (.o 0 33 (.fad (.t 5) 2) (.op 1 [] none none false (.store none (.t 33) (.i 0)) .done)) (.g (.o 0 34 (.load (some 7) (.t 5)) (.o 1 35 (.build [(.n 1), (.i 0), (.i 0), (.i 0), (.n 1), (.n 1), (.n 1), (.i 0), (.v (.bool false))] [(0, 7, (.t 34)), (7, 1, (.i 254))]) (.op 2 [] none none false (.store (some 9) (.t 4) (.t 35)) .done))) .ret))) .skip)))))) (.seq (.g (.o 0 36 (.mov (.t 1)) .done) (.cond (.t 36) (.reg false (.o 0 37 (.fad (.t 5) 2) (.op 1 [] none none false (.store none (.t 37) (.i 0)) .done))) .skip)) (.g (.o 0 38 (.load (some 7) (.t 5)) (.o 1 39 (.build [(.n 1), (.i 0), (.i 0), (.i 0), (.n 1), (.n 1), (.n 1), (.i 0), (.v (.bool false))] [(0, 7, (.t 38)), (7, 1, (.i 1))]) (.op 2 [] none none false (.store (some 9) (.t 4) (.t 39)) .done))) .ret)))))
theorem dg_spec_l4drawWant : Tryz.f271.body.bind (digC Tryz.prog Tryz.f271.ntmps []) = some c_spec_l4drawWant := by kernel_rfl
theorem rs_spec_l4drawWant : resSlots Tryz.prog Tryz.f271 = some [.m 4 (some 9)] := by kernel_rfl
theorem ok_spec_l4drawWant (c : Cu) (pre : Bool) :
    FnOK Tryz.prog 271 [.one (.box c.cells), .one (.d (.sc (.bool pre)))] (fun ra os => ∃ x : Want × Cu, (SmallW x.1) ∧ ra = [.agg [.d (encBB x.1.rr.name), .d (.sc (.int .i64 x.1.rr.ty)), .d (.sc (.int .i64 x.1.rr.ttl)), .d (.sc (.int .i64 x.1.rr.addr)), .d (encBB x.1.rr.to), .d (encB x.1.rr.text), .d (encI x.1.rr.nums), .d (.sc (.int .i64 x.1.cls)), .d (.sc (.bool x.1.bare))]] ∧ os.b 0 = x.2.cells) := by
  refine FnOK.ofK Tryz.func271 (by kernel_rfl) dg_spec_l4drawWant rs_spec_l4drawWant rfl rfl ?_
  delta c_spec_l4drawWant T.o X.i C.g
  cases pre
  · refine Kbc (kAlloc Y Y (Kdb (Kc (Ka Y (Kz (ok_spec_l3draw _) ⟨⟨rfl, _, rfl, rfl⟩, trivial⟩ Y Y Y (fun _ => rfl) (fun x0 hx0 => (kAlloc Y Y (Ko Y Y Y Y (Kdb (Kbc (Ka Y (Kz (ok_spec_l1Below _ _) ⟨⟨rfl, _, rfl, rfl⟩, rfl, trivial⟩ Y Y Y (fun _ => rfl) (fun x1 hx1 => (Kd (Kt (Kbc (Kj Y Y Y (Ka Y (Kd (Km Y (fun g2 => Kb (kRegD (Kf Y Y (Ke Y Y Y (Ka Y (Kf Y Y (Ke Y Y Y (Kx Y Y (kLitD Y Y Y Y (Kx Y Y (Kz (ok_spec_l1PickInt _ _ prx prx prx) ⟨⟨rfl, _, rfl, rfl⟩, rfl, trivial⟩ Y Y Y (fun _ => rfl) (fun x3 hx3 => (kBuildG Y (kBuildG Y (Ks Y Y (Ko Y Y Y Y (Kd (kH (Kr (Er (ra := [.agg [(.d _), (.d _), (.d _), (.d _), (.d _), (.d _), (.d _), (.d _), (.d _)]]) rfl ?_)))))))))))))))))))) (fun g2 => Kbc (Kj Y Y Y (Ka Y (Kd (Km Y (fun g4 => Kb (Kbc (Ka Y (Kd (kCondF Y (Kn (Kbc (Kf Y Y (Ko Y Y Y Y (Kdb (Kc (Ke Y Y Y (kBuildG Y (Ko Y Y Y Y (Kd (Kr (Er (ra := [.agg [(.d _), (.d _), (.d _), (.d _), (.d _), (.d _), (.d _), (.d _), (.d _)]]) rfl ?_))))))))))))))))) (fun g4 => Kn (Kv (Kb (Kbc (Ka Y (Kd (kCondF Y (Kn (Kbc (Ke Y Y Y (kBuildG Y (Ko Y Y Y Y (Kd (kMem [(20480, ⟨1, 0, .box [.arr 32768 1, .d _, .d _, .d _, .arr 32772 1, .arr 32773 1, .arr 32774 1, .d _, .d _]⟩), (32768, ⟨1, 0, .arr true _⟩), (32772, ⟨1, 0, .arr true _⟩), (32773, ⟨1, 0, .arr true _⟩), (32774, ⟨1, 0, .arr true _⟩)] [(4, .c (.ptr 20480 1 0))] [] ⟨Y, Y, Y, Y, Y, trivial⟩ ⟨Y, trivial⟩ Y (Kr (Er (ra := [.agg [(.d _), (.d _), (.d _), (.d _), (.d _), (.d _), (.d _), (.d _), (.d _)]]) rfl ?_)))))))))))))))))))))))))))))))))))))))))
    · exact ⟨(⟨⟨x0.1.name, x3.1, 0, 0, [], [], []⟩, 255, true⟩, x3.2), ⟨⟨(rrOk_small hx0).n, .nil, Nat.zero_le _, Nat.zero_le _⟩⟩, rfl, rfl⟩
    · exact ⟨(⟨⟨x0.1.name, x0.1.ty, 0, x0.1.addr, x0.1.to, x0.1.text, x0.1.nums⟩, 254, false⟩, x1.2), ⟨⟨(rrOk_small hx0).n, (rrOk_small hx0).t, (rrOk_small hx0).x, (rrOk_small hx0).m⟩⟩, rfl, rfl⟩
    · exact ⟨(⟨x0.1, 1, false⟩, x1.2), ⟨rrOk_small hx0⟩, rfl, rfl⟩
  · refine Kbc (kAlloc Y Y (Kdb (Kc (Ka Y (Kz (ok_spec_l3draw _) ⟨⟨rfl, _, rfl, rfl⟩, trivial⟩ Y Y Y (fun _ => rfl) (fun x0 hx0 => (kAlloc Y Y (Ko Y Y Y Y (Kdb (Kbc (Ka Y (Kz (ok_spec_l1Below _ _) ⟨⟨rfl, _, rfl, rfl⟩, rfl, trivial⟩ Y Y Y (fun _ => rfl) (fun x1 hx1 => (Kd (Kt (Kbc (Kj Y Y Y (Ka Y (Kd (Km Y (fun g2 => Kb (kRegD (Kf Y Y (Ke Y Y Y (Ka Y (Kf Y Y (Ke Y Y Y (Kx Y Y (kLitD Y Y Y Y (Kx Y Y (Kz (ok_spec_l1PickInt _ _ prx prx prx) ⟨⟨rfl, _, rfl, rfl⟩, rfl, trivial⟩ Y Y Y (fun _ => rfl) (fun x3 hx3 => (kBuildG Y (kBuildG Y (Ks Y Y (Ko Y Y Y Y (Kd (kH (kMem [(20480, ⟨1, 0, .box [.arr 32768 1, .d _, .d _, .d _, .nil 1, .nil 1, .nil 1, .d _, .d _]⟩), (32768, ⟨1, 0, .arr true _⟩)] [(4, .c (.ptr 20480 1 0))] [] ⟨Y, Y, trivial⟩ ⟨Y, trivial⟩ Y (Kr (Er (ra := [.agg [(.d _), (.d _), (.d _), (.d _), (.d _), (.d _), (.d _), (.d _), (.d _)]]) rfl ?_))))))))))))))))))))) (fun g2 => Kbc (Kj Y Y Y (Ka Y (Kd (Km Y (fun g4 => Kb (Kbc (Ka Y (Kd (kCondT Y (Kb (kRegD (Kf Y Y (Ke Y Y Y (kMem [(0, ⟨0, 2, .box [.d _, .d _, .d _]⟩), (24576, ⟨1, 0, .box [.arr 32768 1, .d _, .d _, .d _, .arr 32772 1, .arr 32773 1, .arr 32774 1]⟩), (32768, ⟨1, 0, .arr true _⟩), (20480, ⟨1, 0, .box [.nil 1, .d _, .d _, .d _, .nil 1, .nil 1, .nil 1, .d _, .d _]⟩), (32772, ⟨1, 0, .arr true _⟩), (32773, ⟨1, 0, .arr true _⟩), (32774, ⟨1, 0, .arr true _⟩)] [(0, .c (.ptr 0 0 0)), (5, .c (.ptr 24576 1 0)), (27, .c (.un)), (28, .c (.un)), (26, .c (.un)), (29, .c (.un)), (25, .g [.arr 32768 1]), (30, .c (.un)), (31, .c (.un)), (4, .c (.ptr 20480 1 0)), (32, .c (.un))] [24576] ⟨Y, Y, Y, Y, Y, Y, Y, trivial⟩ ⟨Y, Y, Y, Y, Y, Y, Y, Y, Y, Y, Y, trivial⟩ Y (Ka Y (Kf Y Y (Ke Y Y Y (Kx Y Y (kLitD Y Y Y Y (Kx Y Y (Kz (ok_spec_l1PickInt _ _ prx prx prx) ⟨⟨rfl, _, rfl, rfl⟩, rfl, trivial⟩ Y Y Y (fun _ => rfl) (fun x5 hx5 => (kMem [(32768, ⟨1, 0, .arr true _⟩), (20480, ⟨1, 0, .box [.nil 1, .d _, .d _, .d _, .nil 1, .nil 1, .nil 1, .d _, .d _]⟩)] [(25, .g [.arr 32768 1]), (30, .c (.d _)), (31, .c (.un)), (4, .c (.ptr 20480 1 0)), (32, .c (.un))] [24576, 24576] ⟨Y, Y, trivial⟩ ⟨Y, Y, Y, Y, Y, trivial⟩ Y (kBuildG Y (kBuildG Y (kMem [(20480, ⟨1, 0, .box [.nil 1, .d _, .d _, .d _, .nil 1, .nil 1, .nil 1, .d _, .d _]⟩), (32768, ⟨1, 0, .arr true _⟩)] [(4, .c (.ptr 20480 1 0)), (32, .g [.arr 32768 1, .d _, .d _, .d _, .nil 1, .nil 1, .nil 1, .d _, .d _])] [24576, 24576] ⟨Y, Y, trivial⟩ ⟨Y, Y, trivial⟩ Y (Ks Y Y (Ko Y Y Y Y (Kd (kH (kMem [(20480, ⟨1, 0, .box [.arr 32768 1, .d _, .d _, .d _, .nil 1, .nil 1, .nil 1, .d _, .d _]⟩), (32768, ⟨1, 0, .arr true _⟩)] [(4, .c (.ptr 20480 1 0))] [] ⟨Y, Y, trivial⟩ ⟨Y, trivial⟩ Y (Kr (Er (ra := [.agg [(.d _), (.d _), (.d _), (.d _), (.d _), (.d _), (.d _), (.d _), (.d _)]]) rfl ?_))))))))))))))))))))))))))))) (fun g4 => Kn (Kv (Kb (Kbc (Ka Y (Kd (kCondT Y (Kc (Kf Y Y (Ko Y Y Y Y (Kdb (Kc (Ke Y Y Y (kBuildG Y (kMem [(20480, ⟨1, 0, .box [.nil 1, .d _, .d _, .d _, .nil 1, .nil 1, .nil 1, .d _, .d _]⟩), (32768, ⟨1, 0, .arr true _⟩), (32772, ⟨1, 0, .arr true _⟩), (32773, ⟨1, 0, .arr true _⟩), (32774, ⟨1, 0, .arr true _⟩)] [(4, .c (.ptr 20480 1 0)), (39, .g [.arr 32768 1, .d _, .d _, .d _, .arr 32772 1, .arr 32773 1, .arr 32774 1, .d _, .d _])] [] ⟨Y, Y, Y, Y, Y, trivial⟩ ⟨Y, Y, trivial⟩ Y (Ko Y Y Y Y (Kd (kMem [(20480, ⟨1, 0, .box [.arr 32768 1, .d _, .d _, .d _, .arr 32772 1, .arr 32773 1, .arr 32774 1, .d _, .d _]⟩), (32768, ⟨1, 0, .arr true _⟩), (32772, ⟨1, 0, .arr true _⟩), (32773, ⟨1, 0, .arr true _⟩), (32774, ⟨1, 0, .arr true _⟩)] [(4, .c (.ptr 20480 1 0))] [] ⟨Y, Y, Y, Y, Y, trivial⟩ ⟨Y, trivial⟩ Y (Kr (Er (ra := [.agg [(.d _), (.d _), (.d _), (.d _), (.d _), (.d _), (.d _), (.d _), (.d _)]]) rfl ?_)))))))))))))))))))))))))))))))))))))))))))))
    · exact ⟨(⟨⟨x0.1.name, x3.1, 0, 0, [], [], []⟩, 255, true⟩, x3.2), ⟨⟨(rrOk_small hx0).n, .nil, Nat.zero_le _, Nat.zero_le _⟩⟩, rfl, rfl⟩
    · exact ⟨(⟨⟨x0.1.name, x5.1, 0, 0, [], [], []⟩, 254, true⟩, x5.2), ⟨⟨(rrOk_small hx0).n, .nil, Nat.zero_le _, Nat.zero_le _⟩⟩, rfl, rfl⟩
    · exact ⟨(⟨⟨x0.1.name, x0.1.ty, 0, x0.1.addr, x0.1.to, x0.1.text, x0.1.nums⟩, 1, false⟩, x1.2), ⟨⟨(rrOk_small hx0).n, (rrOk_small hx0).t, (rrOk_small hx0).x, (rrOk_small hx0).m⟩⟩, rfl, rfl⟩

def c_spec_l6want : C := (.g (.o 0 4 (.box 4 (.t 1)) (.o 1 6 (.alloc 6 [(.n 1), (.i 0), (.i 0), (.i 0), (.n 1), (.n 1), (.n 1), (.i 0), (.v (.bool false))]) .done)) (.g (.o 0 9 (.mov (.t 0)) (.o 1 10 (.mov (.t 2)) (.o 2 11 (.call 11 271 [(.t 9), (.t 10)]) (.o 3 7 (.alloc 7 [(.n 1), (.i 0), (.i 0), (.i 0), (.n 1), (.n 1), (.n 1), (.i 0), (.v (.bool false))]) (.op 4 [] none none false (.store (some 9) (.t 7) (.t 11)) .done))))) (.g (.o 0 12 (.mov (.t 0)) (.o 1 13 (.call 13 65 [(.t 12)]) (.o 2 14 (.fad (.t 7) 0) (.o 3 15 (.fad (.t 14) 0) (.op 4 [] none none false (.store (some 1) (.t 15) (.t 13)) .done))))) (.seq (.g (.o 0 16 (.fad (.t 4) 1) (.o 1 17 (.load none (.t 16)) (.o 2 18 (.len (.t 17)) (.o 3 19 (.bin .gtr (.t 18) (.i 0)) (.o 4 20 (.mov (.t 19)) (.op 5 [] (some 21) (some (20, true)) false (.mov (.t 0)) (.op 6 [] (some 22) (some (20, true)) false (.call 22 68 [(.t 21), (.i 3)]) (.o 7 23 (.pick (.t 20) (.t 22) (.v (.bool false))) .done)))))))) (.cond (.t 23) (.seq (.reg true (.op 0 [] (some 24) none true (.fad (.t 4) 1) (.op 1 [] (some 25) none true (.load none (.t 24)) (.op 2 [] (some 26) none true (.mov (.t 0)) (.op 3 [] (some 27) none true (.fad (.t 4) 1) (.op 4 [] (some 28) none true (.load none (.t 27)) (.op 5 [] (some 29) none true (.len (.t 28)) (.alt (.op 6 [4] (some 30) none false (.call 30 117 [(.t 26), (.t 29)]) (.op 7 [] (some 31) none true (.iad 7 (.t 25) (.t 30)) (.op 8 [] (some 32) none true (.load (some 7) (.t 31)) (.alt (.op 9 [8, 1, 4] (some 33) none false (.call 33 232 [(.t 32)]) (.o 10 8 (.alloc 8 [(.n 1), (.i 0), (.i 0), (.i 0), (.n 1), (.n 1), (.n 1)]) (.op 11 [8, 1, 4] none none false (.store (some 7) (.t 8) (.t 33)) .done))) (.o 10 8 (.alloc 8 [(.n 1), (.i 0), (.i 0), (.i 0), (.n 1), (.n 1), (.n 1)]) (.op 9 [8, 1, 4] (some 33) none false (.call 33 232 [(.t 32)]) (.op 11 [8, 1, 4] none none false (.store (some 7) (.t 8) (.t 33)) .done))))))) (.o 10 8 (.alloc 8 [(.n 1), (.i 0), (.i 0), (.i 0), (.n 1), (.n 1), (.n 1)]) (.op 6 [4] (some 30) none false (.call 30 117 [(.t 26), (.t 29)]) (.op 7 [] (some 31) none true (.iad 7 (.t 25) (.t 30)) (.op 8 [] (some 32) none true (.load (some 7) (.t 31)) (.op 9 [8, 1, 4] (some 33) none false (.call 33 232 [(.t 32)]) (.op 11 [8, 1, 4] none none false (.store (some 7) (.t 8) (.t 33)) .done)))))))))))))) (.g (.o 0 34 (.fad (.t 7) 8) (.o 1 35 (.load none (.t 34)) (.o 2 36 (.un .not (.t 35)) .done))) (.cond (.t 36) (.g (.o 0 37 (.load (some 7) (.t 8)) (.o 1 38 (.fad (.t 7) 0) (.op 2 [] none none false (.store (some 7) (.t 38) (.t 37)) .done))) (.g (.o 0 39 (.mov (.t 2)) (.o 1 40 (.mov (.t 39)) (.op 2 [] (some 41) (some (40, false)) false (.fad (.t 7) 7) (.op 3 [] (some 42) (some (40, false)) false (.load none (.t 41)) (.op 4 [] (some 43) (some (40, false)) false (.bin .eql (.t 42) (.i 254)) (.o 5 44 (.pick (.t 40) (.v (.bool true)) (.t 43)) .done)))))) (.cond (.t 44) (.reg false (.o 0 45 (.fad (.t 7) 0) (.o 1 46 (.fad (.t 45) 2) (.op 2 [] none none false (.store none (.t 46) (.i 0)) .done)))) .skip))) (.reg true (.op 0 [] (some 47) none true (.fad (.t 8) 0) (.op 1 [] (some 48) none true (.load (some 1) (.t 47)) (.op 2 [] (some 49) none true (.mov (.t 0)) (.op 3 [] (some 50) none true (.fad (.t 8) 1) (.op 4 [] (some 51) none true (.load none (.t 50)) (.op 5 [4] (some 52) none false (.lit 52 1 [(.i 0)] 2 [(0, 1, (.t 51)), (1, 1, (.i 255))]) (.op 6 [4] (some 53) none false (.call 53 118 [(.t 49), (.t 52)]) (.op 7 [] (some 54) none true (.build [(.n 1), (.i 0), (.i 0), (.i 0), (.n 1), (.n 1), (.n 1)] [(0, 1, (.t 48)), (1, 1, (.t 53))]) (.op 8 [] (some 55) none true (.fad (.t 7) 0) (.op 9 [1, 4] none none false (.store (some 7) (.t 55) (.t 54)) .done)))))))))))))) .skip)) (.seq (.g (.o 0 56 (.mov (.t 0)) (.o 1 57 (.call 57 68 [(.t 56), (.i 20)]) .done)) (.cond (.t 57) (.reg false (.o 0 58 (.call 58 153 [(.v (.string ⟨#[120, 46, 99, 111, 109, 46]⟩))]) (.o 1 59 (.fad (.t 7) 0) (.o 2 60 (.fad (.t 59) 0) (.op 3 [] none none false (.store (some 1) (.t 60) (.t 58)) .done))))) .skip)) (.g (.o 0 61 (.load (some 9) (.t 7)) (.op 1 [] none none false (.store (some 9) (.t 6) (.t 61)) .done)) .ret))))))
theorem dg_spec_l6want : Tryz.f218.body.bind (digC Tryz.prog Tryz.f218.ntmps []) = some c_spec_l6want := by kernel_rfl
theorem rs_spec_l6want : resSlots Tryz.prog Tryz.f218 = some [.m 6 (some 9)] := by kernel_rfl
theorem ok_spec_l6want (c : Cu) (z : Zone) (pre : Bool) (hz : SmallZ z) :
    FnOK Tryz.prog 218 [.one (.box c.cells), .agg (z.cells.map .d), .one (.d (.sc (.bool pre)))] (fun ra os => ∃ x : Want × Cu, (SmallW x.1) ∧ ra = [.agg [.d (encBB x.1.rr.name), .d (.sc (.int .i64 x.1.rr.ty)), .d (.sc (.int .i64 x.1.rr.ttl)), .d (.sc (.int .i64 x.1.rr.addr)), .d (encBB x.1.rr.to), .d (encB x.1.rr.text), .d (encI x.1.rr.nums), .d (.sc (.int .i64 x.1.cls)), .d (.sc (.bool x.1.bare))]] ∧ os.b 0 = x.2.cells) := by
  refine FnOK.ofK Tryz.func218 (by kernel_rfl) dg_spec_l6want rs_spec_l6want rfl rfl ?_
  delta c_spec_l6want T.o X.i C.g
  have hzl := hz.r.len
  have hzm := hz.r.mem
  have hstop := trivial
  refine Kbc (kBox Y Y Y Y Y (kAlloc Y Y (Kdb (Kc (Ka Y (Ka Y (Kz (ok_spec_l4drawWant _ _) ⟨⟨rfl, _, rfl, rfl⟩, rfl, trivial⟩ Y Y Y (fun _ => rfl) (fun x0 hx0 => (kAlloc Y Y (kMem [(32768, ⟨1, 0, .box [.nil 1, .d _, .d _, .d _, .nil 1, .nil 1, .nil 1, .d _, .d _]⟩)] [(7, .c (.ptr 32768 1 0)), (11, .g [.d _, .d _, .d _, .d _, .d _, .d _, .d _, .d _, .d _])] [] ⟨Y, trivial⟩ ⟨Y, Y, trivial⟩ Y (Ko Y Y Y Y (Kdb (Kc (Ka Y (Kz (ok_spec_l5owned _) ⟨⟨rfl, _, rfl, rfl⟩, trivial⟩ Y Y Y (fun _ => rfl) (fun x1 hx1 => (Kf Y Y (Kf Y Y (Ko Y Y Y Y (Kdb (Kbc (Kf Y Y (Ke Y Y Y (kMem [(0, ⟨0, 2, .box [.d _, .d _, .d _]⟩)] [(17, .c (.d _)), (18, .c (.un)), (19, .c (.un)), (0, .c (.ptr 0 0 0)), (21, .c (.un)), (20, .c (.un)), (22, .c (.un))] [] ⟨Y, trivial⟩ ⟨Y, Y, Y, Y, Y, Y, Y, trivial⟩ Y (Kq Y Y (Kj Y Y Y (Ka Y (kGP Y (fun g2 => Ki Y (Ka Y (Ki Y (Kz (ok_spec_l1Once _ _) ⟨⟨rfl, _, rfl, rfl⟩, rfl, trivial⟩ Y Y Y (fun _ => rfl) (fun x3 hx3 => (Kk Y (Ka Y (Kd (kCond Y (fun g4 => Kb ?_) (fun g4 => Kn (Kb (Kbc (Ka Y (Kz (ok_spec_l1Once _ _) ⟨⟨rfl, _, rfl, rfl⟩, rfl, trivial⟩ Y Y Y (fun _ => rfl) (fun x5 hx5 => (Kd (kCond Y (fun g6 => Kc (Ku true (ok_spec_l2of _ prx) ⟨Y, trivial⟩ Y Y Y (fun _ => (kMem [(32768, ⟨1, 0, .box [.arr 57344 1, .d _, .d _, .d _, .d _, .d _, .d _, .d _, .d _]⟩), (241664, ⟨1, 0, .arr true _⟩), (57344, ⟨1, 0, .arr true _⟩)] [(7, .c (.ptr 32768 1 0)), (59, .c (.un)), (60, .c (.un)), (58, .g [.arr 241664 1])] [] ⟨Y, Y, Y, trivial⟩ ⟨Y, Y, Y, Y, trivial⟩ Y (Kf Y Y (Kf Y Y (Ko Y Y Y Y (Kdb (Kc (Ke Y Y Y (kMem [(28672, ⟨1, 0, .box [.nil 1, .d _, .d _, .d _, .nil 1, .nil 1, .nil 1, .d _, .d _]⟩), (241664, ⟨1, 0, .arr true _⟩)] [(6, .c (.ptr 28672 1 0)), (61, .g [.arr 241664 1, .d _, .d _, .d _, .d _, .d _, .d _, .d _, .d _])] [] ⟨Y, Y, trivial⟩ ⟨Y, Y, trivial⟩ Y (Ko Y Y Y Y (Kd (kMem [(28672, ⟨1, 0, .box [.arr 241664 1, .d _, .d _, .d _, .d _, .d _, .d _, .d _, .d _]⟩), (241664, ⟨1, 0, .arr true _⟩)] [(6, .c (.ptr 28672 1 0))] [] ⟨Y, Y, trivial⟩ ⟨Y, trivial⟩ Y (Kr (Er (ra := [.agg [(.d _), (.d _), (.d _), (.d _), (.d _), (.d _), (.d _), (.d _), (.d _)]]) rfl ?_)))))))))))))))) (fun g6 => Kn (Kbc (Ke Y Y Y (kMem [(28672, ⟨1, 0, .box [.nil 1, .d _, .d _, .d _, .nil 1, .nil 1, .nil 1, .d _, .d _]⟩), (57344, ⟨1, 0, .arr true _⟩)] [(6, .c (.ptr 28672 1 0)), (61, .g [.arr 57344 1, .d _, .d _, .d _, .d _, .d _, .d _, .d _, .d _])] [] ⟨Y, Y, trivial⟩ ⟨Y, Y, trivial⟩ Y (Ko Y Y Y Y (Kd (kMem [(28672, ⟨1, 0, .box [.arr 57344 1, .d _, .d _, .d _, .d _, .d _, .d _, .d _, .d _]⟩), (57344, ⟨1, 0, .arr true _⟩)] [(6, .c (.ptr 28672 1 0))] [] ⟨Y, Y, trivial⟩ ⟨Y, trivial⟩ Y (Kr (Er (ra := [.agg [(.d _), (.d _), (.d _), (.d _), (.d _), (.d _), (.d _), (.d _), (.d _)]]) rfl ?_)))))))))))))))))))))))))) (fun g2 => Kg Y (Kg Y (Kl Y (Ka Y (Kd (kCondF Y (Kn (Kb (Kbc (Ka Y (Kz (ok_spec_l1Once _ _) ⟨⟨rfl, _, rfl, rfl⟩, rfl, trivial⟩ Y Y Y (fun _ => rfl) (fun x7 hx7 => (Kd (kCond Y (fun g8 => Kc (Ku true (ok_spec_l2of _ prx) ⟨Y, trivial⟩ Y Y Y (fun _ => (kMem [(32768, ⟨1, 0, .box [.arr 57344 1, .d _, .d _, .d _, .d _, .d _, .d _, .d _, .d _]⟩), (241664, ⟨1, 0, .arr true _⟩), (57344, ⟨1, 0, .arr true _⟩)] [(7, .c (.ptr 32768 1 0)), (59, .c (.un)), (60, .c (.un)), (58, .g [.arr 241664 1])] [] ⟨Y, Y, Y, trivial⟩ ⟨Y, Y, Y, Y, trivial⟩ Y (Kf Y Y (Kf Y Y (Ko Y Y Y Y (Kdb (Kc (Ke Y Y Y (kMem [(28672, ⟨1, 0, .box [.nil 1, .d _, .d _, .d _, .nil 1, .nil 1, .nil 1, .d _, .d _]⟩), (241664, ⟨1, 0, .arr true _⟩)] [(6, .c (.ptr 28672 1 0)), (61, .g [.arr 241664 1, .d _, .d _, .d _, .d _, .d _, .d _, .d _, .d _])] [] ⟨Y, Y, trivial⟩ ⟨Y, Y, trivial⟩ Y (Ko Y Y Y Y (Kd (kMem [(28672, ⟨1, 0, .box [.arr 241664 1, .d _, .d _, .d _, .d _, .d _, .d _, .d _, .d _]⟩), (241664, ⟨1, 0, .arr true _⟩)] [(6, .c (.ptr 28672 1 0))] [] ⟨Y, Y, trivial⟩ ⟨Y, trivial⟩ Y (Kr (Er (ra := [.agg [(.d _), (.d _), (.d _), (.d _), (.d _), (.d _), (.d _), (.d _), (.d _)]]) rfl ?_)))))))))))))))) (fun g8 => Kn (Kbc (Ke Y Y Y (kMem [(28672, ⟨1, 0, .box [.nil 1, .d _, .d _, .d _, .nil 1, .nil 1, .nil 1, .d _, .d _]⟩), (57344, ⟨1, 0, .arr true _⟩)] [(6, .c (.ptr 28672 1 0)), (61, .g [.arr 57344 1, .d _, .d _, .d _, .d _, .d _, .d _, .d _, .d _])] [] ⟨Y, Y, trivial⟩ ⟨Y, Y, trivial⟩ Y (Ko Y Y Y Y (Kd (kMem [(28672, ⟨1, 0, .box [.arr 57344 1, .d _, .d _, .d _, .d _, .d _, .d _, .d _, .d _]⟩), (57344, ⟨1, 0, .arr true _⟩)] [(6, .c (.ptr 28672 1 0))] [] ⟨Y, Y, trivial⟩ ⟨Y, trivial⟩ Y (Kr (Er (ra := [.agg [(.d _), (.d _), (.d _), (.d _), (.d _), (.d _), (.d _), (.d _), (.d _)]]) rfl ?_)))))))))))))))))))))))))))))))))))))))))))))))))))
  · clear hstop
    refine kJoin (α := { r : Rr // SmallR r } × Cu) (fun y => ⟨tabSl [(0, .c (.ptr 0 0 0)), (2, .b pre), (4, .c (.ptr (rid 4 0) 1 0)), (6, .c (.ptr (rid 6 0) 1 0)), (7, .c (.ptr (rid 7 0) 1 0)), (8, .c (.ptr (rid 8 0) 1 0))], obTab 1 [(0, ⟨0, 0, .box (y.2.cells.map .d)⟩), (rid 4 0, ⟨1, 0, .box (z.cells.map .d)⟩), (rid 6 0, ⟨1, 0, .box [.nil 1, .d (.sc (.int .i64 0)), .d (.sc (.int .i64 0)), .d (.sc (.int .i64 0)), .nil 1, .nil 1, .nil 1, .d (.sc (.int .i64 0)), .d (.sc (.bool false))]⟩), (rid 7 0, ⟨1, 0, .box [.arr (rid 13 0) 1, .d (.sc (.int .i64 x0.1.rr.ty)), .d (.sc (.int .i64 x0.1.rr.ttl)), .d (.sc (.int .i64 x0.1.rr.addr)), .d (encBB x0.1.rr.to), .d (encB x0.1.rr.text), .d (encI x0.1.rr.nums), .d (.sc (.int .i64 x0.1.cls)), .d (.sc (.bool x0.1.bare))]⟩), (rid 13 0, ⟨1, 0, .arr true (encBB x1.1)⟩), (rid 8 0, ⟨1, 0, .box [.arr (rid 33 0) 1, .d (.sc (.int .i64 y.1.1.ty)), .d (.sc (.int .i64 y.1.1.ttl)), .d (.sc (.int .i64 y.1.1.addr)), .arr (rid 33 4) 1, .arr (rid 33 5) 1, .arr (rid 33 6) 1]⟩), (rid 33 0, ⟨1, 0, .arr true (encBB y.1.1.name)⟩), (rid 33 4, ⟨1, 0, .arr true (encBB y.1.1.to)⟩), (rid 33 5, ⟨1, 0, .arr true (encB y.1.1.text)⟩), (rid 33 6, ⟨1, 0, .arr true (encI y.1.1.nums)⟩)], []⟩) ?_ (fun x' hc => ?_)
    case refine_2 =>
      refine kRegD (Kf Y Y (Ke Y Y Y (Ka Y (kMem [(20480, ⟨1, 0, .box [.d _, .d _]⟩), (0, ⟨0, 3, .box [.d _, .d _, .d _]⟩)] [(4, .c (.ptr 20480 1 0)), (27, .c (.un)), (28, .c (.un)), (26, .c (.ptr 0 0 0)), (29, .c (.un)), (25, .c (.d _)), (30, .c (.un)), (31, .c (.un)), (32, .c (.un)), (8, .c (.un)), (33, .c (.un))] [20480] ⟨Y, Y, trivial⟩ ⟨Y, Y, Y, Y, Y, Y, Y, Y, Y, Y, Y, trivial⟩ Y (Kf Y Y (Ke Y Y Y (Kq Y Y (kAlt (Kx Y Y (Kz (ok_spec_l1Below _ _) ⟨⟨rfl, _, rfl, rfl⟩, rfl, trivial⟩ Y Y Y (fun _ => rfl) (fun x5 hx5 => (kIadT Y Y prl (Ky Y Y (kAlt (Ks Y Y (Ku true (ok_spec_l3own _ prx) ⟨⟨⟨Y, Y, Y, Y, Y, Y, Y, trivial⟩, leb⟩, trivial⟩ Y Y Y (fun _ => (kAlloc Y Y (kMem [(36864, ⟨1, 0, .box [.nil 1, .d _, .d _, .d _, .nil 1, .nil 1, .nil 1]⟩), (139264, ⟨1, 0, .arr true _⟩), (139268, ⟨1, 0, .arr true _⟩), (139269, ⟨1, 0, .arr true _⟩), (139270, ⟨1, 0, .arr true _⟩)] [(8, .c (.ptr 36864 1 0)), (33, .g [.arr 139264 1, .d _, .d _, .d _, .arr 139268 1, .arr 139269 1, .arr 139270 1])] [] ⟨Y, Y, Y, Y, Y, trivial⟩ ⟨Y, Y, trivial⟩ Y (Ks Y Y (Ko Y Y Y Y (Kd (kH ?_))))))))) (kAlloc Y Y (Ks Y Y (Ku true (ok_spec_l3own _ prx) ⟨⟨⟨Y, Y, Y, Y, Y, Y, Y, trivial⟩, leb⟩, trivial⟩ Y Y Y (fun _ => (kMem [(36864, ⟨1, 0, .box [.nil 1, .d _, .d _, .d _, .nil 1, .nil 1, .nil 1]⟩), (139264, ⟨1, 0, .arr true _⟩), (139268, ⟨1, 0, .arr true _⟩), (139269, ⟨1, 0, .arr true _⟩), (139270, ⟨1, 0, .arr true _⟩)] [(8, .c (.ptr 36864 1 0)), (33, .g [.arr 139264 1, .d _, .d _, .d _, .arr 139268 1, .arr 139269 1, .arr 139270 1])] [] ⟨Y, Y, Y, Y, Y, trivial⟩ ⟨Y, Y, trivial⟩ Y (Ks Y Y (Ko Y Y Y Y (Kd (kH ?_))))))))))))))) (kAlloc Y Y (Kx Y Y (Kz (ok_spec_l1Below _ _) ⟨⟨rfl, _, rfl, rfl⟩, rfl, trivial⟩ Y Y Y (fun _ => rfl) (fun x7 hx7 => (kIadT Y Y prl (Ky Y Y (Ks Y Y (Ku true (ok_spec_l3own _ prx) ⟨⟨⟨Y, Y, Y, Y, Y, Y, Y, trivial⟩, leb⟩, trivial⟩ Y Y Y (fun _ => (kMem [(36864, ⟨1, 0, .box [.nil 1, .d _, .d _, .d _, .nil 1, .nil 1, .nil 1]⟩), (139264, ⟨1, 0, .arr true _⟩), (139268, ⟨1, 0, .arr true _⟩), (139269, ⟨1, 0, .arr true _⟩), (139270, ⟨1, 0, .arr true _⟩)] [(8, .c (.ptr 36864 1 0)), (33, .g [.arr 139264 1, .d _, .d _, .d _, .arr 139268 1, .arr 139269 1, .arr 139270 1])] [] ⟨Y, Y, Y, Y, Y, trivial⟩ ⟨Y, Y, trivial⟩ Y (Ks Y Y (Ko Y Y Y Y (Kd (kH ?_))))))))))))))))))))))
      · exact hc _ (⟨_, hzm _ (List.getElem_mem (show x5.1.toNat < z.rrs.length by omega))⟩, x5.2) .normA
      · exact hc _ (⟨_, hzm _ (List.getElem_mem (show x5.1.toNat < z.rrs.length by omega))⟩, x5.2) .normA
      · exact hc _ (⟨_, hzm _ (List.getElem_mem (show x7.1.toNat < z.rrs.length by omega))⟩, x7.2) .normA
    rintro ⟨⟨r, hr⟩, c1⟩
    simp only
    refine Kbc (Kf Y Y (Ke Y Y Y (Kw Y Y (Kd (kCondN Y (fun g4 => Kbc (Ke Y Y Y (Kf Y Y (kMem [(32768, ⟨1, 0, .box [.arr 57344 1, .d _, .d _, .d _, .d _, .d _, .d _, .d _, .d _]⟩), (139264, ⟨1, 0, .arr true _⟩), (139268, ⟨1, 0, .arr true _⟩), (139269, ⟨1, 0, .arr true _⟩), (139270, ⟨1, 0, .arr true _⟩), (57344, ⟨1, 0, .arr true _⟩)] [(38, .c (.ptr 32768 1 0)), (37, .g [.arr 139264 1, .d _, .d _, .d _, .arr 139268 1, .arr 139269 1, .arr 139270 1])] [] ⟨Y, Y, Y, Y, Y, Y, trivial⟩ ⟨Y, Y, trivial⟩ Y (Ko Y Y Y Y (Kdb (Kc (Ka Y (Ka Y (kGS Y (fun g5 => Kg Y (Kg Y (Kg Y (Kk Y (Ka Y (Kd (kCondT Y (Kc (Kf Y Y (Kf Y Y (Ko Y Y Y Y (Kdb (Kbc (kMem [(0, ⟨0, 0, .box [.d _, .d _, .d _]⟩)] [(0, .c (.ptr 0 0 0))] [] ⟨Y, trivial⟩ ⟨Y, trivial⟩ Y (Ka Y (Kz (ok_spec_l1Once _ _) ⟨⟨rfl, _, rfl, rfl⟩, rfl, trivial⟩ Y Y Y (fun _ => rfl) (fun x6 hx6 => (Kd (kCond Y (fun g7 => Kc (Ku true (ok_spec_l2of _ prx) ⟨Y, trivial⟩ Y Y Y (fun _ => (Kf Y Y (Kf Y Y (Ko Y Y Y Y (Kdb (Kc (Ke Y Y Y (kMem [(28672, ⟨1, 0, .box [.nil 1, .d _, .d _, .d _, .nil 1, .nil 1, .nil 1, .d _, .d _]⟩), (241664, ⟨2, 0, .arr true _⟩), (139268, ⟨1, 0, .arr true _⟩), (139269, ⟨1, 0, .arr true _⟩), (139270, ⟨1, 0, .arr true _⟩)] [(6, .c (.ptr 28672 1 0)), (61, .g [.arr 241664 2, .d _, .d _, .d _, .arr 139268 1, .arr 139269 1, .arr 139270 1, .d _, .d _])] [] ⟨Y, Y, Y, Y, Y, trivial⟩ ⟨Y, Y, trivial⟩ Y (Ko Y Y Y Y (Kd (kMem [(28672, ⟨1, 0, .box [.arr 241664 2, .d _, .d _, .d _, .arr 139268 1, .arr 139269 1, .arr 139270 1, .d _, .d _]⟩), (241664, ⟨2, 0, .arr true _⟩), (139268, ⟨1, 0, .arr true _⟩), (139269, ⟨1, 0, .arr true _⟩), (139270, ⟨1, 0, .arr true _⟩)] [(6, .c (.ptr 28672 1 0))] [] ⟨Y, Y, Y, Y, Y, trivial⟩ ⟨Y, trivial⟩ Y (Kr (Er (ra := [.agg [(.d _), (.d _), (.d _), (.d _), (.d _), (.d _), (.d _), (.d _), (.d _)]]) rfl ?_))))))))))))))) (fun g7 => Kn (Kbc (Ke Y Y Y (kMem [(28672, ⟨1, 0, .box [.nil 1, .d _, .d _, .d _, .nil 1, .nil 1, .nil 1, .d _, .d _]⟩), (139264, ⟨1, 0, .arr true _⟩), (139268, ⟨1, 0, .arr true _⟩), (139269, ⟨1, 0, .arr true _⟩), (139270, ⟨1, 0, .arr true _⟩)] [(6, .c (.ptr 28672 1 0)), (61, .g [.arr 139264 1, .d _, .d _, .d _, .arr 139268 1, .arr 139269 1, .arr 139270 1, .d _, .d _])] [] ⟨Y, Y, Y, Y, Y, trivial⟩ ⟨Y, Y, trivial⟩ Y (Ko Y Y Y Y (Kd (kMem [(28672, ⟨1, 0, .box [.arr 139264 1, .d _, .d _, .d _, .arr 139268 1, .arr 139269 1, .arr 139270 1, .d _, .d _]⟩), (139264, ⟨1, 0, .arr true _⟩), (139268, ⟨1, 0, .arr true _⟩), (139269, ⟨1, 0, .arr true _⟩), (139270, ⟨1, 0, .arr true _⟩)] [(6, .c (.ptr 28672 1 0))] [] ⟨Y, Y, Y, Y, Y, trivial⟩ ⟨Y, trivial⟩ Y (Kr (Er (ra := [.agg [(.d _), (.d _), (.d _), (.d _), (.d _), (.d _), (.d _), (.d _), (.d _)]]) rfl ?_)))))))))))))))))))))))))))) (fun g5 => Ki Y (Kf Y Y (Ki Y (Ke Y Y Y (Ki Y (Kj Y Y Y (Kl Y (Ka Y (Kd (Km Y (fun g8 => Kc (Kf Y Y (Kf Y Y (kMem [(32768, ⟨1, 0, .box [.arr 139264 1, .d _, .d _, .d _, .arr 139268 1, .arr 139269 1, .arr 139270 1, .d _, .d _]⟩), (139264, ⟨1, 0, .arr true _⟩), (139268, ⟨1, 0, .arr true _⟩), (139269, ⟨1, 0, .arr true _⟩), (139270, ⟨1, 0, .arr true _⟩)] [(46, .c (.ptr 32768 1 2))] [] ⟨Y, Y, Y, Y, Y, trivial⟩ ⟨Y, trivial⟩ Y (Ko Y Y Y Y (Kdb (Kbc (Ka Y (Kz (ok_spec_l1Once _ _) ⟨⟨rfl, _, rfl, rfl⟩, rfl, trivial⟩ Y Y Y (fun _ => rfl) (fun x9 hx9 => (Kd (kCond Y (fun g10 => Kc (Ku true (ok_spec_l2of _ prx) ⟨Y, trivial⟩ Y Y Y (fun _ => (Kf Y Y (Kf Y Y (Ko Y Y Y Y (Kdb (Kc (Ke Y Y Y (kMem [(28672, ⟨1, 0, .box [.nil 1, .d _, .d _, .d _, .nil 1, .nil 1, .nil 1, .d _, .d _]⟩), (241664, ⟨2, 0, .arr true _⟩), (139268, ⟨1, 0, .arr true _⟩), (139269, ⟨1, 0, .arr true _⟩), (139270, ⟨1, 0, .arr true _⟩)] [(6, .c (.ptr 28672 1 0)), (61, .g [.arr 241664 2, .d _, .d _, .d _, .arr 139268 1, .arr 139269 1, .arr 139270 1, .d _, .d _])] [] ⟨Y, Y, Y, Y, Y, trivial⟩ ⟨Y, Y, trivial⟩ Y (Ko Y Y Y Y (Kd (kMem [(28672, ⟨1, 0, .box [.arr 241664 2, .d _, .d _, .d _, .arr 139268 1, .arr 139269 1, .arr 139270 1, .d _, .d _]⟩), (241664, ⟨2, 0, .arr true _⟩), (139268, ⟨1, 0, .arr true _⟩), (139269, ⟨1, 0, .arr true _⟩), (139270, ⟨1, 0, .arr true _⟩)] [(6, .c (.ptr 28672 1 0))] [] ⟨Y, Y, Y, Y, Y, trivial⟩ ⟨Y, trivial⟩ Y (Kr (Er (ra := [.agg [(.d _), (.d _), (.d _), (.d _), (.d _), (.d _), (.d _), (.d _), (.d _)]]) rfl ?_))))))))))))))) (fun g10 => Kn (Kbc (Ke Y Y Y (kMem [(28672, ⟨1, 0, .box [.nil 1, .d _, .d _, .d _, .nil 1, .nil 1, .nil 1, .d _, .d _]⟩), (139264, ⟨1, 0, .arr true _⟩), (139268, ⟨1, 0, .arr true _⟩), (139269, ⟨1, 0, .arr true _⟩), (139270, ⟨1, 0, .arr true _⟩)] [(6, .c (.ptr 28672 1 0)), (61, .g [.arr 139264 1, .d _, .d _, .d _, .arr 139268 1, .arr 139269 1, .arr 139270 1, .d _, .d _])] [] ⟨Y, Y, Y, Y, Y, trivial⟩ ⟨Y, Y, trivial⟩ Y (Ko Y Y Y Y (Kd (kMem [(28672, ⟨1, 0, .box [.arr 139264 1, .d _, .d _, .d _, .arr 139268 1, .arr 139269 1, .arr 139270 1, .d _, .d _]⟩), (139264, ⟨1, 0, .arr true _⟩), (139268, ⟨1, 0, .arr true _⟩), (139269, ⟨1, 0, .arr true _⟩), (139270, ⟨1, 0, .arr true _⟩)] [(6, .c (.ptr 28672 1 0))] [] ⟨Y, Y, Y, Y, Y, trivial⟩ ⟨Y, trivial⟩ Y (Kr (Er (ra := [.agg [(.d _), (.d _), (.d _), (.d _), (.d _), (.d _), (.d _), (.d _), (.d _)]]) rfl ?_))))))))))))))))))))) (fun g8 => Kn (Kb (Kbc (Ka Y (Kz (ok_spec_l1Once _ _) ⟨⟨rfl, _, rfl, rfl⟩, rfl, trivial⟩ Y Y Y (fun _ => rfl) (fun x11 hx11 => (Kd (kCond Y (fun g12 => Kc (kMem [(32768, ⟨1, 0, .box [.arr 139264 1, .d _, .d _, .d _, .arr 139268 1, .arr 139269 1, .arr 139270 1, .d _, .d _]⟩), (139264, ⟨1, 0, .arr true _⟩), (139268, ⟨1, 0, .arr true _⟩), (139269, ⟨1, 0, .arr true _⟩), (139270, ⟨1, 0, .arr true _⟩)] [(7, .c (.ptr 32768 1 0))] [] ⟨Y, Y, Y, Y, Y, trivial⟩ ⟨Y, trivial⟩ Y (Ku true (ok_spec_l2of _ prx) ⟨Y, trivial⟩ Y Y Y (fun _ => (Kf Y Y (Kf Y Y (Ko Y Y Y Y (Kdb (Kc (Ke Y Y Y (kMem [(28672, ⟨1, 0, .box [.nil 1, .d _, .d _, .d _, .nil 1, .nil 1, .nil 1, .d _, .d _]⟩), (241664, ⟨2, 0, .arr true _⟩), (139268, ⟨1, 0, .arr true _⟩), (139269, ⟨1, 0, .arr true _⟩), (139270, ⟨1, 0, .arr true _⟩)] [(6, .c (.ptr 28672 1 0)), (61, .g [.arr 241664 2, .d _, .d _, .d _, .arr 139268 1, .arr 139269 1, .arr 139270 1, .d _, .d _])] [] ⟨Y, Y, Y, Y, Y, trivial⟩ ⟨Y, Y, trivial⟩ Y (Ko Y Y Y Y (Kd (kMem [(28672, ⟨1, 0, .box [.arr 241664 2, .d _, .d _, .d _, .arr 139268 1, .arr 139269 1, .arr 139270 1, .d _, .d _]⟩), (241664, ⟨2, 0, .arr true _⟩), (139268, ⟨1, 0, .arr true _⟩), (139269, ⟨1, 0, .arr true _⟩), (139270, ⟨1, 0, .arr true _⟩)] [(6, .c (.ptr 28672 1 0))] [] ⟨Y, Y, Y, Y, Y, trivial⟩ ⟨Y, trivial⟩ Y (Kr (Er (ra := [.agg [(.d _), (.d _), (.d _), (.d _), (.d _), (.d _), (.d _), (.d _), (.d _)]]) rfl ?_)))))))))))))))) (fun g12 => Kn (Kbc (kMem [(32768, ⟨1, 0, .box [.arr 139264 1, .d _, .d _, .d _, .arr 139268 1, .arr 139269 1, .arr 139270 1, .d _, .d _]⟩), (28672, ⟨1, 0, .box [.nil 1, .d _, .d _, .d _, .nil 1, .nil 1, .nil 1, .d _, .d _]⟩), (139264, ⟨1, 0, .arr true _⟩), (139268, ⟨1, 0, .arr true _⟩), (139269, ⟨1, 0, .arr true _⟩), (139270, ⟨1, 0, .arr true _⟩)] [(7, .c (.ptr 32768 1 0)), (6, .c (.ptr 28672 1 0))] [] ⟨Y, Y, Y, Y, Y, Y, trivial⟩ ⟨Y, Y, trivial⟩ Y (Ke Y Y Y (kMem [(28672, ⟨1, 0, .box [.nil 1, .d _, .d _, .d _, .nil 1, .nil 1, .nil 1, .d _, .d _]⟩), (139264, ⟨1, 0, .arr true _⟩), (139268, ⟨1, 0, .arr true _⟩), (139269, ⟨1, 0, .arr true _⟩), (139270, ⟨1, 0, .arr true _⟩)] [(6, .c (.ptr 28672 1 0)), (61, .g [.arr 139264 1, .d _, .d _, .d _, .arr 139268 1, .arr 139269 1, .arr 139270 1, .d _, .d _])] [] ⟨Y, Y, Y, Y, Y, trivial⟩ ⟨Y, Y, trivial⟩ Y (Ko Y Y Y Y (Kd (kMem [(28672, ⟨1, 0, .box [.arr 139264 1, .d _, .d _, .d _, .arr 139268 1, .arr 139269 1, .arr 139270 1, .d _, .d _]⟩), (139264, ⟨1, 0, .arr true _⟩), (139268, ⟨1, 0, .arr true _⟩), (139269, ⟨1, 0, .arr true _⟩), (139270, ⟨1, 0, .arr true _⟩)] [(6, .c (.ptr 28672 1 0))] [] ⟨Y, Y, Y, Y, Y, trivial⟩ ⟨Y, trivial⟩ Y (Kr (Er (ra := [.agg [(.d _), (.d _), (.d _), (.d _), (.d _), (.d _), (.d _), (.d _), (.d _)]]) rfl ?_)))))))))))))))))))))))))))))))))))))) (fun g4 => kRegD (Kf Y Y (Ke Y Y Y (Ka Y (Kf Y Y (Ke Y Y Y (Kx Y Y (kLitD Y Y Y Y (kMem [(0, ⟨0, 0, .box [.d _, .d _, .d _]⟩), (139264, ⟨1, 0, .arr true _⟩), (32768, ⟨1, 0, .box [.arr 57344 1, .d _, .d _, .d _, .d _, .d _, .d _, .d _, .d _]⟩), (57344, ⟨1, 0, .arr true _⟩)] [(49, .c (.ptr 0 0 0)), (52, .c (.d _)), (48, .g [.arr 139264 1]), (7, .c (.ptr 32768 1 0))] [36864, 36864] ⟨Y, Y, Y, Y, trivial⟩ ⟨Y, Y, Y, Y, trivial⟩ Y (Kx Y Y (Kz (ok_spec_l1PickInt _ _ prx prx prx) ⟨⟨rfl, _, rfl, rfl⟩, rfl, trivial⟩ Y Y Y (fun _ => rfl) (fun x13 hx13 => (kBuildG Y (Kf Y Y (kMem [(32768, ⟨1, 0, .box [.arr 57344 1, .d _, .d _, .d _, .d _, .d _, .d _, .d _, .d _]⟩), (139264, ⟨1, 0, .arr true _⟩), (57344, ⟨1, 0, .arr true _⟩)] [(55, .c (.ptr 32768 1 0)), (54, .g [.arr 139264 1, .d _, .d _, .d _, .nil 1, .nil 1, .nil 1])] [36864, 36864] ⟨Y, Y, Y, trivial⟩ ⟨Y, Y, trivial⟩ Y (Ks Y Y (Ko Y Y Y Y (Kd (kH (Kb (Kbc (Ka Y (Kz (ok_spec_l1Once _ _) ⟨⟨rfl, _, rfl, rfl⟩, rfl, trivial⟩ Y Y Y (fun _ => rfl) (fun x14 hx14 => (Kd (kCond Y (fun g15 => Kc (Ku true (ok_spec_l2of _ prx) ⟨Y, trivial⟩ Y Y Y (fun _ => (Kf Y Y (Kf Y Y (Ko Y Y Y Y (Kdb (Kc (Ke Y Y Y (kMem [(28672, ⟨1, 0, .box [.nil 1, .d _, .d _, .d _, .nil 1, .nil 1, .nil 1, .d _, .d _]⟩), (241664, ⟨2, 0, .arr true _⟩)] [(6, .c (.ptr 28672 1 0)), (61, .g [.arr 241664 2, .d _, .d _, .d _, .nil 1, .nil 1, .nil 1, .d _, .d _])] [] ⟨Y, Y, trivial⟩ ⟨Y, Y, trivial⟩ Y (Ko Y Y Y Y (Kd (kMem [(28672, ⟨1, 0, .box [.arr 241664 2, .d _, .d _, .d _, .nil 1, .nil 1, .nil 1, .d _, .d _]⟩), (241664, ⟨2, 0, .arr true _⟩)] [(6, .c (.ptr 28672 1 0))] [] ⟨Y, Y, trivial⟩ ⟨Y, trivial⟩ Y (Kr (Er (ra := [.agg [(.d _), (.d _), (.d _), (.d _), (.d _), (.d _), (.d _), (.d _), (.d _)]]) rfl ?_))))))))))))))) (fun g15 => Kn (Kbc (Ke Y Y Y (kMem [(28672, ⟨1, 0, .box [.nil 1, .d _, .d _, .d _, .nil 1, .nil 1, .nil 1, .d _, .d _]⟩), (139264, ⟨1, 0, .arr true _⟩)] [(6, .c (.ptr 28672 1 0)), (61, .g [.arr 139264 1, .d _, .d _, .d _, .nil 1, .nil 1, .nil 1, .d _, .d _])] [] ⟨Y, Y, trivial⟩ ⟨Y, Y, trivial⟩ Y (Ko Y Y Y Y (Kd (kMem [(28672, ⟨1, 0, .box [.arr 139264 1, .d _, .d _, .d _, .nil 1, .nil 1, .nil 1, .d _, .d _]⟩), (139264, ⟨1, 0, .arr true _⟩)] [(6, .c (.ptr 28672 1 0))] [] ⟨Y, Y, trivial⟩ ⟨Y, trivial⟩ Y (Kr (Er (ra := [.agg [(.d _), (.d _), (.d _), (.d _), (.d _), (.d _), (.d _), (.d _), (.d _)]]) rfl ?_))))))))))))))))))))))))))))))))))))))))
    all_goals first
      | exact ⟨(⟨⟨r.name, r.ty, 0, r.addr, r.to, r.text, r.nums⟩, x0.1.cls, x0.1.bare⟩, _), ⟨⟨hr.n, hr.t, hr.x, hr.m⟩⟩, rfl, rfl⟩
      | (refine ⟨(⟨⟨_, _, _, _, _, _, _⟩, _, _⟩, _), ⟨⟨?_, ?_, ?_, ?_⟩⟩, rfl, rfl⟩ <;> first | exact .ok (readN_ok _) | exact .ok (by assumption) | exact hr.n | exact hr.t | exact hr.x | exact hr.m | exact hx0.r.n | exact hx0.r.t | exact hx0.r.x | exact hx0.r.m)
      | (refine ⟨(⟨⟨_, _, _, _, [], [], []⟩, _, _⟩, _), ⟨⟨?_, ?_, ?_, ?_⟩⟩, rfl, rfl⟩ <;> first | exact .ok (readN_ok _) | exact .ok (by assumption) | exact hr.n | exact hx0.r.n | exact .nil | exact Nat.zero_le _)
  all_goals first
    | (refine ⟨(⟨⟨_, _, _, _, _, _, _⟩, _, _⟩, _), ⟨⟨?_, ?_, ?_, ?_⟩⟩, rfl, rfl⟩ <;> first | exact .ok (readN_ok _) | exact .ok (by assumption) | exact hx0.r.n | exact hx0.r.t | exact hx0.r.x | exact hx0.r.m | exact hx0.r.n | exact hx0.r.t | exact hx0.r.x | exact hx0.r.m)
    | (refine ⟨(⟨⟨_, _, _, _, [], [], []⟩, _, _⟩, _), ⟨⟨?_, ?_, ?_, ?_⟩⟩, rfl, rfl⟩ <;> first | exact .ok (readN_ok _) | exact .ok (by assumption) | exact hx0.r.n | exact hx0.r.n | exact .nil | exact Nat.zero_le _)

def c_spec_l6wants : C := (.g (.o 0 5 (.box 5 (.t 1)) (.o 1 8 (.mov (.n 9)) .done)) (.g (.o 0 9 (.mov (.n 9)) .done) (.seq (.g (.o 0 10 (.mov (.i 0)) .done) (.block 0 (.loop (.seq (.g (.o 0 11 (.mov (.t 10)) (.o 1 12 (.mov (.t 3)) (.o 2 13 (.bin .lss (.t 11) (.t 12)) .done))) (.cond (.t 13) .skip (.exit 0))) (.seq (.block 1 (.reg false (.o 0 16 (.mov (.t 9)) (.o 1 17 (.mov (.t 0)) (.o 2 18 (.load (some 2) (.t 5)) (.o 3 19 (.mov (.t 2)) (.o 4 20 (.call 20 218 [(.t 17), (.t 18), (.t 19)]) (.o 5 21 (.lit 21 9 [(.n 1), (.i 0), (.i 0), (.i 0), (.n 1), (.n 1), (.n 1), (.i 0), (.v (.bool false))] 1 [(0, 9, (.t 20))]) (.o 6 22 (.app 22 9 136 (.t 16) (.t 21)) (.o 7 9 (.mov (.t 22)) .done)))))))))) (.reg false (.o 0 14 (.mov (.t 10)) (.o 1 15 (.bin .add (.t 14) (.i 1)) (.o 2 10 (.mov (.t 15)) .done))))))))) (.seq (.g (.o 0 23 (.mov (.t 0)) (.o 1 24 (.call 24 68 [(.t 23), (.i 25)]) .done)) (.cond (.t 24) (.reg false (.o 0 25 (.mov (.t 9)) (.o 1 26 (.mov (.t 0)) (.o 2 27 (.call 27 148 [(.t 26)]) (.o 3 28 (.mov (.t 0)) (.o 4 29 (.lit 29 1 [(.i 0)] 3 [(0, 1, (.i 1)), (1, 1, (.i 254)), (2, 1, (.i 255))]) (.o 5 30 (.call 30 118 [(.t 28), (.t 29)]) (.o 6 31 (.mov (.t 0)) (.o 7 32 (.call 32 68 [(.t 31), (.i 2)]) (.o 8 33 (.build [(.n 1), (.i 0), (.i 0), (.i 0), (.n 1), (.n 1), (.n 1), (.i 0), (.v (.bool false))] [(0, 7, (.t 27)), (7, 1, (.t 30)), (8, 1, (.t 32))]) (.o 9 34 (.lit 34 9 [(.n 1), (.i 0), (.i 0), (.i 0), (.n 1), (.n 1), (.n 1), (.i 0), (.v (.bool false))] 1 [(0, 9, (.t 33))]) (.o 10 35 (.app 35 9 136 (.t 25) (.t 34)) (.o 11 9 (.mov (.t 35)) .done))))))))))))) .skip)) (.g (.o 0 36 (.mov (.t 9)) (.o 1 8 (.mov (.t 36)) .done)) .ret)))))
theorem dg_spec_l6wants : Tryz.f128.body.bind (digC Tryz.prog Tryz.f128.ntmps []) = some c_spec_l6wants := by kernel_rfl
theorem rs_spec_l6wants : resSlots Tryz.prog Tryz.f128 = some [.s 8] := by kernel_rfl
theorem ok_spec_l6wants (c : Cu) (z : Zone) (pre : Bool) (n : Int) (hz : SmallZ z) (hn : n ≤ 1000) :
    FnOK Tryz.prog 128 [.one (.box c.cells), .agg (z.cells.map .d), .one (.d (.sc (.bool pre))), .one (.d (.sc (.int .i64 n)))] (fun ra os => ∃ x : List Want × Cu, (x.1.length ≤ 1001 ∧ ∀ w ∈ x.1, SmallW w) ∧ ra = [.one (.d (encW x.1))] ∧ os.b 0 = x.2.cells) := by
  refine FnOK.ofK Tryz.func128 (by kernel_rfl) dg_spec_l6wants rs_spec_l6wants rfl rfl ?_
  delta c_spec_l6wants T.o X.i C.g
  refine Kbc (kBox Y Y Y Y Y (Ka Y (Kdb (Kc (Ka Y (Kdb (Kbc (Ka Y (Kd (Kt ?_))))))))))
  refine kSub (Sub.nilArr (j := 9) (id := rid 5000 0) (sz := 9) rfl (by decide)) ?_
  refine kLoop (α := { L : List Want // (L.length ≤ 1000 ∧ True) ∧ ∀ r ∈ L, SmallW r } × Cu) (fun y => ⟨tabSl [(0, .c (.ptr 0 0 0)), (2, .b pre), (3, .i n), (5, .c (.ptr (rid 5 0) 1 0)), (9, .c (.arr (rid 5000 0) 1)), (10, .i y.1.1.length)], obTab 1 [(0, ⟨0, 0, .box (y.2.cells.map .d)⟩), (rid 5 0, ⟨1, 0, .box (z.cells.map .d)⟩), (rid 5000 0, ⟨1, 0, .arr false (encW y.1.1)⟩)], []⟩) (fun y => 1000 - y.1.1.length) (⟨[], by simp, nofun⟩, c) .normA ?_
  rintro ⟨⟨L, ⟨hL, _⟩, hm⟩, c1⟩
  simp only
  refine Kb (Kbc (Ka Y (Ka Y (Kj Y Y Y (Kd (Km Y (fun g0 => Kn (Kb (Kt (Kc (Ka Y (Ka Y (Ke Y Y Y (Ka Y (Kz (ok_spec_l6want _ _ _ prx) ⟨⟨rfl, _, rfl, rfl⟩, ⟨⟨Y, Y, trivial⟩, leb⟩, rfl, trivial⟩ Y Y Y (fun _ => rfl) (fun x1 hx1 => (kLitG Y Y Y Y (kMem [(20484096, ⟨1, 0, .arr false _⟩), (90112, ⟨2, 0, .arr false _⟩)] [(16, .c (.arr 20484096 1)), (21, .c (.arr 90112 2))] [] ⟨Y, Y, trivial⟩ ⟨Y, Y, trivial⟩ Y (kAppR1 Y Y Y Y Y Y Y Y prl (Ka Y (Kd (Kv (Kc (Ka Y (kAdd Y Y om (Ka Y (Kd ?_))))))))))))))))))))) (fun g0 => kExit (kExC (kExI (kExB (Kb (Kbc (Ka Y (Kz (ok_spec_l1Once _ _) ⟨⟨rfl, _, rfl, rfl⟩, rfl, trivial⟩ Y Y Y (fun _ => rfl) (fun x2 hx2 => (Kd (kCond Y (fun g3 => Kc (Ka Y (Ka Y (Kz (ok_spec_l3bent _) ⟨⟨rfl, _, rfl, rfl⟩, trivial⟩ Y Y Y (fun _ => rfl) (fun x4 hx4 => (Ka Y (kLitD Y Y Y Y (kMem [(0, ⟨0, 2, .box [.d _, .d _, .d _]⟩), (20484096, ⟨1, 0, .arr false _⟩)] [(28, .c (.ptr 0 0 0)), (29, .c (.d _)), (0, .c (.ptr 0 0 0)), (27, .g [.d _, .d _, .d _, .d _, .d _, .d _, .d _]), (25, .c (.arr 20484096 1))] [] ⟨Y, Y, trivial⟩ ⟨Y, Y, Y, Y, Y, trivial⟩ Y (Kz (ok_spec_l1PickInt _ _ prx prx prx) ⟨⟨rfl, _, rfl, rfl⟩, rfl, trivial⟩ Y Y Y (fun _ => rfl) (fun x5 hx5 => (Ka Y (Kz (ok_spec_l1Once _ _) ⟨⟨rfl, _, rfl, rfl⟩, rfl, trivial⟩ Y Y Y (fun _ => rfl) (fun x6 hx6 => (kMem [(20484096, ⟨1, 0, .arr false _⟩)] [(27, .g [.d _, .d _, .d _, .d _, .d _, .d _, .d _]), (30, .c (.d _)), (32, .c (.d _)), (25, .c (.arr 20484096 1))] [] ⟨Y, trivial⟩ ⟨Y, Y, Y, Y, trivial⟩ Y (kBuildG Y (kLitG Y Y Y Y ?_)))))))))))))))) (fun g3 => Kn (Kbc (Ka Y (Ka Y (Kd (kMem [(20484096, ⟨1, 0, .arr false _⟩)] [(8, .c (.arr 20484096 1))] [] ⟨Y, trivial⟩ ⟨Y, trivial⟩ Y (Kr (Er (ra := [.one (.d _)]) rfl ?_)))))))))))))))))))))))))
  · exact kInv ⟨(⟨L ++ [x1.1], ⟨by simp; omega, trivial⟩, (SmallWs.app ⟨Nat.le_refl _, hm⟩ hx1).2⟩, x1.2), by simp; omega, .normA⟩
  · refine kAppR1 (f := Want.cells) (l := L) (z := ⟨x4.1, x5.1, x6.1⟩) Y Y Y Y Y Y Y Y om ?_
    refine Ka Y (Kdb (Kc (Ka Y (Ka Y (Kd (kMem [(20484096, ⟨2, 0, .arr false _⟩)] [(8, .c (.arr 20484096 2))] [] ⟨Y, trivial⟩ ⟨Y, trivial⟩ Y (Kr (Er (ra := [.one (.d _)]) rfl ?_))))))))
    have ha := SmallWs.app (r := ⟨x4.1, x5.1, x6.1⟩) ⟨hL, hm⟩ ⟨hx4⟩
    exact ⟨(L ++ [⟨x4.1, x5.1, x6.1⟩], x6.2), ha, rfl, rfl⟩
  · exact ⟨(L, x2.2), ⟨by simp; omega, hm⟩, rfl, rfl⟩

def c_spec_DrawPrereqs : C := (.g (.o 0 2 (.alloc 2 [(.n 1), (.n 7)]) (.o 1 3 (.mov (.n 9)) .done)) (.g (.o 0 6 (.mov (.t 0)) (.o 1 7 (.call 7 63 [(.t 6)]) (.o 2 4 (.mov (.t 7)) .done))) (.g (.o 0 8 (.mov (.t 4)) (.o 1 9 (.call 9 64 [(.t 8)]) (.o 2 5 (.alloc 5 [(.n 1), (.n 7)]) (.op 3 [] none none false (.store (some 2) (.t 5) (.t 9)) .done)))) (.seq (.reg true (.op 0 [] (some 10) none true (.load (some 2) (.t 5)) (.op 1 [] (some 11) none true (.mov (.t 4)) (.op 2 [] (some 12) none true (.load (some 2) (.t 5)) (.op 3 [] (some 13) none true (.mov (.t 4)) (.o 4 14 (.call 14 117 [(.t 13), (.i 3)]) (.op 5 [2] (some 15) none false (.call 15 128 [(.t 11), (.t 12), (.v (.bool true)), (.t 14)]) (.op 6 [0, 2] none none false (.store (some 2) (.t 2) (.t 10)) (.op 7 [] (some 3) none true (.mov (.t 15)) .done))))))))) .ret))))
theorem dg_spec_DrawPrereqs : Tryz.f46.body.bind (digC Tryz.prog Tryz.f46.ntmps []) = some c_spec_DrawPrereqs := by kernel_rfl
theorem rs_spec_DrawPrereqs : resSlots Tryz.prog Tryz.f46 = some [.m 2 (some 2), .s 3] := by kernel_rfl
theorem ok_spec_DrawPrereqs (code : List UInt8) (hb : (code.length : Int) ≤ 9223372036854775807) :
    FnOK Tryz.prog 46 [.one (.d (encB code))] (fun ra _ => ∃ x : Zone × List Want, (SmallZ x.1 ∧ SmallWs x.2) ∧ ra = [.agg [.d (encBB x.1.origin), .d (encR x.1.rrs)], .one (.d (encW x.2))]) := by
  refine FnOK.ofK Tryz.func46 (by kernel_rfl) dg_spec_DrawPrereqs rs_spec_DrawPrereqs rfl rfl ?_
  delta c_spec_DrawPrereqs T.o X.i C.g
  refine Kbc (kAlloc Y Y (Ka Y (Kdb (Kc (Ka Y (kCallX false (ok_spec_l1New _ prx) ⟨Y, trivial⟩ Y (fun _ => rfl) (fun _ => rfl) (fun x0 _ hx0 => (Ka Y (Kdb (Kc (Ka Y (Kz (ok_spec_l5bent _) ⟨⟨rfl, _, rfl, rfl⟩, trivial⟩ Y Y Y (fun _ => rfl) (fun x1 hx1 => (kAlloc Y Y (kMem [(24576, ⟨1, 0, .box [.nil 1, .nil 7]⟩)] [(5, .c (.ptr 24576 1 0)), (9, .g [.d _, .d _])] [] ⟨Y, trivial⟩ ⟨Y, Y, trivial⟩ Y (Ko Y Y Y Y (Kdb (kRegD (Ke Y Y Y (Ka Y (Ke Y Y Y (Ka Y (Kz (ok_spec_l1Below _ _) ⟨⟨rfl, _, rfl, rfl⟩, rfl, trivial⟩ Y Y Y (fun _ => rfl) (fun x2 hx2 => (Kx Y Y (Kz (ok_spec_l6wants _ _ _ _ prx prx) ⟨⟨rfl, _, rfl, rfl⟩, ⟨⟨Y, Y, trivial⟩, leb⟩, rfl, rfl, trivial⟩ Y Y Y (fun _ => rfl) (fun x3 hx3 => (kMem [(12288, ⟨1, 0, .box [.nil 1, .nil 7]⟩)] [(2, .c (.ptr 12288 1 0)), (10, .g [.d _, .d _]), (15, .c (.d _))] [24576, 24576] ⟨Y, trivial⟩ ⟨Y, Y, Y, trivial⟩ Y (Ks Y Y (Ko Y Y Y Y (Ka Y (Kd (kH (kMem [(12288, ⟨1, 0, .box [.d _, .d _]⟩)] [(2, .c (.ptr 12288 1 0)), (3, .c (.d _))] [] ⟨Y, trivial⟩ ⟨Y, Y, trivial⟩ Y (Kr (Er (ra := [.agg [(.d _), (.d _)], .one (.d _)]) rfl ?_))))))))))))))))))))))))))))))))))))
  exact ⟨(x1.1, x3.1), ⟨hx1, ⟨show x3.1.length ≤ 4194304 by omega, hx3.2⟩⟩, rfl⟩

def c_spec_Under : C := (.g (.o 0 2 (.box 2 (.t 0)) (.o 1 3 (.box 3 (.t 1)) (.o 2 4 (.mov (.v (.bool false))) .done))) (.g (.o 0 5 (.load (some 1) (.t 2)) (.o 1 6 (.call 6 47 [(.t 5)]) (.o 2 7 (.mov (.t 6)) (.op 3 [] (some 8) (some (7, true)) false (.load (some 1) (.t 3)) (.op 4 [] (some 9) (some (7, true)) false (.call 9 47 [(.t 8)]) (.o 5 10 (.pick (.t 7) (.t 9) (.v (.bool false))) (.o 6 11 (.mov (.t 10)) (.op 7 [] (some 12) (some (11, true)) false (.load (some 1) (.t 2)) (.op 8 [] (some 13) (some (11, true)) false (.load (some 1) (.t 3)) (.op 9 [] (some 14) (some (11, true)) false (.call 14 74 [(.t 12), (.t 13)]) (.o 10 15 (.pick (.t 11) (.t 14) (.v (.bool false))) (.o 11 4 (.mov (.t 15)) .done)))))))))))) .ret))
theorem dg_spec_Under : Tryz.f49.body.bind (digC Tryz.prog Tryz.f49.ntmps []) = some c_spec_Under := by kernel_rfl
theorem rs_spec_Under : resSlots Tryz.prog Tryz.f49 = some [.s 4] := by kernel_rfl
theorem ok_spec_Under (n z : List (List UInt8)) (hn : SmallBB n) (hz : SmallBB z) :
    FnOK Tryz.prog 49 [.agg [.d (encBB n)], .agg [.d (encBB z)]] (fun ra _ => ra = [.one (.d (.sc (.bool (nameOk n && nameOk z && underN n z))))]) := by
  refine FnOK.ofK Tryz.func49 (by kernel_rfl) dg_spec_Under rs_spec_Under rfl rfl ?_
  delta c_spec_Under T.o X.i C.g
  have n1 := hn.len
  have n2 := hn.mem
  have z1 := hz.len
  have z2 := hz.mem
  refine Kbc (kBox Y Y Y Y Y (kBox Y Y Y Y Y (Ka Y (Kdb (Kc (Ke Y Y Y (Kp (ok_spec_NameOk _ prx prx) ⟨⟨⟨Y, trivial⟩, leb⟩, trivial⟩ Y Y Y Y Y (Ka Y (kGS Y (fun g0 => Ki Y (Ke Y Y Y (kMem [(12288, ⟨1, 0, .box [.d _]⟩), (16384, ⟨1, 0, .box [.d _]⟩)] [(8, .g [.d _]), (7, .c (.d _)), (9, .c (.un)), (10, .c (.un)), (2, .c (.ptr 12288 1 0)), (3, .c (.ptr 16384 1 0)), (12, .c (.un)), (13, .c (.un)), (11, .c (.un)), (14, .c (.un)), (15, .c (.un))] [] ⟨Y, Y, trivial⟩ ⟨Y, Y, Y, Y, Y, Y, Y, Y, Y, Y, Y, trivial⟩ Y (Ki Y (Kp (ok_spec_NameOk _ prx prx) ⟨⟨⟨Y, trivial⟩, leb⟩, trivial⟩ Y Y Y Y Y (Kk Y (Ka Y (Ka Y (kGS Y (fun g1 => Ki Y (Ke Y Y Y (Ki Y (Ke Y Y Y (Ki Y (Kp (ok_spec_l2under _ _ prx prx) ⟨⟨⟨Y, trivial⟩, leb⟩, ⟨⟨Y, trivial⟩, leb⟩, trivial⟩ Y Y Y Y Y (Kk Y (Ka Y (Ka Y (Kd (Kr (Er (ra := [.one (.d _)]) rfl ?_)))))))))))) (fun g1 => Kg Y (Kg Y (Kg Y (Kl Y (Ka Y (Ka Y (Kd (Kr (Er (ra := [.one (.d _)]) rfl ?_)))))))))))))))))) (fun g0 => Kg Y (Kg Y (kMem [(12288, ⟨1, 0, .box [.d _]⟩), (16384, ⟨1, 0, .box [.d _]⟩)] [(7, .c (.d _)), (9, .c (.un)), (10, .c (.un)), (2, .c (.ptr 12288 1 0)), (3, .c (.ptr 16384 1 0)), (12, .c (.un)), (13, .c (.un)), (11, .c (.un)), (14, .c (.un)), (15, .c (.un))] [] ⟨Y, Y, trivial⟩ ⟨Y, Y, Y, Y, Y, Y, Y, Y, Y, Y, trivial⟩ Y (Kl Y (Ka Y (Ka Y (Kg Y (Kg Y (Kg Y (Kl Y (Ka Y (Ka Y (Kd (Kr (Er (ra := [.one (.d _)]) rfl ?_))))))))))))))))))))))))
  all_goals (refine congrArg (fun z : Bool => [RA.one (RV.d (DV.sc (Value.bool z)))]) ?_; rw [Bool.eq_iff_iff]; simp_all)

def c_impl_within : C := (.g (.o 0 6 (.mov (.v (.bool false))) .done) (.g (.o 0 7 (.mov (.t 1)) (.o 1 8 (.mov (.t 0)) (.o 2 9 (.bin .leq (.t 7) (.t 8)) (.o 3 10 (.mov (.t 9)) (.op 4 [] (some 11) (some (10, true)) false (.mov (.t 0)) (.op 5 [] (some 12) (some (10, true)) false (.mov (.t 2)) (.op 6 [] (some 13) (some (10, true)) false (.bin .leq (.t 11) (.t 12)) (.o 7 14 (.pick (.t 10) (.t 13) (.v (.bool false))) (.o 8 6 (.mov (.t 14)) .done))))))))) .ret))
theorem dg_impl_within : Tryz.f109.body.bind (digC Tryz.prog Tryz.f109.ntmps []) = some c_impl_within := by kernel_rfl
theorem rs_impl_within : resSlots Tryz.prog Tryz.f109 = some [.s 6] := by kernel_rfl
theorem ok_impl_within (n lo hi : Int) : FnOK Tryz.prog 109 [.one (.d (.sc (.int .i64 n))), .one (.d (.sc (.int .i64 lo))), .one (.d (.sc (.int .i64 hi)))] (fun ra _ => ra = [.one (.d (.sc (.bool (decide (lo ≤ n ∧ n ≤ hi)))))]) := by
  refine FnOK.ofK Tryz.func109 (by kernel_rfl) dg_impl_within rs_impl_within rfl rfl ?_
  delta c_impl_within T.o X.i C.g
  repeat' first
    | refine kSeq ?_ | refine kReg ?_ | refine kDone ?_ | refine kMovC rfl ?_ | refine kBin rfl rfl rfl ?_
    | refine kGT rfl ?_ | refine kGF rfl ?_ | refine kGU rfl ?_ | refine kG rfl (fun h => ?_) (fun h => ?_)
    | refine kPickT rfl ?_ | refine kPickF rfl ?_ | refine kPick rfl (fun h => ?_) (fun h => ?_) | refine kRet ?_
  all_goals refine endRet (ra := [.one (.d _)]) rfl ⟨⟨⟨rfl, .inl rfl⟩, trivial⟩, .nil, trivial, trivial, trivial, trivial⟩ ?_
  all_goals simp_all
  all_goals omega

def c_impl_all_byte_1 : C := (.g (.o 0 3 (.mov (.v (.bool false))) .done) (.g (.o 0 4 (.load none (.t 1)) (.o 1 5 (.mov (.t 0)) (.o 2 6 (.callv 6 (.t 4) [(.t 5)]) (.o 3 7 (.un .not (.t 6)) (.o 4 3 (.mov (.t 7)) .done))))) .ret))
theorem dg_impl_all_byte_1 : Tryz.f302.body.bind (digC Tryz.prog Tryz.f302.ntmps []) = some c_impl_all_byte_1 := by kernel_rfl
theorem rs_impl_all_byte_1 : resSlots Tryz.prog Tryz.f302 = some [.s 3] := by kernel_rfl
theorem ok_impl_all_byte_1 (x : DV) (D : DV → Prop) (g : DV → Bool) (hx : D x) :
    FnOK Tryz.prog 302 [.one (.d x), .one (.ptr [.fv false (fcPred D g)])] (fun ra _ => ra = [.one (.d (.sc (.bool (!g x))))]) := by
  refine FnOK.ofK Tryz.func302 (by kernel_rfl) dg_impl_all_byte_1 rs_impl_all_byte_1 rfl rfl ?_
  delta c_impl_all_byte_1 T.o X.i C.g
  refine Kbc (Ka Y (Kd ?_))
  refine Kbc (kLoadC Y Y (Ka Y (kCallv Y ⟨x, hx, rfl, rfl⟩ ⟨Y, trivial⟩ (.inr ?_) rfl ?_ rfl ?_)))
  · rintro _ rfl; rfl
  · rintro _ rfl; exact leb
  rintro _ rfl
  refine Kw Y Y (Ka Y (Kd (Kr ?_)))
  exact endRet (ra := [.one (.d _)]) rfl ⟨⟨⟨rfl, .inl rfl⟩, trivial⟩, .nil, trivial, trivial, trivial⟩ rfl

def c_slices_IndexFunc_Lbyte_byte : C := (.g (.o 0 4 (.mov (.i 0)) .done) (.seq (.g (.o 0 6 (.mov (.t 0)) (.o 1 7 (.len (.t 6)) (.o 2 8 (.mov (.i 0)) .done))) (.block 0 (.loop (.g (.o 0 9 (.bin .lss (.t 8) (.t 7)) .done) (.seq (.cond (.t 9) .skip (.exit 0)) (.seq (.block 1 (.g (.o 0 10 (.mov (.t 8)) (.o 1 5 (.mov (.t 10)) .done)) (.g (.o 0 11 (.mov (.t 1)) (.o 1 12 (.mov (.t 0)) (.o 2 13 (.mov (.t 5)) (.o 3 14 (.iad 1 (.t 12) (.t 13)) (.o 4 15 (.load none (.t 14)) (.o 5 16 (.callv 16 (.t 11) [(.t 15)]) .done)))))) (.cond (.t 16) (.g (.o 0 17 (.mov (.t 5)) (.o 1 4 (.mov (.t 17)) .done)) .ret) .skip)))) (.reg false (.o 0 18 (.bin .add (.t 8) (.i 1)) (.o 1 8 (.mov (.t 18)) .done))))))))) (.g (.o 0 4 (.mov (.i (-1))) .done) .ret)))
theorem dg_slices_IndexFunc_Lbyte_byte : Tryz.f337.body.bind (digC Tryz.prog Tryz.f337.ntmps []) = some c_slices_IndexFunc_Lbyte_byte := by kernel_rfl
theorem rs_slices_IndexFunc_Lbyte_byte : resSlots Tryz.prog Tryz.f337 = some [.s 4] := by kernel_rfl
theorem ok_slices_IndexFunc_Lbyte_byte (l : List DV) (D : DV → Prop) (g : DV → Bool) (hl : (l.length : Int) ≤ 9223372036854775807) (hD : ∀ x ∈ l, D x) :
    FnOK Tryz.prog 337 [.one (.d (lst l)), .one (.fv false (fcPred D g))] (fun ra _ => ra = [.one (.d (.sc (.int .i64 (idxF g l))))]) := by
  refine FnOK.ofK Tryz.func337 (by kernel_rfl) dg_slices_IndexFunc_Lbyte_byte rs_slices_IndexFunc_Lbyte_byte rfl rfl ?_
  delta c_slices_IndexFunc_Lbyte_byte T.o X.i C.g
  refine Kbc (Ka Y (Kd ?_))
  refine Kb (Kbc (Ka Y (kLen Y Y Y (Ka Y (Kd (Kt ?_))))))
  rw [len_lst]
  refine kLoop (α := { i : Nat // i ≤ l.length ∧ ∀ x ∈ l.take i, g x = false })
    (fun y => ⟨tabSl [(0, .dv (lst l)), (1, .c (.fv false (fcPred D g))), (7, .i l.length), (8, .i y.1)], (St.init [.one (.d (lst l)), .one (.fv false (fcPred D g))]).ob, []⟩) (fun y => l.length - y.1) ⟨0, by simp⟩
    (.tab rfl ⟨.refl _, .refl _, .refl _, .refl _, trivial⟩) ?_
  rintro ⟨i, hi, hg⟩
  simp only
  refine Kbc (Kj Y Y Y (Kd ?_))
  refine Kb (kCond Y (fun h1 => ?_) (fun h1 => ?_))
  · have hlt : i < l.length := by simp at h1; omega
    refine Kn (Kb (Kt (Kbc (Ka Y (Ka Y (Kd ?_))))))
    refine Kbc (Ka Y (Ka Y (Ka Y (kIadD Y Y Y Y ?_ ?_))))
    · rw [len_lst]; omega
    rw [show (lst l).row (i : Int).toNat = [l[i]] from row_lst l i hlt]
    refine Ky Y Y (kCallv Y ⟨l[i], hD _ (List.getElem_mem hlt), rfl, rfl⟩ ⟨Y, trivial⟩ (.inr ?_) rfl ?_ rfl ?_)
    · rintro _ rfl; rfl
    · rintro _ rfl; exact leb
    rintro _ rfl
    refine Kd (kCond Y (fun h2 => ?_) (fun h2 => ?_))
    · refine Kbc (Ka Y (Ka Y (Kd (Kr ?_))))
      refine endRet (ra := [.one (.d _)]) rfl ⟨⟨⟨rfl, .inl rfl⟩, trivial⟩, .nil, trivial, trivial, trivial⟩ ?_
      have : l.findIdx? g = some i := by
        rw [List.findIdx?_eq_some_iff_getElem]
        refine ⟨hlt, h2, fun j hj => ?_⟩
        simpa using hg _ (by rw [List.mem_take_iff_getElem]; exact ⟨j, by omega, rfl⟩)
      simp [idxF, this]
    · refine Kn (Kv (Kc (kAdd Y Y ?_ (Ka Y (Kd (kInv ?_))))))
      · omega
      refine ⟨⟨i + 1, hlt, ?_⟩, by simp only; omega, .tab rfl ⟨.refl _, .refl _, .refl _, .refl _, trivial⟩⟩
      intro x hx
      rw [← List.take_append_getElem hlt, List.mem_append] at hx
      rcases hx with hx | hx
      · exact hg x hx
      · simp at hx; rw [hx]; exact h2
  · refine kExit (kExC (kExI (kExB ?_)))
    have hge : i = l.length := by simp at h1; omega
    refine Kbc (Ka Y (Kd (Kr ?_)))
    refine endRet (ra := [.one (.d _)]) rfl ⟨⟨⟨rfl, .inl rfl⟩, trivial⟩, .nil, trivial, trivial, trivial⟩ ?_
    have : l.findIdx? g = none := by
      rw [List.findIdx?_eq_none_iff]
      intro x hx
      rw [hge, List.take_length] at hg
      exact hg x hx
    simp [idxF, this]

def c_slices_ContainsFunc_Lbyte_byte : C := (.g (.o 0 4 (.mov (.v (.bool false))) .done) (.g (.o 0 5 (.mov (.t 0)) (.o 1 6 (.mov (.t 1)) (.o 2 7 (.call 7 337 [(.t 5), (.t 6)]) (.o 3 8 (.bin .geq (.t 7) (.i 0)) (.o 4 4 (.mov (.t 8)) .done))))) .ret))
theorem dg_slices_ContainsFunc_Lbyte_byte : Tryz.f301.body.bind (digC Tryz.prog Tryz.f301.ntmps []) = some c_slices_ContainsFunc_Lbyte_byte := by kernel_rfl
theorem rs_slices_ContainsFunc_Lbyte_byte : resSlots Tryz.prog Tryz.f301 = some [.s 4] := by kernel_rfl
theorem ok_slices_ContainsFunc_Lbyte_byte (l : List DV) (D : DV → Prop) (g : DV → Bool) (hl : (l.length : Int) ≤ 9223372036854775807) (hD : ∀ x ∈ l, D x) :
    FnOK Tryz.prog 301 [.one (.d (lst l)), .one (.fv false (fcPred D g))] (fun ra _ => ra = [.one (.d (.sc (.bool (l.any g))))]) := by
  refine FnOK.ofK Tryz.func301 (by kernel_rfl) dg_slices_ContainsFunc_Lbyte_byte rs_slices_ContainsFunc_Lbyte_byte rfl rfl ?_
  delta c_slices_ContainsFunc_Lbyte_byte T.o X.i C.g
  refine Kbc (Ka Y (Kd ?_))
  refine Kbc (Ka Y (Ka Y ?_))
  refine Ku true (ok_slices_IndexFunc_Lbyte_byte l D g hl hD) ⟨rfl, ⟨fun h => h, fun _ _ h => h⟩, trivial⟩ rfl rfl rfl fun os => ?_
  refine Kj Y Y Y (Ka Y (Kd (Kr ?_)))
  refine endRet (ra := [.one (.d _)]) rfl ⟨⟨⟨rfl, .inl rfl⟩, trivial⟩, .nil, trivial, trivial, trivial⟩ ?_
  have : decide (idxF g l ≥ 0) = l.any g := by
    unfold idxF
    cases h : l.findIdx? g with
    | none =>
      rw [List.findIdx?_eq_none_iff] at h
      have : l.any g = false := by rw [List.any_eq_false]; intro x hx; simp [h x hx]
      rw [this]; rfl
    | some i =>
      rw [List.findIdx?_eq_some_iff_getElem] at h
      obtain ⟨h1, h2, _⟩ := h
      have : l.any g = true := by rw [List.any_eq_true]; exact ⟨_, List.getElem_mem h1, h2⟩
      rw [this]; simp
  rw [this]

def c_impl_all_byte : C := (.g (.o 0 3 (.box 3 (.t 1)) (.o 1 4 (.mov (.v (.bool false))) .done)) (.g (.o 0 5 (.mov (.t 0)) (.o 1 6 (.clo 302 [] [(.t 3)]) (.o 2 7 (.call 7 301 [(.t 5), (.t 6)]) (.o 3 8 (.un .not (.t 7)) (.o 4 4 (.mov (.t 8)) .done))))) .ret))
theorem dg_impl_all_byte : Tryz.f243.body.bind (digC Tryz.prog Tryz.f243.ntmps []) = some c_impl_all_byte := by kernel_rfl
theorem rs_impl_all_byte : resSlots Tryz.prog Tryz.f243 = some [.s 4] := by kernel_rfl
theorem ok_impl_all_byte (l : List DV) (D : DV → Prop) (g : DV → Bool) (hl : (l.length : Int) ≤ 9223372036854775807) (hD : ∀ x ∈ l, D x) :
    FnOK Tryz.prog 243 [.one (.d (lst l)), .one (.fv false (fcPred D g))] (fun ra _ => ra = [.one (.d (.sc (.bool (l.all g))))]) := by
  refine FnOK.ofK Tryz.func243 (by kernel_rfl) dg_impl_all_byte rs_impl_all_byte rfl rfl ?_
  delta c_impl_all_byte T.o X.i C.g
  refine Kbc (kBox Y Y Y Y Y (Ka Y (Kd ?_)))
  refine Kbc (Ka Y (kClo Y Y ?_))
  refine Ku true (ok_slices_ContainsFunc_Lbyte_byte l D (fun x => !g x) hl hD) ⟨rfl, ⟨rfl, ⟨_, Tryz.func302, rfl, by kernel_rfl⟩, _, rfl, ?_⟩, trivial⟩ rfl rfl rfl fun os => ?_
  · rintro l R ⟨x, hx, rfl, rfl⟩
    exact ⟨by rintro _ rfl; rfl, ok_impl_all_byte_1 x D g hx⟩
  refine Kw Y Y (Ka Y (Kd (Kr ?_)))
  refine endRet (ra := [.one (.d _)]) rfl ⟨⟨⟨rfl, .inl rfl⟩, trivial⟩, .nil, trivial, trivial, trivial⟩ ?_
  simp [List.all_eq_not_any_not]

def c_impl_LabelOk_1 : C := (.g (.o 0 2 (.mov (.v (.bool false))) .done) (.g (.o 0 3 (.mov (.t 0)) (.o 1 4 (.bin .geq (.t 3) (.v (.int .u8 97))) (.o 2 5 (.mov (.t 4)) (.op 3 [] (some 6) (some (5, true)) false (.mov (.t 0)) (.op 4 [] (some 7) (some (5, true)) false (.bin .leq (.t 6) (.v (.int .u8 122))) (.o 5 8 (.pick (.t 5) (.t 7) (.v (.bool false))) (.o 6 9 (.mov (.t 8)) (.op 7 [] (some 10) (some (9, false)) false (.mov (.t 0)) (.op 8 [] (some 11) (some (9, false)) false (.bin .geq (.t 10) (.v (.int .u8 48))) (.op 9 [] (some 12) (some (9, false)) false (.mov (.t 11)) (.op 10 [] (some 13) (some (12, true)) false (.mov (.t 0)) (.op 11 [] (some 14) (some (12, true)) false (.bin .leq (.t 13) (.v (.int .u8 57))) (.op 12 [] (some 15) (some (9, false)) false (.pick (.t 12) (.t 14) (.v (.bool false))) (.o 13 16 (.pick (.t 9) (.v (.bool true)) (.t 15)) (.o 14 17 (.mov (.t 16)) (.op 15 [] (some 18) (some (17, false)) false (.mov (.t 0)) (.op 16 [] (some 19) (some (17, false)) false (.bin .eql (.t 18) (.v (.int .u8 45))) (.o 17 20 (.pick (.t 17) (.v (.bool true)) (.t 19)) (.o 18 2 (.mov (.t 20)) .done))))))))))))))))))) .ret))
theorem dg_impl_LabelOk_1 : Tryz.f244.body.bind (digC Tryz.prog Tryz.f244.ntmps []) = some c_impl_LabelOk_1 := by kernel_rfl
theorem rs_impl_LabelOk_1 : resSlots Tryz.prog Tryz.f244 = some [.s 2] := by kernel_rfl
theorem ok_impl_LabelOk_1 (b : UInt8) : FnOK Tryz.prog 244 [.one (.d (.sc (.int .u8 b.toNat)))] (fun ra _ => ra = [.one (.d (.sc (.bool (okLetter b))))]) := by
  refine FnOK.ofK Tryz.func244 (by kernel_rfl) dg_impl_LabelOk_1 rs_impl_LabelOk_1 rfl rfl ?_
  delta c_impl_LabelOk_1 T.o X.i C.g
  repeat' first
    | refine kSeq ?_ | refine kReg ?_ | refine kDone ?_ | refine kMovC rfl ?_ | refine kBin rfl rfl rfl ?_
    | refine kGT rfl ?_ | refine kGF rfl ?_ | refine kGU rfl ?_ | refine kG rfl (fun h => ?_) (fun h => ?_)
    | refine kPickT rfl ?_ | refine kPickF rfl ?_ | refine kPick rfl (fun h => ?_) (fun h => ?_) | refine kRet ?_
  all_goals refine endRet (ra := [.one (.d _)]) rfl ⟨⟨⟨rfl, .inl rfl⟩, trivial⟩, .nil, trivial, trivial⟩ ?_
  all_goals simp_all [okLetter]
  all_goals first | omega | (rw [Bool.eq_iff_iff]; simp; omega)

def c_impl_LabelOk : C := (.g (.o 0 2 (.mov (.v (.bool false))) .done) (.g (.o 0 3 (.mov (.t 0)) (.o 1 4 (.len (.t 3)) (.o 2 5 (.call 5 109 [(.t 4), (.i 1), (.i 15)]) (.o 3 6 (.mov (.t 5)) (.op 4 [] (some 7) (some (6, true)) false (.mov (.t 0)) (.op 5 [] (some 8) (some (6, true)) false (.call 8 243 [(.t 7), (.fn 244)]) (.o 6 9 (.pick (.t 6) (.t 8) (.v (.bool false))) (.o 7 2 (.mov (.t 9)) .done)))))))) .ret))
theorem dg_impl_LabelOk : Tryz.f161.body.bind (digC Tryz.prog Tryz.f161.ntmps []) = some c_impl_LabelOk := by kernel_rfl
theorem rs_impl_LabelOk : resSlots Tryz.prog Tryz.f161 = some [.s 2] := by kernel_rfl
theorem ok_impl_LabelOk (b : List UInt8) (hb : b.length ≤ 4194304) :
    FnOK Tryz.prog 161 [.one (.d (encB b))] (fun ra _ => ra = [.one (.d (.sc (.bool (labelOk b))))]) := by
  refine FnOK.ofK Tryz.func161 (by kernel_rfl) dg_impl_LabelOk rs_impl_LabelOk rfl rfl ?_
  delta c_impl_LabelOk T.o X.i C.g
  refine Kbc (Ka Y (Kdb (Kc (Ka Y (Kq Y Y (Kp (ok_impl_within _ _ _) ⟨Y, Y, Y, trivial⟩ Y Y Y Y Y (Ka Y (kGP Y (fun g0 => Ki Y (Ka Y (Ki Y ?_))) (fun g0 => Kg Y (Kg Y (Kl Y (Ka Y (Ka Y (Kd (Kr (Er (ra := [.one (.d _)]) rfl ?_))))))))))))))))
  · refine Ku true (ok_impl_all_byte (b.map fun b : UInt8 => .sc (.int .u8 b.toNat)) is8 (fun x => okLetter (dec8 x)) (by simp; omega) (fun x hx => by obtain ⟨c, _, rfl⟩ := List.mem_map.1 hx; exact ⟨c, rfl⟩)) ⟨congrArg some (encB_lst b), ⟨rfl, rfl, ⟨_, Tryz.func244, rfl, by kernel_rfl⟩, ?_⟩, trivial⟩ Y Y Y (fun _ => ?_)
    · rintro _ R ⟨x, ⟨c, rfl⟩, rfl, rfl⟩
      have := ok_impl_LabelOk_1 c
      simp only [dec8_enc]
      exact this
    refine Kk Y (Ka Y (Ka Y (Kd (Kr (Er (ra := [.one (.d _)]) rfl ?_)))))
    rw [all_dec8, show labelOk b = b.all okLetter by simp only [labelOk]; rw [decide_eq_true (by omega), decide_eq_true (by omega)]; rfl]
  · rw [show labelOk b = false by simp only [labelOk]; rw [show (decide (1 ≤ b.length) && decide (b.length ≤ 15)) = false by simp; omega]; rfl]

def c_impl_all_Lbyte_1 : C := (.g (.o 0 3 (.mov (.v (.bool false))) .done) (.g (.o 0 4 (.load none (.t 1)) (.o 1 5 (.mov (.t 0)) (.o 2 6 (.callv 6 (.t 4) [(.t 5)]) (.o 3 7 (.un .not (.t 6)) (.o 4 3 (.mov (.t 7)) .done))))) .ret))
theorem dg_impl_all_Lbyte_1 : Tryz.f242.body.bind (digC Tryz.prog Tryz.f242.ntmps []) = some c_impl_all_Lbyte_1 := by kernel_rfl
theorem rs_impl_all_Lbyte_1 : resSlots Tryz.prog Tryz.f242 = some [.s 3] := by kernel_rfl
theorem ok_impl_all_Lbyte_1 (x : DV) (D : DV → Prop) (g : DV → Bool) (hx : D x) :
    FnOK Tryz.prog 242 [.one (.d x), .one (.ptr [.fv false (fcPred D g)])] (fun ra _ => ra = [.one (.d (.sc (.bool (!g x))))]) := by
  refine FnOK.ofK Tryz.func242 (by kernel_rfl) dg_impl_all_Lbyte_1 rs_impl_all_Lbyte_1 rfl rfl ?_
  delta c_impl_all_Lbyte_1 T.o X.i C.g
  refine Kbc (Ka Y (Kd ?_))
  refine Kbc (kLoadC Y Y (Ka Y (kCallv Y ⟨x, hx, rfl, rfl⟩ ⟨Y, trivial⟩ (.inr ?_) rfl ?_ rfl ?_)))
  · rintro _ rfl; rfl
  · rintro _ rfl; exact leb
  rintro _ rfl
  refine Kw Y Y (Ka Y (Kd (Kr ?_)))
  exact endRet (ra := [.one (.d _)]) rfl ⟨⟨⟨rfl, .inl rfl⟩, trivial⟩, .nil, trivial, trivial, trivial⟩ rfl

def c_slices_IndexFunc_LLbyte_Lbyte : C := (.g (.o 0 4 (.mov (.i 0)) .done) (.seq (.g (.o 0 6 (.mov (.t 0)) (.o 1 7 (.len (.t 6)) (.o 2 8 (.mov (.i 0)) .done))) (.block 0 (.loop (.g (.o 0 9 (.bin .lss (.t 8) (.t 7)) .done) (.seq (.cond (.t 9) .skip (.exit 0)) (.seq (.block 1 (.g (.o 0 10 (.mov (.t 8)) (.o 1 5 (.mov (.t 10)) .done)) (.g (.o 0 11 (.mov (.t 1)) (.o 1 12 (.mov (.t 0)) (.o 2 13 (.mov (.t 5)) (.o 3 14 (.iad 1 (.t 12) (.t 13)) (.o 4 15 (.load none (.t 14)) (.o 5 16 (.callv 16 (.t 11) [(.t 15)]) .done)))))) (.cond (.t 16) (.g (.o 0 17 (.mov (.t 5)) (.o 1 4 (.mov (.t 17)) .done)) .ret) .skip)))) (.reg false (.o 0 18 (.bin .add (.t 8) (.i 1)) (.o 1 8 (.mov (.t 18)) .done))))))))) (.g (.o 0 4 (.mov (.i (-1))) .done) .ret)))
theorem dg_slices_IndexFunc_LLbyte_Lbyte : Tryz.f300.body.bind (digC Tryz.prog Tryz.f300.ntmps []) = some c_slices_IndexFunc_LLbyte_Lbyte := by kernel_rfl
theorem rs_slices_IndexFunc_LLbyte_Lbyte : resSlots Tryz.prog Tryz.f300 = some [.s 4] := by kernel_rfl
theorem ok_slices_IndexFunc_LLbyte_Lbyte (l : List DV) (D : DV → Prop) (g : DV → Bool) (hl : (l.length : Int) ≤ 9223372036854775807) (hD : ∀ x ∈ l, D x) :
    FnOK Tryz.prog 300 [.one (.d (lst l)), .one (.fv false (fcPred D g))] (fun ra _ => ra = [.one (.d (.sc (.int .i64 (idxF g l))))]) := by
  refine FnOK.ofK Tryz.func300 (by kernel_rfl) dg_slices_IndexFunc_LLbyte_Lbyte rs_slices_IndexFunc_LLbyte_Lbyte rfl rfl ?_
  delta c_slices_IndexFunc_LLbyte_Lbyte T.o X.i C.g
  refine Kbc (Ka Y (Kd ?_))
  refine Kb (Kbc (Ka Y (kLen Y Y Y (Ka Y (Kd (Kt ?_))))))
  rw [len_lst]
  refine kLoop (α := { i : Nat // i ≤ l.length ∧ ∀ x ∈ l.take i, g x = false })
    (fun y => ⟨tabSl [(0, .dv (lst l)), (1, .c (.fv false (fcPred D g))), (7, .i l.length), (8, .i y.1)], (St.init [.one (.d (lst l)), .one (.fv false (fcPred D g))]).ob, []⟩) (fun y => l.length - y.1) ⟨0, by simp⟩
    (.tab rfl ⟨.refl _, .refl _, .refl _, .refl _, trivial⟩) ?_
  rintro ⟨i, hi, hg⟩
  simp only
  refine Kbc (Kj Y Y Y (Kd ?_))
  refine Kb (kCond Y (fun h1 => ?_) (fun h1 => ?_))
  · have hlt : i < l.length := by simp at h1; omega
    refine Kn (Kb (Kt (Kbc (Ka Y (Ka Y (Kd ?_))))))
    refine Kbc (Ka Y (Ka Y (Ka Y (kIadD Y Y Y Y ?_ ?_))))
    · rw [len_lst]; omega
    rw [show (lst l).row (i : Int).toNat = [l[i]] from row_lst l i hlt]
    refine Ky Y Y (kCallv Y ⟨l[i], hD _ (List.getElem_mem hlt), rfl, rfl⟩ ⟨Y, trivial⟩ (.inr ?_) rfl ?_ rfl ?_)
    · rintro _ rfl; rfl
    · rintro _ rfl; exact leb
    rintro _ rfl
    refine Kd (kCond Y (fun h2 => ?_) (fun h2 => ?_))
    · refine Kbc (Ka Y (Ka Y (Kd (Kr ?_))))
      refine endRet (ra := [.one (.d _)]) rfl ⟨⟨⟨rfl, .inl rfl⟩, trivial⟩, .nil, trivial, trivial, trivial⟩ ?_
      have : l.findIdx? g = some i := by
        rw [List.findIdx?_eq_some_iff_getElem]
        refine ⟨hlt, h2, fun j hj => ?_⟩
        simpa using hg _ (by rw [List.mem_take_iff_getElem]; exact ⟨j, by omega, rfl⟩)
      simp [idxF, this]
    · refine Kn (Kv (Kc (kAdd Y Y ?_ (Ka Y (Kd (kInv ?_))))))
      · omega
      refine ⟨⟨i + 1, hlt, ?_⟩, by simp only; omega, .tab rfl ⟨.refl _, .refl _, .refl _, .refl _, trivial⟩⟩
      intro x hx
      rw [← List.take_append_getElem hlt, List.mem_append] at hx
      rcases hx with hx | hx
      · exact hg x hx
      · simp at hx; rw [hx]; exact h2
  · refine kExit (kExC (kExI (kExB ?_)))
    have hge : i = l.length := by simp at h1; omega
    refine Kbc (Ka Y (Kd (Kr ?_)))
    refine endRet (ra := [.one (.d _)]) rfl ⟨⟨⟨rfl, .inl rfl⟩, trivial⟩, .nil, trivial, trivial, trivial⟩ ?_
    have : l.findIdx? g = none := by
      rw [List.findIdx?_eq_none_iff]
      intro x hx
      rw [hge, List.take_length] at hg
      exact hg x hx
    simp [idxF, this]

def c_slices_ContainsFunc_LLbyte_Lbyte : C := (.g (.o 0 4 (.mov (.v (.bool false))) .done) (.g (.o 0 5 (.mov (.t 0)) (.o 1 6 (.mov (.t 1)) (.o 2 7 (.call 7 300 [(.t 5), (.t 6)]) (.o 3 8 (.bin .geq (.t 7) (.i 0)) (.o 4 4 (.mov (.t 8)) .done))))) .ret))
theorem dg_slices_ContainsFunc_LLbyte_Lbyte : Tryz.f241.body.bind (digC Tryz.prog Tryz.f241.ntmps []) = some c_slices_ContainsFunc_LLbyte_Lbyte := by kernel_rfl
theorem rs_slices_ContainsFunc_LLbyte_Lbyte : resSlots Tryz.prog Tryz.f241 = some [.s 4] := by kernel_rfl
theorem ok_slices_ContainsFunc_LLbyte_Lbyte (l : List DV) (D : DV → Prop) (g : DV → Bool) (hl : (l.length : Int) ≤ 9223372036854775807) (hD : ∀ x ∈ l, D x) :
    FnOK Tryz.prog 241 [.one (.d (lst l)), .one (.fv false (fcPred D g))] (fun ra _ => ra = [.one (.d (.sc (.bool (l.any g))))]) := by
  refine FnOK.ofK Tryz.func241 (by kernel_rfl) dg_slices_ContainsFunc_LLbyte_Lbyte rs_slices_ContainsFunc_LLbyte_Lbyte rfl rfl ?_
  delta c_slices_ContainsFunc_LLbyte_Lbyte T.o X.i C.g
  refine Kbc (Ka Y (Kd ?_))
  refine Kbc (Ka Y (Ka Y ?_))
  refine Ku true (ok_slices_IndexFunc_LLbyte_Lbyte l D g hl hD) ⟨rfl, ⟨fun h => h, fun _ _ h => h⟩, trivial⟩ rfl rfl rfl fun os => ?_
  refine Kj Y Y Y (Ka Y (Kd (Kr ?_)))
  refine endRet (ra := [.one (.d _)]) rfl ⟨⟨⟨rfl, .inl rfl⟩, trivial⟩, .nil, trivial, trivial, trivial⟩ ?_
  have : decide (idxF g l ≥ 0) = l.any g := by
    unfold idxF
    cases h : l.findIdx? g with
    | none =>
      rw [List.findIdx?_eq_none_iff] at h
      have : l.any g = false := by rw [List.any_eq_false]; intro x hx; simp [h x hx]
      rw [this]; rfl
    | some i =>
      rw [List.findIdx?_eq_some_iff_getElem] at h
      obtain ⟨h1, h2, _⟩ := h
      have : l.any g = true := by rw [List.any_eq_true]; exact ⟨_, List.getElem_mem h1, h2⟩
      rw [this]; simp
  rw [this]

def c_impl_all_Lbyte : C := (.g (.o 0 3 (.box 3 (.t 1)) (.o 1 4 (.mov (.v (.bool false))) .done)) (.g (.o 0 5 (.mov (.t 0)) (.o 1 6 (.clo 242 [] [(.t 3)]) (.o 2 7 (.call 7 241 [(.t 5), (.t 6)]) (.o 3 8 (.un .not (.t 7)) (.o 4 4 (.mov (.t 8)) .done))))) .ret))
theorem dg_impl_all_Lbyte : Tryz.f160.body.bind (digC Tryz.prog Tryz.f160.ntmps []) = some c_impl_all_Lbyte := by kernel_rfl
theorem rs_impl_all_Lbyte : resSlots Tryz.prog Tryz.f160 = some [.s 4] := by kernel_rfl
theorem ok_impl_all_Lbyte (l : List DV) (D : DV → Prop) (g : DV → Bool) (hl : (l.length : Int) ≤ 9223372036854775807) (hD : ∀ x ∈ l, D x) :
    FnOK Tryz.prog 160 [.one (.d (lst l)), .one (.fv false (fcPred D g))] (fun ra _ => ra = [.one (.d (.sc (.bool (l.all g))))]) := by
  refine FnOK.ofK Tryz.func160 (by kernel_rfl) dg_impl_all_Lbyte rs_impl_all_Lbyte rfl rfl ?_
  delta c_impl_all_Lbyte T.o X.i C.g
  refine Kbc (kBox Y Y Y Y Y (Ka Y (Kd ?_)))
  refine Kbc (Ka Y (kClo Y Y ?_))
  refine Ku true (ok_slices_ContainsFunc_LLbyte_Lbyte l D (fun x => !g x) hl hD) ⟨rfl, ⟨rfl, ⟨_, Tryz.func242, rfl, by kernel_rfl⟩, _, rfl, ?_⟩, trivial⟩ rfl rfl rfl fun os => ?_
  · rintro l R ⟨x, hx, rfl, rfl⟩
    exact ⟨by rintro _ rfl; rfl, ok_impl_all_Lbyte_1 x D g hx⟩
  refine Kw Y Y (Ka Y (Kd (Kr ?_)))
  refine endRet (ra := [.one (.d _)]) rfl ⟨⟨⟨rfl, .inl rfl⟩, trivial⟩, .nil, trivial, trivial, trivial⟩ ?_
  simp [List.all_eq_not_any_not]

def c_impl_NameOk : C := (.g (.o 0 1 (.box 1 (.t 0)) (.o 1 2 (.mov (.v (.bool false))) .done)) (.g (.o 0 3 (.fad (.t 1) 0) (.o 1 4 (.load none (.t 3)) (.o 2 5 (.len (.t 4)) (.o 3 6 (.bin .leq (.t 5) (.i 6)) (.o 4 7 (.mov (.t 6)) (.op 5 [] (some 8) (some (7, true)) false (.fad (.t 1) 0) (.op 6 [] (some 9) (some (7, true)) false (.load none (.t 8)) (.op 7 [] (some 10) (some (7, true)) false (.call 10 160 [(.t 9), (.fn 161)]) (.o 8 11 (.pick (.t 7) (.t 10) (.v (.bool false))) (.o 9 2 (.mov (.t 11)) .done)))))))))) .ret))
theorem dg_impl_NameOk : Tryz.f71.body.bind (digC Tryz.prog Tryz.f71.ntmps []) = some c_impl_NameOk := by kernel_rfl
theorem rs_impl_NameOk : resSlots Tryz.prog Tryz.f71 = some [.s 2] := by kernel_rfl
theorem ok_impl_NameOk (a : List (List UInt8)) (ha : a.length ≤ 4194304) (hb : ∀ b ∈ a, b.length ≤ 4194304) :
    FnOK Tryz.prog 71 [.agg [.d (encBB a)]] (fun ra _ => ra = [.one (.d (.sc (.bool (nameOk a))))]) := by
  refine FnOK.ofK Tryz.func71 (by kernel_rfl) dg_impl_NameOk rs_impl_NameOk rfl rfl ?_
  delta c_impl_NameOk T.o X.i C.g
  refine Kbc (kBox Y Y Y Y Y (Ka Y (Kdb (Kc (Kf Y Y (Ke Y Y Y (Kq Y Y (Kj Y Y Y (Ka Y (kGP Y (fun g0 => Ki Y (Kf Y Y (Ki Y (Ke Y Y Y (Ki Y ?_))))) (fun g0 => Kg Y (Kg Y (Kg Y (Kl Y (Ka Y (Ka Y (Kd (Kr (Er (ra := [.one (.d _)]) rfl ?_)))))))))))))))))))
  · refine Ku true (ok_impl_all_Lbyte (a.map encB) (fun x => ∃ b : List UInt8, x = encB b ∧ b.length ≤ 4194304) (fun x => labelOk (decB x)) (by simp; omega) (fun x hx => by obtain ⟨c, h, rfl⟩ := List.mem_map.1 hx; exact ⟨c, rfl, hb c h⟩)) ⟨congrArg some (encBB_lst a), ⟨rfl, rfl, ⟨_, Tryz.func161, rfl, by kernel_rfl⟩, ?_⟩, trivial⟩ Y Y Y (fun _ => ?_)
    · rintro _ R ⟨x, ⟨c, rfl, h⟩, rfl, rfl⟩
      have := ok_impl_LabelOk c h
      simp only [decB_enc]
      exact this
    refine Kk Y (Ka Y (Ka Y (Kd (Kr (Er (ra := [.one (.d _)]) rfl ?_)))))
    rw [all_decB, show nameOk a = a.all labelOk by simp only [nameOk]; rw [decide_eq_true (by omega)]; rfl]
  · rw [show nameOk a = false by simp only [nameOk]; rw [decide_eq_false (by omega)]; rfl]

/-- What a type is called. -/
def typeTab : List (Int × ByteArray) := [(1, ⟨#[65]⟩), (2, ⟨#[78, 83]⟩), (5, ⟨#[67, 78, 65, 77, 69]⟩), (6, ⟨#[83, 79, 65]⟩), (12, ⟨#[80, 84, 82]⟩), (16, ⟨#[84, 88, 84]⟩), (49, ⟨#[68, 72, 67, 73, 68]⟩)]
def typeNm (n : Int) : ByteArray := ((typeTab.find? fun e => n == e.1).map (·.2)).getD ByteArray.empty
theorem ok_impl_typeName (n : Int) : FnOK Tryz.prog 180 [.one (.d (.sc (.int .i64 n)))] (fun ra _ => ra = [.one (.d (.sc (.string (typeNm n))))]) := by
  refine FnOK.ofWalk Tryz.func180 rfl (by kernel_rfl) fun w => ?_
  have kk : Tryz.prog.underlying 3 = some (.int .i64) := by kernel_rfl
  have hmm := @Go.RowKit.run_makeMap Tryz.prog
  go_enter Tryz.func180, Tryz.ntmps180
  go_wp2
  have t0 : Tab (w.alloc (.map #[] 0)) w.heap.size [] := ⟨_, _, (MapKept.heap_alloc w _).1, rfl⟩
  have b0 : Go.RowKit.Below w.heap.size w (w.alloc (.map #[] 0)) := (Go.RowKit.Below.refl _ _).alloc (Nat.le_refl _) _
  have st : ∀ {w1 w2 : World}, Go.RowKit.Below w.heap.size w w1 → Ext w1 w2 (fun b => b = w.heap.size) → Go.RowKit.Below w.heap.size w w2 := fun h e => ⟨e.os.trans h.os, e.tape.trans h.tape, e.output.trans h.output, Nat.le_trans h.size e.size, fun k hk => (e.same k (Nat.lt_of_lt_of_le hk h.size) (by omega)).trans (h.block k hk)⟩
  refine upon_insert (kt := 3) (et := 9) ?_ kk t0 ?_ (fun w1 t1 e1 => ?_)
  · kernel_rfl
  · rfl
  have b1 := st b0 e1
  go_wp2
  refine upon_insert (kt := 3) (et := 9) ?_ kk t1 ?_ (fun w2 t2 e2 => ?_)
  · kernel_rfl
  · rfl
  have b2 := st b1 e2
  go_wp2
  refine upon_insert (kt := 3) (et := 9) ?_ kk t2 ?_ (fun w3 t3 e3 => ?_)
  · kernel_rfl
  · rfl
  have b3 := st b2 e3
  go_wp2
  refine upon_insert (kt := 3) (et := 9) ?_ kk t3 ?_ (fun w4 t4 e4 => ?_)
  · kernel_rfl
  · rfl
  have b4 := st b3 e4
  go_wp2
  refine upon_insert (kt := 3) (et := 9) ?_ kk t4 ?_ (fun w5 t5 e5 => ?_)
  · kernel_rfl
  · rfl
  have b5 := st b4 e5
  go_wp2
  refine upon_insert (kt := 3) (et := 9) ?_ kk t5 ?_ (fun w6 t6 e6 => ?_)
  · kernel_rfl
  · rfl
  have b6 := st b5 e6
  go_wp2
  refine upon_insert (kt := 3) (et := 9) ?_ kk t6 ?_ (fun w7 t7 e7 => ?_)
  · kernel_rfl
  · rfl
  have b7 := st b6 e7
  go_wp2
  refine upon_find (kt := 3) (et := 9) ?_ kk ?_ t7 ?_
  · kernel_rfl
  · rfl
  go_wp2
  all_goals go_ret
  exact ⟨rfl, b7⟩

theorem typeNm_ok (n : Int) : (!((typeNm n).toList == (⟨#[]⟩ : ByteArray).toList)) = tyOk n := by
  by_cases h1 : n = 1
  · subst h1; rw [ByteArray.toList_eq, ByteArray.toList_eq]; rfl
  by_cases h2 : n = 2
  · subst h2; rw [ByteArray.toList_eq, ByteArray.toList_eq]; rfl
  by_cases h3 : n = 5
  · subst h3; rw [ByteArray.toList_eq, ByteArray.toList_eq]; rfl
  by_cases h4 : n = 6
  · subst h4; rw [ByteArray.toList_eq, ByteArray.toList_eq]; rfl
  by_cases h5 : n = 12
  · subst h5; rw [ByteArray.toList_eq, ByteArray.toList_eq]; rfl
  by_cases h6 : n = 16
  · subst h6; rw [ByteArray.toList_eq, ByteArray.toList_eq]; rfl
  by_cases h7 : n = 49
  · subst h7; rw [ByteArray.toList_eq, ByteArray.toList_eq]; rfl
  have e : ∀ m : Int, n ≠ m → (n == m) = false := fun m h => by simpa using h
  have : typeNm n = ByteArray.empty := by
    unfold typeNm typeTab
    simp only [List.find?_cons, e 1 h1, e 2 h2, e 5 h3, e 6 h4, e 12 h5, e 16 h6, e 49 h7, List.find?_nil]
    rfl
  rw [this]
  simp only [tyOk, e 1 h1, e 2 h2, e 5 h3, e 6 h4, e 12 h5, e 16 h6, e 49 h7]
  rw [ByteArray.toList_eq, ByteArray.toList_eq]; rfl

def c_impl_TypeOk : C := (.g (.o 0 2 (.mov (.v (.bool false))) .done) (.g (.o 0 3 (.mov (.t 0)) (.o 1 4 (.call 4 180 [(.t 3)]) (.o 2 5 (.bin .neq (.t 4) (.v (.string ⟨#[]⟩))) (.o 3 2 (.mov (.t 5)) .done)))) .ret))
theorem dg_impl_TypeOk : Tryz.f89.body.bind (digC Tryz.prog Tryz.f89.ntmps []) = some c_impl_TypeOk := by kernel_rfl
theorem rs_impl_TypeOk : resSlots Tryz.prog Tryz.f89 = some [.s 2] := by kernel_rfl
theorem ok_impl_TypeOk (n : Int) : FnOK Tryz.prog 89 [.one (.d (.sc (.int .i64 n)))] (fun ra _ => ra = [.one (.d (.sc (.bool (tyOk n))))]) := by
  rw [← typeNm_ok]
  refine FnOK.ofK Tryz.func89 (by kernel_rfl) dg_impl_TypeOk rs_impl_TypeOk rfl rfl ?_
  delta c_impl_TypeOk T.o X.i C.g
  refine Kbc (Ka Y (Kdb (Kc (Ka Y (Kp (ok_impl_typeName _) ⟨Y, trivial⟩ Y Y Y Y Y (Kj Y Y Y (Ka Y (Kd (Kr (Er (ra := [.one (.d _)]) rfl rfl))))))))))

def c_impl_isWord : C := (.g (.o 0 2 (.mov (.v (.bool false))) .done) (.g (.o 0 3 (.mov (.t 0)) (.o 1 4 (.call 4 109 [(.t 3), (.i 0), (.i 4294967295)]) (.o 2 2 (.mov (.t 4)) .done))) .ret))
theorem dg_impl_isWord : Tryz.f192.body.bind (digC Tryz.prog Tryz.f192.ntmps []) = some c_impl_isWord := by kernel_rfl
theorem rs_impl_isWord : resSlots Tryz.prog Tryz.f192 = some [.s 2] := by kernel_rfl
theorem ok_impl_isWord (n : Int) : FnOK Tryz.prog 192 [.one (.d (.sc (.int .i64 n)))] (fun ra _ => ra = [.one (.d (.sc (.bool (isW n))))]) := by
  refine FnOK.ofK Tryz.func192 (by kernel_rfl) dg_impl_isWord rs_impl_isWord rfl rfl ?_
  delta c_impl_isWord T.o X.i C.g
  refine Kbc (Ka Y (Kdb (Kc (Ka Y (Kp (ok_impl_within _ _ _) ⟨Y, Y, Y, trivial⟩ Y Y Y Y Y (Ka Y (Kd (Kr (Er (ra := [.one (.d _)]) rfl ?_)))))))))
  rw [show isW n = decide (0 ≤ n ∧ n ≤ 4294967295) by unfold isW; rw [Bool.eq_iff_iff]; simp; omega]

def c_impl_hasTo : C := (.g (.o 0 2 (.mov (.v (.bool false))) .done) (.g (.o 0 3 (.mov (.t 0)) (.o 1 4 (.bin .eql (.t 3) (.i 2)) (.o 2 5 (.mov (.t 4)) (.op 3 [] (some 6) (some (5, false)) false (.mov (.t 0)) (.op 4 [] (some 7) (some (5, false)) false (.bin .eql (.t 6) (.i 5)) (.o 5 8 (.pick (.t 5) (.v (.bool true)) (.t 7)) (.o 6 9 (.mov (.t 8)) (.op 7 [] (some 10) (some (9, false)) false (.mov (.t 0)) (.op 8 [] (some 11) (some (9, false)) false (.bin .eql (.t 10) (.i 6)) (.o 9 12 (.pick (.t 9) (.v (.bool true)) (.t 11)) (.o 10 13 (.mov (.t 12)) (.op 11 [] (some 14) (some (13, false)) false (.mov (.t 0)) (.op 12 [] (some 15) (some (13, false)) false (.bin .eql (.t 14) (.i 12)) (.o 13 16 (.pick (.t 13) (.v (.bool true)) (.t 15)) (.o 14 2 (.mov (.t 16)) .done))))))))))))))) .ret))
theorem dg_impl_hasTo : Tryz.f239.body.bind (digC Tryz.prog Tryz.f239.ntmps []) = some c_impl_hasTo := by kernel_rfl
theorem rs_impl_hasTo : resSlots Tryz.prog Tryz.f239 = some [.s 2] := by kernel_rfl
theorem ok_impl_hasTo (n : Int) : FnOK Tryz.prog 239 [.one (.d (.sc (.int .i64 n)))] (fun ra _ => ra = [.one (.d (.sc (.bool (hasTo n))))]) := by
  refine FnOK.ofK Tryz.func239 (by kernel_rfl) dg_impl_hasTo rs_impl_hasTo rfl rfl ?_
  delta c_impl_hasTo T.o X.i C.g
  refine Kbc (Ka Y (Kdb (Kc (Ka Y (Kj Y Y Y (Ka Y (kGP Y (fun g0 => Kg Y (Kg Y (Kk Y (Ka Y (Ka Y (Kg Y (Kg Y (Kk Y (Ka Y (Ka Y (Kg Y (Kg Y (Kk Y (Ka Y (Ka Y (Kd (Kr (Er (ra := [.one (.d _)]) rfl ?_)))))))))))))))))) (fun g0 => Ki Y (Ka Y (Ki Y (Kj Y Y Y (Kl Y (Ka Y (Ka Y (kGP Y (fun g1 => Kg Y (Kg Y (Kk Y (Ka Y (Ka Y (Kg Y (Kg Y (Kk Y (Ka Y (Ka Y (Kd (Kr (Er (ra := [.one (.d _)]) rfl ?_))))))))))))) (fun g1 => Ki Y (Ka Y (Ki Y (Kj Y Y Y (Kl Y (Ka Y (Ka Y (kGP Y (fun g2 => Kg Y (Kg Y (Kk Y (Ka Y (Ka Y (Kd (Kr (Er (ra := [.one (.d _)]) rfl ?_)))))))) (fun g2 => Ki Y (Ka Y (Ki Y (Kj Y Y Y (Kl Y (Ka Y (Ka Y (Kd (Kr (Er (ra := [.one (.d _)]) rfl ?_)))))))))))))))))))))))))))))))))
  all_goals simp_all [hasTo]

def c_impl_hasText : C := (.g (.o 0 2 (.mov (.v (.bool false))) .done) (.g (.o 0 3 (.mov (.t 0)) (.o 1 4 (.bin .eql (.t 3) (.i 16)) (.o 2 5 (.mov (.t 4)) (.op 3 [] (some 6) (some (5, false)) false (.mov (.t 0)) (.op 4 [] (some 7) (some (5, false)) false (.bin .eql (.t 6) (.i 49)) (.o 5 8 (.pick (.t 5) (.v (.bool true)) (.t 7)) (.o 6 2 (.mov (.t 8)) .done))))))) .ret))
theorem dg_impl_hasText : Tryz.f240.body.bind (digC Tryz.prog Tryz.f240.ntmps []) = some c_impl_hasText := by kernel_rfl
theorem rs_impl_hasText : resSlots Tryz.prog Tryz.f240 = some [.s 2] := by kernel_rfl
theorem ok_impl_hasText (n : Int) : FnOK Tryz.prog 240 [.one (.d (.sc (.int .i64 n)))] (fun ra _ => ra = [.one (.d (.sc (.bool (hasText n))))]) := by
  refine FnOK.ofK Tryz.func240 (by kernel_rfl) dg_impl_hasText rs_impl_hasText rfl rfl ?_
  delta c_impl_hasText T.o X.i C.g
  refine Kbc (Ka Y (Kdb (Kc (Ka Y (Kj Y Y Y (Ka Y (kGP Y (fun g0 => Kg Y (Kg Y (Kk Y (Ka Y (Ka Y (Kd (Kr (Er (ra := [.one (.d _)]) rfl ?_)))))))) (fun g0 => Ki Y (Ka Y (Ki Y (Kj Y Y Y (Kl Y (Ka Y (Ka Y (Kd (Kr (Er (ra := [.one (.d _)]) rfl ?_)))))))))))))))))
  all_goals simp_all [hasText]

def c_impl_RrOk : C := (.g (.o 0 1 (.box 1 (.t 0)) (.o 1 2 (.mov (.v (.bool false))) .done)) (.seq (.g (.o 0 7 (.fad (.t 1) 0) (.o 1 8 (.load (some 1) (.t 7)) (.o 2 9 (.call 9 71 [(.t 8)]) (.o 3 10 (.un .not (.t 9)) (.o 4 11 (.mov (.t 10)) (.op 5 [] (some 12) (some (11, false)) false (.fad (.t 1) 1) (.op 6 [] (some 13) (some (11, false)) false (.load none (.t 12)) (.op 7 [] (some 14) (some (11, false)) false (.call 14 89 [(.t 13)]) (.op 8 [] (some 15) (some (11, false)) false (.un .not (.t 14)) (.o 9 16 (.pick (.t 11) (.v (.bool true)) (.t 15)) (.o 10 17 (.mov (.t 16)) (.op 11 [] (some 18) (some (17, false)) false (.fad (.t 1) 2) (.op 12 [] (some 19) (some (17, false)) false (.load none (.t 18)) (.op 13 [] (some 20) (some (17, false)) false (.call 20 109 [(.t 19), (.i 0), (.i 100000)]) (.op 14 [] (some 21) (some (17, false)) false (.un .not (.t 20)) (.o 15 22 (.pick (.t 17) (.v (.bool true)) (.t 21)) .done)))))))))))))))) (.cond (.t 22) (.g (.o 0 2 (.mov (.v (.bool false))) .done) .ret) .skip)) (.g (.o 0 23 (.fad (.t 1) 6) (.o 1 24 (.load none (.t 23)) (.o 2 25 (.len (.t 24)) (.o 3 26 (.bin .eql (.t 25) (.i 0)) (.o 4 3 (.mov (.t 26)) .done))))) (.seq (.g (.o 0 27 (.fad (.t 1) 1) (.o 1 28 (.load none (.t 27)) (.o 2 29 (.bin .eql (.t 28) (.i 6)) .done))) (.cond (.t 29) (.reg false (.o 0 30 (.fad (.t 1) 6) (.o 1 31 (.load none (.t 30)) (.o 2 32 (.len (.t 31)) (.o 3 33 (.bin .eql (.t 32) (.i 2)) (.o 4 34 (.mov (.t 33)) (.op 5 [] (some 35) (some (34, true)) false (.fad (.t 1) 6) (.op 6 [] (some 36) (some (34, true)) false (.load none (.t 35)) (.op 7 [] (some 37) (some (34, true)) false (.iad 1 (.t 36) (.i 0)) (.op 8 [] (some 38) (some (34, true)) false (.load none (.t 37)) (.op 9 [] (some 39) (some (34, true)) false (.call 39 192 [(.t 38)]) (.o 10 40 (.pick (.t 34) (.t 39) (.v (.bool false))) (.o 11 41 (.mov (.t 40)) (.op 12 [] (some 42) (some (41, true)) false (.fad (.t 1) 6) (.op 13 [] (some 43) (some (41, true)) false (.load none (.t 42)) (.op 14 [] (some 44) (some (41, true)) false (.iad 1 (.t 43) (.i 1)) (.op 15 [] (some 45) (some (41, true)) false (.load none (.t 44)) (.op 16 [] (some 46) (some (41, true)) false (.call 46 109 [(.t 45), (.i 0), (.i 100000)]) (.o 17 47 (.pick (.t 41) (.t 46) (.v (.bool false))) (.o 18 3 (.mov (.t 47)) .done)))))))))))))))))))) .skip)) (.g (.o 0 48 (.fad (.t 1) 3) (.o 1 49 (.load none (.t 48)) (.o 2 50 (.bin .eql (.t 49) (.i 0)) (.o 3 51 (.mov (.t 50)) (.op 4 [] (some 52) (some (51, false)) false (.fad (.t 1) 1) (.op 5 [] (some 53) (some (51, false)) false (.load none (.t 52)) (.op 6 [] (some 54) (some (51, false)) false (.bin .eql (.t 53) (.i 1)) (.op 7 [] (some 55) (some (51, false)) false (.mov (.t 54)) (.op 8 [] (some 56) (some (55, true)) false (.fad (.t 1) 3) (.op 9 [] (some 57) (some (55, true)) false (.load none (.t 56)) (.op 10 [] (some 58) (some (55, true)) false (.call 58 192 [(.t 57)]) (.op 11 [] (some 59) (some (51, false)) false (.pick (.t 55) (.t 58) (.v (.bool false))) (.o 12 60 (.pick (.t 51) (.v (.bool true)) (.t 59)) (.o 13 4 (.mov (.t 60)) .done)))))))))))))) (.g (.o 0 61 (.fad (.t 1) 4) (.o 1 62 (.fad (.t 61) 0) (.o 2 63 (.load none (.t 62)) (.o 3 64 (.len (.t 63)) (.o 4 65 (.bin .eql (.t 64) (.i 0)) (.o 5 66 (.mov (.t 65)) (.op 6 [] (some 67) (some (66, false)) false (.fad (.t 1) 1) (.op 7 [] (some 68) (some (66, false)) false (.load none (.t 67)) (.op 8 [] (some 69) (some (66, false)) false (.call 69 239 [(.t 68)]) (.op 9 [] (some 70) (some (66, false)) false (.mov (.t 69)) (.op 10 [] (some 71) (some (70, true)) false (.fad (.t 1) 4) (.op 11 [] (some 72) (some (70, true)) false (.load (some 1) (.t 71)) (.op 12 [] (some 73) (some (70, true)) false (.call 73 71 [(.t 72)]) (.op 13 [] (some 74) (some (66, false)) false (.pick (.t 70) (.t 73) (.v (.bool false))) (.o 14 75 (.pick (.t 66) (.v (.bool true)) (.t 74)) (.o 15 5 (.mov (.t 75)) .done)))))))))))))))) (.g (.o 0 76 (.fad (.t 1) 5) (.o 1 77 (.load none (.t 76)) (.o 2 78 (.len (.t 77)) (.o 3 79 (.bin .eql (.t 78) (.i 0)) (.o 4 80 (.mov (.t 79)) (.op 5 [] (some 81) (some (80, false)) false (.fad (.t 1) 1) (.op 6 [] (some 82) (some (80, false)) false (.load none (.t 81)) (.op 7 [] (some 83) (some (80, false)) false (.call 83 240 [(.t 82)]) (.op 8 [] (some 84) (some (80, false)) false (.mov (.t 83)) (.op 9 [] (some 85) (some (84, true)) false (.fad (.t 1) 5) (.op 10 [] (some 86) (some (84, true)) false (.load none (.t 85)) (.op 11 [] (some 87) (some (84, true)) false (.len (.t 86)) (.op 12 [] (some 88) (some (84, true)) false (.bin .leq (.t 87) (.i 40)) (.op 13 [] (some 89) (some (80, false)) false (.pick (.t 84) (.t 88) (.v (.bool false))) (.o 14 90 (.pick (.t 80) (.v (.bool true)) (.t 89)) (.o 15 6 (.mov (.t 90)) .done)))))))))))))))) (.g (.o 0 91 (.mov (.t 3)) (.o 1 92 (.mov (.t 91)) (.op 2 [] (some 93) (some (92, true)) false (.mov (.t 4)) (.o 3 94 (.pick (.t 92) (.t 93) (.v (.bool false))) (.o 4 95 (.mov (.t 94)) (.op 5 [] (some 96) (some (95, true)) false (.mov (.t 5)) (.o 6 97 (.pick (.t 95) (.t 96) (.v (.bool false))) (.o 7 98 (.mov (.t 97)) (.op 8 [] (some 99) (some (98, true)) false (.mov (.t 6)) (.o 9 100 (.pick (.t 98) (.t 99) (.v (.bool false))) (.o 10 2 (.mov (.t 100)) .done))))))))))) .ret))))))))
theorem dg_impl_RrOk : Tryz.f159.body.bind (digC Tryz.prog Tryz.f159.ntmps []) = some c_impl_RrOk := by kernel_rfl
theorem rs_impl_RrOk : resSlots Tryz.prog Tryz.f159 = some [.s 2] := by kernel_rfl
theorem ok_impl_RrOk (r : Rr) (hs : SmallR r) :
    FnOK Tryz.prog 159 [.agg (r.cells.map .d)] (fun ra _ => ra = [.one (.d (.sc (.bool (rrOk r))))]) := by
  refine FnOK.ofK Tryz.func159 (by kernel_rfl) dg_impl_RrOk rs_impl_RrOk rfl rfl ?_
  delta c_impl_RrOk T.o X.i C.g
  have n1 := hs.n.len
  have n2 := hs.n.mem
  have t1 := hs.t.len
  have t2 := hs.t.mem
  have x1 := hs.x
  have m1 := hs.m
  refine Kbc (kBox Y Y Y Y Y (Ka Y (Kd ?_)))
  by_cases h0 : nameOk r.name = true ∧ tyOk r.ty = true ∧ (0 ≤ r.ttl ∧ r.ttl ≤ 100000)
  case neg =>
    rw [show rrOk r = false by simp only [rrOk]; revert h0; cases nameOk r.name <;> cases tyOk r.ty <;> simp <;> intros <;> omega]
    refine Kb ?_
    cases h1 : nameOk r.name
    case false => refine kSeq (kReg (kFadP rfl rfl (kLoadP rfl rfl rfl (kCallD (ok_impl_NameOk _ pr pr) ⟨⟨⟨rfl, trivial⟩, leb⟩, trivial⟩ rfl rfl rfl rfl rfl (kUn rfl rfl (kMovC rfl (kGN rfl (fun g0 => kGF rfl (kGF rfl (kGF rfl (kGF rfl (kPickT rfl (kMovC rfl (kMovC rfl (kGF rfl (kGF rfl (kGF rfl (kGF rfl (kPickT rfl (kMovC rfl (kDone (kCondT rfl (kSeq (kReg (kMovC rfl (kDone (kRet (endRetA (ra := [.one (.d _)]) rfl rfl))))))))))))))))))))) (fun g0 => (by (simp [*] at g0))))))))))
    cases h2 : tyOk r.ty
    case false => refine kSeq (kReg (kFadP rfl rfl (kLoadP rfl rfl rfl (kCallD (ok_impl_NameOk _ pr pr) ⟨⟨⟨rfl, trivial⟩, leb⟩, trivial⟩ rfl rfl rfl rfl rfl (kUn rfl rfl (kMovC rfl (kGN rfl (fun g0 => (by (simp [*] at g0))) (fun g0 => kGT rfl (kFadP rfl rfl (kGT rfl (kLoadP rfl rfl rfl (kGT rfl (kCallD (ok_impl_TypeOk _) ⟨rfl, trivial⟩ rfl rfl rfl rfl rfl (kGT rfl (kUn rfl rfl (kPickF rfl (kMovC rfl (kMovC rfl (kGN rfl (fun g1 => kGF rfl (kGF rfl (kGF rfl (kGF rfl (kPickT rfl (kMovC rfl (kDone (kCondT rfl (kSeq (kReg (kMovC rfl (kDone (kRet (endRetA (ra := [.one (.d _)]) rfl rfl)))))))))))))) (fun g1 => (by (simp [*] at g1))))))))))))))))))))))
    have h3 : ¬ (0 ≤ r.ttl ∧ r.ttl ≤ 100000) := fun h => h0 ⟨h1, h2, h⟩
    refine Kbc (Kf Y Y (Ke Y Y Y (Kp (ok_impl_NameOk _ pr pr) ⟨⟨⟨Y, trivial⟩, leb⟩, trivial⟩ Y Y Y Y Y (Kw Y Y (Ka Y (kGN Y (fun g0 => (by (simp [*] at g0))) (fun g0 => Ki Y (Kf Y Y (Ki Y (Ke Y Y Y (Ki Y (Kp (ok_impl_TypeOk _) ⟨Y, trivial⟩ Y Y Y Y Y (Ki Y (Kw Y Y (Kl Y (Ka Y (Ka Y (kGN Y (fun g1 => (by (simp [*] at g1))) (fun g1 => Ki Y (Kf Y Y (Ki Y (Ke Y Y Y (Ki Y (Kp (ok_impl_within _ _ _) ⟨Y, Y, Y, trivial⟩ Y Y Y Y Y (Ki Y (Kw Y Y (Kl Y (Ka Y (Kd (kCondN Y (fun g2 => Kbc (Ka Y (Kd (Kr (Er (ra := [.one (.d _)]) rfl rfl))))) (fun g2 => (by (simp [*] at g2)))))))))))))))))))))))))))))))))
  obtain ⟨h1, h2, h3⟩ := h0
  rw [show rrOk r = dataOk r by simp only [rrOk]; rw [h1, h2, decide_eq_true h3.1, decide_eq_true h3.2]; rfl]
  refine Kb (kCut ⟨tabSl [(1, .c (.ptr (rid 1 0) 1 0))], obTab 1 [(rid 1 0, ⟨1, 0, .box (r.cells.map .d)⟩)], []⟩ ?_ (fun x hc => ?_))
  case refine_2 =>
    refine Kbc (Kf Y Y (Ke Y Y Y (Kp (ok_impl_NameOk _ pr pr) ⟨⟨⟨Y, trivial⟩, leb⟩, trivial⟩ Y Y Y Y Y (Kw Y Y (Ka Y (kGN Y (fun g0 => (by (simp [*] at g0))) (fun g0 => Ki Y (Kf Y Y (Ki Y (Ke Y Y Y (Ki Y (Kp (ok_impl_TypeOk _) ⟨Y, trivial⟩ Y Y Y Y Y (Ki Y (Kw Y Y (Kl Y (Ka Y (Ka Y (kGN Y (fun g1 => (by (simp [*] at g1))) (fun g1 => Ki Y (Kf Y Y (Ki Y (Ke Y Y Y (Ki Y (Kp (ok_impl_within _ _ _) ⟨Y, Y, Y, trivial⟩ Y Y Y Y Y (Ki Y (Kw Y Y (Kl Y (Ka Y (Kd (kCondN Y (fun g2 => (by (simp [*] at g2))) (fun g2 => Kn (hc _ .normA))))))))))))))))))))))))))))))))
  refine Kb (kCut ⟨tabSl [(1, .c (.ptr (rid 1 0) 1 0)), (3, .b (((r.nums.length : Int) == 0)))], obTab 1 [(rid 1 0, ⟨1, 0, .box (r.cells.map .d)⟩)], []⟩ ?_ (fun x hc => ?_))
  case refine_2 => refine kReg (kFadP rfl rfl (kLoadP rfl rfl rfl (kLenR rfl rfl (kBin rfl rfl rfl (kMovC rfl (kDone (hc _ .normA)))))))
  refine Kb (kCut ⟨tabSl [(1, .c (.ptr (rid 1 0) 1 0)), (3, .b ((if r.ty == 6 then numsOk r.nums else ((r.nums.length : Int) == 0))))], obTab 1 [(rid 1 0, ⟨1, 0, .box (r.cells.map .d)⟩)], []⟩ ?_ (fun x hc => ?_))
  case refine_2 =>
    refine Kbc (Kf Y Y (Ke Y Y Y (Kj Y Y Y (Kd (Km Y (fun g0 => Kc (Kf Y Y (Ke Y Y Y (Kq Y Y (Kj Y Y Y (Ka Y (kGP Y (fun g1 => Ki Y (Kf Y Y (Ki Y (Ke Y Y Y (Ki Y (kIadR Y Y Y om (Ki Y (Ky Y Y (Ki Y (Kp (ok_impl_isWord _) ⟨Y, trivial⟩ Y Y Y Y Y (Kk Y (Ka Y (Ka Y (kGS Y (fun g2 => Ki Y (Kf Y Y (Ki Y (Ke Y Y Y (Ki Y (kIadR Y Y Y om (Ki Y (Ky Y Y (Ki Y (Kp (ok_impl_within _ _ _) ⟨Y, Y, Y, trivial⟩ Y Y Y Y Y (Kk Y (Ka Y (Ka Y (Kd (hc _ .normA))))))))))))))) (fun g2 => Kg Y (Kg Y (Kg Y (Kg Y (Kg Y (Kl Y (Ka Y (Ka Y (Kd (hc _ .normA)))))))))))))))))))))))) (fun g1 => Kg Y (Kg Y (Kg Y (Kg Y (Kg Y (Kl Y (Ka Y (Ka Y (Kg Y (Kg Y (Kg Y (Kg Y (Kg Y (Kl Y (Ka Y (Ka Y (Kd (hc _ .normA))))))))))))))))))))))))) (fun g0 => Kn (hc _ .normA)))))))
  refine Kb (kCut ⟨tabSl [(1, .c (.ptr (rid 1 0) 1 0)), (3, .b ((if r.ty == 6 then numsOk r.nums else ((r.nums.length : Int) == 0)))), (4, .b ((if r.ty == 1 then isW r.addr else r.addr == 0)))], obTab 1 [(rid 1 0, ⟨1, 0, .box (r.cells.map .d)⟩)], []⟩ ?_ (fun x hc => ?_))
  case refine_2 =>
    refine Kc (Kf Y Y (Ke Y Y Y (Kj Y Y Y (Ka Y (kGP Y (fun g0 => Kg Y (Kg Y (Kg Y (Kg Y (kGU Y (kGU Y (kGU Y (Kg Y (Kk Y (Ka Y (Ka Y (Kd (hc _ .normA))))))))))))) (fun g0 => Ki Y (Kf Y Y (Ki Y (Ke Y Y Y (Ki Y (Kj Y Y Y (Ki Y (Ka Y (kGP Y (fun g1 => Ki Y (Kf Y Y (Ki Y (Ke Y Y Y (Ki Y (Kp (ok_impl_isWord _) ⟨Y, trivial⟩ Y Y Y Y Y (Ki Y (Kk Y (Ka Y (Kl Y (Ka Y (Ka Y (Kd (hc _ .normA)))))))))))))) (fun g1 => Kg Y (Kg Y (Kg Y (Ki Y (Kl Y (Ka Y (Kl Y (Ka Y (Ka Y (Kd (hc _ .normA)))))))))))))))))))))))))
  refine Kb (kCut ⟨tabSl [(1, .c (.ptr (rid 1 0) 1 0)), (3, .b ((if r.ty == 6 then numsOk r.nums else ((r.nums.length : Int) == 0)))), (4, .b ((if r.ty == 1 then isW r.addr else r.addr == 0))), (5, .b ((if hasTo r.ty then nameOk r.to else ((r.to.length : Int) == 0))))], obTab 1 [(rid 1 0, ⟨1, 0, .box (r.cells.map .d)⟩)], []⟩ ?_ (fun x hc => ?_))
  case refine_2 =>
    refine Kc (Kf Y Y (Kf Y Y (Ke Y Y Y (Kq Y Y (Kj Y Y Y (Ka Y (kGP Y (fun g0 => Kg Y (Kg Y (Kg Y (Kg Y (kGU Y (kGU Y (kGU Y (Kg Y (Kk Y (Ka Y (Ka Y (Kd (hc _ .normA))))))))))))) (fun g0 => Ki Y (Kf Y Y (Ki Y (Ke Y Y Y (Ki Y (Kp (ok_impl_hasTo _) ⟨Y, trivial⟩ Y Y Y Y Y (Ki Y (Ka Y (kGS Y (fun g1 => Ki Y (Kf Y Y (Ki Y (Ke Y Y Y (Ki Y (Kp (ok_impl_NameOk _ pr pr) ⟨⟨⟨Y, trivial⟩, leb⟩, trivial⟩ Y Y Y Y Y (Ki Y (Kk Y (Ka Y (Kl Y (Ka Y (Ka Y (Kd (hc _ .normA)))))))))))))) (fun g1 => Kg Y (Kg Y (Kg Y (Ki Y (Kl Y (Ka Y (Kl Y (Ka Y (Ka Y (Kd (hc _ .normA)))))))))))))))))))))))))))
  refine Kb (kCut ⟨tabSl [(1, .c (.ptr (rid 1 0) 1 0)), (3, .b ((if r.ty == 6 then numsOk r.nums else ((r.nums.length : Int) == 0)))), (4, .b ((if r.ty == 1 then isW r.addr else r.addr == 0))), (5, .b ((if hasTo r.ty then nameOk r.to else ((r.to.length : Int) == 0)))), (6, .b ((if hasText r.ty then decide ((r.text.length : Int) ≤ 40) else ((r.text.length : Int) == 0))))], obTab 1 [(rid 1 0, ⟨1, 0, .box (r.cells.map .d)⟩)], []⟩ ?_ (fun x hc => ?_))
  case refine_2 =>
    refine Kc (Kf Y Y (Ke Y Y Y (Kq Y Y (Kj Y Y Y (Ka Y (kGP Y (fun g0 => Kg Y (Kg Y (Kg Y (Kg Y (kGU Y (kGU Y (kGU Y (kGU Y (Kg Y (Kk Y (Ka Y (Ka Y (Kd (hc _ .normA)))))))))))))) (fun g0 => Ki Y (Kf Y Y (Ki Y (Ke Y Y Y (Ki Y (Kp (ok_impl_hasText _) ⟨Y, trivial⟩ Y Y Y Y Y (Ki Y (Ka Y (kGS Y (fun g1 => Ki Y (Kf Y Y (Ki Y (Ke Y Y Y (Ki Y (Kq Y Y (Ki Y (Kj Y Y Y (Ki Y (Kk Y (Ka Y (Kl Y (Ka Y (Ka Y (Kd (hc _ .normA)))))))))))))))) (fun g1 => Kg Y (Kg Y (Kg Y (Kg Y (Ki Y (Kl Y (Ka Y (Kl Y (Ka Y (Ka Y (Kd (hc _ .normA)))))))))))))))))))))))))))
  refine Kbc (Ka Y (Ka Y (kGS Y (fun g0 => Ki Y (Ka Y (Kk Y (Ka Y (Ka Y (kGS Y (fun g1 => Ki Y (Ka Y (Kk Y (Ka Y (Ka Y (kGS Y (fun g2 => Ki Y (Ka Y (Kk Y (Ka Y (Ka Y (Kd (Kr (Er (ra := [.one (.d _)]) rfl ?_)))))))) (fun g2 => Kg Y (Kl Y (Ka Y (Ka Y (Kd (Kr (Er (ra := [.one (.d _)]) rfl ?_))))))))))))) (fun g1 => Kg Y (Kl Y (Ka Y (Ka Y (Kg Y (Kl Y (Ka Y (Ka Y (Kd (Kr (Er (ra := [.one (.d _)]) rfl ?_))))))))))))))))) (fun g0 => Kg Y (Kl Y (Ka Y (Ka Y (Kg Y (Kl Y (Ka Y (Ka Y (Kg Y (Kl Y (Ka Y (Ka Y (Kd (Kr (Er (ra := [.one (.d _)]) rfl ?_))))))))))))))))))
  all_goals simp only [dataOk, *, Bool.true_and, Bool.false_and, Bool.and_true, Bool.and_false]

def c_impl_all_impl_Rr_1 : C := (.g (.o 0 2 (.box 2 (.t 0)) (.o 1 3 (.mov (.v (.bool false))) .done)) (.g (.o 0 4 (.load none (.t 1)) (.o 1 5 (.load (some 7) (.t 2)) (.o 2 6 (.callv 6 (.t 4) [(.t 5)]) (.o 3 7 (.un .not (.t 6)) (.o 4 3 (.mov (.t 7)) .done))))) .ret))
theorem dg_impl_all_impl_Rr_1 : Tryz.f238.body.bind (digC Tryz.prog Tryz.f238.ntmps []) = some c_impl_all_impl_Rr_1 := by kernel_rfl
theorem rs_impl_all_impl_Rr_1 : resSlots Tryz.prog Tryz.f238 = some [.s 3] := by kernel_rfl
theorem ok_impl_all_impl_Rr_1 (x : Rr) (D : Rr → Prop) (g : Rr → Bool) (hx : D x) :
    FnOK Tryz.prog 238 [.agg (x.cells.map .d), .one (.ptr [.fv false (fcAgg D Rr.cells g)])] (fun ra _ => ra = [.one (.d (.sc (.bool (!g x))))]) := by
  refine FnOK.ofK Tryz.func238 (by kernel_rfl) dg_impl_all_impl_Rr_1 rs_impl_all_impl_Rr_1 rfl rfl ?_
  delta c_impl_all_impl_Rr_1 T.o X.i C.g
  refine Kbc (kBox Y Y Y Y Y (Ka Y (Kdb (Kc (kLoadC Y Y (Ke Y Y Y ?_))))))
  refine kCallv Y ⟨x, hx, rfl, rfl⟩ ⟨⟨⟨Y, Y, Y, Y, Y, Y, Y, trivial⟩, leb⟩, trivial⟩ (.inr ?_) rfl ?_ rfl ?_
  · rintro _ rfl; rfl
  · rintro _ rfl; exact leb
  rintro _ rfl
  refine Kw Y Y (Ka Y (Kd (Kr (Er (ra := [.one (.d _)]) rfl rfl))))

def c_slices_IndexFunc_Limpl_Rr_impl_Rr : C := (.g (.o 0 4 (.mov (.i 0)) .done) (.seq (.g (.o 0 6 (.mov (.t 0)) (.o 1 7 (.len (.t 6)) (.o 2 8 (.mov (.i 0)) .done))) (.block 0 (.loop (.g (.o 0 9 (.bin .lss (.t 8) (.t 7)) .done) (.seq (.cond (.t 9) .skip (.exit 0)) (.seq (.block 1 (.g (.o 0 10 (.mov (.t 8)) (.o 1 5 (.mov (.t 10)) .done)) (.g (.o 0 11 (.mov (.t 1)) (.o 1 12 (.mov (.t 0)) (.o 2 13 (.mov (.t 5)) (.o 3 14 (.iad 7 (.t 12) (.t 13)) (.o 4 15 (.load (some 7) (.t 14)) (.o 5 16 (.callv 16 (.t 11) [(.t 15)]) .done)))))) (.cond (.t 16) (.g (.o 0 17 (.mov (.t 5)) (.o 1 4 (.mov (.t 17)) .done)) .ret) .skip)))) (.reg false (.o 0 18 (.bin .add (.t 8) (.i 1)) (.o 1 8 (.mov (.t 18)) .done))))))))) (.g (.o 0 4 (.mov (.i (-1))) .done) .ret)))
theorem dg_slices_IndexFunc_Limpl_Rr_impl_Rr : Tryz.f270.body.bind (digC Tryz.prog Tryz.f270.ntmps []) = some c_slices_IndexFunc_Limpl_Rr_impl_Rr := by kernel_rfl
theorem rs_slices_IndexFunc_Limpl_Rr_impl_Rr : resSlots Tryz.prog Tryz.f270 = some [.s 4] := by kernel_rfl
theorem ok_slices_IndexFunc_Limpl_Rr_impl_Rr (l : List Rr) (D : Rr → Prop) (g : Rr → Bool) (hl : l.length ≤ 4194304) (hD : ∀ x ∈ l, D x) :
    FnOK Tryz.prog 270 [.one (.d (encR l)), .one (.fv false (fcAgg D Rr.cells g))] (fun ra _ => ra = [.one (.d (.sc (.int .i64 (idx g l))))]) := by
  refine FnOK.ofK Tryz.func270 (by kernel_rfl) dg_slices_IndexFunc_Limpl_Rr_impl_Rr rs_slices_IndexFunc_Limpl_Rr_impl_Rr rfl rfl ?_
  delta c_slices_IndexFunc_Limpl_Rr_impl_Rr T.o X.i C.g
  refine Kbc (Ka Y (Kdb (Kbc (Ka Y (Kq Y Y (Ka Y (Kd (Kt ?_))))))))
  refine kLoop (α := { i : Nat // i ≤ l.length ∧ ∀ x ∈ l.take i, g x = false })
    (fun y => ⟨tabSl [(0, .dv (encR l)), (1, .c (.fv false (fcAgg D Rr.cells g))), (7, .i l.length), (8, .i y.1)], obTab 1 [], []⟩) (fun y => l.length - y.1) ⟨0, by simp⟩
    .normA ?_
  rintro ⟨i, hi, hg⟩
  simp only
  rcases Nat.lt_or_ge i l.length with hlt | hge
  · refine Kbc (Kj Y Y Y (Kdb (Km Y (fun g0 => Kn (Kb (Kt (Kbc (Ka Y (Ka Y (Kdb (Kc (Ka Y (Ka Y (Ka Y (kIadR Y Y Y om (Ky Y Y ?_))))))))))))) (fun g0 => om))))
    refine kCallv Y ⟨l[i], hD _ (List.getElem_mem hlt), rfl, rfl⟩ ⟨⟨⟨Y, Y, Y, Y, Y, Y, Y, trivial⟩, leb⟩, trivial⟩ (.inr ?_) rfl ?_ rfl ?_
    · rintro _ rfl; rfl
    · rintro _ rfl; exact leb
    rintro _ rfl
    refine Kd (kCond Y (fun g0 => Kbc (Ka Y (Ka Y (Kd (Kr (Er (ra := [.one (.d _)]) rfl ?_)))))) (fun g0 => Kn (Kv (Kc (kAdd Y Y om (Ka Y (Kd ?_)))))))
    · have : l.findIdx? g = some i := by
        rw [List.findIdx?_eq_some_iff_getElem]
        refine ⟨hlt, by assumption, fun j hj => ?_⟩
        simpa using hg _ (by rw [List.mem_take_iff_getElem]; exact ⟨j, by omega, rfl⟩)
      simp [idx, this]
    · refine kInv ⟨⟨i + 1, hlt, ?_⟩, by simp only; omega, .normA⟩
      intro x hx
      rw [← List.take_append_getElem hlt, List.mem_append] at hx
      rcases hx with hx | hx
      · exact hg x hx
      · simp at hx; rw [hx]; assumption
  · refine Kbc (Kj Y Y Y (Kdb (Km Y (fun g0 => om) (fun g0 => kExit (kExC (kExI (kExB (Kbc (Ka Y (Kd (Kr (Er (ra := [.one (.d _)]) rfl ?_))))))))))))
    have : l.findIdx? g = none := by
      rw [List.findIdx?_eq_none_iff]
      intro x hx
      rw [show i = l.length by omega, List.take_length] at hg
      exact hg x hx
    simp [idx, this]

def c_slices_ContainsFunc_Limpl_Rr_impl_Rr : C := (.g (.o 0 4 (.mov (.v (.bool false))) .done) (.g (.o 0 5 (.mov (.t 0)) (.o 1 6 (.mov (.t 1)) (.o 2 7 (.call 7 270 [(.t 5), (.t 6)]) (.o 3 8 (.bin .geq (.t 7) (.i 0)) (.o 4 4 (.mov (.t 8)) .done))))) .ret))
theorem dg_slices_ContainsFunc_Limpl_Rr_impl_Rr : Tryz.f197.body.bind (digC Tryz.prog Tryz.f197.ntmps []) = some c_slices_ContainsFunc_Limpl_Rr_impl_Rr := by kernel_rfl
theorem rs_slices_ContainsFunc_Limpl_Rr_impl_Rr : resSlots Tryz.prog Tryz.f197 = some [.s 4] := by kernel_rfl
theorem ok_slices_ContainsFunc_Limpl_Rr_impl_Rr (l : List Rr) (D : Rr → Prop) (g : Rr → Bool) (hl : l.length ≤ 4194304) (hD : ∀ x ∈ l, D x) :
    FnOK Tryz.prog 197 [.one (.d (encR l)), .one (.fv false (fcAgg D Rr.cells g))] (fun ra _ => ra = [.one (.d (.sc (.bool (l.any g))))]) := by
  refine FnOK.ofK Tryz.func197 (by kernel_rfl) dg_slices_ContainsFunc_Limpl_Rr_impl_Rr rs_slices_ContainsFunc_Limpl_Rr_impl_Rr rfl rfl ?_
  delta c_slices_ContainsFunc_Limpl_Rr_impl_Rr T.o X.i C.g
  refine Kbc (Ka Y (Kdb (Kc (Ka Y (Ka Y ?_)))))
  refine Ku true (ok_slices_IndexFunc_Limpl_Rr_impl_Rr l D g hl hD) ⟨rfl, ⟨fun h => h, fun _ _ h => h⟩, trivial⟩ rfl rfl rfl fun os => ?_
  rw [← idx_ge g l]
  refine Kj Y Y Y (Ka Y (Kd (Kr (Er (ra := [.one (.d _)]) rfl rfl))))

def c_impl_all_impl_Rr : C := (.g (.o 0 3 (.box 3 (.t 1)) (.o 1 4 (.mov (.v (.bool false))) .done)) (.g (.o 0 5 (.mov (.t 0)) (.o 1 6 (.clo 238 [] [(.t 3)]) (.o 2 7 (.call 7 197 [(.t 5), (.t 6)]) (.o 3 8 (.un .not (.t 7)) (.o 4 4 (.mov (.t 8)) .done))))) .ret))
theorem dg_impl_all_impl_Rr : Tryz.f158.body.bind (digC Tryz.prog Tryz.f158.ntmps []) = some c_impl_all_impl_Rr := by kernel_rfl
theorem rs_impl_all_impl_Rr : resSlots Tryz.prog Tryz.f158 = some [.s 4] := by kernel_rfl
theorem ok_impl_all_impl_Rr (l : List Rr) (D : Rr → Prop) (g : Rr → Bool) (hl : l.length ≤ 4194304) (hD : ∀ x ∈ l, D x) :
    FnOK Tryz.prog 158 [.one (.d (encR l)), .one (.fv false (fcAgg D Rr.cells g))] (fun ra _ => ra = [.one (.d (.sc (.bool (l.all g))))]) := by
  refine FnOK.ofK Tryz.func158 (by kernel_rfl) dg_impl_all_impl_Rr rs_impl_all_impl_Rr rfl rfl ?_
  delta c_impl_all_impl_Rr T.o X.i C.g
  refine Kbc (kBox Y Y Y Y Y (Ka Y (Kdb (Kc (Ka Y (kClo Y Y ?_))))))
  refine Ku true (ok_slices_ContainsFunc_Limpl_Rr_impl_Rr l D (fun x => !g x) hl hD) ⟨rfl, ⟨rfl, ⟨_, Tryz.func238, rfl, by kernel_rfl⟩, _, rfl, ?_⟩, trivial⟩ rfl rfl rfl fun os => ?_
  · rintro _ R ⟨x, hx, rfl, rfl⟩
    exact ⟨by rintro _ rfl; rfl, ok_impl_all_impl_Rr_1 x D g hx⟩
  rw [List.all_eq_not_any_not]
  refine Kw Y Y (Ka Y (Kd (Kr (Er (ra := [.one (.d _)]) rfl rfl))))

theorem ok_bytes_Compare (a b : List UInt8) : FnOK Tryz.prog 226 [.one (.d (encB a)), .one (.d (encB b))] (fun ra _ => ra = [.one (.d (.sc (.int .i64 (cmpB a b))))]) := by
  refine FnOK.ofWalkB Tryz.func226 rfl (by kernel_rfl) fun w va vb h1 h2 => ?_
  have hc := run_compare (P := Tryz.prog) (w := w) (va := va) (vb := vb) Tryz.func291 (by kernel_rfl) rfl (by kernel_rfl) (by kernel_rfl) h1 h2
  go_enter Tryz.func226, Tryz.ntmps226
  go_wp2
  all_goals go_ret
  exact ⟨rfl, Go.RowKit.Below.refl _ _⟩

def c_cmp_isNaN_int : C := (.g (.o 0 2 (.mov (.v (.bool false))) .done) (.g (.o 0 3 (.mov (.t 0)) (.o 1 4 (.mov (.t 0)) (.o 2 5 (.bin .neq (.t 3) (.t 4)) (.o 3 2 (.mov (.t 5)) .done)))) .ret))
theorem dg_cmp_isNaN_int : Tryz.f290.body.bind (digC Tryz.prog Tryz.f290.ntmps []) = some c_cmp_isNaN_int := by kernel_rfl
theorem rs_cmp_isNaN_int : resSlots Tryz.prog Tryz.f290 = some [.s 2] := by kernel_rfl
theorem ok_cmp_isNaN_int (a : Int) :
    FnOK Tryz.prog 290 [.one (.d (.sc (.int .i64 a)))] (fun ra _ => ra = [.one (.d (.sc (.bool false)))]) := by
  refine FnOK.ofK Tryz.func290 (by kernel_rfl) dg_cmp_isNaN_int rs_cmp_isNaN_int rfl rfl ?_
  delta c_cmp_isNaN_int T.o X.i C.g
  refine Kbc (Ka Y (Kdb (Kc (Ka Y (Ka Y (Kj Y Y Y (Ka Y (Kd (Kr (Er (ra := [.one (.d _)]) rfl ?_))))))))))
  rw [show (a != a) = false by simp]

def c_cmp_Compare_int : C := (.g (.o 0 4 (.mov (.i 0)) .done) (.g (.o 0 7 (.mov (.t 0)) (.o 1 8 (.call 8 290 [(.t 7)]) (.o 2 5 (.mov (.t 8)) .done))) (.g (.o 0 9 (.mov (.t 1)) (.o 1 10 (.call 10 290 [(.t 9)]) (.o 2 6 (.mov (.t 10)) .done))) (.seq (.g (.o 0 11 (.mov (.t 5)) .done) (.cond (.t 11) (.seq (.g (.o 0 12 (.mov (.t 6)) .done) (.cond (.t 12) (.g (.o 0 4 (.mov (.i 0)) .done) .ret) .skip)) (.g (.o 0 4 (.mov (.i (-1))) .done) .ret)) .skip)) (.seq (.g (.o 0 13 (.mov (.t 6)) .done) (.cond (.t 13) (.g (.o 0 4 (.mov (.i 1)) .done) .ret) .skip)) (.seq (.g (.o 0 14 (.mov (.t 0)) (.o 1 15 (.mov (.t 1)) (.o 2 16 (.bin .lss (.t 14) (.t 15)) .done))) (.cond (.t 16) (.g (.o 0 4 (.mov (.i (-1))) .done) .ret) .skip)) (.seq (.g (.o 0 17 (.mov (.t 0)) (.o 1 18 (.mov (.t 1)) (.o 2 19 (.bin .gtr (.t 17) (.t 18)) .done))) (.cond (.t 19) (.g (.o 0 4 (.mov (.i 1)) .done) .ret) .skip)) (.g (.o 0 4 (.mov (.i 0)) .done) .ret))))))))
theorem dg_cmp_Compare_int : Tryz.f225.body.bind (digC Tryz.prog Tryz.f225.ntmps []) = some c_cmp_Compare_int := by kernel_rfl
theorem rs_cmp_Compare_int : resSlots Tryz.prog Tryz.f225 = some [.s 4] := by kernel_rfl
theorem ok_cmp_Compare_int (a b : Int) :
    FnOK Tryz.prog 225 [.one (.d (.sc (.int .i64 a))), .one (.d (.sc (.int .i64 b)))] (fun ra _ => ra = [.one (.d (.sc (.int .i64 (cmpI a b))))]) := by
  refine FnOK.ofK Tryz.func225 (by kernel_rfl) dg_cmp_Compare_int rs_cmp_Compare_int rfl rfl ?_
  delta c_cmp_Compare_int T.o X.i C.g
  refine Kbc (Ka Y (Kdb (Kc (Ka Y (Kp (ok_cmp_isNaN_int _) ⟨Y, trivial⟩ Y Y Y Y Y (Ka Y (Kdb (Kc (Ka Y (Kp (ok_cmp_isNaN_int _) ⟨Y, trivial⟩ Y Y Y Y Y (Ka Y (Kdb (Kbc (Ka Y (Kd (kCondF Y (Kn (Kb (Kbc (Ka Y (Kd (kCondF Y (Kn (Kb (Kbc (Ka Y (Ka Y (Kj Y Y Y (Kd (Km Y (fun g0 => Kbc (Ka Y (Kd (Kr (Er (ra := [.one (.d _)]) rfl ?_))))) (fun g0 => Kn (Kb (Kbc (Ka Y (Ka Y (Kj Y Y Y (Kd (Km Y (fun g1 => Kbc (Ka Y (Kd (Kr (Er (ra := [.one (.d _)]) rfl ?_))))) (fun g1 => Kn (Kbc (Ka Y (Kd (Kr (Er (ra := [.one (.d _)]) rfl ?_))))))))))))))))))))))))))))))))))))))))))))
  all_goals (refine congrArg (fun z : Int => [RA.one (RV.d (DV.sc (Value.int IntKind.i64 z)))]) ?_; unfold cmpI; split <;> first | omega | (split <;> omega))

def c_impl_Name_compare : C := (.g (.o 0 2 (.box 2 (.t 0)) (.o 1 3 (.box 3 (.t 1)) (.o 2 4 (.mov (.i 0)) .done))) (.seq (.g (.o 0 5 (.mov (.i 1)) .done) (.block 0 (.loop (.seq (.g (.o 0 7 (.mov (.t 5)) (.o 1 8 (.fad (.t 2) 0) (.o 2 9 (.load none (.t 8)) (.o 3 10 (.len (.t 9)) (.o 4 11 (.fad (.t 3) 0) (.o 5 12 (.load none (.t 11)) (.o 6 13 (.len (.t 12)) (.o 7 14 (.mm false (.t 10) (.t 13)) (.o 8 15 (.bin .leq (.t 7) (.t 14)) .done))))))))) (.cond (.t 15) .skip (.exit 0))) (.seq (.block 1 (.seq (.reg true (.op 0 [] (some 18) none true (.fad (.t 2) 0) (.op 1 [] (some 19) none true (.load none (.t 18)) (.op 2 [] (some 20) none true (.fad (.t 2) 0) (.op 3 [] (some 21) none true (.load none (.t 20)) (.op 4 [] (some 22) none true (.len (.t 21)) (.op 5 [] (some 23) none true (.mov (.t 5)) (.op 6 [] (some 24) none true (.bin .sub (.t 22) (.t 23)) (.op 7 [] (some 25) none true (.iad 1 (.t 19) (.t 24)) (.op 8 [] (some 26) none true (.load none (.t 25)) (.op 9 [] (some 27) none true (.fad (.t 3) 0) (.op 10 [] (some 28) none true (.load none (.t 27)) (.op 11 [] (some 29) none true (.fad (.t 3) 0) (.op 12 [] (some 30) none true (.load none (.t 29)) (.op 13 [] (some 31) none true (.len (.t 30)) (.op 14 [] (some 32) none true (.mov (.t 5)) (.op 15 [] (some 33) none true (.bin .sub (.t 31) (.t 32)) (.op 16 [] (some 34) none true (.iad 1 (.t 28) (.t 33)) (.op 17 [] (some 35) none true (.load none (.t 34)) (.op 18 [8, 1, 3, 17, 10, 12] (some 36) none false (.call 36 226 [(.t 26), (.t 35)]) (.op 19 [] (some 6) none true (.mov (.t 36)) .done))))))))))))))))))))) (.g (.o 0 37 (.mov (.t 6)) (.o 1 38 (.bin .neq (.t 37) (.i 0)) .done)) (.cond (.t 38) (.g (.o 0 39 (.mov (.t 6)) (.o 1 4 (.mov (.t 39)) .done)) .ret) .skip)))) (.reg false (.o 0 16 (.mov (.t 5)) (.o 1 17 (.bin .add (.t 16) (.i 1)) (.o 2 5 (.mov (.t 17)) .done))))))))) (.g (.o 0 40 (.fad (.t 2) 0) (.o 1 41 (.load none (.t 40)) (.o 2 42 (.len (.t 41)) (.o 3 43 (.fad (.t 3) 0) (.o 4 44 (.load none (.t 43)) (.o 5 45 (.len (.t 44)) (.o 6 46 (.call 46 225 [(.t 42), (.t 45)]) (.o 7 4 (.mov (.t 46)) .done)))))))) .ret)))
theorem dg_impl_Name_compare : Tryz.f221.body.bind (digC Tryz.prog Tryz.f221.ntmps []) = some c_impl_Name_compare := by kernel_rfl
theorem rs_impl_Name_compare : resSlots Tryz.prog Tryz.f221 = some [.s 4] := by kernel_rfl
theorem ok_impl_Name_compare (a b : List (List UInt8)) (ha : a.length ≤ 4194304) (hb : b.length ≤ 4194304) :
    FnOK Tryz.prog 221 [.agg [.d (encBB a)], .agg [.d (encBB b)]] (fun ra _ => ra = [.one (.d (.sc (.int .i64 (cmpN a b))))]) := by
  refine FnOK.ofK Tryz.func221 (by kernel_rfl) dg_impl_Name_compare rs_impl_Name_compare rfl rfl ?_
  delta c_impl_Name_compare T.o X.i C.g
  refine Kbc (kBox Y Y Y Y Y (kBox Y Y Y Y Y (Ka Y (Kdb (Kbc (Ka Y (Kd (Kt ?_))))))))
  refine kLoop (α := { k : Nat // k ≤ a.length ∧ k ≤ b.length ∧ cmpN a b = cmpL (a.reverse.drop k) (b.reverse.drop k) })
    (fun y => ⟨tabSl [(2, .c (.ptr (rid 2 0) 1 0)), (3, .c (.ptr (rid 3 0) 1 0)), (5, .i (y.1 + 1))], obTab 1 [(rid 2 0, ⟨1, 0, .box [.d (encBB a)]⟩), (rid 3 0, ⟨1, 0, .box [.d (encBB b)]⟩)], []⟩) (fun y => a.length - y.1) ⟨0, by simp [cmpN]⟩
    .normA ?_
  rintro ⟨k, h1, h2, h3⟩
  simp only
  rcases Nat.lt_or_ge k a.length with hla | hga
  · rcases Nat.lt_or_ge k b.length with hlb | hgb
    · have hst := cmpL_step a b k hla hlb (a.length - (k + 1) : Int).toNat (b.length - (k + 1) : Int).toNat (by omega) (by omega)
      refine Kb (Kbc (Ka Y (Kf Y Y (Ke Y Y Y (Kq Y Y (Kf Y Y (Ke Y Y Y (Kq Y Y (kMmMin Y Y (Kj Y Y Y (Kd (Km Y (fun g0 => Kn (Kb (Kt (Kb (kRegD (Kf Y Y (Ke Y Y Y (Kf Y Y (Ke Y Y Y (Kq Y Y (Ka Y (kDif Y Y om (kIadT Y Y om (Ky Y Y (Kf Y Y (Ke Y Y Y (Kf Y Y (Ke Y Y Y (Kq Y Y (Ka Y (kDif Y Y om (kIadT Y Y om (Ky Y Y (Ks Y Y (Kp (ok_bytes_Compare _ _) ⟨Y, Y, trivial⟩ Y Y Y Y Y (Ka Y (Kd (kH (Kbc (Ka Y (Kj Y Y Y (Kd (kCondIN Y (fun g1 => Kbc (Ka Y (Ka Y (Kd (Kr (Er (ra := [.one (.d _)]) rfl ?_)))))) (fun g1 => Kn (Kv (Kc (Ka Y (kAdd Y Y om (Ka Y (Kd ?_)))))))))))))))))))))))))))))))))))))))) (fun g0 => om)))))))))))))
      · rw [h3, hst, if_neg (by assumption)]
      · refine kInv ⟨⟨k + 1, hla, hlb, ?_⟩, by simp only; omega, .normA⟩
        rw [h3, hst, if_pos (by assumption)]
    · rw [cmpL_end a b k h1 h2 (by omega)] at h3
      refine Kb (Kbc (Ka Y (Kf Y Y (Ke Y Y Y (Kq Y Y (Kf Y Y (Ke Y Y Y (Kq Y Y (kMmMin Y Y (Kj Y Y Y (Kd (Km Y (fun g0 => om) (fun g0 => kExit (kExC (kExI (kExB (Kbc (Kf Y Y (Ke Y Y Y (Kq Y Y (Kf Y Y (Ke Y Y Y (Kq Y Y (Kp (ok_cmp_Compare_int _ _) ⟨Y, Y, trivial⟩ Y Y Y Y Y (Ka Y (Kd (Kr (Er (ra := [.one (.d _)]) rfl ?_))))))))))))))))))))))))))))
      all_goals (rw [h3]; refine congrArg (fun z : Int => [RA.one (RV.d (DV.sc (Value.int IntKind.i64 z)))]) ?_; unfold cmpI; split <;> (repeat' split) <;> omega)
  · rw [cmpL_end a b k h1 h2 (by omega)] at h3
    refine Kb (Kbc (Ka Y (Kf Y Y (Ke Y Y Y (Kq Y Y (Kf Y Y (Ke Y Y Y (Kq Y Y (kMmMin Y Y (Kj Y Y Y (Kd (Km Y (fun g0 => om) (fun g0 => kExit (kExC (kExI (kExB (Kbc (Kf Y Y (Ke Y Y Y (Kq Y Y (Kf Y Y (Ke Y Y Y (Kq Y Y (Kp (ok_cmp_Compare_int _ _) ⟨Y, Y, trivial⟩ Y Y Y Y Y (Ka Y (Kd (Kr (Er (ra := [.one (.d _)]) rfl ?_))))))))))))))))))))))))))))
    all_goals (rw [h3]; refine congrArg (fun z : Int => [RA.one (RV.d (DV.sc (Value.int IntKind.i64 z)))]) ?_; unfold cmpI; split <;> (repeat' split) <;> omega)

def c_impl_two : C := (.g (.o 0 2 (.mov (.n 1)) .done) (.g (.o 0 3 (.mov (.t 0)) (.o 1 4 (.bin .shr (.t 3) (.v (.int .u64 8))) (.o 2 5 (.conv .u8 (.t 4)) (.o 3 6 (.mov (.t 0)) (.o 4 7 (.conv .u8 (.t 6)) (.o 5 8 (.lit 8 1 [(.v (.int .u8 0))] 2 [(0, 1, (.t 5)), (1, 1, (.t 7))]) (.o 6 2 (.mov (.t 8)) .done))))))) .ret))
theorem dg_impl_two : Tryz.f212.body.bind (digC Tryz.prog Tryz.f212.ntmps []) = some c_impl_two := by kernel_rfl
theorem rs_impl_two : resSlots Tryz.prog Tryz.f212 = some [.s 2] := by kernel_rfl
theorem ok_impl_two (n : Int) :
    FnOK Tryz.prog 212 [.one (.d (.sc (.int .i64 n)))] (fun ra _ => ra = [.one (.own true (encB (w2 n)))]) := by
  refine FnOK.ofK Tryz.func212 (by kernel_rfl) dg_impl_two rs_impl_two rfl rfl ?_
  delta c_impl_two T.o X.i C.g
  refine Kbc (Ka Y (Kdb (Kc (Ka Y (kShr (m := 8) Y Y Y (kConvU8 Y (Ka Y (kConvU8 Y (kLit Y Y Y Y (Ka Y (Kd (Kr (Er (ra := [.one (.own true _)]) rfl rfl)))))))))))))

def c_impl_four : C := (.g (.o 0 2 (.mov (.n 1)) .done) (.g (.o 0 3 (.mov (.t 0)) (.o 1 4 (.bin .shr (.t 3) (.v (.int .u64 16))) (.o 2 5 (.call 5 212 [(.t 4)]) (.o 3 6 (.mov (.t 0)) (.o 4 7 (.call 7 212 [(.t 6)]) (.o 5 8 (.app 8 1 1 (.t 5) (.t 7)) (.o 6 2 (.mov (.t 8)) .done))))))) .ret))
theorem dg_impl_four : Tryz.f292.body.bind (digC Tryz.prog Tryz.f292.ntmps []) = some c_impl_four := by kernel_rfl
theorem rs_impl_four : resSlots Tryz.prog Tryz.f292 = some [.s 2] := by kernel_rfl
theorem ok_impl_four (n : Int) :
    FnOK Tryz.prog 292 [.one (.d (.sc (.int .i64 n)))] (fun ra _ => ra = [.one (.own true (encB (w4 n)))]) := by
  refine FnOK.ofK Tryz.func292 (by kernel_rfl) dg_impl_four rs_impl_four rfl rfl ?_
  delta c_impl_four T.o X.i C.g
  rw [← w4_two]
  have hl : ∀ m, (w2 m).length = 2 := fun _ => rfl
  have l1 := hl (sr n 16)
  have l2 := hl n
  refine Kbc (Ka Y (Kdb (Kc (Ka Y (kShr (m := 16) Y Y Y (Ku true (ok_impl_two _) ⟨Y, trivial⟩ Y Y Y (fun _ => (Ka Y (Ku true (ok_impl_two _) ⟨Y, trivial⟩ Y Y Y (fun _ => (kAppR Y Y Y Y Y Y Y Y om (Ka Y (Kd (Kr (Er (ra := [.one (.own true _)]) rfl rfl)))))))))))))))

def c_impl_Name_wire : C := (.g (.o 0 1 (.box 1 (.t 0)) (.o 1 2 (.mov (.n 1)) .done)) (.g (.o 0 6 (.lit 6 1 [(.v (.int .u8 0))] 0 []) (.o 1 3 (.mov (.t 6)) .done)) (.seq (.g (.o 0 7 (.fad (.t 1) 0) (.o 1 8 (.load none (.t 7)) (.o 2 9 (.len (.t 8)) (.o 3 10 (.mov (.i 0)) .done)))) (.block 0 (.loop (.g (.o 0 11 (.bin .lss (.t 10) (.t 9)) .done) (.seq (.cond (.t 11) .skip (.exit 0)) (.seq (.block 1 (.g (.o 0 12 (.iad 1 (.t 8) (.t 10)) (.o 1 13 (.load none (.t 12)) (.o 2 5 (.mov (.t 13)) .done))) (.reg false (.o 0 14 (.mov (.t 3)) (.o 1 15 (.mov (.t 5)) (.o 2 16 (.len (.t 15)) (.o 3 17 (.conv .u8 (.t 16)) (.o 4 18 (.lit 18 1 [(.v (.int .u8 0))] 1 [(0, 1, (.t 17))]) (.o 5 19 (.app 19 1 1 (.t 14) (.t 18)) (.o 6 20 (.mov (.t 5)) (.o 7 21 (.app 21 1 1 (.t 19) (.t 20)) (.o 8 3 (.mov (.t 21)) .done)))))))))))) (.reg false (.o 0 22 (.bin .add (.t 10) (.i 1)) (.o 1 10 (.mov (.t 22)) .done))))))))) (.g (.o 0 23 (.mov (.t 3)) (.o 1 24 (.lit 24 1 [(.v (.int .u8 0))] 1 [(0, 1, (.v (.int .u8 0)))]) (.o 2 25 (.app 25 1 1 (.t 23) (.t 24)) (.o 3 2 (.mov (.t 25)) .done)))) .ret))))
theorem dg_impl_Name_wire : Tryz.f214.body.bind (digC Tryz.prog Tryz.f214.ntmps []) = some c_impl_Name_wire := by kernel_rfl
theorem rs_impl_Name_wire : resSlots Tryz.prog Tryz.f214 = some [.s 2] := by kernel_rfl
theorem ok_impl_Name_wire (a : List (List UInt8)) (hs : SmallBB a) :
    FnOK Tryz.prog 214 [.agg [.d (encBB a)]] (fun ra _ => ra = [.one (.own true (encB (wireN a)))]) := by
  refine FnOK.ofK Tryz.func214 (by kernel_rfl) dg_impl_Name_wire rs_impl_Name_wire rfl rfl ?_
  delta c_impl_Name_wire T.o X.i C.g
  have h1 := hs.len
  have h2 := hs.flat
  refine Kbc (kBox Y Y Y Y Y (Ka Y (Kdb (Kc (kLit Y Y Y Y (Ka Y (Kdb (Kbc (Kf Y Y (Ke Y Y Y (Kq Y Y (Ka Y (Kd (Kt ?_))))))))))))))
  refine kLoop (α := { i : Nat // i ≤ a.length }) (fun y => ⟨tabSl [(3, .c (.arr (rid 6 0) 1)), (8, .dv (encBB a)), (9, .i a.length), (10, .i y.1)], obTab 1 [(rid 6 0, ⟨1, 0, .arr true (encB (wireL (a.take y.1)))⟩)], []⟩) (fun y => a.length - y.1) ⟨0, by simp⟩ .normA ?_
  rintro ⟨i, hi⟩
  simp only
  have hl := wireL_le a i
  rcases Nat.lt_or_ge i a.length with hlt | hge
  · have hst := wireL_take a i hlt
    have hm := hs.mem _ (List.getElem_mem hlt)
    have hlen : (wireL (a.take i) ++ [u8 a[i].length]).length = (wireL (a.take i)).length + 1 := by simp
    refine Kbc (Kj Y Y Y (Kdb (Km Y (fun g0 => Kn (Kb (Kt (Kbc (kIadR Y Y Y om (Ky Y Y (Ka Y (Kd (Kc (Ka Y (Ka Y (Kq Y Y (kConvU8 Y (kLit Y Y Y Y (kAppR1 Y Y Y Y Y Y Y Y om (Ka Y (kAppR Y Y Y (src_encB _ _) rfl rfl rfl rfl om (Ka Y (Kd (Kv (Kc (kAdd Y Y om (Ka Y (Kd ?_)))))))))))))))))))))))) (fun g0 => om))))
    refine kInv ⟨⟨i + 1, by omega⟩, by simp only; omega, ?_⟩
    simp only [hst]
    exact .normA
  · have he : wireN a = wireL (a.take i) ++ [0] := by rw [show i = a.length by omega, List.take_length]; rfl
    rw [he]
    refine Kbc (Kj Y Y Y (Kdb (Km Y (fun g0 => om) (fun g0 => kExit (kExC (kExI (kExB (Kbc (Ka Y (kLit Y Y Y Y (kAppR1 (z := (0 : UInt8)) rfl rfl rfl rfl rfl rfl rfl rfl om (Ka Y (Kd (Kr (Er (ra := [.one (.own true _)]) rfl rfl)))))))))))))))

def c_impl_Rr_data : C := (.g (.o 0 1 (.box 1 (.t 0)) (.o 1 2 (.mov (.n 1)) .done)) (.seq (.block 0 (.g (.o 0 7 (.fad (.t 1) 1) (.o 1 8 (.load none (.t 7)) (.o 2 9 (.bin .eql (.t 8) (.i 1)) (.o 3 6 (.mov (.t 9)) .done)))) (.cond (.t 6) (.g (.o 0 10 (.fad (.t 1) 3) (.o 1 11 (.load none (.t 10)) (.o 2 12 (.call 12 292 [(.t 11)]) (.o 3 2 (.mov (.t 12)) .done)))) .ret) (.g (.o 0 14 (.fad (.t 1) 1) (.o 1 15 (.load none (.t 14)) (.o 2 16 (.call 16 239 [(.t 15)]) (.o 3 13 (.mov (.t 16)) .done)))) (.cond (.t 13) (.g (.o 0 17 (.fad (.t 1) 4) (.o 1 18 (.load (some 1) (.t 17)) (.o 2 19 (.call 19 214 [(.t 18)]) (.o 3 3 (.mov (.t 19)) .done)))) (.seq (.g (.o 0 20 (.fad (.t 1) 6) (.o 1 21 (.load none (.t 20)) (.o 2 22 (.len (.t 21)) (.o 3 23 (.mov (.i 0)) .done)))) (.block 1 (.loop (.g (.o 0 24 (.bin .lss (.t 23) (.t 22)) .done) (.seq (.cond (.t 24) .skip (.exit 1)) (.seq (.block 2 (.g (.o 0 25 (.iad 1 (.t 21) (.t 23)) (.o 1 26 (.load none (.t 25)) (.o 2 5 (.mov (.t 26)) .done))) (.reg false (.o 0 27 (.mov (.t 3)) (.o 1 28 (.mov (.t 5)) (.o 2 29 (.call 29 292 [(.t 28)]) (.o 3 30 (.app 30 1 1 (.t 27) (.t 29)) (.o 4 3 (.mov (.t 30)) .done)))))))) (.reg false (.o 0 31 (.bin .add (.t 23) (.i 1)) (.o 1 23 (.mov (.t 31)) .done))))))))) (.g (.o 0 32 (.mov (.t 3)) (.o 1 2 (.mov (.t 32)) .done)) .ret))) .skip))))) (.g (.o 0 33 (.fad (.t 1) 5) (.o 1 34 (.load none (.t 33)) (.o 2 35 (.len (.t 34)) (.o 3 36 (.conv .u8 (.t 35)) (.o 4 37 (.lit 37 1 [(.v (.int .u8 0))] 1 [(0, 1, (.t 36))]) (.o 5 38 (.fad (.t 1) 5) (.o 6 39 (.load none (.t 38)) (.o 7 40 (.app 40 1 1 (.t 37) (.t 39)) (.o 8 2 (.mov (.t 40)) .done))))))))) .ret)))
theorem dg_impl_Rr_data : Tryz.f227.body.bind (digC Tryz.prog Tryz.f227.ntmps []) = some c_impl_Rr_data := by kernel_rfl
theorem rs_impl_Rr_data : resSlots Tryz.prog Tryz.f227 = some [.s 2] := by kernel_rfl
theorem ok_impl_Rr_data (r : Rr) (hs : SmallR r) :
    FnOK Tryz.prog 227 [.agg (r.cells.map .d)] (fun ra _ => ra = [.one (.own true (encB (rdata r)))]) := by
  refine FnOK.ofK Tryz.func227 (by kernel_rfl) dg_impl_Rr_data rs_impl_Rr_data rfl rfl ?_
  delta c_impl_Rr_data T.o X.i C.g
  have ht := hs.t
  have t1 := hs.t.len
  have t2 := hs.t.flat
  have x1 := hs.x
  have m1 := hs.m
  by_cases h1 : r.ty = 1
  · rw [rdata_A h1]
    refine Kbc (kBox Y Y Y Y Y (Ka Y (Kdb (Kt (Kbc (Kf Y Y (Ke Y Y Y (Kj Y Y Y (Ka Y (Kd (Km Y (fun g0 => Kbc (Kf Y Y (Ke Y Y Y (Ku true (ok_impl_four _) ⟨Y, trivial⟩ Y Y Y (fun _ => (Ka Y (Kd (Kr (Er (ra := [.one (.own true _)]) rfl rfl))))))))) (fun g0 => om))))))))))))
  cases h2 : hasTo r.ty
  · rw [rdata_text h1 h2]
    refine Kbc (kBox Y Y Y Y Y (Ka Y (Kdb (Kt (Kbc (Kf Y Y (Ke Y Y Y (Kj Y Y Y (Ka Y (Kd (Km Y (fun g0 => om) (fun g0 => Kbc (Kf Y Y (Ke Y Y Y (Kp (ok_impl_hasTo _) ⟨Y, trivial⟩ Y Y Y Y Y (Ka Y (Kd (kCond Y (fun g1 => (by (simp [*] at g1))) (fun g1 => Kn (Kv (Kbc (Kf Y Y (Ke Y Y Y (Kq Y Y (kConvU8 Y (kLit Y Y Y Y (Kf Y Y (Ke Y Y Y (kApp1R Y Y (src_encB _ _) rfl rfl rfl rfl rfl om (Ka Y (Kd (Kr (Er (ra := [.one (.own true _)]) rfl rfl)))))))))))))))))))))))))))))))))
  · rw [rdata_to h1 h2]
    refine Kbc (kBox Y Y Y Y Y (Ka Y (Kdb (Kt (Kbc (Kf Y Y (Ke Y Y Y (Kj Y Y Y (Ka Y (Kd (Km Y (fun g0 => om) (fun g0 => Kbc (Kf Y Y (Ke Y Y Y (Kp (ok_impl_hasTo _) ⟨Y, trivial⟩ Y Y Y Y Y (Ka Y (Kd (kCond Y (fun g1 => Kbc (Kf Y Y (Ke Y Y Y (Ku true (ok_impl_Name_wire _ pr) ⟨⟨⟨Y, trivial⟩, leb⟩, trivial⟩ Y Y Y (fun _ => (Ka Y (Kdb (Kbc (Kf Y Y (Ke Y Y Y (Kq Y Y (Ka Y (Kd (Kt ?_)))))))))))))) (fun g1 => (by (simp [*] at g1)))))))))))))))))))))
    refine kLoop (α := { i : Nat // i ≤ r.nums.length }) (fun y => ⟨tabSl [(3, .c (.arr (rid 19 0) 1)), (21, .dv (encI r.nums)), (22, .i r.nums.length), (23, .i y.1)], obTab 1 [(rid 19 0, ⟨1, 0, .arr true (encB (wireN r.to ++ (r.nums.take y.1).flatMap w4))⟩)], []⟩) (fun y => r.nums.length - y.1) ⟨0, by simp⟩ (by simp only [List.take_zero, List.flatMap_nil, List.append_nil]; exact .normA) ?_
    rintro ⟨i, hi⟩
    simp only
    have hl : (wireN r.to ++ (r.nums.take i).flatMap w4).length ≤ 33554432 := by
      rw [List.length_append, wireN_len, w4s_len, List.length_take]; omega
    have hl4 : ∀ n, (w4 n).length = 4 := w4_len
    rcases Nat.lt_or_ge i r.nums.length with hlt | hge
    · have hst : wireN r.to ++ (r.nums.take (i + 1)).flatMap w4 = wireN r.to ++ (r.nums.take i).flatMap w4 ++ w4 r.nums[i] := by rw [flatMap_take _ _ _ hlt, List.append_assoc]
      have h4 := hl4 r.nums[i]
      refine Kbc (Kj Y Y Y (Kdb (Km Y (fun g0 => Kn (Kb (Kt (Kbc (kIadR Y Y Y om (Ky Y Y (Ka Y (Kd (Kc (Ka Y (Ka Y (Ku true (ok_impl_four _) ⟨Y, trivial⟩ Y Y Y (fun _ => (kAppR Y Y Y Y Y Y Y Y om (Ka Y (Kd (Kv (Kc (kAdd Y Y om (Ka Y (Kd ?_))))))))))))))))))))) (fun g0 => om))))
      refine kInv ⟨⟨i + 1, by omega⟩, by simp only; omega, ?_⟩
      simp only [hst]
      exact .normA
    · rw [show i = r.nums.length by omega, List.take_length]
      refine Kbc (Kj Y Y Y (Kdb (Km Y (fun g0 => om) (fun g0 => kExit (kExC (kExI (kExB (Kbc (Ka Y (Ka Y (Kd (Kr (Er (ra := [.one (.own true _)]) rfl rfl)))))))))))))

def c_cmp_Or_int : C := (.g (.o 0 2 (.mov (.i 0)) .done) (.g (.o 0 3 (.mov (.i 0)) .done) (.seq (.g (.o 0 6 (.mov (.t 0)) (.o 1 7 (.len (.t 6)) (.o 2 8 (.mov (.i 0)) .done))) (.block 0 (.loop (.g (.o 0 9 (.bin .lss (.t 8) (.t 7)) .done) (.seq (.cond (.t 9) .skip (.exit 0)) (.seq (.block 1 (.g (.o 0 10 (.iad 1 (.t 6) (.t 8)) (.o 1 11 (.load none (.t 10)) (.o 2 5 (.mov (.t 11)) .done))) (.g (.o 0 12 (.mov (.t 5)) (.o 1 13 (.mov (.t 3)) (.o 2 14 (.bin .neq (.t 12) (.t 13)) .done))) (.cond (.t 14) (.g (.o 0 15 (.mov (.t 5)) (.o 1 2 (.mov (.t 15)) .done)) .ret) .skip)))) (.reg false (.o 0 16 (.bin .add (.t 8) (.i 1)) (.o 1 8 (.mov (.t 16)) .done))))))))) (.g (.o 0 17 (.mov (.t 3)) (.o 1 2 (.mov (.t 17)) .done)) .ret))))
theorem dg_cmp_Or_int : Tryz.f224.body.bind (digC Tryz.prog Tryz.f224.ntmps []) = some c_cmp_Or_int := by kernel_rfl
theorem rs_cmp_Or_int : resSlots Tryz.prog Tryz.f224 = some [.s 2] := by kernel_rfl
theorem ok_cmp_Or_int (l : List Int) (h : l.length ≤ 4194304) :
    FnOK Tryz.prog 224 [.one (.d (encI l))] (fun ra _ => ra = [.one (.d (.sc (.int .i64 (orL l))))]) := by
  refine FnOK.ofK Tryz.func224 (by kernel_rfl) dg_cmp_Or_int rs_cmp_Or_int rfl rfl ?_
  delta c_cmp_Or_int T.o X.i C.g
  refine Kbc (Ka Y (Kdb (Kc (Ka Y (Kdb (Kbc (Ka Y (Kq Y Y (Ka Y (Kd (Kt ?_)))))))))))
  refine kLoop (α := { i : Nat // i ≤ l.length ∧ orL l = orL (l.drop i) }) (fun y => ⟨tabSl [(3, .i 0), (6, .dv (encI l)), (7, .i l.length), (8, .i y.1)], obTab 1 [], []⟩) (fun y => l.length - y.1) ⟨0, by simp⟩ .normA ?_
  rintro ⟨i, hi, hr⟩
  simp only
  rcases Nat.lt_or_ge i l.length with hlt | hge
  · have hst := orL_drop l i hlt
    refine Kbc (Kj Y Y Y (Kdb (Km Y (fun g0 => Kn (Kb (Kt (Kbc (kIadR Y Y Y om (Ky Y Y (Ka Y (Kdb (Kc (Ka Y (Ka Y (Kj Y Y Y (Kd (kCondIN Y (fun g1 => Kbc (Ka Y (Ka Y (Kd (Kr (Er (ra := [.one (.d _)]) rfl ?_)))))) (fun g1 => Kn (Kv (Kc (kAdd Y Y om (Ka Y (Kd ?_)))))))))))))))))))) (fun g0 => om))))
    · rw [hr, hst, if_neg (by assumption)]
    · exact kInv ⟨⟨i + 1, by omega, by rw [hr, hst, if_pos (by assumption)]⟩, by simp only; omega, .normA⟩
  · have hst : orL l = 0 := by rw [hr, List.drop_eq_nil_of_le hge]; rfl
    rw [hst]
    refine Kbc (Kj Y Y Y (Kdb (Km Y (fun g0 => om) (fun g0 => kExit (kExC (kExI (kExB (Kbc (Ka Y (Ka Y (Kd (Kr (Er (ra := [.one (.d _)]) rfl rfl)))))))))))))

theorem ok_cmp_Or_int3 (a b c : Int) :
    FnOK Tryz.prog 224 [.one (.d (.sl 1 [[.sc (.int .i64 a)], [.sc (.int .i64 b)], [.sc (.int .i64 c)]]))] (fun ra _ => ra = [.one (.d (.sc (.int .i64 (orL [a, b, c]))))]) := ok_cmp_Or_int [a, b, c] (by simp)
theorem ok_cmp_Or_int2 (a b : Int) :
    FnOK Tryz.prog 224 [.one (.d (.sl 1 [[.sc (.int .i64 a)], [.sc (.int .i64 b)]]))] (fun ra _ => ra = [.one (.d (.sc (.int .i64 (orL [a, b]))))]) := ok_cmp_Or_int [a, b] (by simp)

def c_impl_Rr_compare : C := (.g (.o 0 2 (.box 2 (.t 0)) (.o 1 3 (.box 3 (.t 1)) (.o 2 4 (.mov (.i 0)) .done))) (.seq (.reg true (.op 0 [] (some 5) none true (.fad (.t 2) 0) (.op 1 [] (some 6) none true (.load (some 1) (.t 5)) (.op 2 [] (some 7) none true (.fad (.t 3) 0) (.op 3 [] (some 8) none true (.load (some 1) (.t 7)) (.op 5 [] (some 10) none true (.fad (.t 2) 1) (.op 6 [] (some 11) none true (.load none (.t 10)) (.op 7 [] (some 12) none true (.fad (.t 3) 1) (.op 8 [] (some 13) none true (.load none (.t 12)) (.op 10 [] (some 15) none true (.load (some 7) (.t 2)) (.op 12 [] (some 17) none true (.load (some 7) (.t 3)) (.op 4 [1, 3] (some 9) none false (.call 9 221 [(.t 6), (.t 8)]) (.op 9 [6, 8, 1, 3] (some 14) none false (.call 14 225 [(.t 11), (.t 13)]) (.op 11 [10, 6, 8, 1, 3] (some 16) none false (.call 16 227 [(.t 15)]) (.op 13 [12, 10, 6, 8, 1, 3] (some 18) none false (.call 18 227 [(.t 17)]) (.op 14 [10, 6, 8, 1, 3, 12] (some 19) none false (.call 19 226 [(.t 16), (.t 18)]) (.op 15 [1, 3, 6, 8, 10, 12] (some 20) none false (.lit 20 1 [(.i 0)] 3 [(0, 1, (.t 9)), (1, 1, (.t 14)), (2, 1, (.t 19))]) (.op 16 [1, 3, 6, 8, 10, 12] (some 21) none false (.call 21 224 [(.t 20)]) (.op 17 [] (some 4) none true (.mov (.t 21)) .done))))))))))))))))))) .ret))
theorem dg_impl_Rr_compare : Tryz.f133.body.bind (digC Tryz.prog Tryz.f133.ntmps []) = some c_impl_Rr_compare := by kernel_rfl
theorem rs_impl_Rr_compare : resSlots Tryz.prog Tryz.f133 = some [.s 4] := by kernel_rfl
theorem ok_impl_Rr_compare (a b : Rr) (ha : SmallR a) (hb : SmallR b) :
    FnOK Tryz.prog 133 [.agg (a.cells.map .d), .agg (b.cells.map .d)] (fun ra _ => ra = [.one (.d (.sc (.int .i64 (cmpR a b))))]) := by
  refine FnOK.ofK Tryz.func133 (by kernel_rfl) dg_impl_Rr_compare rs_impl_Rr_compare rfl rfl ?_
  delta c_impl_Rr_compare T.o X.i C.g
  have n1 := ha.n.len
  have n2 := hb.n.len
  have r1 := rdata_le ha
  have r2 := rdata_le hb
  rw [cmpR_or]
  refine Kbc (kBox Y Y Y Y Y (kBox Y Y Y Y Y (Ka Y (Kdb (kRegD (Kf Y Y (Ke Y Y Y (Kf Y Y (Ke Y Y Y (Kf Y Y (Ke Y Y Y (Kf Y Y (Ke Y Y Y (Ke Y Y Y (Ke Y Y Y (Kx Y Y (Kp (ok_impl_Name_compare _ _ pr pr) ⟨⟨⟨Y, trivial⟩, leb⟩, ⟨⟨Y, trivial⟩, leb⟩, trivial⟩ Y Y Y Y Y (Kx Y Y (Kp (ok_cmp_Compare_int _ _) ⟨Y, Y, trivial⟩ Y Y Y Y Y (Kx Y Y (Ku true (ok_impl_Rr_data _ pr) ⟨⟨⟨Y, Y, Y, Y, Y, Y, Y, trivial⟩, leb⟩, trivial⟩ Y Y Y (fun _ => (Ks Y Y (Ku true (ok_impl_Rr_data _ pr) ⟨⟨⟨Y, Y, Y, Y, Y, Y, Y, trivial⟩, leb⟩, trivial⟩ Y Y Y (fun _ => (Ks Y Y (Kp (ok_bytes_Compare _ _) ⟨Y, Y, trivial⟩ Y Y Y Y Y (Ks Y Y (kLit Y Y Y Y (Ks Y Y (Kp (ok_cmp_Or_int3 _ _ _) ⟨Y, trivial⟩ Y Y Y Y Y (Ka Y (Kd (kH (Kr (Er (ra := [.one (.d _)]) rfl rfl))))))))))))))))))))))))))))))))))))


def c_slices_EqualFunc_LLbyte_LLbyte_Lbyte_Lbyte : C := (.g (.o 0 6 (.mov (.v (.bool false))) .done) (.seq (.g (.o 0 10 (.mov (.t 0)) (.o 1 11 (.len (.t 10)) (.o 2 12 (.mov (.t 1)) (.o 3 13 (.len (.t 12)) (.o 4 14 (.bin .neq (.t 11) (.t 13)) .done))))) (.cond (.t 14) (.g (.o 0 6 (.mov (.v (.bool false))) .done) .ret) .skip)) (.seq (.g (.o 0 15 (.mov (.t 0)) (.o 1 16 (.len (.t 15)) (.o 2 17 (.mov (.i 0)) .done))) (.block 0 (.loop (.g (.o 0 18 (.bin .lss (.t 17) (.t 16)) .done) (.seq (.cond (.t 18) .skip (.exit 0)) (.seq (.block 1 (.g (.o 0 19 (.mov (.t 17)) (.o 1 20 (.iad 1 (.t 15) (.t 17)) (.o 2 21 (.load none (.t 20)) (.o 3 7 (.mov (.t 19)) (.o 4 8 (.mov (.t 21)) .done))))) (.g (.o 0 22 (.mov (.t 1)) (.o 1 23 (.mov (.t 7)) (.o 2 24 (.iad 1 (.t 22) (.t 23)) (.o 3 25 (.load none (.t 24)) (.o 4 9 (.mov (.t 25)) .done))))) (.g (.o 0 26 (.mov (.t 2)) (.o 1 27 (.mov (.t 8)) (.o 2 28 (.mov (.t 9)) (.o 3 29 (.callv 29 (.t 26) [(.t 27), (.t 28)]) (.o 4 30 (.un .not (.t 29)) .done))))) (.cond (.t 30) (.g (.o 0 6 (.mov (.v (.bool false))) .done) .ret) .skip))))) (.reg false (.o 0 31 (.bin .add (.t 17) (.i 1)) (.o 1 17 (.mov (.t 31)) .done))))))))) (.g (.o 0 6 (.mov (.v (.bool true))) .done) .ret))))
theorem dg_slices_EqualFunc_LLbyte_LLbyte_Lbyte_Lbyte : Tryz.f210.body.bind (digC Tryz.prog Tryz.f210.ntmps []) = some c_slices_EqualFunc_LLbyte_LLbyte_Lbyte_Lbyte := by kernel_rfl
theorem rs_slices_EqualFunc_LLbyte_LLbyte_Lbyte_Lbyte : resSlots Tryz.prog Tryz.f210 = some [.s 6] := by kernel_rfl
def fcEq : FC := fun l R => ∃ x y : List UInt8, l = [DA.one (encB x), DA.one (encB y)] ∧ R = fun ra => ra = [.one (.d (.sc (.bool (x == y))))]
theorem ok_slices_EqualFunc_LLbyte_LLbyte_Lbyte_Lbyte (a b : List (List UInt8)) (ha : a.length ≤ 4194304) (hb : b.length ≤ 4194304) :
    FnOK Tryz.prog 210 [.one (.d (encBB a)), .one (.d (encBB b)), .one (.fv false fcEq)] (fun ra _ => ra = [.one (.d (.sc (.bool (decide (a = b)))))]) := by
  refine FnOK.ofK Tryz.func210 (by kernel_rfl) dg_slices_EqualFunc_LLbyte_LLbyte_Lbyte_Lbyte rs_slices_EqualFunc_LLbyte_LLbyte_Lbyte_Lbyte rfl rfl ?_
  delta c_slices_EqualFunc_LLbyte_LLbyte_Lbyte_Lbyte T.o X.i C.g
  refine Kbc (Ka Y (Kdb (Kbc (Ka Y (Kq Y Y (Ka Y (Kq Y Y (Kj Y Y Y (Kd (kCondIN Y (fun g0 => Kbc (Ka Y (Kd (Kr (Er (ra := [.one (.d _)]) rfl ?_))))) (fun g0 => Kn (Kb (Kbc (Ka Y (Kq Y Y (Ka Y (Kd (Kt ?_))))))))))))))))))
  · rw [decide_eq_false (by rintro rfl; simp_all)]
  have hab : a.length = b.length := by omega
  refine kLoop (α := { i : Nat // i ≤ a.length ∧ a.take i = b.take i })
    (fun y => ⟨tabSl [(1, .dv (encBB b)), (2, .c (.fv false fcEq)), (15, .dv (encBB a)), (16, .i a.length), (17, .i y.1)], obTab 1 [], []⟩) (fun y => a.length - y.1) ⟨0, by simp⟩
    .normA ?_
  rintro ⟨i, hi, he⟩
  simp only
  rcases Nat.lt_or_ge i a.length with hlt | hge
  · refine Kbc (Kj Y Y Y (Kdb (Km Y (fun g0 => Kn (Kb (Kt (Kbc (Ka Y (kIadR Y Y Y om (Ky Y Y (Ka Y (Ka Y (Kdb (Kc (Ka Y (Ka Y (kIadR Y Y Y om (Ky Y Y (Ka Y (Kdb (Kc (Ka Y (Ka Y (Ka Y ?_))))))))))))))))))))) (fun g0 => om))))
    refine kCallv Y ⟨a[i], b[i], rfl, rfl⟩ ⟨Y, Y, trivial⟩ (.inr ?_) rfl ?_ rfl ?_
    · rintro _ rfl; rfl
    · rintro _ rfl; exact leb
    rintro _ rfl
    refine Kw Y Y (Kd (kCondN Y (fun g0 => Kbc (Ka Y (Kd (Kr (Er (ra := [.one (.d _)]) rfl ?_))))) (fun g0 => Kn (Kv (Kc (kAdd Y Y om (Ka Y (Kd ?_))))))))
    · rw [decide_eq_false]
      rintro rfl
      simp_all
    · refine kInv ⟨⟨i + 1, by omega, ?_⟩, by simp only; omega, .normA⟩
      rw [← List.take_append_getElem (by omega), ← List.take_append_getElem (by omega), he]
      simp_all
  · refine Kbc (Kj Y Y Y (Kdb (Km Y (fun g0 => om) (fun g0 => kExit (kExC (kExI (kExB (Kbc (Ka Y (Kd (Kr (Er (ra := [.one (.d _)]) rfl ?_))))))))))))
    rw [show i = a.length by omega, List.take_length, hab, List.take_length] at he
    rw [he, decide_eq_true rfl]

def c_bytes_Equal : C := (.g (.o 0 4 (.mov (.v (.bool false))) .done) (.g (.o 0 5 (.mov (.t 0)) (.o 1 6 (.b2s (.t 5)) (.o 2 7 (.mov (.t 1)) (.o 3 8 (.b2s (.t 7)) (.o 4 9 (.bin .eql (.t 6) (.t 8)) (.o 5 4 (.mov (.t 9)) .done)))))) .ret))
theorem dg_bytes_Equal : Tryz.f163.body.bind (digC Tryz.prog Tryz.f163.ntmps []) = some c_bytes_Equal := by kernel_rfl
theorem rs_bytes_Equal : resSlots Tryz.prog Tryz.f163 = some [.s 4] := by kernel_rfl
theorem ok_bytes_Equal (a b : List UInt8) :
    FnOK Tryz.prog 163 [.one (.d (encB a)), .one (.d (encB b))] (fun ra _ => ra = [.one (.d (.sc (.bool (a == b))))]) := by
  refine FnOK.ofK Tryz.func163 (by kernel_rfl) dg_bytes_Equal rs_bytes_Equal rfl rfl ?_
  delta c_bytes_Equal T.o X.i C.g
  refine Kbc (Ka Y (Kdb (Kc (Ka Y (kB2s Y Y (Ka Y (kB2s Y Y (Kj Y Y Y (Ka Y (Kd (Kr (Er (ra := [.one (.d _)]) rfl ?_))))))))))))
  simp only [bt_list]

def c_impl_Name_under : C := (.g (.o 0 2 (.box 2 (.t 0)) (.o 1 3 (.box 3 (.t 1)) (.o 2 4 (.mov (.v (.bool false))) .done))) (.g (.o 0 6 (.fad (.t 2) 0) (.o 1 7 (.load none (.t 6)) (.o 2 8 (.len (.t 7)) (.o 3 9 (.fad (.t 3) 0) (.o 4 10 (.load none (.t 9)) (.o 5 11 (.len (.t 10)) (.o 6 12 (.bin .sub (.t 8) (.t 11)) (.o 7 5 (.mov (.t 12)) .done)))))))) (.seq (.reg true (.op 0 [] (some 13) none true (.mov (.t 5)) (.op 1 [] (some 14) none true (.bin .geq (.t 13) (.i 0)) (.op 2 [] (some 15) none true (.mov (.t 14)) (.op 3 [] (some 16) (some (15, true)) true (.fad (.t 2) 0) (.op 4 [] (some 17) (some (15, true)) true (.load none (.t 16)) (.op 5 [] (some 18) (some (15, true)) true (.mov (.t 5)) (.op 6 [] (some 19) (some (15, true)) true (.mm true (.t 18) (.i 0)) (.op 7 [] (some 20) (some (15, true)) true (.cut 1 (.t 17) (some (.t 19)) none) (.op 8 [] (some 21) (some (15, true)) true (.fad (.t 3) 0) (.op 9 [] (some 22) (some (15, true)) true (.load none (.t 21)) (.op 10 [4, 9] (some 23) (some (15, true)) false (.call 23 210 [(.t 20), (.t 22), (.fn 163)]) (.op 11 [] (some 24) none true (.pick (.t 15) (.t 23) (.v (.bool false))) (.op 12 [] (some 4) none true (.mov (.t 24)) .done)))))))))))))) .ret)))
theorem dg_impl_Name_under : Tryz.f123.body.bind (digC Tryz.prog Tryz.f123.ntmps []) = some c_impl_Name_under := by kernel_rfl
theorem rs_impl_Name_under : resSlots Tryz.prog Tryz.f123 = some [.s 4] := by kernel_rfl
theorem ok_impl_Name_under (n z : List (List UInt8)) (hn : n.length ≤ 4194304) (hz : z.length ≤ 4194304) :
    FnOK Tryz.prog 123 [.agg [.d (encBB n)], .agg [.d (encBB z)]] (fun ra _ => ra = [.one (.d (.sc (.bool (underN n z))))]) := by
  refine FnOK.ofK Tryz.func123 (by kernel_rfl) dg_impl_Name_under rs_impl_Name_under rfl rfl ?_
  delta c_impl_Name_under T.o X.i C.g
  have hd : ∀ m, (n.drop m).length ≤ 4194304 := fun m => by simp; omega
  refine Kbc (kBox Y Y Y Y Y (kBox Y Y Y Y Y (Ka Y (Kdb (Kc (Kf Y Y (Ke Y Y Y (Kq Y Y (Kf Y Y (Ke Y Y Y (Kq Y Y (kDif Y Y om (Ka Y (Kdb (kRegD (Ka Y (Kj Y Y Y (Ka Y (kGP Y (fun g0 => Ki Y (Kf Y Y (Ki Y (Ke Y Y Y (Ki Y (Ka Y (Ki Y (kMm Y Y (Ki Y (kCutLT Y Y om (Ki Y (Kf Y Y (Ki Y (Ke Y Y Y (Ks Y Y (Ki Y ?_)))))))))))))))) (fun g0 => Kg Y (Kg Y (Kg Y (Kg Y (Kg Y (Kg Y (Kg Y (Ks Y Y (Kg Y (Kl Y (Ka Y (Ka Y (Kd (kH (Kr (Er (ra := [.one (.d _)]) rfl ?_)))))))))))))))))))))))))))))))))))
  · refine Kp (ok_slices_EqualFunc_LLbyte_LLbyte_Lbyte_Lbyte _ z (hd _) hz) ⟨rfl, rfl, ⟨rfl, rfl, ⟨_, Tryz.func163, rfl, by kernel_rfl⟩, ?_⟩, trivial⟩ Y Y Y Y Y ?_
    · rintro _ R ⟨x, y, rfl, rfl⟩
      exact ok_bytes_Equal x y
    refine Kk Y (Ka Y (Ka Y (Kd (kH (Kr (Er (ra := [.one (.d _)]) rfl ?_))))))
    simp only [if_true, underN]
    rw [if_neg (by omega), show (n.length - z.length : Int).toNat = n.length - z.length by omega, decide_eq_true (show z.length ≤ n.length by omega), Bool.true_and]
  · rw [show underN n z = false by simp only [underN]; rw [decide_eq_false (by omega)]; rfl]

def c_impl_Name_is : C := (.g (.o 0 2 (.box 2 (.t 0)) (.o 1 3 (.box 3 (.t 1)) (.o 2 4 (.mov (.v (.bool false))) .done))) (.g (.o 0 5 (.load (some 1) (.t 2)) (.o 1 6 (.load (some 1) (.t 3)) (.o 2 7 (.call 7 221 [(.t 5), (.t 6)]) (.o 3 8 (.bin .eql (.t 7) (.i 0)) (.o 4 4 (.mov (.t 8)) .done))))) .ret))
theorem dg_impl_Name_is : Tryz.f131.body.bind (digC Tryz.prog Tryz.f131.ntmps []) = some c_impl_Name_is := by kernel_rfl
theorem rs_impl_Name_is : resSlots Tryz.prog Tryz.f131 = some [.s 4] := by kernel_rfl
theorem ok_impl_Name_is (a b : List (List UInt8)) (ha : a.length ≤ 4194304) (hb : b.length ≤ 4194304) :
    FnOK Tryz.prog 131 [.agg [.d (encBB a)], .agg [.d (encBB b)]] (fun ra _ => ra = [.one (.d (.sc (.bool (decide (a = b)))))]) := by
  refine FnOK.ofK Tryz.func131 (by kernel_rfl) dg_impl_Name_is rs_impl_Name_is rfl rfl ?_
  delta c_impl_Name_is T.o X.i C.g
  rw [← cmpN_zero]
  refine Kbc (kBox Y Y Y Y Y (kBox Y Y Y Y Y (Ka Y (Kdb (Kc (Ke Y Y Y (Ke Y Y Y (Kp (ok_impl_Name_compare _ _ pr pr) ⟨⟨⟨Y, trivial⟩, leb⟩, ⟨⟨Y, trivial⟩, leb⟩, trivial⟩ Y Y Y Y Y (Kj Y Y Y (Ka Y (Kd (Kr (Er (ra := [.one (.d _)]) rfl rfl)))))))))))))

def c_impl_Zone_set : C := (.g (.o 0 3 (.box 3 (.t 0)) (.o 1 4 (.box 4 (.t 1)) (.o 2 6 (.mov (.n 7)) .done))) (.g (.o 0 10 (.lit 10 7 [(.n 1), (.i 0), (.i 0), (.i 0), (.n 1), (.n 1), (.n 1)] 0 []) (.o 1 7 (.mov (.t 10)) .done)) (.seq (.g (.o 0 11 (.fad (.t 3) 1) (.o 1 12 (.load none (.t 11)) (.o 2 13 (.len (.t 12)) (.o 3 14 (.mov (.i 0)) .done)))) (.block 0 (.loop (.g (.o 0 15 (.bin .lss (.t 14) (.t 13)) .done) (.seq (.cond (.t 15) .skip (.exit 0)) (.seq (.block 1 (.g (.o 0 16 (.iad 7 (.t 12) (.t 14)) (.o 1 17 (.load (some 7) (.t 16)) (.o 2 9 (.alloc 9 [(.n 1), (.i 0), (.i 0), (.i 0), (.n 1), (.n 1), (.n 1)]) (.op 3 [] none none false (.store (some 7) (.t 9) (.t 17)) .done)))) (.g (.o 0 18 (.fad (.t 9) 0) (.o 1 19 (.load (some 1) (.t 18)) (.o 2 20 (.load (some 1) (.t 4)) (.o 3 21 (.call 21 131 [(.t 19), (.t 20)]) (.o 4 22 (.mov (.t 21)) (.op 5 [] (some 23) (some (22, true)) false (.mov (.t 2)) (.op 6 [] (some 24) (some (22, true)) false (.bin .eql (.t 23) (.i 255)) (.op 7 [] (some 25) (some (22, true)) false (.mov (.t 24)) (.op 8 [] (some 26) (some (25, false)) false (.fad (.t 9) 1) (.op 9 [] (some 27) (some (25, false)) false (.load none (.t 26)) (.op 10 [] (some 28) (some (25, false)) false (.mov (.t 2)) (.op 11 [] (some 29) (some (25, false)) false (.bin .eql (.t 27) (.t 28)) (.op 12 [] (some 30) (some (22, true)) false (.pick (.t 25) (.v (.bool true)) (.t 29)) (.o 13 31 (.pick (.t 22) (.t 30) (.v (.bool false))) .done)))))))))))))) (.cond (.t 31) (.reg false (.o 0 32 (.mov (.t 7)) (.o 1 33 (.load (some 7) (.t 9)) (.o 2 34 (.lit 34 7 [(.n 1), (.i 0), (.i 0), (.i 0), (.n 1), (.n 1), (.n 1)] 1 [(0, 7, (.t 33))]) (.o 3 35 (.app 35 7 120 (.t 32) (.t 34)) (.o 4 7 (.mov (.t 35)) .done)))))) .skip)))) (.reg false (.o 0 36 (.bin .add (.t 14) (.i 1)) (.o 1 14 (.mov (.t 36)) .done))))))))) (.g (.o 0 37 (.mov (.t 7)) (.o 1 6 (.mov (.t 37)) .done)) .ret))))
theorem dg_impl_Zone_set : Tryz.f82.body.bind (digC Tryz.prog Tryz.f82.ntmps []) = some c_impl_Zone_set := by kernel_rfl
theorem rs_impl_Zone_set : resSlots Tryz.prog Tryz.f82 = some [.s 6] := by kernel_rfl
theorem ok_impl_Zone_set (z : Zone) (n : List (List UInt8)) (t : Int) (hs : SmallZ z) (hn : n.length ≤ 4194304) :
    FnOK Tryz.prog 82 [.agg (z.cells.map .d), .agg [.d (encBB n)], .one (.d (.sc (.int .i64 t)))] (fun ra _ => ra = [.one (.d (encR (setOf z.rrs n t)))]) := by
  refine FnOK.ofK Tryz.func82 (by kernel_rfl) dg_impl_Zone_set rs_impl_Zone_set rfl rfl ?_
  delta c_impl_Zone_set T.o X.i C.g
  have h1 := hs.r.len
  refine Kbc (kBox Y Y Y Y Y (kBox Y Y Y Y Y (Ka Y (Kdb (Kc (kLit Y Y Y Y (Ka Y (Kdb (Kbc (Kf Y Y (Ke Y Y Y (Kq Y Y (Ka Y (Kd (Kt ?_)))))))))))))))
  refine kLoop (α := { i : Nat // i ≤ z.rrs.length }) (fun y => ⟨tabSl [(2, .i t), (4, .c (.ptr (rid 4 0) 1 0)), (7, .c (.arr (rid 10 0) 1)), (12, .dv (encR z.rrs)), (13, .i z.rrs.length), (14, .i y.1)], obTab 1 [(rid 4 0, ⟨1, 0, .box [.d (encBB n)]⟩), (rid 10 0, ⟨1, 0, .arr false (encR (setOf (z.rrs.take y.1) n t))⟩)], []⟩) (fun y => z.rrs.length - y.1) ⟨0, by simp⟩ .normA ?_
  rintro ⟨i, hi⟩
  simp only
  have hlen : (z.rrs.take i).length = i := by simp; omega
  have hle : (setOf (z.rrs.take i) n t).length ≤ z.rrs.length := filter_len _ z.rrs i
  rcases Nat.lt_or_ge i z.rrs.length with hlt | hge
  · have hbi := hs.r.mem _ (List.getElem_mem hlt)
    have n1 := hbi.n.len
    have no : ∀ h : (decide (z.rrs[i].name = n) && (t == 255 || z.rrs[i].ty == t)) = false, setOf (z.rrs.take (i + 1)) n t = setOf (z.rrs.take i) n t := fun h => filter_no hlt h
    have yes : ∀ h : (decide (z.rrs[i].name = n) && (t == 255 || z.rrs[i].ty == t)) = true, setOf (z.rrs.take (i + 1)) n t = setOf (z.rrs.take i) n t ++ [z.rrs[i]] := fun h => filter_yes hlt h
    by_cases p1 : z.rrs[i].name = n
    · by_cases p2 : t = 255
      · have hst := yes (by simp [p1, p2])
        refine Kbc (Kj Y Y Y (Kdb (Km Y (fun g0 => Kn (Kb (Kt (Kbc (kIadR Y Y Y om (Ky Y Y (kAlloc Y Y (Ko Y Y Y Y (Kdb (Kc (Kf Y Y (Ke Y Y Y (Ke Y Y Y (Kp (ok_impl_Name_is _ _ pr pr) ⟨⟨⟨Y, trivial⟩, leb⟩, ⟨⟨Y, trivial⟩, leb⟩, trivial⟩ Y Y Y Y Y (Ka Y (kGP Y (fun g1 => Ki Y (Ka Y (Ki Y (Kj Y Y Y (Ki Y (Ka Y (kGP Y (fun g2 => Kg Y (Kg Y (Kg Y (Kg Y (Ki Y (Kk Y (Ka Y (Kk Y (Ka Y (Kd (kCondT Y (Kc (Ka Y (Ke Y Y Y (kLit Y Y Y Y (kAppRec Y Y Y Y Y Y Y om (Ka Y (Kd (Kv (Kc (kAdd Y Y om (Ka Y (Kd ?_))))))))))))))))))))))) (fun g2 => om)))))))) (fun g1 => (by (simp [*] at g1))))))))))))))))))) (fun g0 => om))))
        refine kInv ⟨⟨i + 1, by omega⟩, by simp only; omega, ?_⟩
        simp only [hst]
        exact .normA
      · by_cases p3 : z.rrs[i].ty = t
        · have hst := yes (by simp [p1, p3])
          refine Kbc (Kj Y Y Y (Kdb (Km Y (fun g0 => Kn (Kb (Kt (Kbc (kIadR Y Y Y om (Ky Y Y (kAlloc Y Y (Ko Y Y Y Y (Kdb (Kc (Kf Y Y (Ke Y Y Y (Ke Y Y Y (Kp (ok_impl_Name_is _ _ pr pr) ⟨⟨⟨Y, trivial⟩, leb⟩, ⟨⟨Y, trivial⟩, leb⟩, trivial⟩ Y Y Y Y Y (Ka Y (kGP Y (fun g1 => Ki Y (Ka Y (Ki Y (Kj Y Y Y (Ki Y (Ka Y (kGP Y (fun g2 => om) (fun g2 => Ki Y (Kf Y Y (Ki Y (Ke Y Y Y (Ki Y (Ka Y (Ki Y (Kj Y Y Y (Ki Y (Kl Y (Ka Y (Kk Y (Ka Y (Kd (Km Y (fun g3 => Kc (Ka Y (Ke Y Y Y (kLit Y Y Y Y (kAppRec Y Y Y Y Y Y Y om (Ka Y (Kd (Kv (Kc (kAdd Y Y om (Ka Y (Kd ?_)))))))))))) (fun g3 => om))))))))))))))))))))))) (fun g1 => (by (simp [*] at g1))))))))))))))))))) (fun g0 => om))))
          refine kInv ⟨⟨i + 1, by omega⟩, by simp only; omega, ?_⟩
          simp only [hst]
          exact .normA
        · have hst := no (by simp [p2, p3])
          refine Kbc (Kj Y Y Y (Kdb (Km Y (fun g0 => Kn (Kb (Kt (Kbc (kIadR Y Y Y om (Ky Y Y (kAlloc Y Y (Ko Y Y Y Y (Kdb (Kc (Kf Y Y (Ke Y Y Y (Ke Y Y Y (Kp (ok_impl_Name_is _ _ pr pr) ⟨⟨⟨Y, trivial⟩, leb⟩, ⟨⟨Y, trivial⟩, leb⟩, trivial⟩ Y Y Y Y Y (Ka Y (kGP Y (fun g1 => Ki Y (Ka Y (Ki Y (Kj Y Y Y (Ki Y (Ka Y (kGP Y (fun g2 => om) (fun g2 => Ki Y (Kf Y Y (Ki Y (Ke Y Y Y (Ki Y (Ka Y (Ki Y (Kj Y Y Y (Ki Y (Kl Y (Ka Y (Kk Y (Ka Y (Kd (Km Y (fun g3 => om) (fun g3 => Kn (Kv (Kc (kAdd Y Y om (Ka Y (Kd ?_)))))))))))))))))))))))))))) (fun g1 => (by (simp [*] at g1))))))))))))))))))) (fun g0 => om))))
          refine kInv ⟨⟨i + 1, by omega⟩, by simp only; omega, ?_⟩
          simp only [hst]
          exact .normA
    · have hst := no (by simp [p1])
      refine Kbc (Kj Y Y Y (Kdb (Km Y (fun g0 => Kn (Kb (Kt (Kbc (kIadR Y Y Y om (Ky Y Y (kAlloc Y Y (Ko Y Y Y Y (Kdb (Kc (Kf Y Y (Ke Y Y Y (Ke Y Y Y (Kp (ok_impl_Name_is _ _ pr pr) ⟨⟨⟨Y, trivial⟩, leb⟩, ⟨⟨Y, trivial⟩, leb⟩, trivial⟩ Y Y Y Y Y (Ka Y (kGP Y (fun g1 => (by (simp [*] at g1))) (fun g1 => Kg Y (Kg Y (Kg Y (kGU Y (kGU Y (kGU Y (kGU Y (Kg Y (Kl Y (Ka Y (Kd (kCondF Y (Kn (Kv (Kc (kAdd Y Y om (Ka Y (Kd ?_)))))))))))))))))))))))))))))))))) (fun g0 => om))))
      refine kInv ⟨⟨i + 1, by omega⟩, by simp only; omega, ?_⟩
      simp only [hst]
      exact .normA
  · refine Kbc (Kj Y Y Y (Kdb (Km Y (fun g0 => om) (fun g0 => kExit (kExC (kExI (kExB (Kbc (Ka Y (Ka Y (Kd (Kr (Er (ra := [.one (.d _)]) rfl ?_)))))))))))))
    rw [show i = z.rrs.length by omega, List.take_length]

def c_impl_ZoneOk : C := (.g (.o 0 1 (.box 1 (.t 0)) (.o 1 2 (.mov (.v (.bool false))) .done)) (.seq (.g (.o 0 6 (.fad (.t 1) 0) (.o 1 7 (.load (some 1) (.t 6)) (.o 2 8 (.call 8 71 [(.t 7)]) (.o 3 9 (.un .not (.t 8)) (.o 4 10 (.mov (.t 9)) (.op 5 [] (some 11) (some (10, false)) false (.fad (.t 1) 1) (.op 6 [] (some 12) (some (10, false)) false (.load none (.t 11)) (.op 7 [] (some 13) (some (10, false)) false (.len (.t 12)) (.op 8 [] (some 14) (some (10, false)) false (.bin .gtr (.t 13) (.i 60)) (.o 9 15 (.pick (.t 10) (.v (.bool true)) (.t 14)) (.o 10 16 (.mov (.t 15)) (.op 11 [] (some 17) (some (16, false)) false (.fad (.t 1) 1) (.op 12 [] (some 18) (some (16, false)) false (.load none (.t 17)) (.op 13 [] (some 19) (some (16, false)) false (.call 19 158 [(.t 18), (.fn 159)]) (.op 14 [] (some 20) (some (16, false)) false (.un .not (.t 19)) (.o 15 21 (.pick (.t 16) (.v (.bool true)) (.t 20)) .done)))))))))))))))) (.cond (.t 21) (.g (.o 0 2 (.mov (.v (.bool false))) .done) .ret) .skip)) (.g (.o 0 3 (.mov (.i 0)) .done) (.seq (.g (.o 0 22 (.fad (.t 1) 1) (.o 1 23 (.load none (.t 22)) (.o 2 24 (.len (.t 23)) (.o 3 25 (.mov (.i 0)) .done)))) (.block 0 (.loop (.g (.o 0 26 (.bin .lss (.t 25) (.t 24)) .done) (.seq (.cond (.t 26) .skip (.exit 0)) (.seq (.block 1 (.g (.o 0 27 (.mov (.t 25)) (.o 1 28 (.iad 7 (.t 23) (.t 25)) (.o 2 29 (.load (some 7) (.t 28)) (.o 3 5 (.alloc 5 [(.n 1), (.i 0), (.i 0), (.i 0), (.n 1), (.n 1), (.n 1)]) (.o 4 4 (.mov (.t 27)) (.op 5 [] none none false (.store (some 7) (.t 5) (.t 29)) .done)))))) (.seq (.seq (.reg true (.op 0 [] (some 30) none true (.mov (.t 4)) (.op 1 [] (some 31) none true (.bin .gtr (.t 30) (.i 0)) (.op 2 [] (some 32) none true (.mov (.t 31)) (.op 3 [] (some 33) (some (32, true)) true (.fad (.t 1) 1) (.op 4 [] (some 34) (some (32, true)) true (.load none (.t 33)) (.op 5 [] (some 35) (some (32, true)) true (.mov (.t 4)) (.op 6 [] (some 36) (some (32, true)) true (.bin .sub (.t 35) (.i 1)) (.op 7 [] (some 37) (some (32, true)) true (.iad 7 (.t 34) (.t 36)) (.op 8 [] (some 38) (some (32, true)) true (.load (some 7) (.t 37)) (.op 9 [] (some 39) (some (32, true)) true (.load (some 7) (.t 5)) (.op 10 [8, 4, 9] (some 40) (some (32, true)) false (.call 40 133 [(.t 38), (.t 39)]) (.op 11 [] (some 41) (some (32, true)) true (.bin .geq (.t 40) (.i 0)) (.op 12 [] (some 42) none true (.pick (.t 32) (.t 41) (.v (.bool false))) (.op 13 [] (some 43) none true (.mov (.t 42)) (.op 14 [] (some 44) (some (43, false)) true (.fad (.t 5) 0) (.op 15 [] (some 45) (some (43, false)) true (.load (some 1) (.t 44)) (.op 16 [] (some 46) (some (43, false)) true (.fad (.t 1) 0) (.op 17 [] (some 47) (some (43, false)) true (.load (some 1) (.t 46)) (.op 18 [15, 8, 9, 4, 17] (some 48) (some (43, false)) false (.call 48 123 [(.t 45), (.t 47)]) (.op 19 [] (some 49) (some (43, false)) true (.un .not (.t 48)) (.op 20 [] (some 50) none true (.pick (.t 43) (.v (.bool true)) (.t 49)) .done)))))))))))))))))))))) (.cond (.t 50) (.g (.o 0 2 (.mov (.v (.bool false))) .done) .ret) .skip)) (.seq (.g (.o 0 51 (.fad (.t 5) 1) (.o 1 52 (.load none (.t 51)) (.o 2 53 (.bin .eql (.t 52) (.i 6)) .done))) (.cond (.t 53) (.g (.o 0 54 (.mov (.t 3)) (.o 1 55 (.bin .add (.t 54) (.i 1)) (.o 2 3 (.mov (.t 55)) .done))) (.g (.o 0 56 (.fad (.t 5) 0) (.o 1 57 (.load (some 1) (.t 56)) (.o 2 58 (.fad (.t 1) 0) (.o 3 59 (.load (some 1) (.t 58)) (.o 4 60 (.call 60 131 [(.t 57), (.t 59)]) (.o 5 61 (.un .not (.t 60)) .done)))))) (.cond (.t 61) (.g (.o 0 2 (.mov (.v (.bool false))) .done) .ret) .skip))) .skip)) (.g (.o 0 62 (.fad (.t 5) 1) (.o 1 63 (.load none (.t 62)) (.o 2 64 (.bin .eql (.t 63) (.i 5)) (.o 3 65 (.mov (.t 64)) (.op 4 [] (some 66) (some (65, true)) false (.load (some 2) (.t 1)) (.op 5 [] (some 67) (some (65, true)) false (.fad (.t 5) 0) (.op 6 [] (some 68) (some (65, true)) false (.load (some 1) (.t 67)) (.op 7 [] (some 69) (some (65, true)) false (.call 69 82 [(.t 66), (.t 68), (.i 255)]) (.op 8 [] (some 70) (some (65, true)) false (.len (.t 69)) (.op 9 [] (some 71) (some (65, true)) false (.bin .gtr (.t 70) (.i 1)) (.o 10 72 (.pick (.t 65) (.t 71) (.v (.bool false))) .done))))))))))) (.cond (.t 72) (.g (.o 0 2 (.mov (.v (.bool false))) .done) .ret) .skip)))))) (.reg false (.o 0 73 (.bin .add (.t 25) (.i 1)) (.o 1 25 (.mov (.t 73)) .done))))))))) (.g (.o 0 74 (.mov (.t 3)) (.o 1 75 (.bin .eql (.t 74) (.i 1)) (.o 2 2 (.mov (.t 75)) .done))) .ret)))))
theorem dg_impl_ZoneOk : Tryz.f70.body.bind (digC Tryz.prog Tryz.f70.ntmps []) = some c_impl_ZoneOk := by kernel_rfl
theorem rs_impl_ZoneOk : resSlots Tryz.prog Tryz.f70 = some [.s 2] := by kernel_rfl
theorem ok_impl_ZoneOk (z : Zone) (hs : SmallZ z) :
    FnOK Tryz.prog 70 [.agg (z.cells.map .d)] (fun ra _ => ra = [.one (.d (.sc (.bool (zoneOk z))))]) := by
  refine FnOK.ofK Tryz.func70 (by kernel_rfl) dg_impl_ZoneOk rs_impl_ZoneOk rfl rfl ?_
  delta c_impl_ZoneOk T.o X.i C.g
  have o1 := hs.o.len
  have o2 := hs.o.mem
  have h1 := hs.r.len
  have hm := hs.r.mem
  have hr := hs.r
  cases a1 : nameOk z.origin
  · rw [show zoneOk z = false by unfold zoneOk; rw [a1]; rfl]
    refine Kbc (kBox Y Y Y Y Y (Ka Y (Kdb (Kbc (Kf Y Y (Ke Y Y Y (Kp (ok_impl_NameOk _ pr pr) ⟨⟨⟨Y, trivial⟩, leb⟩, trivial⟩ Y Y Y Y Y (Kw Y Y (Ka Y (kGN Y (fun g0 => Kg Y (Kg Y (Kg Y (Kg Y (Kk Y (Ka Y (Ka Y (Kg Y (Kg Y (Kg Y (Kg Y (Kk Y (Ka Y (Kd (kCondT Y (Kbc (Ka Y (Kd (Kr (Er (ra := [.one (.d _)]) rfl rfl)))))))))))))))))))) (fun g0 => (by (simp [*] at g0)))))))))))))
  by_cases a2 : z.rrs.length ≤ 60
  case neg =>
    rw [show zoneOk z = false by unfold zoneOk; rw [decide_eq_false a2]; simp]
    refine Kbc (kBox Y Y Y Y Y (Ka Y (Kdb (Kbc (Kf Y Y (Ke Y Y Y (Kp (ok_impl_NameOk _ pr pr) ⟨⟨⟨Y, trivial⟩, leb⟩, trivial⟩ Y Y Y Y Y (Kw Y Y (Ka Y (kGN Y (fun g0 => (by (simp [*] at g0))) (fun g0 => Ki Y (Kf Y Y (Ki Y (Ke Y Y Y (Ki Y (Kq Y Y (Ki Y (Kj Y Y Y (Kl Y (Ka Y (Ka Y (kGP Y (fun g1 => Kg Y (Kg Y (Kg Y (Kg Y (Kk Y (Ka Y (Kd (kCondT Y (Kbc (Ka Y (Kd (Kr (Er (ra := [.one (.d _)]) rfl rfl))))))))))))) (fun g1 => om)))))))))))))))))))))))
  refine Kbc (kBox Y Y Y Y Y (Ka Y (Kdb (Kbc (Kf Y Y (Ke Y Y Y (Kp (ok_impl_NameOk _ pr pr) ⟨⟨⟨Y, trivial⟩, leb⟩, trivial⟩ Y Y Y Y Y (Kw Y Y (Ka Y (kGN Y (fun g0 => (by (simp [*] at g0))) (fun g0 => Ki Y (Kf Y Y (Ki Y (Ke Y Y Y (Ki Y (Kq Y Y (Ki Y (Kj Y Y Y (Kl Y (Ka Y (Ka Y (kGP Y (fun g1 => om) (fun g1 => Ki Y (Kf Y Y (Ki Y (Ke Y Y Y (Ki Y ?_)))))))))))))))))))))))))))
  refine Kp (ok_impl_all_impl_Rr z.rrs SmallR rrOk h1 hm) ⟨rfl, ⟨rfl, rfl, ⟨_, Tryz.func159, rfl, by kernel_rfl⟩, ?_⟩, trivial⟩ Y Y Y Y Y ?_
  · rintro _ R ⟨x, h, rfl, rfl⟩
    exact ok_impl_RrOk x h
  cases a3 : z.rrs.all rrOk
  · rw [show zoneOk z = false by unfold zoneOk; rw [a3]; simp]
    refine Ki Y (Kw Y Y (Kl Y (Ka Y (Kd (kCondT Y (Kbc (Ka Y (Kd (Kr (Er (ra := [.one (.d _)]) rfl rfl))))))))))
  refine Ki Y (Kw Y Y (Kl Y (Ka Y (Kd (kCondF Y (Kn (Kbc (Ka Y (Kdb (Kbc (Kf Y Y (Ke Y Y Y (Kq Y Y (Ka Y (Kd (Kt ?_))))))))))))))))
  refine kLoop (α := { i : Nat // i ≤ z.rrs.length ∧ (List.range i).all (zAt z) = true }) (fun y => ⟨tabSl [(1, .c (.ptr (rid 1 0) 1 0)), (3, .i (zTops (z.rrs.take y.1))), (23, .dv (encR z.rrs)), (24, .i z.rrs.length), (25, .i y.1)], obTab 1 [(rid 1 0, ⟨1, 0, .box (z.cells.map .d)⟩)], []⟩) (fun y => z.rrs.length - y.1) ⟨0, by simp⟩ .normA ?_
  rintro ⟨i, hi, hz⟩
  simp only
  have ht := zTops_le z.rrs i
  rcases Nat.lt_or_ge i z.rrs.length with hlt | hge
  · have hbi := hm _ (List.getElem_mem hlt)
    have n1 := hbi.n.len
    have n2 := hbi.n.mem
    have hts := zTops_succ z.rrs i hlt
    have hq := zAt_eq hlt
    rw [aloneR_eq hlt] at hq
    have hset : (setOf z.rrs z.rrs[i].name 255).length ≤ z.rrs.length := List.length_filter_le _ _
    refine Kb ?_
    refine Kc (Kj Y Y Y (Kdb (Km Y (fun g0 => Kn (Kb (Kt (Kbc (Ka Y (kIadR Y Y Y om (Ky Y Y (kAlloc Y Y (Ka Y (Ko Y Y Y Y (Kdb (Kb (kRegD (Ka Y (Kj Y Y Y (Ka Y (kGP Y (fun g1 => Ki Y (Kf Y Y (Ki Y (Ke Y Y Y (Ki Y (Ka Y (Ki Y (kDif Y Y om (Ki Y (kIadT Y Y om (Ki Y (Ky Y Y (Ki Y (Ke Y Y Y (Ks Y Y (Ki Y (Kp (ok_impl_Rr_compare _ _ pr pr) ⟨⟨⟨Y, Y, Y, Y, Y, Y, Y, trivial⟩, leb⟩, ⟨⟨Y, Y, Y, Y, Y, Y, Y, trivial⟩, leb⟩, trivial⟩ Y Y Y Y Y (Ki Y (Kj Y Y Y (Kk Y (Ka Y (Ka Y (kGP Y (fun g2 => Kg Y (Kg Y (Kg Y (Kg Y (Ks Y Y (Kg Y (Kg Y (Kk Y (Ka Y (Kd (kH (kCondT Y (Kbc (Ka Y (Kd (Kr (Er (ra := [.one (.d _)]) rfl ?_))))))))))))))))) (fun g2 => Ki Y (Kf Y Y (Ki Y (Ke Y Y Y (Ki Y (Kf Y Y (Ki Y (Ke Y Y Y (Ks Y Y (Ki Y (Kp (ok_impl_Name_under _ _ pr pr) ⟨⟨⟨Y, trivial⟩, leb⟩, ⟨⟨Y, trivial⟩, leb⟩, trivial⟩ Y Y Y Y Y (Ki Y (Kw Y Y (Kl Y (Ka Y (Kd (kH (kCondN Y (fun g3 => Kbc (Ka Y (Kd (Kr (Er (ra := [.one (.d _)]) rfl ?_))))) (fun g3 => Kn (Kb (Kbc (Kf Y Y (Ke Y Y Y (Kj Y Y Y (Kd (Km Y (fun g4 => Kbc (Ka Y (kAdd Y Y om (Ka Y (Kdb (Kc (Kf Y Y (Ke Y Y Y (Kf Y Y (Ke Y Y Y (Kp (ok_impl_Name_is _ _ pr pr) ⟨⟨⟨Y, trivial⟩, leb⟩, ⟨⟨Y, trivial⟩, leb⟩, trivial⟩ Y Y Y Y Y (Kw Y Y (Kd (kCondN Y (fun g5 => Kbc (Ka Y (Kd (Kr (Er (ra := [.one (.d _)]) rfl ?_))))) (fun g5 => Kn (Kbc (Kf Y Y (Ke Y Y Y (Kj Y Y Y (Ka Y (kGP Y (fun g6 => om) (fun g6 => Kg Y (Kg Y (Kg Y (Kg Y (Kg Y (Kg Y (Kl Y (Ka Y (Kd (kCondF Y (Kn (Kv (Kc (kAdd Y Y om (Ka Y (Kd ?_))))))))))))))))))))))))))))))))))))) (fun g4 => Kn (Kbc (Kf Y Y (Ke Y Y Y (Kj Y Y Y (Ka Y (kGP Y (fun g7 => Ki Y (Ke Y Y Y (Ki Y (Kf Y Y (Ki Y (Ke Y Y Y (Ki Y (kCallD2 (ok_impl_Zone_set _ _ _ pr pr) ⟨⟨⟨Y, Y, trivial⟩, leb⟩, ⟨⟨Y, trivial⟩, leb⟩, rfl, trivial⟩ Y Y Y Y (Ki Y (Kq Y Y (Ki Y (Kj Y Y Y (Kk Y (Ka Y (Kd (Km Y (fun g8 => Kbc (Ka Y (Kd (Kr (Er (ra := [.one (.d _)]) rfl ?_))))) (fun g8 => Kn (Kv (Kc (kAdd Y Y om (Ka Y (Kd ?_)))))))))))))))))))))) (fun g7 => Kg Y (Kg Y (Kg Y (Kg Y (Kg Y (Kg Y (Kl Y (Ka Y (Kd (kCondF Y (Kn (Kv (Kc (kAdd Y Y om (Ka Y (Kd ?_)))))))))))))))))))))))))))))))))))))))))))))))))))))))))))))))))))))))) (fun g1 => Kg Y (Kg Y (Kg Y (Kg Y (Kg Y (Kg Y (Kg Y (Ks Y Y (Kg Y (Kg Y (Kl Y (Ka Y (Ka Y (Ki Y (Kf Y Y (Ki Y (Ke Y Y Y (Ki Y (Kf Y Y (Ki Y (Ke Y Y Y (Ks Y Y (Ki Y (Kp (ok_impl_Name_under _ _ pr pr) ⟨⟨⟨Y, trivial⟩, leb⟩, ⟨⟨Y, trivial⟩, leb⟩, trivial⟩ Y Y Y Y Y (Ki Y (Kw Y Y (Kl Y (Ka Y (Kd (kH (kCondN Y (fun g9 => Kbc (Ka Y (Kd (Kr (Er (ra := [.one (.d _)]) rfl ?_))))) (fun g9 => Kn (Kb (Kbc (Kf Y Y (Ke Y Y Y (Kj Y Y Y (Kd (Km Y (fun g10 => Kbc (Ka Y (kAdd Y Y om (Ka Y (Kdb (Kc (Kf Y Y (Ke Y Y Y (Kf Y Y (Ke Y Y Y (Kp (ok_impl_Name_is _ _ pr pr) ⟨⟨⟨Y, trivial⟩, leb⟩, ⟨⟨Y, trivial⟩, leb⟩, trivial⟩ Y Y Y Y Y (Kw Y Y (Kd (kCondN Y (fun g11 => Kbc (Ka Y (Kd (Kr (Er (ra := [.one (.d _)]) rfl ?_))))) (fun g11 => Kn (Kbc (Kf Y Y (Ke Y Y Y (Kj Y Y Y (Ka Y (kGP Y (fun g12 => om) (fun g12 => Kg Y (Kg Y (Kg Y (Kg Y (Kg Y (Kg Y (Kl Y (Ka Y (Kd (kCondF Y (Kn (Kv (Kc (kAdd Y Y om (Ka Y (Kd ?_))))))))))))))))))))))))))))))))))))) (fun g10 => Kn (Kbc (Kf Y Y (Ke Y Y Y (Kj Y Y Y (Ka Y (kGP Y (fun g13 => Ki Y (Ke Y Y Y (Ki Y (Kf Y Y (Ki Y (Ke Y Y Y (Ki Y (kCallD2 (ok_impl_Zone_set _ _ _ pr pr) ⟨⟨⟨Y, Y, trivial⟩, leb⟩, ⟨⟨Y, trivial⟩, leb⟩, rfl, trivial⟩ Y Y Y Y (Ki Y (Kq Y Y (Ki Y (Kj Y Y Y (Kk Y (Ka Y (Kd (Km Y (fun g14 => Kbc (Ka Y (Kd (Kr (Er (ra := [.one (.d _)]) rfl ?_))))) (fun g14 => Kn (Kv (Kc (kAdd Y Y om (Ka Y (Kd ?_)))))))))))))))))))))) (fun g13 => Kg Y (Kg Y (Kg Y (Kg Y (Kg Y (Kg Y (Kl Y (Ka Y (Kd (kCondF Y (Kn (Kv (Kc (kAdd Y Y om (Ka Y (Kd ?_))))))))))))))))))))))))))))))))))))))))))))))))))))))))))))))))))))))))))))))) (fun g0 => om))))
    all_goals first
      | (refine congrArg (fun z : Bool => [RA.one (RV.d (DV.sc (Value.bool z)))]) (zone_no hlt (Bool.eq_false_iff.2 fun h => ?_)).symm
         rw [hq] at h
         simp only [Bool.and_eq_true, decide_eq_true_eq, Bool.or_eq_true, Bool.not_eq_true', beq_eq_false_iff_ne] at h
         obtain ⟨⟨⟨k1, k2⟩, k3⟩, k4⟩ := h
         first
           | (rw [prevB_pos (by omega) hlt (by omega), decide_eq_true_eq] at k2; omega)
           | (simp_all; done)
           | (simp_all; omega))
      | (have e1 : prevB z.rrs i = true := by
           first
             | (rw [prevB_pos (by omega) hlt (by omega)]; exact decide_eq_true (by omega))
             | (have : i = 0 := by omega
                subst this; exact prevB_zero)
         have e2 : (!(z.rrs[i].ty == 5) || decide ((setOf z.rrs z.rrs[i].name 255).length ≤ 1)) = true := by
           first
             | assumption
             | (simp [*]; done)
             | (rw [decide_eq_true (by omega)]; simp)
         have e3 : (!(z.rrs[i].ty == 6) || decide (z.rrs[i].name = z.origin)) = true := by
           first
             | (simp [*]; done)
             | (simp_all; done)
         first
           | rw [if_pos (by assumption)] at hts
           | rw [if_neg (by assumption)] at hts
         have hz' : zAt z i = true := by rw [hq, e1, e2, e3]; simp [*]
         exact kInv ⟨⟨i + 1, by omega, range_all hz hz'⟩, by simp only; omega, .normA⟩)
  · rw [show zoneOk z = decide (zTops z.rrs = 1) by unfold zoneOk; rw [a1, decide_eq_true a2, a3, show (List.range z.rrs.length).all (zAt z) = true by rw [show z.rrs.length = i by omega]; exact hz]; rfl]
    refine Kbc (Kj Y Y Y (Kdb (Km Y (fun g0 => om) (fun g0 => kExit (kExC (kExI (kExB (Kbc (Ka Y (Kj Y Y Y (Ka Y (Kd (Kr (Er (ra := [.one (.d _)]) rfl ?_))))))))))))))
    rw [show i = z.rrs.length by omega, List.take_length]
    rfl

def c_impl_isAsked : C := (.g (.o 0 2 (.mov (.v (.bool false))) .done) (.g (.o 0 3 (.mov (.t 0)) (.o 1 4 (.call 4 89 [(.t 3)]) (.o 2 5 (.mov (.t 4)) (.op 3 [] (some 6) (some (5, false)) false (.mov (.t 0)) (.op 4 [] (some 7) (some (5, false)) false (.bin .eql (.t 6) (.i 255)) (.o 5 8 (.pick (.t 5) (.v (.bool true)) (.t 7)) (.o 6 2 (.mov (.t 8)) .done))))))) .ret))
theorem dg_impl_isAsked : Tryz.f211.body.bind (digC Tryz.prog Tryz.f211.ntmps []) = some c_impl_isAsked := by kernel_rfl
theorem rs_impl_isAsked : resSlots Tryz.prog Tryz.f211 = some [.s 2] := by kernel_rfl
theorem ok_impl_isAsked (t : Int) :
    FnOK Tryz.prog 211 [.one (.d (.sc (.int .i64 t)))] (fun ra _ => ra = [.one (.d (.sc (.bool (askedT t))))]) := by
  refine FnOK.ofK Tryz.func211 (by kernel_rfl) dg_impl_isAsked rs_impl_isAsked rfl rfl ?_
  delta c_impl_isAsked T.o X.i C.g
  refine Kbc (Ka Y (Kdb (Kc (Ka Y (Kp (ok_impl_TypeOk _) ⟨Y, trivial⟩ Y Y Y Y Y (Ka Y (kGS Y (fun g0 => Kg Y (Kg Y (Kk Y (Ka Y (Ka Y (Kd (Kr (Er (ra := [.one (.d _)]) rfl ?_)))))))) (fun g0 => Ki Y (Ka Y (Ki Y (Kj Y Y Y (Kl Y (Ka Y (Ka Y (Kd (Kr (Er (ra := [.one (.d _)]) rfl ?_)))))))))))))))))
  all_goals simp_all [askedT]

def c_impl_WantOk : C := (.g (.o 0 1 (.box 1 (.t 0)) (.o 1 2 (.mov (.v (.bool false))) .done)) (.g (.o 0 4 (.fad (.t 1) 0) (.o 1 5 (.load (some 7) (.t 4)) (.o 2 3 (.alloc 3 [(.n 1), (.i 0), (.i 0), (.i 0), (.n 1), (.n 1), (.n 1)]) (.op 3 [] none none false (.store (some 7) (.t 3) (.t 5)) .done)))) (.seq (.block 0 (.g (.o 0 7 (.fad (.t 1) 7) (.o 1 8 (.load none (.t 7)) (.o 2 9 (.bin .neq (.t 8) (.i 1)) (.o 3 10 (.mov (.t 9)) (.op 4 [] (some 11) (some (10, true)) false (.fad (.t 1) 7) (.op 5 [] (some 12) (some (10, true)) false (.load none (.t 11)) (.op 6 [] (some 13) (some (10, true)) false (.bin .neq (.t 12) (.i 254)) (.o 7 14 (.pick (.t 10) (.t 13) (.v (.bool false))) (.o 8 15 (.mov (.t 14)) (.op 9 [] (some 16) (some (15, true)) false (.fad (.t 1) 7) (.op 10 [] (some 17) (some (15, true)) false (.load none (.t 16)) (.op 11 [] (some 18) (some (15, true)) false (.bin .neq (.t 17) (.i 255)) (.o 12 19 (.pick (.t 15) (.t 18) (.v (.bool false))) (.o 13 6 (.mov (.t 19)) .done)))))))))))))) (.cond (.t 6) (.g (.o 0 2 (.mov (.v (.bool false))) .done) .ret) (.g (.o 0 21 (.fad (.t 1) 8) (.o 1 22 (.load none (.t 21)) (.o 2 20 (.mov (.t 22)) .done))) (.cond (.t 20) (.g (.o 0 23 (.fad (.t 1) 7) (.o 1 24 (.load none (.t 23)) (.o 2 25 (.bin .neq (.t 24) (.i 1)) (.o 3 26 (.mov (.t 25)) (.op 4 [] (some 27) (some (26, true)) false (.fad (.t 3) 0) (.op 5 [] (some 28) (some (26, true)) false (.load (some 1) (.t 27)) (.op 6 [] (some 29) (some (26, true)) false (.call 29 71 [(.t 28)]) (.o 7 30 (.pick (.t 26) (.t 29) (.v (.bool false))) (.o 8 31 (.mov (.t 30)) (.op 9 [] (some 32) (some (31, true)) false (.fad (.t 3) 1) (.op 10 [] (some 33) (some (31, true)) false (.load none (.t 32)) (.op 11 [] (some 34) (some (31, true)) false (.call 34 211 [(.t 33)]) (.o 12 35 (.pick (.t 31) (.t 34) (.v (.bool false))) (.o 13 36 (.mov (.t 35)) (.op 14 [] (some 37) (some (36, true)) false (.fad (.t 3) 2) (.op 15 [] (some 38) (some (36, true)) false (.load none (.t 37)) (.op 16 [] (some 39) (some (36, true)) false (.bin .eql (.t 38) (.i 0)) (.o 17 40 (.pick (.t 36) (.t 39) (.v (.bool false))) (.o 18 41 (.mov (.t 40)) (.op 19 [] (some 42) (some (41, true)) false (.fad (.t 3) 3) (.op 20 [] (some 43) (some (41, true)) false (.load none (.t 42)) (.op 21 [] (some 44) (some (41, true)) false (.bin .eql (.t 43) (.i 0)) (.o 22 45 (.pick (.t 41) (.t 44) (.v (.bool false))) (.o 23 46 (.mov (.t 45)) (.op 24 [] (some 47) (some (46, true)) false (.fad (.t 3) 4) (.op 25 [] (some 48) (some (46, true)) false (.fad (.t 47) 0) (.op 26 [] (some 49) (some (46, true)) false (.load none (.t 48)) (.op 27 [] (some 50) (some (46, true)) false (.len (.t 49)) (.op 28 [] (some 51) (some (46, true)) false (.bin .eql (.t 50) (.i 0)) (.o 29 52 (.pick (.t 46) (.t 51) (.v (.bool false))) (.o 30 53 (.mov (.t 52)) (.op 31 [] (some 54) (some (53, true)) false (.fad (.t 3) 5) (.op 32 [] (some 55) (some (53, true)) false (.load none (.t 54)) (.op 33 [] (some 56) (some (53, true)) false (.len (.t 55)) (.op 34 [] (some 57) (some (53, true)) false (.bin .eql (.t 56) (.i 0)) (.o 35 58 (.pick (.t 53) (.t 57) (.v (.bool false))) (.o 36 59 (.mov (.t 58)) (.op 37 [] (some 60) (some (59, true)) false (.fad (.t 3) 6) (.op 38 [] (some 61) (some (59, true)) false (.load none (.t 60)) (.op 39 [] (some 62) (some (59, true)) false (.len (.t 61)) (.op 40 [] (some 63) (some (59, true)) false (.bin .eql (.t 62) (.i 0)) (.o 41 64 (.pick (.t 59) (.t 63) (.v (.bool false))) (.o 42 2 (.mov (.t 64)) .done))))))))))))))))))))))))))))))))))))))))))) .ret) .skip))))) (.g (.o 0 65 (.fad (.t 1) 7) (.o 1 66 (.load none (.t 65)) (.o 2 67 (.bin .neq (.t 66) (.i 255)) (.o 3 68 (.mov (.t 67)) (.op 4 [] (some 69) (some (68, true)) false (.load (some 7) (.t 3)) (.op 5 [] (some 70) (some (68, true)) false (.call 70 159 [(.t 69)]) (.o 6 71 (.pick (.t 68) (.t 70) (.v (.bool false))) (.o 7 72 (.mov (.t 71)) (.op 8 [] (some 73) (some (72, true)) false (.fad (.t 1) 7) (.op 9 [] (some 74) (some (72, true)) false (.load none (.t 73)) (.op 10 [] (some 75) (some (72, true)) false (.bin .eql (.t 74) (.i 1)) (.op 11 [] (some 76) (some (72, true)) false (.mov (.t 75)) (.op 12 [] (some 77) (some (76, false)) false (.fad (.t 3) 2) (.op 13 [] (some 78) (some (76, false)) false (.load none (.t 77)) (.op 14 [] (some 79) (some (76, false)) false (.bin .eql (.t 78) (.i 0)) (.op 15 [] (some 80) (some (72, true)) false (.pick (.t 76) (.v (.bool true)) (.t 79)) (.o 16 81 (.pick (.t 72) (.t 80) (.v (.bool false))) (.o 17 2 (.mov (.t 81)) .done)))))))))))))))))) .ret))))
theorem dg_impl_WantOk : Tryz.f220.body.bind (digC Tryz.prog Tryz.f220.ntmps []) = some c_impl_WantOk := by kernel_rfl
theorem rs_impl_WantOk : resSlots Tryz.prog Tryz.f220 = some [.s 2] := by kernel_rfl
theorem ok_impl_WantOk (w : Want) (hs : SmallW w) :
    FnOK Tryz.prog 220 [.agg (w.cells.map .d)] (fun ra _ => ra = [.one (.d (.sc (.bool (wantOk w))))]) := by
  refine FnOK.ofK Tryz.func220 (by kernel_rfl) dg_impl_WantOk rs_impl_WantOk rfl rfl ?_
  delta c_impl_WantOk T.o X.i C.g
  have h1 := hs.r
  have n1 := hs.r.n.len
  have n2 := hs.r.n.mem
  refine Kbc (kBox Y Y Y Y Y (Ka Y (Kdb (Kc (Kf Y Y (Ke Y Y Y (kAlloc Y Y (Ko Y Y Y Y (Kdb (Kt (Kbc (Kf Y Y (Ke Y Y Y (Kj Y Y Y (Ka Y (kGIN Y (fun g0 => Ki Y (Kf Y Y (Ki Y (Ke Y Y Y (Ki Y (Kj Y Y Y (Kk Y (Ka Y (Ka Y (kGIN Y (fun g1 => Ki Y (Kf Y Y (Ki Y (Ke Y Y Y (Ki Y (Kj Y Y Y (Kk Y (Ka Y (Ka Y (Kd (kCondIN Y (fun g2 => Kbc (Ka Y (Kd (Kr (Er (ra := [.one (.d _)]) rfl ?_))))) (fun g2 => Kbc (Kf Y Y (Ke Y Y Y (Ka Y (Kd (kCond Y (fun g3 => Kbc (Kf Y Y (Ke Y Y Y (Kj Y Y Y (Ka Y (kGIN Y (fun g4 => Ki Y (Kf Y Y (Ki Y (Ke Y Y Y (Ki Y (Kp (ok_impl_NameOk _ prx prx) ⟨⟨⟨Y, trivial⟩, leb⟩, trivial⟩ Y Y Y Y Y (Kk Y (Ka Y (Ka Y (kGS Y (fun g5 => Ki Y (Kf Y Y (Ki Y (Ke Y Y Y (Ki Y (Kp (ok_impl_isAsked _) ⟨Y, trivial⟩ Y Y Y Y Y (Kk Y (Ka Y (Ka Y (kGS Y (fun g6 => Ki Y (Kf Y Y (Ki Y (Ke Y Y Y (Ki Y (Kj Y Y Y (Kk Y (Ka Y (Ka Y (kGP Y (fun g7 => Ki Y (Kf Y Y (Ki Y (Ke Y Y Y (Ki Y (Kj Y Y Y (Kk Y (Ka Y (Ka Y (kGP Y (fun g8 => Ki Y (Kf Y Y (Ki Y (Kf Y Y (Ki Y (Ke Y Y Y (Ki Y (Kq Y Y (Ki Y (Kj Y Y Y (Kk Y (Ka Y (Ka Y (kGP Y (fun g9 => Ki Y (Kf Y Y (Ki Y (Ke Y Y Y (Ki Y (Kq Y Y (Ki Y (Kj Y Y Y (Kk Y (Ka Y (Ka Y (kGP Y (fun g10 => Ki Y (Kf Y Y (Ki Y (Ke Y Y Y (Ki Y (Kq Y Y (Ki Y (Kj Y Y Y (Kk Y (Ka Y (Ka Y (Kd (Kr (Er (ra := [.one (.d _)]) rfl ?_)))))))))))))) (fun g10 => Kg Y (Kg Y (Kg Y (Kg Y (Kl Y (Ka Y (Ka Y (Kd (Kr (Er (ra := [.one (.d _)]) rfl ?_)))))))))))))))))))))) (fun g9 => Kg Y (Kg Y (Kg Y (Kg Y (Kl Y (Ka Y (Ka Y (Kg Y (Kg Y (Kg Y (Kg Y (Kl Y (Ka Y (Ka Y (Kd (Kr (Er (ra := [.one (.d _)]) rfl ?_))))))))))))))))))))))))))))))) (fun g8 => Kg Y (Kg Y (Kg Y (Kg Y (Kg Y (Kl Y (Ka Y (Ka Y (Kg Y (Kg Y (Kg Y (Kg Y (Kl Y (Ka Y (Ka Y (Kg Y (Kg Y (Kg Y (Kg Y (Kl Y (Ka Y (Ka Y (Kd (Kr (Er (ra := [.one (.d _)]) rfl ?_))))))))))))))))))))))))))))))))))) (fun g7 => Kg Y (Kg Y (Kg Y (Kl Y (Ka Y (Ka Y (Kg Y (Kg Y (Kg Y (Kg Y (Kg Y (Kl Y (Ka Y (Ka Y (Kg Y (Kg Y (Kg Y (Kg Y (Kl Y (Ka Y (Ka Y (Kg Y (Kg Y (Kg Y (Kg Y (Kl Y (Ka Y (Ka Y (Kd (Kr (Er (ra := [.one (.d _)]) rfl ?_))))))))))))))))))))))))))))))))))))))))) (fun g6 => Kg Y (Kg Y (Kg Y (Kl Y (Ka Y (Ka Y (Kg Y (Kg Y (Kg Y (Kl Y (Ka Y (Ka Y (Kg Y (Kg Y (Kg Y (Kg Y (Kg Y (Kl Y (Ka Y (Ka Y (Kg Y (Kg Y (Kg Y (Kg Y (Kl Y (Ka Y (Ka Y (Kg Y (Kg Y (Kg Y (Kg Y (Kl Y (Ka Y (Ka Y (Kd (Kr (Er (ra := [.one (.d _)]) rfl ?_))))))))))))))))))))))))))))))))))))))))))))))) (fun g5 => Kg Y (Kg Y (Kg Y (Kl Y (Ka Y (Ka Y (Kg Y (Kg Y (Kg Y (Kl Y (Ka Y (Ka Y (Kg Y (Kg Y (Kg Y (Kl Y (Ka Y (Ka Y (Kg Y (Kg Y (Kg Y (Kg Y (Kg Y (Kl Y (Ka Y (Ka Y (Kg Y (Kg Y (Kg Y (Kg Y (Kl Y (Ka Y (Ka Y (Kg Y (Kg Y (Kg Y (Kg Y (Kl Y (Ka Y (Ka Y (Kd (Kr (Er (ra := [.one (.d _)]) rfl ?_))))))))))))))))))))))))))))))))))))))))))))))))))))) (fun g4 => om))))))) (fun g3 => Kn (Kv (Kbc (Kf Y Y (Ke Y Y Y (Kj Y Y Y (Ka Y (kGIN Y (fun g11 => om) (fun g11 => Kg Y (Kg Y (Kl Y (Ka Y (Ka Y (Kg Y (Kg Y (Kg Y (Kg Y (kGU Y (kGU Y (kGU Y (Kg Y (Kl Y (Ka Y (Ka Y (Kd (Kr (Er (ra := [.one (.d _)]) rfl ?_)))))))))))))))))))))))))))))))))))))))))))) (fun g1 => Kg Y (Kg Y (Kg Y (Kl Y (Ka Y (Ka Y (Kd (kCondF Y (Kbc (Kf Y Y (Ke Y Y Y (Ka Y (Kd (kCond Y (fun g12 => Kbc (Kf Y Y (Ke Y Y Y (Kj Y Y Y (Ka Y (kGIN Y (fun g13 => Ki Y (Kf Y Y (Ki Y (Ke Y Y Y (Ki Y (Kp (ok_impl_NameOk _ prx prx) ⟨⟨⟨Y, trivial⟩, leb⟩, trivial⟩ Y Y Y Y Y (Kk Y (Ka Y (Ka Y (kGS Y (fun g14 => Ki Y (Kf Y Y (Ki Y (Ke Y Y Y (Ki Y (Kp (ok_impl_isAsked _) ⟨Y, trivial⟩ Y Y Y Y Y (Kk Y (Ka Y (Ka Y (kGS Y (fun g15 => Ki Y (Kf Y Y (Ki Y (Ke Y Y Y (Ki Y (Kj Y Y Y (Kk Y (Ka Y (Ka Y (kGP Y (fun g16 => Ki Y (Kf Y Y (Ki Y (Ke Y Y Y (Ki Y (Kj Y Y Y (Kk Y (Ka Y (Ka Y (kGP Y (fun g17 => Ki Y (Kf Y Y (Ki Y (Kf Y Y (Ki Y (Ke Y Y Y (Ki Y (Kq Y Y (Ki Y (Kj Y Y Y (Kk Y (Ka Y (Ka Y (kGP Y (fun g18 => Ki Y (Kf Y Y (Ki Y (Ke Y Y Y (Ki Y (Kq Y Y (Ki Y (Kj Y Y Y (Kk Y (Ka Y (Ka Y (kGP Y (fun g19 => Ki Y (Kf Y Y (Ki Y (Ke Y Y Y (Ki Y (Kq Y Y (Ki Y (Kj Y Y Y (Kk Y (Ka Y (Ka Y (Kd (Kr (Er (ra := [.one (.d _)]) rfl ?_)))))))))))))) (fun g19 => Kg Y (Kg Y (Kg Y (Kg Y (Kl Y (Ka Y (Ka Y (Kd (Kr (Er (ra := [.one (.d _)]) rfl ?_)))))))))))))))))))))) (fun g18 => Kg Y (Kg Y (Kg Y (Kg Y (Kl Y (Ka Y (Ka Y (Kg Y (Kg Y (Kg Y (Kg Y (Kl Y (Ka Y (Ka Y (Kd (Kr (Er (ra := [.one (.d _)]) rfl ?_))))))))))))))))))))))))))))))) (fun g17 => Kg Y (Kg Y (Kg Y (Kg Y (Kg Y (Kl Y (Ka Y (Ka Y (Kg Y (Kg Y (Kg Y (Kg Y (Kl Y (Ka Y (Ka Y (Kg Y (Kg Y (Kg Y (Kg Y (Kl Y (Ka Y (Ka Y (Kd (Kr (Er (ra := [.one (.d _)]) rfl ?_))))))))))))))))))))))))))))))))))) (fun g16 => Kg Y (Kg Y (Kg Y (Kl Y (Ka Y (Ka Y (Kg Y (Kg Y (Kg Y (Kg Y (Kg Y (Kl Y (Ka Y (Ka Y (Kg Y (Kg Y (Kg Y (Kg Y (Kl Y (Ka Y (Ka Y (Kg Y (Kg Y (Kg Y (Kg Y (Kl Y (Ka Y (Ka Y (Kd (Kr (Er (ra := [.one (.d _)]) rfl ?_))))))))))))))))))))))))))))))))))))))))) (fun g15 => Kg Y (Kg Y (Kg Y (Kl Y (Ka Y (Ka Y (Kg Y (Kg Y (Kg Y (Kl Y (Ka Y (Ka Y (Kg Y (Kg Y (Kg Y (Kg Y (Kg Y (Kl Y (Ka Y (Ka Y (Kg Y (Kg Y (Kg Y (Kg Y (Kl Y (Ka Y (Ka Y (Kg Y (Kg Y (Kg Y (Kg Y (Kl Y (Ka Y (Ka Y (Kd (Kr (Er (ra := [.one (.d _)]) rfl ?_))))))))))))))))))))))))))))))))))))))))))))))) (fun g14 => Kg Y (Kg Y (Kg Y (Kl Y (Ka Y (Ka Y (Kg Y (Kg Y (Kg Y (Kl Y (Ka Y (Ka Y (Kg Y (Kg Y (Kg Y (Kl Y (Ka Y (Ka Y (Kg Y (Kg Y (Kg Y (Kg Y (Kg Y (Kl Y (Ka Y (Ka Y (Kg Y (Kg Y (Kg Y (Kg Y (Kl Y (Ka Y (Ka Y (Kg Y (Kg Y (Kg Y (Kg Y (Kl Y (Ka Y (Ka Y (Kd (Kr (Er (ra := [.one (.d _)]) rfl ?_))))))))))))))))))))))))))))))))))))))))))))))))))))) (fun g13 => om))))))) (fun g12 => Kn (Kv (Kbc (Kf Y Y (Ke Y Y Y (Kj Y Y Y (Ka Y (kGIN Y (fun g20 => Ki Y (Ke Y Y Y (Ki Y (Kp (ok_impl_RrOk _ prx) ⟨⟨⟨Y, Y, Y, Y, Y, Y, Y, trivial⟩, leb⟩, trivial⟩ Y Y Y Y Y (Kk Y (Ka Y (Ka Y (kGS Y (fun g21 => (Ki Y (Kf Y Y (Ki Y (Ke Y Y Y (Ki Y (Kj Y Y Y (Ki Y (Ka Y (kGP Y (fun g22 => om) (fun g22 => Ki Y (Kf Y Y (Ki Y (Ke Y Y Y (Ki Y (Kj Y Y Y (Ki Y (Kl Y (Ka Y (Kk Y (Ka Y (Ka Y (Kd (Kr (Er (ra := [.one (.d _)]) rfl ?_))))))))))))))))))))))))) (fun g21 => (Kg Y (Kg Y (Kg Y (Kg Y (kGU Y (kGU Y (kGU Y (Kg Y (Kl Y (Ka Y (Ka Y (Kd (Kr (Er (ra := [.one (.d _)]) rfl ?_))))))))))))))))))))))) (fun g20 => om))))))))))))))))))))))))))))))))) (fun g0 => Kg Y (Kg Y (Kg Y (Kl Y (Ka Y (Ka Y (Kg Y (Kg Y (Kg Y (Kl Y (Ka Y (Ka Y (Kd (kCondF Y (Kbc (Kf Y Y (Ke Y Y Y (Ka Y (Kd (kCond Y (fun g23 => Kbc (Kf Y Y (Ke Y Y Y (Kj Y Y Y (Ka Y (kGIN Y (fun g24 => om) (fun g24 => Kg Y (Kg Y (Kg Y (Kl Y (Ka Y (Ka Y (Kg Y (Kg Y (Kg Y (Kl Y (Ka Y (Ka Y (Kg Y (Kg Y (Kg Y (Kl Y (Ka Y (Ka Y (Kg Y (Kg Y (Kg Y (Kl Y (Ka Y (Ka Y (Kg Y (Kg Y (Kg Y (Kg Y (Kg Y (Kl Y (Ka Y (Ka Y (Kg Y (Kg Y (Kg Y (Kg Y (Kl Y (Ka Y (Ka Y (Kg Y (Kg Y (Kg Y (Kg Y (Kl Y (Ka Y (Ka Y (Kd (Kr (Er (ra := [.one (.d _)]) rfl ?_))))))))))))))))))))))))))))))))))))))))))))))))))))))) (fun g23 => Kn (Kv (Kbc (Kf Y Y (Ke Y Y Y (Kj Y Y Y (Ka Y (kGIN Y (fun g25 => Ki Y (Ke Y Y Y (Ki Y (Kp (ok_impl_RrOk _ prx) ⟨⟨⟨Y, Y, Y, Y, Y, Y, Y, trivial⟩, leb⟩, trivial⟩ Y Y Y Y Y (Kk Y (Ka Y (Ka Y (kGS Y (fun g26 => Ki Y (Kf Y Y (Ki Y (Ke Y Y Y (Ki Y (Kj Y Y Y (Ki Y (Ka Y (kGP Y (fun g27 => Kg Y (Kg Y (Kg Y (Ki Y (Kk Y (Ka Y (Kk Y (Ka Y (Ka Y (Kd (Kr (Er (ra := [.one (.d _)]) rfl ?_)))))))))))) (fun g27 => om)))))))))) (fun g26 => Kg Y (Kg Y (Kg Y (Kg Y (kGU Y (kGU Y (kGU Y (Kg Y (Kl Y (Ka Y (Ka Y (Kd (Kr (Er (ra := [.one (.d _)]) rfl ?_)))))))))))))))))))))) (fun g25 => om)))))))))))))))))))))))))))))))))))))))))))))
  all_goals (refine congrArg (fun z : Bool => [RA.one (RV.d (DV.sc (Value.bool z)))]) ?_; clear n1 n2 h1 hs; unfold wantOk; simp_all)
  all_goals (rw [Bool.eq_iff_iff]; simp)

def c_impl_all_impl_Want_1 : C := (.g (.o 0 2 (.box 2 (.t 0)) (.o 1 3 (.mov (.v (.bool false))) .done)) (.g (.o 0 4 (.load none (.t 1)) (.o 1 5 (.load (some 9) (.t 2)) (.o 2 6 (.callv 6 (.t 4) [(.t 5)]) (.o 3 7 (.un .not (.t 6)) (.o 4 3 (.mov (.t 7)) .done))))) .ret))
theorem dg_impl_all_impl_Want_1 : Tryz.f279.body.bind (digC Tryz.prog Tryz.f279.ntmps []) = some c_impl_all_impl_Want_1 := by kernel_rfl
theorem rs_impl_all_impl_Want_1 : resSlots Tryz.prog Tryz.f279 = some [.s 3] := by kernel_rfl
theorem ok_impl_all_impl_Want_1 (x : Want) (D : Want → Prop) (g : Want → Bool) (hx : D x) :
    FnOK Tryz.prog 279 [.agg (x.cells.map .d), .one (.ptr [.fv false (fcAgg D Want.cells g)])] (fun ra _ => ra = [.one (.d (.sc (.bool (!g x))))]) := by
  refine FnOK.ofK Tryz.func279 (by kernel_rfl) dg_impl_all_impl_Want_1 rs_impl_all_impl_Want_1 rfl rfl ?_
  delta c_impl_all_impl_Want_1 T.o X.i C.g
  refine Kbc (kBox Y Y Y Y Y (Ka Y (Kdb (Kc (kLoadC Y Y (Ke Y Y Y ?_))))))
  refine kCallv Y ⟨x, hx, rfl, rfl⟩ ⟨⟨⟨Y, Y, Y, Y, Y, Y, Y, Y, Y, trivial⟩, leb⟩, trivial⟩ (.inr ?_) rfl ?_ rfl ?_
  · rintro _ rfl; rfl
  · rintro _ rfl; exact leb
  rintro _ rfl
  refine Kw Y Y (Ka Y (Kd (Kr (Er (ra := [.one (.d _)]) rfl rfl))))

def c_slices_IndexFunc_Limpl_Want_impl_Want : C := (.g (.o 0 4 (.mov (.i 0)) .done) (.seq (.g (.o 0 6 (.mov (.t 0)) (.o 1 7 (.len (.t 6)) (.o 2 8 (.mov (.i 0)) .done))) (.block 0 (.loop (.g (.o 0 9 (.bin .lss (.t 8) (.t 7)) .done) (.seq (.cond (.t 9) .skip (.exit 0)) (.seq (.block 1 (.g (.o 0 10 (.mov (.t 8)) (.o 1 5 (.mov (.t 10)) .done)) (.g (.o 0 11 (.mov (.t 1)) (.o 1 12 (.mov (.t 0)) (.o 2 13 (.mov (.t 5)) (.o 3 14 (.iad 9 (.t 12) (.t 13)) (.o 4 15 (.load (some 9) (.t 14)) (.o 5 16 (.callv 16 (.t 11) [(.t 15)]) .done)))))) (.cond (.t 16) (.g (.o 0 17 (.mov (.t 5)) (.o 1 4 (.mov (.t 17)) .done)) .ret) .skip)))) (.reg false (.o 0 18 (.bin .add (.t 8) (.i 1)) (.o 1 8 (.mov (.t 18)) .done))))))))) (.g (.o 0 4 (.mov (.i (-1))) .done) .ret)))
theorem dg_slices_IndexFunc_Limpl_Want_impl_Want : Tryz.f327.body.bind (digC Tryz.prog Tryz.f327.ntmps []) = some c_slices_IndexFunc_Limpl_Want_impl_Want := by kernel_rfl
theorem rs_slices_IndexFunc_Limpl_Want_impl_Want : resSlots Tryz.prog Tryz.f327 = some [.s 4] := by kernel_rfl
theorem ok_slices_IndexFunc_Limpl_Want_impl_Want (l : List Want) (D : Want → Prop) (g : Want → Bool) (hl : l.length ≤ 4194304) (hD : ∀ x ∈ l, D x) :
    FnOK Tryz.prog 327 [.one (.d (encW l)), .one (.fv false (fcAgg D Want.cells g))] (fun ra _ => ra = [.one (.d (.sc (.int .i64 (idx g l))))]) := by
  refine FnOK.ofK Tryz.func327 (by kernel_rfl) dg_slices_IndexFunc_Limpl_Want_impl_Want rs_slices_IndexFunc_Limpl_Want_impl_Want rfl rfl ?_
  delta c_slices_IndexFunc_Limpl_Want_impl_Want T.o X.i C.g
  refine Kbc (Ka Y (Kdb (Kbc (Ka Y (Kq Y Y (Ka Y (Kd (Kt ?_))))))))
  refine kLoop (α := { i : Nat // i ≤ l.length ∧ ∀ x ∈ l.take i, g x = false })
    (fun y => ⟨tabSl [(0, .dv (encW l)), (1, .c (.fv false (fcAgg D Want.cells g))), (7, .i l.length), (8, .i y.1)], obTab 1 [], []⟩) (fun y => l.length - y.1) ⟨0, by simp⟩
    .normA ?_
  rintro ⟨i, hi, hg⟩
  simp only
  rcases Nat.lt_or_ge i l.length with hlt | hge
  · refine Kbc (Kj Y Y Y (Kdb (Km Y (fun g0 => Kn (Kb (Kt (Kbc (Ka Y (Ka Y (Kdb (Kc (Ka Y (Ka Y (Ka Y (kIadR Y Y Y prl (Ky Y Y ?_))))))))))))) (fun g0 => om))))
    refine kCallv Y ⟨l[i], hD _ (List.getElem_mem hlt), rfl, rfl⟩ ⟨⟨⟨Y, Y, Y, Y, Y, Y, Y, Y, Y, trivial⟩, leb⟩, trivial⟩ (.inr ?_) rfl ?_ rfl ?_
    · rintro _ rfl; rfl
    · rintro _ rfl; exact leb
    rintro _ rfl
    refine Kd (kCond Y (fun g0 => Kbc (Ka Y (Ka Y (Kd (Kr (Er (ra := [.one (.d _)]) rfl ?_)))))) (fun g0 => Kn (Kv (Kc (kAdd Y Y om (Ka Y (Kd ?_)))))))
    · have : l.findIdx? g = some i := by
        rw [List.findIdx?_eq_some_iff_getElem]
        refine ⟨hlt, by assumption, fun j hj => ?_⟩
        simpa using hg _ (by rw [List.mem_take_iff_getElem]; exact ⟨j, by omega, rfl⟩)
      simp [idx, this]
    · refine kInv ⟨⟨i + 1, hlt, ?_⟩, by simp only; omega, .normA⟩
      intro x hx
      rw [← List.take_append_getElem hlt, List.mem_append] at hx
      rcases hx with hx | hx
      · exact hg x hx
      · simp at hx; rw [hx]; assumption
  · refine Kbc (Kj Y Y Y (Kdb (Km Y (fun g0 => om) (fun g0 => kExit (kExC (kExI (kExB (Kbc (Ka Y (Kd (Kr (Er (ra := [.one (.d _)]) rfl ?_))))))))))))
    have : l.findIdx? g = none := by
      rw [List.findIdx?_eq_none_iff]
      intro x hx
      rw [show i = l.length by omega, List.take_length] at hg
      exact hg x hx
    simp [idx, this]

def c_slices_ContainsFunc_Limpl_Want_impl_Want : C := (.g (.o 0 4 (.mov (.v (.bool false))) .done) (.g (.o 0 5 (.mov (.t 0)) (.o 1 6 (.mov (.t 1)) (.o 2 7 (.call 7 327 [(.t 5), (.t 6)]) (.o 3 8 (.bin .geq (.t 7) (.i 0)) (.o 4 4 (.mov (.t 8)) .done))))) .ret))
theorem dg_slices_ContainsFunc_Limpl_Want_impl_Want : Tryz.f278.body.bind (digC Tryz.prog Tryz.f278.ntmps []) = some c_slices_ContainsFunc_Limpl_Want_impl_Want := by kernel_rfl
theorem rs_slices_ContainsFunc_Limpl_Want_impl_Want : resSlots Tryz.prog Tryz.f278 = some [.s 4] := by kernel_rfl
theorem ok_slices_ContainsFunc_Limpl_Want_impl_Want (l : List Want) (D : Want → Prop) (g : Want → Bool) (hl : l.length ≤ 4194304) (hD : ∀ x ∈ l, D x) :
    FnOK Tryz.prog 278 [.one (.d (encW l)), .one (.fv false (fcAgg D Want.cells g))] (fun ra _ => ra = [.one (.d (.sc (.bool (l.any g))))]) := by
  refine FnOK.ofK Tryz.func278 (by kernel_rfl) dg_slices_ContainsFunc_Limpl_Want_impl_Want rs_slices_ContainsFunc_Limpl_Want_impl_Want rfl rfl ?_
  delta c_slices_ContainsFunc_Limpl_Want_impl_Want T.o X.i C.g
  refine Kbc (Ka Y (Kdb (Kc (Ka Y (Ka Y ?_)))))
  refine Ku true (ok_slices_IndexFunc_Limpl_Want_impl_Want l D g hl hD) ⟨rfl, ⟨fun h => h, fun _ _ h => h⟩, trivial⟩ rfl rfl rfl fun os => ?_
  rw [← idx_ge g l]
  refine Kj Y Y Y (Ka Y (Kd (Kr (Er (ra := [.one (.d _)]) rfl rfl))))

def c_impl_all_impl_Want : C := (.g (.o 0 3 (.box 3 (.t 1)) (.o 1 4 (.mov (.v (.bool false))) .done)) (.g (.o 0 5 (.mov (.t 0)) (.o 1 6 (.clo 279 [] [(.t 3)]) (.o 2 7 (.call 7 278 [(.t 5), (.t 6)]) (.o 3 8 (.un .not (.t 7)) (.o 4 4 (.mov (.t 8)) .done))))) .ret))
theorem dg_impl_all_impl_Want : Tryz.f219.body.bind (digC Tryz.prog Tryz.f219.ntmps []) = some c_impl_all_impl_Want := by kernel_rfl
theorem rs_impl_all_impl_Want : resSlots Tryz.prog Tryz.f219 = some [.s 4] := by kernel_rfl
theorem ok_impl_all_impl_Want (l : List Want) (D : Want → Prop) (g : Want → Bool) (hl : l.length ≤ 4194304) (hD : ∀ x ∈ l, D x) :
    FnOK Tryz.prog 219 [.one (.d (encW l)), .one (.fv false (fcAgg D Want.cells g))] (fun ra _ => ra = [.one (.d (.sc (.bool (l.all g))))]) := by
  refine FnOK.ofK Tryz.func219 (by kernel_rfl) dg_impl_all_impl_Want rs_impl_all_impl_Want rfl rfl ?_
  delta c_impl_all_impl_Want T.o X.i C.g
  refine Kbc (kBox Y Y Y Y Y (Ka Y (Kdb (Kc (Ka Y (kClo Y Y ?_))))))
  refine Ku true (ok_slices_ContainsFunc_Limpl_Want_impl_Want l D (fun x => !g x) hl hD) ⟨rfl, ⟨rfl, ⟨_, Tryz.func279, rfl, by kernel_rfl⟩, _, rfl, ?_⟩, trivial⟩ rfl rfl rfl fun os => ?_
  · rintro _ R ⟨x, hx, rfl, rfl⟩
    exact ⟨by rintro _ rfl; rfl, ok_impl_all_impl_Want_1 x D g hx⟩
  rw [List.all_eq_not_any_not]
  refine Kw Y Y (Ka Y (Kd (Kr (Er (ra := [.one (.d _)]) rfl rfl))))

def c_impl_areWants : C := (.g (.o 0 2 (.mov (.v (.bool false))) .done) (.g (.o 0 3 (.mov (.t 0)) (.o 1 4 (.len (.t 3)) (.o 2 5 (.bin .leq (.t 4) (.i 12)) (.o 3 6 (.mov (.t 5)) (.op 4 [] (some 7) (some (6, true)) false (.mov (.t 0)) (.op 5 [] (some 8) (some (6, true)) false (.call 8 219 [(.t 7), (.fn 220)]) (.o 6 9 (.pick (.t 6) (.t 8) (.v (.bool false))) (.o 7 2 (.mov (.t 9)) .done)))))))) .ret))
theorem dg_impl_areWants : Tryz.f130.body.bind (digC Tryz.prog Tryz.f130.ntmps []) = some c_impl_areWants := by kernel_rfl
theorem rs_impl_areWants : resSlots Tryz.prog Tryz.f130 = some [.s 2] := by kernel_rfl
theorem ok_impl_areWants (l : List Want) (hs : SmallWs l) :
    FnOK Tryz.prog 130 [.one (.d (encW l))] (fun ra _ => ra = [.one (.d (.sc (.bool (wantsOk l))))]) := by
  refine FnOK.ofK Tryz.func130 (by kernel_rfl) dg_impl_areWants rs_impl_areWants rfl rfl ?_
  delta c_impl_areWants T.o X.i C.g
  have h1 := hs.len
  refine Kbc (Ka Y (Kdb (Kc (Ka Y (Kq Y Y (Kj Y Y Y (Ka Y (kGP Y (fun g0 => Ki Y (Ka Y (Ki Y ?_))) (fun g0 => Kg Y (Kg Y (Kl Y (Ka Y (Ka Y (Kd (Kr (Er (ra := [.one (.d _)]) rfl ?_))))))))))))))))
  · refine Kp (ok_impl_all_impl_Want l SmallW wantOk h1 hs.mem) ⟨rfl, ⟨rfl, rfl, ⟨_, Tryz.func220, rfl, by kernel_rfl⟩, ?_⟩, trivial⟩ Y Y Y Y Y ?_
    · rintro _ R ⟨x, h, rfl, rfl⟩
      exact ok_impl_WantOk x h
    refine Kk Y (Ka Y (Ka Y (Kd (Kr (Er (ra := [.one (.d _)]) rfl ?_)))))
    rw [show wantsOk l = l.all wantOk by simp only [wantsOk]; rw [decide_eq_true (by omega)]; rfl]
  · rw [show wantsOk l = false by simp only [wantsOk]; rw [decide_eq_false (by omega)]; rfl]

def c_impl_Prereqs : C := (.g (.o 0 2 (.box 2 (.t 0)) (.o 1 4 (.mov (.i 0)) .done)) (.seq (.g (.o 0 17 (.load (some 2) (.t 2)) (.o 1 18 (.call 18 70 [(.t 17)]) (.o 2 19 (.un .not (.t 18)) (.o 3 20 (.mov (.t 19)) (.op 4 [] (some 21) (some (20, false)) false (.mov (.t 1)) (.op 5 [] (some 22) (some (20, false)) false (.call 22 130 [(.t 21)]) (.op 6 [] (some 23) (some (20, false)) false (.un .not (.t 22)) (.o 7 24 (.pick (.t 20) (.v (.bool true)) (.t 23)) .done)))))))) (.cond (.t 24) (.g (.o 0 4 (.mov (.i 1)) .done) .ret) .skip)) (.seq (.g (.o 0 25 (.mov (.t 1)) (.o 1 26 (.len (.t 25)) (.o 2 27 (.mov (.i 0)) .done))) (.block 0 (.loop (.g (.o 0 28 (.bin .lss (.t 27) (.t 26)) .done) (.seq (.cond (.t 28) .skip (.exit 0)) (.seq (.block 1 (.g (.o 0 29 (.iad 9 (.t 25) (.t 27)) (.o 1 30 (.load (some 9) (.t 29)) (.o 2 6 (.alloc 6 [(.n 1), (.i 0), (.i 0), (.i 0), (.n 1), (.n 1), (.n 1), (.i 0), (.v (.bool false))]) (.op 3 [] none none false (.store (some 9) (.t 6) (.t 30)) .done)))) (.seq (.reg true (.op 0 [] (some 31) none true (.fad (.t 6) 0) (.op 1 [] (some 32) none true (.fad (.t 31) 0) (.op 2 [] (some 33) none true (.load (some 1) (.t 32)) (.op 3 [] (some 34) none true (.fad (.t 6) 0) (.op 4 [] (some 35) none true (.fad (.t 34) 1) (.op 5 [] (some 36) none true (.load none (.t 35)) (.o 6 7 (.alloc 7 [(.n 1)]) (.op 7 [2] none none false (.store (some 1) (.t 7) (.t 33)) (.op 8 [] (some 8) none true (.mov (.t 36)) .done)))))))))) (.g (.o 0 37 (.load (some 2) (.t 2)) (.o 1 38 (.load (some 1) (.t 7)) (.o 2 39 (.mov (.t 8)) (.o 3 40 (.call 40 82 [(.t 37), (.t 38), (.t 39)]) (.o 4 41 (.len (.t 40)) (.o 5 42 (.bin .eql (.t 41) (.i 0)) (.o 6 9 (.mov (.t 42)) .done))))))) (.block 2 (.g (.o 0 44 (.load (some 1) (.t 7)) (.o 1 45 (.fad (.t 2) 0) (.o 2 46 (.load (some 1) (.t 45)) (.o 3 47 (.call 47 123 [(.t 44), (.t 46)]) (.o 4 48 (.un .not (.t 47)) (.o 5 43 (.mov (.t 48)) .done)))))) (.cond (.t 43) (.g (.o 0 4 (.mov (.i 10)) .done) .ret) (.g (.o 0 50 (.fad (.t 6) 8) (.o 1 51 (.load none (.t 50)) (.o 2 52 (.un .not (.t 51)) (.o 3 53 (.mov (.t 52)) (.op 4 [] (some 54) (some (53, true)) false (.fad (.t 6) 0) (.op 5 [] (some 55) (some (53, true)) false (.fad (.t 54) 2) (.op 6 [] (some 56) (some (53, true)) false (.load none (.t 55)) (.op 7 [] (some 57) (some (53, true)) false (.bin .gtr (.t 56) (.i 0)) (.op 8 [] (some 58) (some (53, true)) false (.mov (.t 57)) (.op 9 [] (some 59) (some (58, false)) false (.fad (.t 6) 7) (.op 10 [] (some 60) (some (58, false)) false (.load none (.t 59)) (.op 11 [] (some 61) (some (58, false)) false (.bin .neq (.t 60) (.i 1)) (.op 12 [] (some 62) (some (53, true)) false (.pick (.t 58) (.v (.bool true)) (.t 61)) (.o 13 63 (.pick (.t 53) (.t 62) (.v (.bool false))) (.o 14 49 (.mov (.t 63)) .done))))))))))))))) (.cond (.t 49) (.g (.o 0 4 (.mov (.i 1)) .done) .ret) (.g (.o 0 65 (.fad (.t 6) 8) (.o 1 66 (.load none (.t 65)) (.o 2 67 (.un .not (.t 66)) (.o 3 64 (.mov (.t 67)) .done)))) (.cond (.t 64) .skip (.g (.o 0 69 (.fad (.t 6) 7) (.o 1 70 (.load none (.t 69)) (.o 2 71 (.bin .eql (.t 70) (.i 255)) (.o 3 72 (.mov (.t 71)) (.op 4 [] (some 73) (some (72, true)) false (.mov (.t 9)) (.o 5 74 (.pick (.t 72) (.t 73) (.v (.bool false))) (.o 6 75 (.mov (.t 74)) (.op 7 [] (some 76) (some (75, true)) false (.mov (.t 8)) (.op 8 [] (some 77) (some (75, true)) false (.bin .eql (.t 76) (.i 255)) (.o 9 78 (.pick (.t 75) (.t 77) (.v (.bool false))) (.o 10 68 (.mov (.t 78)) .done))))))))))) (.cond (.t 68) (.g (.o 0 4 (.mov (.i 3)) .done) .ret) (.g (.o 0 80 (.fad (.t 6) 7) (.o 1 81 (.load none (.t 80)) (.o 2 82 (.bin .eql (.t 81) (.i 255)) (.o 3 83 (.mov (.t 82)) (.op 4 [] (some 84) (some (83, true)) false (.mov (.t 9)) (.o 5 85 (.pick (.t 83) (.t 84) (.v (.bool false))) (.o 6 79 (.mov (.t 85)) .done))))))) (.cond (.t 79) (.g (.o 0 4 (.mov (.i 8)) .done) .ret) (.g (.o 0 87 (.fad (.t 6) 7) (.o 1 88 (.load none (.t 87)) (.o 2 89 (.bin .eql (.t 88) (.i 254)) (.o 3 90 (.mov (.t 89)) (.op 4 [] (some 91) (some (90, true)) false (.mov (.t 9)) (.op 5 [] (some 92) (some (90, true)) false (.un .not (.t 91)) (.o 6 93 (.pick (.t 90) (.t 92) (.v (.bool false))) (.o 7 94 (.mov (.t 93)) (.op 8 [] (some 95) (some (94, true)) false (.mov (.t 8)) (.op 9 [] (some 96) (some (94, true)) false (.bin .eql (.t 95) (.i 255)) (.o 10 97 (.pick (.t 94) (.t 96) (.v (.bool false))) (.o 11 86 (.mov (.t 97)) .done)))))))))))) (.cond (.t 86) (.g (.o 0 4 (.mov (.i 6)) .done) .ret) (.g (.o 0 99 (.fad (.t 6) 7) (.o 1 100 (.load none (.t 99)) (.o 2 101 (.bin .eql (.t 100) (.i 254)) (.o 3 102 (.mov (.t 101)) (.op 4 [] (some 103) (some (102, true)) false (.mov (.t 9)) (.op 5 [] (some 104) (some (102, true)) false (.un .not (.t 103)) (.o 6 105 (.pick (.t 102) (.t 104) (.v (.bool false))) (.o 7 98 (.mov (.t 105)) .done)))))))) (.cond (.t 98) (.g (.o 0 4 (.mov (.i 7)) .done) .ret) .skip))))))))))))))))))) (.reg false (.o 0 106 (.bin .add (.t 27) (.i 1)) (.o 1 27 (.mov (.t 106)) .done))))))))) (.seq (.g (.o 0 107 (.mov (.t 1)) (.o 1 108 (.len (.t 107)) (.o 2 109 (.mov (.i 0)) .done))) (.block 3 (.loop (.g (.o 0 110 (.bin .lss (.t 109) (.t 108)) .done) (.seq (.cond (.t 110) .skip (.exit 3)) (.seq (.block 4 (.g (.o 0 111 (.iad 9 (.t 107) (.t 109)) (.o 1 112 (.load (some 9) (.t 111)) (.o 2 11 (.alloc 11 [(.n 1), (.i 0), (.i 0), (.i 0), (.n 1), (.n 1), (.n 1), (.i 0), (.v (.bool false))]) (.op 3 [] none none false (.store (some 9) (.t 11) (.t 112)) .done)))) (.seq (.g (.o 0 113 (.fad (.t 11) 8) (.o 1 114 (.load none (.t 113)) .done)) (.cond (.t 114) (.exit 4) .skip)) (.seq (.reg true (.op 0 [] (some 115) none true (.fad (.t 11) 0) (.op 1 [] (some 116) none true (.fad (.t 115) 0) (.op 2 [] (some 117) none true (.load (some 1) (.t 116)) (.op 3 [] (some 118) none true (.fad (.t 11) 0) (.op 4 [] (some 119) none true (.fad (.t 118) 1) (.op 5 [] (some 120) none true (.load none (.t 119)) (.o 6 12 (.alloc 12 [(.n 1)]) (.op 7 [2] none none false (.store (some 1) (.t 12) (.t 117)) (.op 8 [] (some 13) none true (.mov (.t 120)) .done)))))))))) (.g (.o 0 121 (.lit 121 7 [(.n 1), (.i 0), (.i 0), (.i 0), (.n 1), (.n 1), (.n 1)] 0 []) (.o 1 14 (.mov (.t 121)) .done)) (.seq (.g (.o 0 122 (.mov (.t 1)) (.o 1 123 (.len (.t 122)) (.o 2 124 (.mov (.i 0)) .done))) (.block 5 (.loop (.g (.o 0 125 (.bin .lss (.t 124) (.t 123)) .done) (.seq (.cond (.t 125) .skip (.exit 5)) (.seq (.block 6 (.g (.o 0 126 (.iad 9 (.t 122) (.t 124)) (.o 1 127 (.load (some 9) (.t 126)) (.o 2 16 (.alloc 16 [(.n 1), (.i 0), (.i 0), (.i 0), (.n 1), (.n 1), (.n 1), (.i 0), (.v (.bool false))]) (.op 3 [] none none false (.store (some 9) (.t 16) (.t 127)) .done)))) (.g (.o 0 128 (.fad (.t 16) 8) (.o 1 129 (.load none (.t 128)) (.o 2 130 (.un .not (.t 129)) (.o 3 131 (.mov (.t 130)) (.op 4 [] (some 132) (some (131, true)) false (.fad (.t 16) 0) (.op 5 [] (some 133) (some (131, true)) false (.fad (.t 132) 1) (.op 6 [] (some 134) (some (131, true)) false (.load none (.t 133)) (.op 7 [] (some 135) (some (131, true)) false (.mov (.t 13)) (.op 8 [] (some 136) (some (131, true)) false (.bin .eql (.t 134) (.t 135)) (.o 9 137 (.pick (.t 131) (.t 136) (.v (.bool false))) (.o 10 138 (.mov (.t 137)) (.op 11 [] (some 139) (some (138, true)) false (.fad (.t 16) 0) (.op 12 [] (some 140) (some (138, true)) false (.fad (.t 139) 0) (.op 13 [] (some 141) (some (138, true)) false (.load (some 1) (.t 140)) (.op 14 [] (some 142) (some (138, true)) false (.load (some 1) (.t 12)) (.op 15 [] (some 143) (some (138, true)) false (.call 143 131 [(.t 141), (.t 142)]) (.o 16 144 (.pick (.t 138) (.t 143) (.v (.bool false))) .done))))))))))))))))) (.cond (.t 144) (.reg false (.o 0 145 (.mov (.t 14)) (.o 1 146 (.fad (.t 16) 0) (.o 2 147 (.load (some 7) (.t 146)) (.o 3 148 (.lit 148 7 [(.n 1), (.i 0), (.i 0), (.i 0), (.n 1), (.n 1), (.n 1)] 1 [(0, 7, (.t 147))]) (.o 4 149 (.app 149 7 120 (.t 145) (.t 148)) (.o 5 14 (.mov (.t 149)) .done))))))) .skip)))) (.reg false (.o 0 150 (.bin .add (.t 124) (.i 1)) (.o 1 124 (.mov (.t 150)) .done))))))))) (.g (.o 0 151 (.mov (.t 14)) (.o 1 152 (.call 152 132 [(.t 151), (.fn 133)]) .done)) (.g (.o 0 153 (.mov (.t 14)) (.o 1 154 (.call 154 134 [(.t 153), (.fn 135)]) (.o 2 14 (.mov (.t 154)) .done))) (.g (.o 0 155 (.mov (.t 14)) (.o 1 156 (.load (some 2) (.t 2)) (.o 2 157 (.load (some 1) (.t 12)) (.o 3 158 (.mov (.t 13)) (.o 4 159 (.call 159 82 [(.t 156), (.t 157), (.t 158)]) (.o 5 160 (.call 160 136 [(.t 155), (.t 159), (.fn 135)]) (.o 6 161 (.un .not (.t 160)) .done))))))) (.cond (.t 161) (.g (.o 0 4 (.mov (.i 8)) .done) .ret) .skip)))))))))) (.reg false (.o 0 162 (.bin .add (.t 109) (.i 1)) (.o 1 109 (.mov (.t 162)) .done))))))))) (.g (.o 0 4 (.mov (.i 0)) .done) .ret)))))
theorem dg_impl_Prereqs : Tryz.f50.body.bind (digC Tryz.prog Tryz.f50.ntmps []) = some c_impl_Prereqs := by kernel_rfl
theorem rs_impl_Prereqs : resSlots Tryz.prog Tryz.f50 = some [.s 4] := by kernel_rfl
theorem ok_impl_Prereqs0 (z : Zone) (l : List Want) (hz : SmallZ z) (h : zoneOk z = false) :
    FnOK Tryz.prog 50 [.agg (z.cells.map .d), .one (.d (encW l))] (fun ra _ => ra = [.one (.d (.sc (.int .i64 1)))]) := by
  refine FnOK.ofK Tryz.func50 (by kernel_rfl) dg_impl_Prereqs rs_impl_Prereqs rfl rfl ?_
  delta c_impl_Prereqs T.o X.i C.g
  refine Kbc (kBox Y Y Y Y Y (Ka Y (Kdb (Kbc (Ke Y Y Y (Kp (ok_impl_ZoneOk _ prx) ⟨⟨⟨Y, Y, trivial⟩, leb⟩, trivial⟩ Y Y Y Y Y (Kw Y Y (Ka Y (kGN Y (fun g0 => Kg Y (Kg Y (Kg Y (Kk Y (Ka Y (Kd (kCondT Y (Kbc (Ka Y (Kd (Kr (Er (ra := [.one (.d _)]) rfl rfl)))))))))))) (fun g0 => (by (simp [*] at g0))))))))))))
theorem ok_impl_PrereqsN (z : Zone) (hz : zoneOk z = true) :
    FnOK Tryz.prog 50 [.agg (z.cells.map .d), .one (.d (encW []))] (fun ra _ => ra = [.one (.d (.sc (.int .i64 0)))]) := by
  refine FnOK.ofK Tryz.func50 (by kernel_rfl) dg_impl_Prereqs rs_impl_Prereqs rfl rfl ?_
  delta c_impl_Prereqs T.o X.i C.g
  have hsz := zoneOk_small hz
  have hw : SmallWs ([] : List Want) := ⟨Nat.zero_le _, nofun⟩
  refine Kbc (kBox Y Y Y Y Y (Ka Y (Kdb (Kbc (Ke Y Y Y (Kp (ok_impl_ZoneOk _ prx) ⟨⟨⟨Y, Y, trivial⟩, leb⟩, trivial⟩ Y Y Y Y Y (Kw Y Y (Ka Y (kGN Y (fun g0 => (by (simp [*] at g0))) (fun g0 => Ki Y (Ka Y (Ki Y (Kp (ok_impl_areWants _ prx) ⟨Y, trivial⟩ Y Y Y Y Y (Ki Y (Kw Y Y (Kl Y (Ka Y (Kd (kCondF Y (Kn (Kb (Kbc (Ka Y (kLen0 Y (Ka Y (Kd (Kt ?_)))))))))))))))))))))))))))
  refine kLoop (α := Unit) (fun _ => ⟨tabSl [(1, .dv (encW [])), (2, .c (.ptr (rid 2 0) 1 0)), (25, .dv (encW [])), (26, .i 0), (27, .i 0)], obTab 1 [(rid 2 0, ⟨1, 0, .box (z.cells.map .d)⟩)], []⟩) (fun _ => 0) () .normA ?_
  rintro ⟨⟩
  refine Kbc (Kj Y Y Y (Kdb (kCondF Y (kExit (kExC (kExI (kExB (Kb (Kbc (Ka Y (kLen0 Y (Ka Y (Kd (Kt ?_))))))))))))))
  refine kLoop (α := Unit) (fun _ => ⟨tabSl [(107, .dv (encW [])), (108, .i 0), (109, .i 0)], obTab 1 [(rid 2 0, ⟨1, 0, .box (z.cells.map .d)⟩)], []⟩) (fun _ => 0) () .normA ?_
  rintro ⟨⟩
  refine Kbc (Kj Y Y Y (Kdb (kCondF Y (kExit (kExC (kExI (kExB (Kbc (Ka Y (Kd (Kr (Er (ra := [.one (.d _)]) rfl rfl))))))))))))
theorem ok_impl_Prereqs1 (z : Zone) (w : Want) (hz : zoneOk z = true) (hw : wantOk w = true) (hb : w.bare = true) :
    FnOK Tryz.prog 50 [.agg (z.cells.map .d), .one (.d (encW [w]))] (fun ra _ => ra = [.one (.d (.sc (.int .i64 (pre1 z w))))]) := by
  refine FnOK.ofK Tryz.func50 (by kernel_rfl) dg_impl_Prereqs rs_impl_Prereqs rfl rfl ?_
  delta c_impl_Prereqs T.o X.i C.g
  have hsz := zoneOk_small hz
  have hn := (want_bare hw hb).1
  have hsn := SmallBB.ok hn
  have hw1 : wantsOk [w] = true := by simp [wantsOk, hw]
  have hw2 : SmallWs [w] := ⟨leb, fun x hx => by simp only [List.mem_singleton] at hx; rw [hx]; exact want_small hw⟩
  have hzo := hsz.o.len
  have hsl : (setOf z.rrs w.rr.name w.rr.ty).length ≤ z.rrs.length := List.length_filter_le _ _
  have hzl := hsz.r.len
  refine Kbc (kBox Y Y Y Y Y (Ka Y (Kdb (Kbc (Ke Y Y Y (Kp (ok_impl_ZoneOk _ prx) ⟨⟨⟨Y, Y, trivial⟩, leb⟩, trivial⟩ Y Y Y Y Y (Kw Y Y (Ka Y (kGN Y (fun g0 => (by (simp [*] at g0))) (fun g0 => Ki Y (Ka Y (Ki Y (Kp (ok_impl_areWants _ prx) ⟨Y, trivial⟩ Y Y Y Y Y (Ki Y (Kw Y Y (Kl Y (Ka Y (Kd (kCondN Y (fun g1 => (by (simp [*] at g1))) (fun g1 => Kn (Kb (Kbc (Ka Y (Kq Y Y (Ka Y (Kd (Kt ?_)))))))))))))))))))))))))))
  refine kLoop (α := { i : Nat // i ≤ 1 ∧ (i = 1 → pre1 z w = 0) }) (fun y => ⟨tabSl [(1, .dv (encW [w])), (2, .c (.ptr (rid 2 0) 1 0)), (25, .dv (encW [w])), (26, .i 1), (27, .i y.1)], obTab 1 [(rid 2 0, ⟨1, 0, .box (z.cells.map .d)⟩)], []⟩) (fun y => 1 - y.1) ⟨0, by omega, by omega⟩ .normA ?_
  rintro ⟨i, hi, hp⟩
  simp only
  rcases Nat.lt_or_ge i 1 with hlt | hge
  · have h0 : i = 0 := by omega
    subst h0
    clear hp
    unfold pre1
    cases hu : underN w.rr.name z.origin
    · rw [if_pos rfl]
      refine Kbc (Kj Y Y Y (Kdb (kCondT Y (Kn (Kb (Kt (Kbc (kIadR Y Y Y prl (Ky Y Y (kAlloc Y Y (kMem [(28672, ⟨2, 0, .box [.nil 1, .d _, .d _, .d _, .nil 1, .nil 1, .nil 1, .d _, .d _]⟩)] [(6, .c (.ptr 28672 2 0)), (30, .g [.d _, .d _, .d _, .d _, .d _, .d _, .d _, .d _, .d _])] [] ⟨Y, trivial⟩ ⟨Y, Y, trivial⟩ Y (Ko Y Y Y Y (Kdb (kRegD (Kf Y Y (Kf Y Y (Ke Y Y Y (Kf Y Y (Kf Y Y (Ke Y Y Y (kAlloc Y Y (kMem [(32768, ⟨2, 0, .box [.nil 1]⟩)] [(7, .c (.ptr 32768 2 0)), (33, .g [.d _]), (36, .c (.d _))] [28672, 28672] ⟨Y, trivial⟩ ⟨Y, Y, Y, trivial⟩ Y (Kx Y Y (Ko Y Y Y Y (Ka Y (Kd (kH (Kbc (Ke Y Y Y (Ke Y Y Y (Ka Y (kCallD2 (ok_impl_Zone_set _ _ _ prx prx) ⟨⟨⟨Y, Y, trivial⟩, leb⟩, ⟨⟨Y, trivial⟩, leb⟩, rfl, trivial⟩ Y Y Y Y (Kq Y Y (Kj Y Y Y (Ka Y (Kd (Kt (Kbc (Ke Y Y Y (Kf Y Y (kMem [(12288, ⟨1, 0, .box [.d _, .d _]⟩)] [(45, .c (.ptr 12288 1 0)), (44, .g [.d _])] [] ⟨Y, trivial⟩ ⟨Y, Y, trivial⟩ Y (Ke Y Y Y (Kp (ok_impl_Name_under _ _ prx prx) ⟨⟨⟨Y, trivial⟩, leb⟩, ⟨⟨Y, trivial⟩, leb⟩, trivial⟩ Y Y Y Y Y (Kw Y Y (Ka Y (Kd (kCondN Y (fun g0 => Kbc (Ka Y (Kd (Kr (Er (ra := [.one (.d _)]) rfl rfl))))) (fun g0 => (by (simp [*] at g0))))))))))))))))))))))))))))))))))))))))))))))))))
    rw [if_neg (by simp)]
    by_cases he : (setOf z.rrs w.rr.name w.rr.ty).length = 0
    · rw [if_pos he]
      refine Kbc (Kj Y Y Y (Kdb (kCondT Y (Kn (Kb (Kt (Kbc (kIadR Y Y Y prl (Ky Y Y (kAlloc Y Y (kMem [(28672, ⟨2, 0, .box [.nil 1, .d _, .d _, .d _, .nil 1, .nil 1, .nil 1, .d _, .d _]⟩)] [(6, .c (.ptr 28672 2 0)), (30, .g [.d _, .d _, .d _, .d _, .d _, .d _, .d _, .d _, .d _])] [] ⟨Y, trivial⟩ ⟨Y, Y, trivial⟩ Y (Ko Y Y Y Y (Kdb (kRegD (Kf Y Y (Kf Y Y (Ke Y Y Y (Kf Y Y (Kf Y Y (Ke Y Y Y (kAlloc Y Y (kMem [(32768, ⟨2, 0, .box [.nil 1]⟩)] [(7, .c (.ptr 32768 2 0)), (33, .g [.d _]), (36, .c (.d _))] [28672, 28672] ⟨Y, trivial⟩ ⟨Y, Y, Y, trivial⟩ Y (Kx Y Y (Ko Y Y Y Y (Ka Y (Kd (kH (Kbc (Ke Y Y Y (Ke Y Y Y (Ka Y (kCallD2 (ok_impl_Zone_set _ _ _ prx prx) ⟨⟨⟨Y, Y, trivial⟩, leb⟩, ⟨⟨Y, trivial⟩, leb⟩, rfl, trivial⟩ Y Y Y Y (Kq Y Y (Kj Y Y Y (Ka Y (Kd (Kt (Kbc (Ke Y Y Y (Kf Y Y (kMem [(12288, ⟨1, 0, .box [.d _, .d _]⟩)] [(45, .c (.ptr 12288 1 0)), (44, .g [.d _])] [] ⟨Y, trivial⟩ ⟨Y, Y, trivial⟩ Y (Ke Y Y Y (Kp (ok_impl_Name_under _ _ prx prx) ⟨⟨⟨Y, trivial⟩, leb⟩, ⟨⟨Y, trivial⟩, leb⟩, trivial⟩ Y Y Y Y Y (Kw Y Y (Ka Y (Kd (kCondN Y (fun g0 => (by (simp [*] at g0))) (fun g0 => Kbc (Kf Y Y (Ke Y Y Y (Kw Y Y (Ka Y (kGN Y (fun g1 => (by (simp [*] at g1))) (fun g1 => Kg Y (kMem [(28672, ⟨2, 0, .box [.d _, .d _, .d _, .d _, .d _, .d _, .d _, .d _, .d _]⟩)] [(54, .c (.un)), (6, .c (.ptr 28672 2 0)), (53, .c (.d _))] [] ⟨Y, trivial⟩ ⟨Y, Y, Y, trivial⟩ Y (Kg Y (Kg Y (Kg Y (Kg Y (kGU Y (kGU Y (kGU Y (Kg Y (Kl Y (Ka Y (Ka Y (Kd (kCondF Y (Kbc (Kf Y Y (Ke Y Y Y (Kw Y Y (Ka Y (Kd (kCondN Y (fun g2 => (by (simp [*] at g2))) (fun g2 => Kbc (kMem [(28672, ⟨2, 0, .box [.d _, .d _, .d _, .d _, .d _, .d _, .d _, .d _, .d _]⟩)] [(6, .c (.ptr 28672 2 0)), (9, .c (.d _)), (8, .c (.d _))] [] ⟨Y, trivial⟩ ⟨Y, Y, Y, trivial⟩ Y (Kf Y Y (Ke Y Y Y (Kj Y Y Y (Ka Y (kGP Y (fun g3 => Ki Y (Ka Y (Kk Y (Ka Y (Ka Y (kGP Y (fun g4 => Ki Y (Ka Y (Ki Y (Kj Y Y Y (Kk Y (Ka Y (Ka Y (Kd (Km Y (fun g5 => Kbc (Ka Y (Kd (Kr (Er (ra := [.one (.d _)]) rfl ?_))))) (fun g5 => Kbc (kMem [(28672, ⟨2, 0, .box [.d _, .d _, .d _, .d _, .d _, .d _, .d _, .d _, .d _]⟩)] [(6, .c (.ptr 28672 2 0)), (9, .c (.d _))] [] ⟨Y, trivial⟩ ⟨Y, Y, trivial⟩ Y (Kf Y Y (Ke Y Y Y (Kj Y Y Y (Ka Y (kGP Y (fun g6 => Ki Y (Ka Y (Kk Y (Ka Y (Ka Y (Kd (Km Y (fun g7 => Kbc (Ka Y (Kd (Kr (Er (ra := [.one (.d _)]) rfl ?_))))) (fun g7 => om)))))))) (fun g6 => om))))))))))))))))) (fun g4 => (by (simp [*] at g4))))))))) (fun g3 => Kg Y (Kl Y (Ka Y (Ka Y (Kg Y (Kg Y (Kl Y (Ka Y (Ka Y (Kd (kCondF Y (Kbc (kMem [(28672, ⟨2, 0, .box [.d _, .d _, .d _, .d _, .d _, .d _, .d _, .d _, .d _]⟩)] [(6, .c (.ptr 28672 2 0)), (9, .c (.d _))] [] ⟨Y, trivial⟩ ⟨Y, Y, trivial⟩ Y (Kf Y Y (Ke Y Y Y (Kj Y Y Y (Ka Y (kGP Y (fun g8 => om) (fun g8 => Kg Y (Kl Y (Ka Y (Ka Y (Kd (kCondF Y (Kbc (Kf Y Y (Ke Y Y Y (Kj Y Y Y (Ka Y (kGP Y (fun g9 => Ki Y (Ka Y (Ki Y (Kw Y Y (Kk Y (Ka Y (Ka Y (kGIN Y (fun g10 => (by (simp [*] at g10))) (fun g10 => Kg Y (Kg Y (Kl Y (Ka Y (Ka Y (Kd (kCondF Y (Kbc (kMem [(28672, ⟨2, 0, .box [.d _, .d _, .d _, .d _, .d _, .d _, .d _, .d _, .d _]⟩)] [(6, .c (.ptr 28672 2 0)), (9, .c (.d _))] [] ⟨Y, trivial⟩ ⟨Y, Y, trivial⟩ Y (Kf Y Y (Ke Y Y Y (Kj Y Y Y (Ka Y (kGP Y (fun g11 => Ki Y (Ka Y (Ki Y (Kw Y Y (Kk Y (Ka Y (Ka Y (Kd (kCondIN Y (fun g12 => om) (fun g12 => Kn (Kv (Kv (Kc (kAdd Y Y om (Ka Y (Kd ?_)))))))))))))))) (fun g11 => om))))))))))))))))))))))) (fun g9 => Kg Y (Kg Y (Kl Y (Ka Y (Ka Y (Kg Y (Kg Y (Kl Y (Ka Y (Ka Y (Kd (kCondF Y (Kbc (kMem [(28672, ⟨2, 0, .box [.d _, .d _, .d _, .d _, .d _, .d _, .d _, .d _, .d _]⟩)] [(6, .c (.ptr 28672 2 0)), (9, .c (.d _))] [] ⟨Y, trivial⟩ ⟨Y, Y, trivial⟩ Y (Kf Y Y (Ke Y Y Y (Kj Y Y Y (Ka Y (kGP Y (fun g13 => om) (fun g13 => Kg Y (Kg Y (Kl Y (Ka Y (Ka Y (Kd (kCondF Y (Kn (Kv (Kv (Kc (kAdd Y Y om (Ka Y (Kd ?_)))))))))))))))))))))))))))))))))))))))))))))))))))))))))))))))))))))))))))))))))))))))))))))))))))))))))))))))))))))))))))))))))))))))))))))))))
      all_goals first
        | (refine congrArg (fun z : Int => [RA.one (RV.d (DV.sc (Value.int IntKind.i64 z)))]) ?_; simp_all; done)
        | (refine kInv ⟨⟨1, by omega, fun _ => ?_⟩, by simp, .normA⟩; have hcc := want_bare_cls hw hb; simp_all; done)
    · rw [if_neg he]
      refine Kbc (Kj Y Y Y (Kdb (kCondT Y (Kn (Kb (Kt (Kbc (kIadR Y Y Y prl (Ky Y Y (kAlloc Y Y (kMem [(28672, ⟨2, 0, .box [.nil 1, .d _, .d _, .d _, .nil 1, .nil 1, .nil 1, .d _, .d _]⟩)] [(6, .c (.ptr 28672 2 0)), (30, .g [.d _, .d _, .d _, .d _, .d _, .d _, .d _, .d _, .d _])] [] ⟨Y, trivial⟩ ⟨Y, Y, trivial⟩ Y (Ko Y Y Y Y (Kdb (kRegD (Kf Y Y (Kf Y Y (Ke Y Y Y (Kf Y Y (Kf Y Y (Ke Y Y Y (kAlloc Y Y (kMem [(32768, ⟨2, 0, .box [.nil 1]⟩)] [(7, .c (.ptr 32768 2 0)), (33, .g [.d _]), (36, .c (.d _))] [28672, 28672] ⟨Y, trivial⟩ ⟨Y, Y, Y, trivial⟩ Y (Kx Y Y (Ko Y Y Y Y (Ka Y (Kd (kH (Kbc (Ke Y Y Y (Ke Y Y Y (Ka Y (kCallD2 (ok_impl_Zone_set _ _ _ prx prx) ⟨⟨⟨Y, Y, trivial⟩, leb⟩, ⟨⟨Y, trivial⟩, leb⟩, rfl, trivial⟩ Y Y Y Y (Kq Y Y (Kj Y Y Y (Ka Y (Kd (Kt (Kbc (Ke Y Y Y (Kf Y Y (kMem [(12288, ⟨1, 0, .box [.d _, .d _]⟩)] [(45, .c (.ptr 12288 1 0)), (44, .g [.d _])] [] ⟨Y, trivial⟩ ⟨Y, Y, trivial⟩ Y (Ke Y Y Y (Kp (ok_impl_Name_under _ _ prx prx) ⟨⟨⟨Y, trivial⟩, leb⟩, ⟨⟨Y, trivial⟩, leb⟩, trivial⟩ Y Y Y Y Y (Kw Y Y (Ka Y (Kd (kCondN Y (fun g0 => (by (simp [*] at g0))) (fun g0 => Kbc (Kf Y Y (Ke Y Y Y (Kw Y Y (Ka Y (kGN Y (fun g1 => (by (simp [*] at g1))) (fun g1 => Kg Y (kMem [(28672, ⟨2, 0, .box [.d _, .d _, .d _, .d _, .d _, .d _, .d _, .d _, .d _]⟩)] [(54, .c (.un)), (6, .c (.ptr 28672 2 0)), (53, .c (.d _))] [] ⟨Y, trivial⟩ ⟨Y, Y, Y, trivial⟩ Y (Kg Y (Kg Y (Kg Y (Kg Y (kGU Y (kGU Y (kGU Y (Kg Y (Kl Y (Ka Y (Ka Y (Kd (kCondF Y (Kbc (Kf Y Y (Ke Y Y Y (Kw Y Y (Ka Y (Kd (kCondN Y (fun g2 => (by (simp [*] at g2))) (fun g2 => Kbc (kMem [(28672, ⟨2, 0, .box [.d _, .d _, .d _, .d _, .d _, .d _, .d _, .d _, .d _]⟩)] [(6, .c (.ptr 28672 2 0)), (9, .c (.d _)), (8, .c (.d _))] [] ⟨Y, trivial⟩ ⟨Y, Y, Y, trivial⟩ Y (Kf Y Y (Ke Y Y Y (Kj Y Y Y (Ka Y (kGP Y (fun g3 => Ki Y (Ka Y (Kk Y (Ka Y (Ka Y (kGP Y (fun g4 => (by (simp [*] at g4))) (fun g4 => Kg Y (Kg Y (Kl Y (Ka Y (Ka Y (Kd (kCondF Y (Kbc (kMem [(28672, ⟨2, 0, .box [.d _, .d _, .d _, .d _, .d _, .d _, .d _, .d _, .d _]⟩)] [(6, .c (.ptr 28672 2 0)), (9, .c (.d _))] [] ⟨Y, trivial⟩ ⟨Y, Y, trivial⟩ Y (Kf Y Y (Ke Y Y Y (Kj Y Y Y (Ka Y (kGP Y (fun g5 => Ki Y (Ka Y (Kk Y (Ka Y (Ka Y (Kd (Km Y (fun g6 => om) (fun g6 => Kbc (Kf Y Y (Ke Y Y Y (Kj Y Y Y (Ka Y (kGP Y (fun g7 => om) (fun g7 => Kg Y (Kg Y (Kl Y (Ka Y (Ka Y (Kg Y (Kg Y (Kl Y (Ka Y (Ka Y (Kd (kCondF Y (Kbc (kMem [(28672, ⟨2, 0, .box [.d _, .d _, .d _, .d _, .d _, .d _, .d _, .d _, .d _]⟩)] [(6, .c (.ptr 28672 2 0)), (9, .c (.d _))] [] ⟨Y, trivial⟩ ⟨Y, Y, trivial⟩ Y (Kf Y Y (Ke Y Y Y (Kj Y Y Y (Ka Y (kGP Y (fun g8 => om) (fun g8 => Kg Y (Kg Y (Kl Y (Ka Y (Ka Y (Kd (kCondF Y (Kn (Kv (Kv (Kc (kAdd Y Y om (Ka Y (Kd ?_)))))))))))))))))))))))))))))))))))))))))))))) (fun g5 => om))))))))))))))))))))) (fun g3 => Kg Y (Kl Y (Ka Y (Ka Y (Kg Y (Kg Y (Kl Y (Ka Y (Ka Y (Kd (kCondF Y (Kbc (kMem [(28672, ⟨2, 0, .box [.d _, .d _, .d _, .d _, .d _, .d _, .d _, .d _, .d _]⟩)] [(6, .c (.ptr 28672 2 0)), (9, .c (.d _))] [] ⟨Y, trivial⟩ ⟨Y, Y, trivial⟩ Y (Kf Y Y (Ke Y Y Y (Kj Y Y Y (Ka Y (kGP Y (fun g9 => om) (fun g9 => Kg Y (Kl Y (Ka Y (Ka Y (Kd (kCondF Y (Kbc (Kf Y Y (Ke Y Y Y (Kj Y Y Y (Ka Y (kGP Y (fun g10 => Ki Y (Ka Y (Ki Y (Kw Y Y (Kk Y (Ka Y (Ka Y (kGIN Y (fun g11 => Ki Y (Ka Y (Ki Y (Kj Y Y Y (Kk Y (Ka Y (Ka Y (Kd (Km Y (fun g12 => Kbc (Ka Y (Kd (Kr (Er (ra := [.one (.d _)]) rfl ?_))))) (fun g12 => Kbc (kMem [(28672, ⟨2, 0, .box [.d _, .d _, .d _, .d _, .d _, .d _, .d _, .d _, .d _]⟩)] [(6, .c (.ptr 28672 2 0)), (9, .c (.d _))] [] ⟨Y, trivial⟩ ⟨Y, Y, trivial⟩ Y (Kf Y Y (Ke Y Y Y (Kj Y Y Y (Ka Y (kGP Y (fun g13 => Ki Y (Ka Y (Ki Y (Kw Y Y (Kk Y (Ka Y (Ka Y (Kd (kCondIN Y (fun g14 => Kbc (Ka Y (Kd (Kr (Er (ra := [.one (.d _)]) rfl ?_))))) (fun g14 => om)))))))))) (fun g13 => om))))))))))))))))) (fun g11 => (by (simp [*] at g11))))))))))) (fun g10 => Kg Y (Kg Y (Kl Y (Ka Y (Ka Y (Kg Y (Kg Y (Kl Y (Ka Y (Ka Y (Kd (kCondF Y (Kbc (kMem [(28672, ⟨2, 0, .box [.d _, .d _, .d _, .d _, .d _, .d _, .d _, .d _, .d _]⟩)] [(6, .c (.ptr 28672 2 0)), (9, .c (.d _))] [] ⟨Y, trivial⟩ ⟨Y, Y, trivial⟩ Y (Kf Y Y (Ke Y Y Y (Kj Y Y Y (Ka Y (kGP Y (fun g15 => om) (fun g15 => Kg Y (Kg Y (Kl Y (Ka Y (Ka Y (Kd (kCondF Y (Kn (Kv (Kv (Kc (kAdd Y Y om (Ka Y (Kd ?_)))))))))))))))))))))))))))))))))))))))))))))))))))))))))))))))))))))))))))))))))))))))))))))))))))))))))))))))))))))))))))))))))))))))))))))))))
      all_goals first
        | (refine congrArg (fun z : Int => [RA.one (RV.d (DV.sc (Value.int IntKind.i64 z)))]) ?_; simp_all; done)
        | (refine kInv ⟨⟨1, by omega, fun _ => ?_⟩, by simp, .normA⟩; have hcc := want_bare_cls hw hb; simp_all; done)
  · have h1 : i = 1 := by omega
    subst h1
    rw [hp rfl]
    refine Kbc (Kj Y Y Y (Kdb (kCondF Y (kExit (kExC (kExI (kExB (Kb (Kbc (Ka Y (Kq Y Y (Ka Y (Kd (Kt ?_))))))))))))))
    refine kLoop (α := { i : Nat // i ≤ 1 }) (fun y => ⟨tabSl [(107, .dv (encW [w])), (108, .i 1), (109, .i y.1)], obTab 1 [(rid 2 0, ⟨1, 0, .box (z.cells.map .d)⟩)], []⟩) (fun y => 1 - y.1) ⟨0, by omega⟩ .normA ?_
    rintro ⟨j, hj⟩
    simp only
    rcases Nat.lt_or_ge j 1 with hlt | hge
    · have h0 : j = 0 := by omega
      subst h0
      refine Kbc (Kj Y Y Y (Kdb (kCondT Y (Kn (Kb (Kt (Kbc (kIadR Y Y Y prl (Ky Y Y (kAlloc Y Y (kMem [(49152, ⟨2, 0, .box [.nil 1, .d _, .d _, .d _, .nil 1, .nil 1, .nil 1, .d _, .d _]⟩)] [(11, .c (.ptr 49152 2 0)), (112, .g [.d _, .d _, .d _, .d _, .d _, .d _, .d _, .d _, .d _])] [] ⟨Y, trivial⟩ ⟨Y, Y, trivial⟩ Y (Ko Y Y Y Y (Kdb (Kbc (Kf Y Y (Ke Y Y Y (Kd (kCond Y (fun g0 => kExit (kExC (kExB (Kc (kAdd Y Y om (Ka Y (Kd ?_))))))) (fun g0 => (by (simp [*] at g0)))))))))))))))))))))
      exact kInv ⟨⟨1, by omega⟩, by simp, .normA⟩
    · have h1 : j = 1 := by omega
      subst h1
      refine Kbc (Kj Y Y Y (Kdb (kCondF Y (kExit (kExC (kExI (kExB (Kbc (Ka Y (Kd (Kr (Er (ra := [.one (.d _)]) rfl rfl))))))))))))

def c_laws_name : C := (.g (.o 0 2 (.alloc 2 [(.n 1)]) .done) (.g (.o 0 6 (.mov (.t 0)) (.o 1 7 (.s2b (.t 6)) (.o 2 8 (.call 8 170 [(.t 7)]) (.o 3 5 (.mov (.t 8)) (.o 4 9 (.ext (.t 5) 0) (.o 5 10 (.ext (.t 5) 1) (.o 6 3 (.alloc 3 [(.n 1)]) (.op 7 [] none none false (.store (some 1) (.t 3) (.t 9)) (.o 8 4 (.mov (.t 10)) .done))))))))) (.g (.o 0 11 (.load (some 1) (.t 3)) (.op 1 [] none none false (.store (some 1) (.t 2) (.t 11)) .done)) .ret)))
theorem dg_laws_name : Tryz.f79.body.bind (digC Tryz.prog Tryz.f79.ntmps []) = some c_laws_name := by kernel_rfl
theorem rs_laws_name : resSlots Tryz.prog Tryz.f79 = some [.m 2 (some 1)] := by kernel_rfl
theorem ok_laws_name (b : ByteArray) (hb : b.size ≤ 4194303) :
    FnOK Tryz.prog 79 [.one (.d (.sc (.string b)))] (fun ra _ => ra = [.agg [.own true (encBB (readN b.toList))]]) := by
  refine FnOK.ofK Tryz.func79 (by kernel_rfl) dg_laws_name rs_laws_name rfl rfl ?_
  delta c_laws_name T.o X.i C.g
  have h : b.toList.length ≤ 4194303 := by rw [bt_len]; exact hb
  refine Kbc (kAlloc Y Y (Kdb (Kc (Ka Y (kS2b Y om (Ku true (ok_spec_NameRead _ pry) ⟨Y, trivial⟩ Y Y Y (fun _ => (kMovT Y (kExtC Y Y (kExtC Y Y (kAlloc Y Y (Ko Y Y Y Y (Ka Y (Kdb (Kc (Ke Y Y Y (Ko Y Y Y Y (Kd (Kr (Er (ra := [.agg [(.own true _)]]) rfl rfl))))))))))))))))))))

def c_impl_topRr : C := (.g (.o 0 2 (.box 2 (.t 0)) (.o 1 4 (.alloc 4 [(.n 1), (.i 0), (.i 0), (.i 0), (.n 1), (.n 1), (.n 1)]) .done)) (.g (.o 0 5 (.load (some 1) (.t 2)) (.o 1 6 (.load (some 1) (.t 2)) (.o 2 7 (.mov (.t 1)) (.o 3 8 (.lit 8 1 [(.i 0)] 2 [(0, 1, (.t 7)), (1, 1, (.i 60))]) (.o 4 9 (.build [(.n 1), (.i 0), (.i 0), (.i 0), (.n 1), (.n 1), (.n 1)] [(0, 1, (.t 5)), (1, 1, (.i 6)), (2, 1, (.i 60)), (4, 1, (.t 6)), (6, 1, (.t 8))]) (.op 5 [] none none false (.store (some 7) (.t 4) (.t 9)) .done)))))) .ret))
theorem dg_impl_topRr : Tryz.f168.body.bind (digC Tryz.prog Tryz.f168.ntmps []) = some c_impl_topRr := by kernel_rfl
theorem rs_impl_topRr : resSlots Tryz.prog Tryz.f168 = some [.m 4 (some 7)] := by kernel_rfl
theorem ok_impl_topRr (o : List (List UInt8)) (s : Int) :
    FnOK Tryz.prog 168 [.agg [.d (encBB o)], .one (.d (.sc (.int .i64 s)))] (fun ra _ => ra = [.agg [.d (encBB o), .d (.sc (.int .i64 6)), .d (.sc (.int .i64 60)), .d (.sc (.int .i64 0)), .d (encBB o), .d (.sl 1 []), .own true (encI [s, 60])]]) := by
  refine FnOK.ofK Tryz.func168 (by kernel_rfl) dg_impl_topRr rs_impl_topRr rfl rfl ?_
  delta c_impl_topRr T.o X.i C.g
  refine Kbc (kBox Y Y Y Y Y (kAlloc Y Y (Kdb (Kc (Ke Y Y Y (Ke Y Y Y (Ka Y (kLit Y Y Y Y (kBuildG Y (Ko Y Y Y Y (Kd (Kr (Er (ra := [.agg [(.d _), (.d _), (.d _), (.d _), (.d _), (.d _), (.own true _)]]) rfl rfl)))))))))))))

def c_bytes_Clone : C := (.g (.o 0 2 (.mov (.n 1)) .done) (.seq (.g (.o 0 3 (.mov (.t 0)) (.o 1 4 (.eqn false (.t 3)) .done)) (.cond (.t 4) (.g (.o 0 2 (.mov (.n 1)) .done) .ret) .skip)) (.g (.o 0 5 (.lit 5 1 [(.v (.int .u8 0))] 0 []) (.o 1 6 (.mov (.t 0)) (.o 2 7 (.app 7 1 1 (.t 5) (.t 6)) (.o 3 2 (.mov (.t 7)) .done)))) .ret)))
theorem dg_bytes_Clone : Tryz.f233.body.bind (digC Tryz.prog Tryz.f233.ntmps []) = some c_bytes_Clone := by kernel_rfl
theorem rs_bytes_Clone : resSlots Tryz.prog Tryz.f233 = some [.s 2] := by kernel_rfl
theorem ok_bytes_Clone (b : List UInt8) (hb : b.length ≤ 140737488355328) :
    FnOK Tryz.prog 233 [.one (.d (encB b))] (fun ra _ => ra = [.one (.own true (encB b))]) := by
  refine FnOK.ofK Tryz.func233 (by kernel_rfl) dg_bytes_Clone rs_bytes_Clone rfl rfl ?_
  delta c_bytes_Clone T.o X.i C.g
  refine Kbc (Ka Y (Kd ?_))
  refine Kb (Kbc (Ka Y (kEqn Y Y Y fun n hn => Kd ?_)))
  refine kCond Y (fun h => ?_) (fun h => ?_)
  · refine Kbc (Ka Y (Kd (Kr ?_)))
    refine endRet (ra := [.one (.own true (.sl 1 []))]) rfl ⟨⟨rfl, trivial⟩, nodupB_sound rfl, trivial, trivial⟩ ?_
    have : b = [] := by
      rw [len_encB] at hn
      cases b with
      | nil => rfl
      | cons x l => have := hn (by simp); simp [this] at h
    rw [this]; rfl
  · refine Kn (Kbc ?_)
    refine kLit Y Y Y Y (Ka Y ?_)
    refine kApp (cy := .d (encB b)) rfl rfl rfl (src_encB _ b) rfl rfl ⟨rfl, rfl, Nat.zero_lt_one⟩ Y ?_ (Ka Y (Kd (Kr ?_)))
    · show ((DV.sl 1 (chunk 1 0 [])).len + (encB b).len) * 1 ≤ _ ∧ _
      rw [len_encB]; simp [DV.len, chunk]; omega
    refine endRet (ra := [.one (.own true _)]) rfl ⟨⟨⟨⟨_, rfl, fun _ => rfl⟩, .inl (Nat.zero_lt_succ _)⟩, trivial⟩, nodupB_sound rfl, trivial, trivial⟩ ?_
    exact congrArg (fun x => [RA.one (RV.own true x)]) (app_nil_encB b)

def c_impl_Name_copied : C := (.g (.o 0 1 (.box 1 (.t 0)) (.o 1 2 (.alloc 2 [(.n 1)]) .done)) (.g (.o 0 6 (.build [(.n 1)] []) (.o 1 3 (.alloc 3 [(.n 1)]) (.op 2 [] none none false (.store (some 1) (.t 3) (.t 6)) .done))) (.seq (.g (.o 0 7 (.fad (.t 1) 0) (.o 1 8 (.load none (.t 7)) (.o 2 9 (.len (.t 8)) (.o 3 10 (.mov (.i 0)) .done)))) (.block 0 (.loop (.g (.o 0 11 (.bin .lss (.t 10) (.t 9)) .done) (.seq (.cond (.t 11) .skip (.exit 0)) (.seq (.block 1 (.g (.o 0 12 (.iad 1 (.t 8) (.t 10)) (.o 1 13 (.load none (.t 12)) (.o 2 5 (.mov (.t 13)) .done))) (.reg true (.op 0 [] (some 14) none true (.fad (.t 3) 0) (.op 1 [] (some 15) none true (.load none (.t 14)) (.op 2 [] (some 16) none true (.mov (.t 5)) (.o 3 17 (.call 17 233 [(.t 16)]) (.o 4 18 (.lit 18 1 [(.n 1)] 1 [(0, 1, (.t 17))]) (.op 5 [1] (some 19) none false (.app 19 1 24 (.t 15) (.t 18)) (.op 6 [] (some 20) none true (.fad (.t 3) 0) (.op 7 [1] none none false (.store none (.t 20) (.t 19)) .done))))))))))) (.reg false (.o 0 21 (.bin .add (.t 10) (.i 1)) (.o 1 10 (.mov (.t 21)) .done))))))))) (.g (.o 0 22 (.load (some 1) (.t 3)) (.op 1 [] none none false (.store (some 1) (.t 2) (.t 22)) .done)) .ret))))
theorem dg_impl_Name_copied : Tryz.f151.body.bind (digC Tryz.prog Tryz.f151.ntmps []) = some c_impl_Name_copied := by kernel_rfl
theorem rs_impl_Name_copied : resSlots Tryz.prog Tryz.f151 = some [.m 2 (some 1)] := by kernel_rfl
theorem ok_impl_Name_copied (a : List (List UInt8)) (ha : a.length ≤ 4194304) (hb : ∀ b ∈ a, b.length ≤ 4194304) :
    FnOK Tryz.prog 151 [.agg [.d (encBB a)]] (fun ra _ => ra = [.agg [.own true (encBB a)]]) := by
  refine FnOK.ofK Tryz.func151 (by kernel_rfl) dg_impl_Name_copied rs_impl_Name_copied rfl rfl ?_
  delta c_impl_Name_copied T.o X.i C.g
  refine Kbc (kBox Y Y Y Y Y (kAlloc Y Y (Kd ?_)))
  refine Kbc (kBuild Y (kAlloc Y Y (Ko Y Y Y Y (Kd ?_))))
  refine Kb (Kbc (Kf Y Y (Ke Y Y Y (kLen Y Y Y (Ka Y (Kd (Kt ?_)))))))
  rw [len_encBB]
  refine kSub (Sub.nilBox (id := rid 3 0) (id2 := rid 5000 0) (j := 0) rfl rfl rfl (by decide) (by decide)) ?_
  refine kLoop (α := { i : Nat // i ≤ a.length })
    (fun y => ⟨tabSl [(1, .c (.ptr (rid 1 0) 1 0)), (2, .c (.ptr (rid 2 0) 1 0)), (3, .c (.ptr (rid 3 0) 1 0)), (8, .dv (encBB a)), (9, .i a.length), (10, .i y.1)],
      obTab 1 [(rid 1 0, ⟨1, 0, .box [.d (encBB a)]⟩), (rid 2 0, ⟨1, 0, .box [.nil 1]⟩), (rid 3 0, ⟨1, 0, .box [.arr (rid 5000 0) 1]⟩), (rid 5000 0, ⟨1, 0, .arr true (encBB (a.take y.1))⟩)], []⟩) (fun y => a.length - y.1) ⟨0, by simp⟩
    (.norm ?_ ?_) ?_
  · repeat' first | exact trivial | exact rfl | exact .inl rfl | refine ⟨_, rfl, ?_⟩ | refine ⟨?_, ?_⟩ | fail
  · repeat' first | exact trivial | exact rfl | exact .inl rfl | refine ⟨_, rfl, ?_⟩ | refine ⟨?_, ?_⟩ | fail
  rintro ⟨i, hi⟩
  simp only at hi ⊢
  refine Kbc (Kj Y Y Y (Kdb ?_))
  refine kCond Y (fun h1 => ?_) (fun h1 => ?_)
  · have hlt : i < a.length := by simp at h1; omega
    refine Kn (Kb (Kt (Kbc ?_)))
    refine kIadD Y Y Y Y ?_ ?_
    · rw [len_encBB]; omega
    rw [show (encBB a).row (i : Int).toNat = [encB a[i]] from row_encBB a i hlt]
    refine Ky Y Y (Ka Y (Kd (kRegD (Kf Y Y (Ke Y Y Y (Ka Y ?_))))))
    refine Ku false (ok_bytes_Clone a[i] (Nat.le_trans (hb _ (List.getElem_mem hlt)) om)) ⟨Y, trivial⟩ rfl rfl rfl fun os => ?_
    refine kLit Y Y Y Y (Ks Y Y ?_)
    refine kApp Y Y Y Y Y Y ⟨rfl, rfl, Nat.zero_lt_one⟩ Y ?_ ?_
    · show ((encBB (a.take i)).len + (DV.sl 1 [[encB a[i]]]).len) * 24 ≤ _ ∧ (encBB (a.take i)).len + (DV.sl 1 [[encB a[i]]]).len ≤ _
      rw [len_encBB, List.length_take]; simp [DV.len, DV.rows]; omega
    refine Kf Y Y (Ks Y Y (Ko Y Y Y Y (Kd (kH (Kv (Kc (kAdd Y Y om (Ka Y (Kd ?_)))))))))
    refine kInv ⟨⟨i + 1, hlt⟩, by simp only; omega, .norm ?_ ?_⟩
    · repeat' first | exact trivial | exact rfl | exact .inl rfl | refine ⟨_, rfl, ?_⟩ | refine ⟨?_, ?_⟩ | fail
    · repeat' first | exact trivial | exact rfl | exact .inl rfl | refine ⟨_, rfl, ?_⟩ | refine ⟨?_, ?_⟩ | fail
      rw [← List.take_append_getElem hlt, ← app_encBB]
      rfl
  · refine kExit (kExC (kExI (kExB (Kbc (Ke Y Y Y (Ko Y Y Y Y (Kd ?_)))))))
    have hge : i = a.length := by simp at h1; omega
    subst hge
    refine Kr (endRet (ra := [.agg [.own true _]]) rfl ⟨⟨⟨⟨⟨⟨_, rfl, fun _ => rfl⟩, .inl Nat.zero_lt_one⟩, trivial⟩, leb⟩, trivial⟩, nodupB_sound rfl, ⟨trivial, trivial⟩, trivial⟩ ?_)
    rw [List.take_length]

def c_slices_Clone_Lint_int : C := (.g (.o 0 2 (.mov (.n 1)) .done) (.seq (.g (.o 0 3 (.mov (.t 0)) (.o 1 4 (.eqn false (.t 3)) .done)) (.cond (.t 4) (.g (.o 0 2 (.mov (.n 1)) .done) .ret) .skip)) (.g (.o 0 5 (.lit 5 1 [(.i 0)] 0 []) (.o 1 6 (.mov (.t 0)) (.o 2 7 (.app 7 1 8 (.t 5) (.t 6)) (.o 3 2 (.mov (.t 7)) .done)))) .ret)))
theorem dg_slices_Clone_Lint_int : Tryz.f188.body.bind (digC Tryz.prog Tryz.f188.ntmps []) = some c_slices_Clone_Lint_int := by kernel_rfl
theorem rs_slices_Clone_Lint_int : resSlots Tryz.prog Tryz.f188 = some [.s 2] := by kernel_rfl
theorem ok_slices_Clone_Lint_int (b : List Int) (hb : b.length ≤ 4194304) :
    FnOK Tryz.prog 188 [.one (.d (encI b))] (fun ra _ => ra = [.one (.own true (encI b))]) := by
  refine FnOK.ofK Tryz.func188 (by kernel_rfl) dg_slices_Clone_Lint_int rs_slices_Clone_Lint_int rfl rfl ?_
  delta c_slices_Clone_Lint_int T.o X.i C.g
  refine Kbc (Ka Y (Kd ?_))
  refine Kb (Kbc (Ka Y (kEqn Y Y Y fun n hn => Kd ?_)))
  refine kCond Y (fun h => ?_) (fun h => ?_)
  · refine Kbc (Ka Y (Kd (Kr ?_)))
    refine endRet (ra := [.one (.own true (.sl 1 []))]) rfl ⟨⟨rfl, trivial⟩, nodupB_sound rfl, trivial, trivial⟩ ?_
    have : b = [] := by
      rw [len_encI] at hn
      cases b with
      | nil => rfl
      | cons x l => have := hn (by simp); simp [this] at h
    rw [this]; rfl
  · refine Kn (Kbc ?_)
    refine kLit Y Y Y Y (Ka Y ?_)
    refine kApp (cy := .d (encI b)) rfl rfl rfl (src_encI _ b) rfl rfl ⟨rfl, rfl, Nat.zero_lt_one⟩ Y ?_ (Ka Y (Kd (Kr ?_)))
    · show ((DV.sl 1 (chunk 1 0 [])).len + (encI b).len) * 8 ≤ _ ∧ _
      rw [len_encI]; simp [DV.len, chunk]; omega
    refine endRet (ra := [.one (.own true _)]) rfl ⟨⟨⟨⟨_, rfl, fun _ => rfl⟩, .inl (Nat.zero_lt_succ _)⟩, trivial⟩, nodupB_sound rfl, trivial, trivial⟩ ?_
    exact congrArg (fun x => [RA.one (RV.own true x)]) (app_nil_encI b)

def c_impl_Rr_copied : C := (.g (.o 0 1 (.box 1 (.t 0)) (.o 1 2 (.alloc 2 [(.n 1), (.i 0), (.i 0), (.i 0), (.n 1), (.n 1), (.n 1)]) .done)) (.seq (.reg true (.op 0 [] (some 3) none true (.fad (.t 1) 0) (.op 1 [] (some 4) none true (.load (some 1) (.t 3)) (.op 3 [] (some 6) none true (.fad (.t 1) 4) (.op 4 [] (some 7) none true (.load (some 1) (.t 6)) (.op 6 [] (some 9) none true (.fad (.t 1) 5) (.op 7 [] (some 10) none true (.load none (.t 9)) (.op 9 [] (some 12) none true (.fad (.t 1) 6) (.op 10 [] (some 13) none true (.load none (.t 12)) (.op 2 [1] (some 5) none false (.call 5 151 [(.t 4)]) (.op 12 [] (some 15) none true (.fad (.t 1) 0) (.op 5 [4, 1] (some 8) none false (.call 8 151 [(.t 7)]) (.op 8 [7, 4, 1] (some 11) none false (.call 11 233 [(.t 10)]) (.op 11 [10, 7, 4, 1] (some 14) none false (.call 14 188 [(.t 13)]) (.op 13 [1, 4, 7, 10] none none false (.store (some 1) (.t 15) (.t 5)) (.op 14 [] (some 16) none true (.fad (.t 1) 4) (.op 15 [1, 4, 7, 10] none none false (.store (some 1) (.t 16) (.t 8)) (.op 16 [] (some 17) none true (.fad (.t 1) 5) (.op 17 [1, 4, 7, 10] none none false (.store none (.t 17) (.t 11)) (.op 18 [] (some 18) none true (.fad (.t 1) 6) (.op 19 [1, 4, 7, 10] none none false (.store none (.t 18) (.t 14)) .done))))))))))))))))))))) (.g (.o 0 19 (.load (some 7) (.t 1)) (.op 1 [] none none false (.store (some 7) (.t 2) (.t 19)) .done)) .ret)))
theorem dg_impl_Rr_copied : Tryz.f172.body.bind (digC Tryz.prog Tryz.f172.ntmps []) = some c_impl_Rr_copied := by kernel_rfl
theorem rs_impl_Rr_copied : resSlots Tryz.prog Tryz.f172 = some [.m 2 (some 7)] := by kernel_rfl
theorem ok_impl_Rr_copied (r : Rr) (hs : SmallR r) :
    FnOK Tryz.prog 172 [.agg (r.cells.map .d)] (fun ra _ => ra = [.agg [.own true (encBB r.name), .d (.sc (.int .i64 r.ty)), .d (.sc (.int .i64 r.ttl)), .d (.sc (.int .i64 r.addr)), .own true (encBB r.to), .own true (encB r.text), .own true (encI r.nums)]]) := by
  refine FnOK.ofK Tryz.func172 (by kernel_rfl) dg_impl_Rr_copied rs_impl_Rr_copied rfl rfl ?_
  delta c_impl_Rr_copied T.o X.i C.g
  have n1 := hs.n.len
  have n2 := hs.n.mem
  have t1 := hs.t.len
  have t2 := hs.t.mem
  have x1 := hs.x
  have m1 := hs.m
  refine Kb (kCut ⟨tabSl [(1, .c (.ptr (rid 1 0) 1 0)), (2, .c (.ptr (rid 2 0) 1 0))], obTab 1 [(rid 1 0, ⟨1, 0, .box (r.cells.map .d)⟩), (rid 2 0, ⟨1, 0, .box [.nil 1, .d (.sc (.int .i64 0)), .d (.sc (.int .i64 0)), .d (.sc (.int .i64 0)), .nil 1, .nil 1, .nil 1]⟩)], []⟩ ?_ (fun x hc => ?_))
  case refine_2 => refine kReg (kBox rfl rfl rfl rfl rfl (kAlloc rfl rfl (kDone (hc _ .normA))))
  refine Kb (kCut ⟨tabSl [(1, .c (.ptr (rid 1 0) 1 0)), (2, .c (.ptr (rid 2 0) 1 0))], obTab 1 [(rid 1 0, ⟨1, 0, .box [.arr (rid 5 0) 1, .d (.sc (.int .i64 r.ty)), .d (.sc (.int .i64 r.ttl)), .d (.sc (.int .i64 r.addr)), .arr (rid 8 0) 1, .arr (rid 11 0) 1, .arr (rid 14 0) 1]⟩), (rid 2 0, ⟨1, 0, .box [.nil 1, .d (.sc (.int .i64 0)), .d (.sc (.int .i64 0)), .d (.sc (.int .i64 0)), .nil 1, .nil 1, .nil 1]⟩), (rid 5 0, ⟨1, 0, .arr true (encBB r.name)⟩), (rid 8 0, ⟨1, 0, .arr true (encBB r.to)⟩), (rid 11 0, ⟨1, 0, .arr true (encB r.text)⟩), (rid 14 0, ⟨1, 0, .arr true (encI r.nums)⟩)], []⟩ ?_ (fun x hc => ?_))
  case refine_2 => refine kRegD (kFadP rfl rfl (kLoadP rfl rfl rfl (kFadP rfl rfl (kLoadP rfl rfl rfl (kFadP rfl rfl (kLoadP rfl rfl rfl (kFadP rfl rfl (kLoadP rfl rfl rfl (kRelK rfl rfl (kCall1 true (ok_impl_Name_copied _ pr pr) ⟨⟨⟨rfl, trivial⟩, leb⟩, trivial⟩ rfl rfl rfl (fun _ => (kFadP rfl rfl (kRelK rfl rfl (kCall1 true (ok_impl_Name_copied _ pr pr) ⟨⟨⟨rfl, trivial⟩, leb⟩, trivial⟩ rfl rfl rfl (fun _ => (kRelK rfl rfl (kCall1 true (ok_bytes_Clone _ pr) ⟨rfl, trivial⟩ rfl rfl rfl (fun _ => (kRelF rfl rfl (kCall1 true (ok_slices_Clone_Lint_int _ pr) ⟨rfl, trivial⟩ rfl rfl rfl (fun _ => (kRelF rfl rfl (kStoreP rfl rfl rfl rfl (kFadP rfl rfl (kRelF rfl rfl (kStoreP rfl rfl rfl rfl (kFadP rfl rfl (kRelF rfl rfl (kStoreP rfl rfl rfl rfl (kFadP rfl rfl (kRelF rfl rfl (kStoreP rfl rfl rfl rfl (kDone (kH (kMem [(8192, ⟨1, 0, .box [.arr 24576 2, .d _, .d _, .d _, .arr 36864 2, .arr 49152 2, .arr 61440 2]⟩), (12288, ⟨1, 0, .box [.nil 1, .d _, .d _, .d _, .nil 1, .nil 1, .nil 1]⟩), (24576, ⟨2, 0, .arr true _⟩), (36864, ⟨2, 0, .arr true _⟩), (49152, ⟨2, 0, .arr true _⟩), (61440, ⟨2, 0, .arr true _⟩)] [(1, .c (.ptr 8192 1 0)), (2, .c (.ptr 12288 1 0))] [] ⟨rfl, rfl, rfl, rfl, rfl, rfl, trivial⟩ ⟨rfl, rfl, trivial⟩ rfl (hc _ .normA))))))))))))))))))))))))))))))))))))
  refine Kb (kCut ⟨tabSl [(2, .c (.ptr (rid 2 0) 1 0))], obTab 1 [(rid 2 0, ⟨1, 0, .box [.arr (rid 5 0) 1, .d (.sc (.int .i64 r.ty)), .d (.sc (.int .i64 r.ttl)), .d (.sc (.int .i64 r.addr)), .arr (rid 8 0) 1, .arr (rid 11 0) 1, .arr (rid 14 0) 1]⟩), (rid 5 0, ⟨1, 0, .arr true (encBB r.name)⟩), (rid 8 0, ⟨1, 0, .arr true (encBB r.to)⟩), (rid 11 0, ⟨1, 0, .arr true (encB r.text)⟩), (rid 14 0, ⟨1, 0, .arr true (encI r.nums)⟩)], []⟩ ?_ (fun x hc => ?_))
  case refine_2 => refine kReg (kLoadP rfl rfl rfl (kStoreP rfl rfl rfl rfl (kDone (hc _ .normA))))
  refine (Kr (Er (ra := [.agg [(.own true _), (.d _), (.d _), (.d _), (.own true _), (.own true _), (.own true _)]]) rfl rfl))

end Go.Proofs.YtmdmlncdjdphdaaGreat.FnPrereqsFn
