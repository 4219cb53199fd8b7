/- What the functions that FnOwners reaches compute, one contract each; each with the bounds that it states. -/
import Derived.Test.YtmdmlncdjdphdaaGreatFnOwnersFn1
import Derived.Test.YtmdmlncdjdphdaaGreatProg
import Derived.KernelRfl
set_option maxRecDepth 100000
set_option maxHeartbeats 8000000
set_option linter.unusedVariables false
set_option linter.unusedSimpArgs false
namespace Go.Proofs.YtmdmlncdjdphdaaGreat.FnOwnersFn
open Go Hearth Go.Proofs

def c_spec_l5bent : C := (.g (.o 0 2 (.alloc 2 [(.n 1), (.n 7)]) .done) (.g (.o 0 4 (.mov (.t 0)) (.o 1 5 (.call 5 152 [(.t 4)]) (.o 2 3 (.alloc 3 [(.n 1), (.n 7)]) (.op 3 [] none none false (.store (some 2) (.t 3) (.t 5)) .done)))) (.seq (.g (.o 0 6 (.mov (.t 0)) (.o 1 7 (.call 7 68 [(.t 6), (.i 9)]) .done)) (.cond (.t 7) (.g (.o 0 8 (.mov (.t 0)) (.o 1 9 (.call 9 117 [(.t 8), (.i 4)]) .done)) (.block 0 (.g (.o 0 15 (.bin .eql (.t 9) (.i 0)) (.o 1 14 (.mov (.t 15)) .done)) (.cond (.t 14) (.reg false (.o 0 16 (.mov (.t 0)) (.o 1 17 (.call 17 126 [(.t 16)]) (.o 2 18 (.fad (.t 3) 0) (.op 3 [] none none false (.store (some 1) (.t 18) (.t 17)) .done))))) (.g (.o 0 20 (.bin .eql (.t 9) (.i 1)) (.o 1 19 (.mov (.t 20)) .done)) (.cond (.t 19) (.reg true (.op 0 [] (some 21) none true (.fad (.t 3) 1) (.op 1 [] (some 22) none true (.load none (.t 21)) (.op 2 [] (some 23) none true (.mov (.t 0)) (.o 3 24 (.call 24 148 [(.t 23)]) (.o 4 25 (.lit 25 7 [(.n 1), (.i 0), (.i 0), (.i 0), (.n 1), (.n 1), (.n 1)] 1 [(0, 7, (.t 24))]) (.op 5 [1] (some 26) none false (.app 26 7 120 (.t 22) (.t 25)) (.op 6 [] (some 27) none true (.fad (.t 3) 1) (.op 7 [1] none none false (.store none (.t 27) (.t 26)) .done))))))))) (.g (.o 0 29 (.bin .eql (.t 9) (.i 2)) (.o 1 28 (.mov (.t 29)) .done)) (.cond (.t 28) (.reg false (.o 0 30 (.fad (.t 3) 1) (.o 1 31 (.load none (.t 30)) (.o 2 32 (.cut 7 (.t 31) (some (.i 1)) none) (.o 3 33 (.fad (.t 3) 1) (.op 4 [] none none false (.store none (.t 33) (.t 32)) .done)))))) (.reg false (.o 0 10 (.fad (.t 3) 1) (.o 1 11 (.load none (.t 10)) (.o 2 12 (.iad 7 (.t 11) (.i 0)) (.o 3 13 (.fad (.t 12) 2) (.op 4 [] none none false (.store none (.t 13) (.i (-1))) .done)))))))))))))) .skip)) (.g (.o 0 34 (.load (some 2) (.t 3)) (.op 1 [] none none false (.store (some 2) (.t 2) (.t 34)) .done)) .ret))))
theorem dg_spec_l5bent : Tryz.f64.body.bind (digC Tryz.prog Tryz.f64.ntmps []) = some c_spec_l5bent := by kernel_rfl
theorem rs_spec_l5bent : resSlots Tryz.prog Tryz.f64 = some [.m 2 (some 2)] := by kernel_rfl
theorem ok_spec_l5bent (c : Cu) :
    FnOK Tryz.prog 64 [.one (.box c.cells)] (fun ra os => ∃ x : Zone × Cu, (SmallZ x.1) ∧ ra = [.agg [.d (encBB x.1.origin), .d (encR x.1.rrs)]] ∧ os.b 0 = x.2.cells) := by
  refine FnOK.ofK Tryz.func64 (by kernel_rfl) dg_spec_l5bent rs_spec_l5bent rfl rfl ?_
  delta c_spec_l5bent T.o X.i C.g
  refine Kbc (kAlloc Y Y (Kdb (Kc (Ka Y (Kz (ok_spec_l5draw _) ⟨⟨rfl, _, rfl, rfl⟩, trivial⟩ Y Y Y (fun _ => rfl) (fun x0 hx0 => (kAlloc Y Y (Ko Y Y Y Y (Kdb (Kbc (Ka Y (Kz (ok_spec_l1Once _ _) ⟨⟨rfl, _, rfl, rfl⟩, rfl, trivial⟩ Y Y Y (fun _ => rfl) (fun x1 hx1 => (Kd (kCond Y (fun g2 => Kbc (Ka Y (Kz (ok_spec_l1Below _ _) ⟨⟨rfl, _, rfl, rfl⟩, rfl, trivial⟩ Y Y Y (fun _ => rfl) (fun x3 hx3 => (Kd (Kt (Kbc (Kj Y Y Y (Ka Y (Kd (Km Y (fun g4 => Kc (Ka Y (Kz (ok_spec_l2bent _) ⟨⟨rfl, _, rfl, rfl⟩, trivial⟩ Y Y Y (fun _ => rfl) (fun x5 hx5 => (Kf Y Y (Ko Y Y Y Y (Kd (Kv (Kbc (Ke Y Y Y (Ko Y Y Y Y (Kd (Kr (Er (ra := [.agg [(.d _), (.d _)]]) rfl ?_)))))))))))))) (fun g4 => Kbc (Kj Y Y Y (Ka Y (Kd (Km Y (fun g6 => kRegD (Kf Y Y (Ke Y Y Y (Ka Y (Kz (ok_spec_l3bent _) ⟨⟨rfl, _, rfl, rfl⟩, trivial⟩ Y Y Y (fun _ => rfl) (fun x7 hx7 => (kLitG Y Y Y Y (Ks Y Y ?_)))))))) (fun g6 => Kbc (Kj Y Y Y (Ka Y (Kd (Km Y (fun g8 => Kc (Kf Y Y (Ke Y Y Y ?_))) (fun g8 => Kc (Kf Y Y (Ke Y Y Y ?_)))))))))))))))))))))))) (fun g2 => Kn (Kbc (Ke Y Y Y (Ko Y Y Y Y (Kd (Kr (Er (ra := [.agg [(.d _), (.d _)]]) rfl ?_))))))))))))))))))))))
  · exact ⟨(⟨x5.1, x0.1.rrs⟩, x5.2), ⟨.bent hx5, (zoneOk_small hx0).r⟩, rfl, rfl⟩
  · have hp := zoneOk_pos hx0
    have hs := zoneOk_small hx0
    refine kAppRec Y Y Y Y Y Y Y prl (Kf Y Y (Ks Y Y (Ko Y Y Y Y (Kd (kH (Kv (Kbc (Ke Y Y Y (Ko Y Y Y Y (Kd (Kr (Er (ra := [.agg [(.d _), (.d _)]]) rfl ?_))))))))))))
    exact ⟨(⟨x0.1.origin, x0.1.rrs ++ [x7.1]⟩, x7.2), ⟨hs.o, ⟨by simp; omega, fun r hr => by
      rcases List.mem_append.1 hr with hr | hr
      · exact hs.r.mem r hr
      · simp only [List.mem_singleton] at hr; rw [hr]; exact hx7⟩⟩, rfl, rfl⟩
  · have hp := zoneOk_pos hx0
    have hs := zoneOk_small hx0
    refine kCutAL (a := 1) Y Y Y Y Y Y om ?_
    refine Kf Y Y (Ko Y Y Y Y (Kd (Kv (Kbc (Ke Y Y Y (Ko Y Y Y Y (Kd (Kr (Er (ra := [.agg [(.d _), (.d _)]]) rfl ?_)))))))))
    exact ⟨(⟨x0.1.origin, x0.1.rrs.drop 1⟩, x3.2), ⟨hs.o, ⟨by simp; omega, fun r hr => hs.r.mem r (List.mem_of_mem_drop hr)⟩⟩, rfl, rfl⟩
  · have hp := zoneOk_pos hx0
    have hs := zoneOk_small hx0
    refine kIadAR (m := 0) Y Y Y Y prl (kFadE Y Y ?_)
    refine kStoreER (z := ({ x0.1.rrs[0]'hp.1 with ttl := -1 } : Rr)) rfl rfl rfl rfl rfl rfl rfl hp.1 rfl ?_
    refine Kd (Kv (Kbc (Ke Y Y Y (Ko Y Y Y Y (Kd (Kr (Er (ra := [.agg [(.d _), (.d _)]]) rfl ?_)))))))
    exact ⟨(⟨x0.1.origin, x0.1.rrs.set 0 { x0.1.rrs[0]'hp.1 with ttl := -1 }⟩, x3.2), ⟨hs.o, ⟨by simp; omega, fun r hr => by
      rcases List.mem_or_eq_of_mem_set hr with hr | hr
      · exact hs.r.mem r hr
      · have := hs.r.mem _ (List.getElem_mem hp.1)
        rw [hr]; exact ⟨this.n, this.t, this.x, this.m⟩⟩⟩, rfl, rfl⟩
  · exact ⟨(x0.1, x1.2), zoneOk_small hx0, rfl, rfl⟩

def c_spec_l7drawClient : C := (.g (.o 0 2 (.mov (.n 1)) .done) (.g (.o 0 3 (.lit 3 1 [(.v (.string ⟨#[]⟩))] 3 [(0, 1, (.v (.string ⟨#[109, 49]⟩))), (1, 1, (.v (.string ⟨#[109, 50]⟩))), (2, 1, (.v (.string ⟨#[109, 51]⟩)))]) (.o 1 4 (.mov (.t 0)) (.o 2 5 (.call 5 117 [(.t 4), (.i 3)]) (.o 3 6 (.iad 1 (.t 3) (.t 5)) (.o 4 7 (.load none (.t 6)) (.o 5 8 (.s2b (.t 7)) (.o 6 2 (.mov (.t 8)) .done))))))) .ret))
theorem dg_spec_l7drawClient : Tryz.f67.body.bind (digC Tryz.prog Tryz.f67.ntmps []) = some c_spec_l7drawClient := by kernel_rfl
theorem rs_spec_l7drawClient : resSlots Tryz.prog Tryz.f67 = some [.s 2] := by kernel_rfl
theorem ok_spec_l7drawClient (c : Cu) :
    FnOK Tryz.prog 67 [.one (.box c.cells)] (fun ra os => ∃ x : List UInt8 × Cu, (x.1.length ≤ 64) ∧ ra = [.one (.d (encB x.1))] ∧ os.b 0 = x.2.cells) := by
  refine FnOK.ofK Tryz.func67 (by kernel_rfl) dg_spec_l7drawClient rs_spec_l7drawClient rfl rfl ?_
  delta c_spec_l7drawClient T.o X.i C.g
  refine Kbc (Ka Y (Kdb (Kc (kLitG Y Y Y Y (Ka Y (Kz (ok_spec_l1Below _ _) ⟨⟨rfl, _, rfl, rfl⟩, rfl, trivial⟩ Y Y Y (fun _ => rfl) (fun x0 hx0 => (kIadStr Y Y Y Y (by simp only [List.length_cons, List.length_nil]; omega) (kLoadStr Y Y Y (by simp only [List.length_cons, List.length_nil]; omega) rfl (fun b1 hb1 => (kS2b Y om (Ka Y (Kd (Kr (Er (ra := [.one (.d _)]) rfl ?_)))))))))))))))
  exact ⟨(b1.toList, x0.2), by rw [bt_len]; exact hb1, rfl, rfl⟩

structure W8 where
  p0 : Int
  p1 : Int
  p2 : Int
  p3 : Int
  p4 : Int
  p5 : Int
  p6 : Int
  p7 : Int
def W8.l (x : W8) : List Int := [x.p0, x.p1, x.p2, x.p3, x.p4, x.p5, x.p6, x.p7]
theorem W8.ofL : ∀ {l : List Int}, l.length = 8 → ∃ x : W8, l = x.l
  | [a, b, c, d, e, f, g, h], _ => ⟨⟨a, b, c, d, e, f, g, h⟩, rfl⟩
  | [], h | [_], h | [_, _], h | [_, _, _], h | [_, _, _, _], h | [_, _, _, _, _], h | [_, _, _, _, _, _], h | [_, _, _, _, _, _, _], h => by simp at h
  | _ :: _ :: _ :: _ :: _ :: _ :: _ :: _ :: _ :: _, h => by simp at h

def c_spec_l7turn : C := (.g (.o 0 4 (.mov (.v (.int .u32 0))) .done) (.seq (.reg true (.op 0 [] (some 5) none true (.mov (.t 0)) (.op 1 [] (some 6) none true (.mov (.t 1)) (.op 2 [] (some 7) none true (.bin .shr (.t 5) (.t 6)) (.op 3 [] (some 8) none true (.mov (.t 0)) (.op 4 [] (some 9) none true (.mov (.t 1)) (.op 5 [] (some 10) none true (.bin .sub (.i 32) (.t 9)) (.op 6 [] (some 11) none true (.bin .shl (.t 8) (.t 10)) (.op 7 [] (some 12) none true (.bin .or (.t 7) (.t 11)) (.op 8 [] (some 4) none true (.mov (.t 12)) .done)))))))))) .ret))
theorem dg_spec_l7turn : Tryz.f298.body.bind (digC Tryz.prog Tryz.f298.ntmps []) = some c_spec_l7turn := by kernel_rfl
theorem rs_spec_l7turn : resSlots Tryz.prog Tryz.f298 = some [.s 4] := by kernel_rfl
theorem ok_spec_l7turn (a n : Int) (hn : 0 ≤ n ∧ n ≤ 32) :
    FnOK Tryz.prog 298 [.one (.d (.sc (.int .u32 a))), .one (.d (.sc (.int .i64 n)))] (fun ra _ => ∃ x : Int, True ∧ ra = [.one (.d (.sc (.int .u32 x)))]) := by
  refine FnOK.ofK Tryz.func298 (by kernel_rfl) dg_spec_l7turn rs_spec_l7turn rfl rfl ?_
  delta c_spec_l7turn T.o X.i C.g
  refine Kbc (Ka Y (Kdb (kRegD (Ka Y (Ka Y (kBinW Y Y (by first | exact rfl | (show (0 : Int) ≤ _; omega)) (fun x0 => (Ka Y (Ka Y (kDif Y Y om (kBinW Y Y (by first | exact rfl | (show (0 : Int) ≤ _; omega)) (fun x1 => (kBinW Y Y (by first | exact rfl | (show (0 : Int) ≤ _; omega)) (fun x2 => (Ka Y (Kd (kH (Kr (Er (ra := [.one (.d _)]) rfl ?_)))))))))))))))))))
  exact ⟨_, trivial, rfl⟩

def c_spec_l7round : C := (.g (.o 0 2 (.mov (.v (.int .u32 0))) .done) (.g (.o 0 4 (.build [(.v (.int .u32 0)), (.v (.int .u32 0)), (.v (.int .u32 0)), (.v (.int .u32 0)), (.v (.int .u32 0)), (.v (.int .u32 0)), (.v (.int .u32 0)), (.v (.int .u32 0)), (.v (.int .u32 0)), (.v (.int .u32 0)), (.v (.int .u32 0)), (.v (.int .u32 0)), (.v (.int .u32 0)), (.v (.int .u32 0)), (.v (.int .u32 0)), (.v (.int .u32 0)), (.v (.int .u32 0)), (.v (.int .u32 0)), (.v (.int .u32 0)), (.v (.int .u32 0)), (.v (.int .u32 0)), (.v (.int .u32 0)), (.v (.int .u32 0)), (.v (.int .u32 0)), (.v (.int .u32 0)), (.v (.int .u32 0)), (.v (.int .u32 0)), (.v (.int .u32 0)), (.v (.int .u32 0)), (.v (.int .u32 0)), (.v (.int .u32 0)), (.v (.int .u32 0)), (.v (.int .u32 0)), (.v (.int .u32 0)), (.v (.int .u32 0)), (.v (.int .u32 0)), (.v (.int .u32 0)), (.v (.int .u32 0)), (.v (.int .u32 0)), (.v (.int .u32 0)), (.v (.int .u32 0)), (.v (.int .u32 0)), (.v (.int .u32 0)), (.v (.int .u32 0)), (.v (.int .u32 0)), (.v (.int .u32 0)), (.v (.int .u32 0)), (.v (.int .u32 0)), (.v (.int .u32 0)), (.v (.int .u32 0)), (.v (.int .u32 0)), (.v (.int .u32 0)), (.v (.int .u32 0)), (.v (.int .u32 0)), (.v (.int .u32 0)), (.v (.int .u32 0)), (.v (.int .u32 0)), (.v (.int .u32 0)), (.v (.int .u32 0)), (.v (.int .u32 0)), (.v (.int .u32 0)), (.v (.int .u32 0)), (.v (.int .u32 0)), (.v (.int .u32 0))] [(0, 1, (.v (.int .u32 1116352408))), (1, 1, (.v (.int .u32 1899447441))), (2, 1, (.v (.int .u32 3049323471))), (3, 1, (.v (.int .u32 3921009573))), (4, 1, (.v (.int .u32 961987163))), (5, 1, (.v (.int .u32 1508970993))), (6, 1, (.v (.int .u32 2453635748))), (7, 1, (.v (.int .u32 2870763221))), (8, 1, (.v (.int .u32 3624381080))), (9, 1, (.v (.int .u32 310598401))), (10, 1, (.v (.int .u32 607225278))), (11, 1, (.v (.int .u32 1426881987))), (12, 1, (.v (.int .u32 1925078388))), (13, 1, (.v (.int .u32 2162078206))), (14, 1, (.v (.int .u32 2614888103))), (15, 1, (.v (.int .u32 3248222580))), (16, 1, (.v (.int .u32 3835390401))), (17, 1, (.v (.int .u32 4022224774))), (18, 1, (.v (.int .u32 264347078))), (19, 1, (.v (.int .u32 604807628))), (20, 1, (.v (.int .u32 770255983))), (21, 1, (.v (.int .u32 1249150122))), (22, 1, (.v (.int .u32 1555081692))), (23, 1, (.v (.int .u32 1996064986))), (24, 1, (.v (.int .u32 2554220882))), (25, 1, (.v (.int .u32 2821834349))), (26, 1, (.v (.int .u32 2952996808))), (27, 1, (.v (.int .u32 3210313671))), (28, 1, (.v (.int .u32 3336571891))), (29, 1, (.v (.int .u32 3584528711))), (30, 1, (.v (.int .u32 113926993))), (31, 1, (.v (.int .u32 338241895))), (32, 1, (.v (.int .u32 666307205))), (33, 1, (.v (.int .u32 773529912))), (34, 1, (.v (.int .u32 1294757372))), (35, 1, (.v (.int .u32 1396182291))), (36, 1, (.v (.int .u32 1695183700))), (37, 1, (.v (.int .u32 1986661051))), (38, 1, (.v (.int .u32 2177026350))), (39, 1, (.v (.int .u32 2456956037))), (40, 1, (.v (.int .u32 2730485921))), (41, 1, (.v (.int .u32 2820302411))), (42, 1, (.v (.int .u32 3259730800))), (43, 1, (.v (.int .u32 3345764771))), (44, 1, (.v (.int .u32 3516065817))), (45, 1, (.v (.int .u32 3600352804))), (46, 1, (.v (.int .u32 4094571909))), (47, 1, (.v (.int .u32 275423344))), (48, 1, (.v (.int .u32 430227734))), (49, 1, (.v (.int .u32 506948616))), (50, 1, (.v (.int .u32 659060556))), (51, 1, (.v (.int .u32 883997877))), (52, 1, (.v (.int .u32 958139571))), (53, 1, (.v (.int .u32 1322822218))), (54, 1, (.v (.int .u32 1537002063))), (55, 1, (.v (.int .u32 1747873779))), (56, 1, (.v (.int .u32 1955562222))), (57, 1, (.v (.int .u32 2024104815))), (58, 1, (.v (.int .u32 2227730452))), (59, 1, (.v (.int .u32 2361852424))), (60, 1, (.v (.int .u32 2428436474))), (61, 1, (.v (.int .u32 2756734187))), (62, 1, (.v (.int .u32 3204031479))), (63, 1, (.v (.int .u32 3329325298)))]) (.o 1 3 (.alloc 3 [(.v (.int .u32 0)), (.v (.int .u32 0)), (.v (.int .u32 0)), (.v (.int .u32 0)), (.v (.int .u32 0)), (.v (.int .u32 0)), (.v (.int .u32 0)), (.v (.int .u32 0)), (.v (.int .u32 0)), (.v (.int .u32 0)), (.v (.int .u32 0)), (.v (.int .u32 0)), (.v (.int .u32 0)), (.v (.int .u32 0)), (.v (.int .u32 0)), (.v (.int .u32 0)), (.v (.int .u32 0)), (.v (.int .u32 0)), (.v (.int .u32 0)), (.v (.int .u32 0)), (.v (.int .u32 0)), (.v (.int .u32 0)), (.v (.int .u32 0)), (.v (.int .u32 0)), (.v (.int .u32 0)), (.v (.int .u32 0)), (.v (.int .u32 0)), (.v (.int .u32 0)), (.v (.int .u32 0)), (.v (.int .u32 0)), (.v (.int .u32 0)), (.v (.int .u32 0)), (.v (.int .u32 0)), (.v (.int .u32 0)), (.v (.int .u32 0)), (.v (.int .u32 0)), (.v (.int .u32 0)), (.v (.int .u32 0)), (.v (.int .u32 0)), (.v (.int .u32 0)), (.v (.int .u32 0)), (.v (.int .u32 0)), (.v (.int .u32 0)), (.v (.int .u32 0)), (.v (.int .u32 0)), (.v (.int .u32 0)), (.v (.int .u32 0)), (.v (.int .u32 0)), (.v (.int .u32 0)), (.v (.int .u32 0)), (.v (.int .u32 0)), (.v (.int .u32 0)), (.v (.int .u32 0)), (.v (.int .u32 0)), (.v (.int .u32 0)), (.v (.int .u32 0)), (.v (.int .u32 0)), (.v (.int .u32 0)), (.v (.int .u32 0)), (.v (.int .u32 0)), (.v (.int .u32 0)), (.v (.int .u32 0)), (.v (.int .u32 0)), (.v (.int .u32 0))]) (.op 2 [] none none false (.store (some 64) (.t 3) (.t 4)) .done))) (.g (.o 0 5 (.mov (.t 0)) (.o 1 6 (.aad 64 1 (.t 3) (.t 5)) (.o 2 7 (.load none (.t 6)) (.o 3 2 (.mov (.t 7)) .done)))) .ret)))
theorem dg_spec_l7round : Tryz.f299.body.bind (digC Tryz.prog Tryz.f299.ntmps []) = some c_spec_l7round := by kernel_rfl
theorem rs_spec_l7round : resSlots Tryz.prog Tryz.f299 = some [.s 2] := by kernel_rfl
theorem ok_spec_l7round (i : Int) (hi : 0 ≤ i ∧ i < 64) :
    FnOK Tryz.prog 299 [.one (.d (.sc (.int .i64 i)))] (fun ra _ => ∃ x : Int, True ∧ ra = [.one (.d (.sc (.int .u32 x)))]) := by
  refine FnOK.ofK Tryz.func299 (by kernel_rfl) dg_spec_l7round rs_spec_l7round rfl rfl ?_
  delta c_spec_l7round T.o X.i C.g
  refine Kbc (Ka Y (Kdb (Kc (kBuildG Y (kAlloc Y Y (Ko Y Y Y Y (Kdb (Kc (Ka Y (kAad Y Y Y (by first | omega | (simp only; omega)) (kLoadW Y Y (by first | exact rfl | exact ws_all _) (by first | omega | (simp only [ws_len, List.length_cons, List.length_nil]; omega) | (refine Nat.lt_of_lt_of_le (m := 64) ?_ (leb); omega) | (refine Nat.lt_of_lt_of_le (m := 8) ?_ (leb); omega)) (fun x0 => (Ka Y (Kd (Kr (Er (ra := [.one (.d _)]) rfl ?_))))))))))))))))
  exact ⟨_, trivial, rfl⟩

def c_spec_l7block : C := (.g (.o 0 2 (.box 2 (.t 0)) (.o 1 4 (.alloc 4 [(.v (.int .u32 0)), (.v (.int .u32 0)), (.v (.int .u32 0)), (.v (.int .u32 0)), (.v (.int .u32 0)), (.v (.int .u32 0)), (.v (.int .u32 0)), (.v (.int .u32 0))]) .done)) (.g (.o 0 5 (.alloc 5 [(.v (.int .u32 0)), (.v (.int .u32 0)), (.v (.int .u32 0)), (.v (.int .u32 0)), (.v (.int .u32 0)), (.v (.int .u32 0)), (.v (.int .u32 0)), (.v (.int .u32 0)), (.v (.int .u32 0)), (.v (.int .u32 0)), (.v (.int .u32 0)), (.v (.int .u32 0)), (.v (.int .u32 0)), (.v (.int .u32 0)), (.v (.int .u32 0)), (.v (.int .u32 0)), (.v (.int .u32 0)), (.v (.int .u32 0)), (.v (.int .u32 0)), (.v (.int .u32 0)), (.v (.int .u32 0)), (.v (.int .u32 0)), (.v (.int .u32 0)), (.v (.int .u32 0)), (.v (.int .u32 0)), (.v (.int .u32 0)), (.v (.int .u32 0)), (.v (.int .u32 0)), (.v (.int .u32 0)), (.v (.int .u32 0)), (.v (.int .u32 0)), (.v (.int .u32 0)), (.v (.int .u32 0)), (.v (.int .u32 0)), (.v (.int .u32 0)), (.v (.int .u32 0)), (.v (.int .u32 0)), (.v (.int .u32 0)), (.v (.int .u32 0)), (.v (.int .u32 0)), (.v (.int .u32 0)), (.v (.int .u32 0)), (.v (.int .u32 0)), (.v (.int .u32 0)), (.v (.int .u32 0)), (.v (.int .u32 0)), (.v (.int .u32 0)), (.v (.int .u32 0)), (.v (.int .u32 0)), (.v (.int .u32 0)), (.v (.int .u32 0)), (.v (.int .u32 0)), (.v (.int .u32 0)), (.v (.int .u32 0)), (.v (.int .u32 0)), (.v (.int .u32 0)), (.v (.int .u32 0)), (.v (.int .u32 0)), (.v (.int .u32 0)), (.v (.int .u32 0)), (.v (.int .u32 0)), (.v (.int .u32 0)), (.v (.int .u32 0)), (.v (.int .u32 0))]) .done) (.seq (.g (.o 0 6 (.mov (.i 0)) .done) (.block 0 (.loop (.seq (.g (.o 0 20 (.mov (.t 6)) (.o 1 21 (.bin .lss (.t 20) (.i 16)) .done)) (.cond (.t 21) .skip (.exit 0))) (.seq (.block 1 (.reg true (.op 0 [] (some 24) none true (.mov (.t 6)) (.op 1 [] (some 25) none true (.mov (.t 1)) (.op 2 [] (some 26) none true (.mov (.t 6)) (.op 3 [] (some 27) none true (.bin .mul (.i 4) (.t 26)) (.op 4 [] (some 28) none true (.iad 1 (.t 25) (.t 27)) (.op 5 [] (some 29) none true (.load none (.t 28)) (.op 6 [] (some 30) none true (.conv .u32 (.t 29)) (.op 7 [] (some 31) none true (.bin .shl (.t 30) (.v (.int .u64 24))) (.op 8 [] (some 32) none true (.mov (.t 1)) (.op 9 [] (some 33) none true (.mov (.t 6)) (.op 10 [] (some 34) none true (.bin .mul (.i 4) (.t 33)) (.op 11 [] (some 35) none true (.bin .add (.t 34) (.i 1)) (.op 12 [] (some 36) none true (.iad 1 (.t 32) (.t 35)) (.op 13 [] (some 37) none true (.load none (.t 36)) (.op 14 [] (some 38) none true (.conv .u32 (.t 37)) (.op 15 [] (some 39) none true (.bin .shl (.t 38) (.v (.int .u64 16))) (.op 16 [] (some 40) none true (.bin .or (.t 31) (.t 39)) (.op 17 [] (some 41) none true (.mov (.t 1)) (.op 18 [] (some 42) none true (.mov (.t 6)) (.op 19 [] (some 43) none true (.bin .mul (.i 4) (.t 42)) (.op 20 [] (some 44) none true (.bin .add (.t 43) (.i 2)) (.op 21 [] (some 45) none true (.iad 1 (.t 41) (.t 44)) (.op 22 [] (some 46) none true (.load none (.t 45)) (.op 23 [] (some 47) none true (.conv .u32 (.t 46)) (.op 24 [] (some 48) none true (.bin .shl (.t 47) (.v (.int .u64 8))) (.op 25 [] (some 49) none true (.bin .or (.t 40) (.t 48)) (.op 26 [] (some 50) none true (.mov (.t 1)) (.op 27 [] (some 51) none true (.mov (.t 6)) (.op 28 [] (some 52) none true (.bin .mul (.i 4) (.t 51)) (.op 29 [] (some 53) none true (.bin .add (.t 52) (.i 3)) (.op 30 [] (some 54) none true (.iad 1 (.t 50) (.t 53)) (.op 31 [] (some 55) none true (.load none (.t 54)) (.op 32 [] (some 56) none true (.conv .u32 (.t 55)) (.op 33 [] (some 57) none true (.bin .or (.t 49) (.t 56)) (.op 34 [] (some 58) none true (.aad 64 1 (.t 5) (.t 24)) (.op 35 [5, 13, 22, 31] none none false (.store none (.t 58) (.t 57)) .done)))))))))))))))))))))))))))))))))))))) (.reg false (.o 0 22 (.mov (.t 6)) (.o 1 23 (.bin .add (.t 22) (.i 1)) (.o 2 6 (.mov (.t 23)) .done))))))))) (.seq (.g (.o 0 7 (.mov (.i 16)) .done) (.block 2 (.loop (.seq (.g (.o 0 59 (.mov (.t 7)) (.o 1 60 (.bin .lss (.t 59) (.i 64)) .done)) (.cond (.t 60) .skip (.exit 2))) (.seq (.block 3 (.seq (.reg true (.op 0 [] (some 63) none true (.mov (.t 7)) (.op 1 [] (some 64) none true (.bin .sub (.t 63) (.i 15)) (.op 2 [] (some 65) none true (.aad 64 1 (.t 5) (.t 64)) (.op 3 [] (some 66) none true (.load none (.t 65)) (.op 4 [] (some 67) none true (.mov (.t 7)) (.op 5 [] (some 68) none true (.bin .sub (.t 67) (.i 2)) (.op 6 [] (some 69) none true (.aad 64 1 (.t 5) (.t 68)) (.op 7 [] (some 70) none true (.load none (.t 69)) (.op 8 [] (some 8) none true (.mov (.t 66)) (.op 9 [] (some 9) none true (.mov (.t 70)) .done))))))))))) (.g (.o 0 71 (.mov (.t 8)) (.o 1 72 (.call 72 298 [(.t 71), (.i 7)]) (.o 2 73 (.mov (.t 8)) (.o 3 74 (.call 74 298 [(.t 73), (.i 18)]) (.o 4 75 (.bin .xor (.t 72) (.t 74)) (.o 5 76 (.mov (.t 8)) (.o 6 77 (.bin .shr (.t 76) (.v (.int .u64 3))) (.o 7 78 (.bin .xor (.t 75) (.t 77)) (.o 8 10 (.mov (.t 78)) .done))))))))) (.g (.o 0 79 (.mov (.t 9)) (.o 1 80 (.call 80 298 [(.t 79), (.i 17)]) (.o 2 81 (.mov (.t 9)) (.o 3 82 (.call 82 298 [(.t 81), (.i 19)]) (.o 4 83 (.bin .xor (.t 80) (.t 82)) (.o 5 84 (.mov (.t 9)) (.o 6 85 (.bin .shr (.t 84) (.v (.int .u64 10))) (.o 7 86 (.bin .xor (.t 83) (.t 85)) (.o 8 11 (.mov (.t 86)) .done))))))))) (.reg true (.op 0 [] (some 87) none true (.mov (.t 7)) (.op 1 [] (some 88) none true (.mov (.t 7)) (.op 2 [] (some 89) none true (.bin .sub (.t 88) (.i 16)) (.op 3 [] (some 90) none true (.aad 64 1 (.t 5) (.t 89)) (.op 4 [] (some 91) none true (.load none (.t 90)) (.op 5 [] (some 92) none true (.mov (.t 10)) (.op 6 [] (some 93) none true (.bin .add (.t 91) (.t 92)) (.op 7 [] (some 94) none true (.mov (.t 7)) (.op 8 [] (some 95) none true (.bin .sub (.t 94) (.i 7)) (.op 9 [] (some 96) none true (.aad 64 1 (.t 5) (.t 95)) (.op 10 [] (some 97) none true (.load none (.t 96)) (.op 11 [] (some 98) none true (.bin .add (.t 93) (.t 97)) (.op 12 [] (some 99) none true (.mov (.t 11)) (.op 13 [] (some 100) none true (.bin .add (.t 98) (.t 99)) (.op 14 [] (some 101) none true (.aad 64 1 (.t 5) (.t 87)) (.op 15 [4, 10] none none false (.store none (.t 101) (.t 100)) .done))))))))))))))))))))) (.reg false (.o 0 61 (.mov (.t 7)) (.o 1 62 (.bin .add (.t 61) (.i 1)) (.o 2 7 (.mov (.t 62)) .done))))))))) (.g (.o 0 102 (.load (some 8) (.t 2)) (.o 1 12 (.alloc 12 [(.v (.int .u32 0)), (.v (.int .u32 0)), (.v (.int .u32 0)), (.v (.int .u32 0)), (.v (.int .u32 0)), (.v (.int .u32 0)), (.v (.int .u32 0)), (.v (.int .u32 0))]) (.op 2 [] none none false (.store (some 8) (.t 12) (.t 102)) .done))) (.seq (.g (.o 0 13 (.mov (.i 0)) .done) (.block 4 (.loop (.seq (.g (.o 0 103 (.mov (.t 13)) (.o 1 104 (.bin .lss (.t 103) (.i 64)) .done)) (.cond (.t 104) .skip (.exit 4))) (.seq (.block 5 (.seq (.reg true (.op 0 [] (some 107) none true (.aad 8 1 (.t 12) (.i 4)) (.op 1 [] (some 108) none true (.load none (.t 107)) (.op 3 [] (some 110) none true (.aad 8 1 (.t 12) (.i 4)) (.op 4 [] (some 111) none true (.load none (.t 110)) (.op 7 [] (some 114) none true (.aad 8 1 (.t 12) (.i 4)) (.op 8 [] (some 115) none true (.load none (.t 114)) (.op 2 [1] (some 109) none false (.call 109 298 [(.t 108), (.i 6)]) (.op 5 [4, 1] (some 112) none false (.call 112 298 [(.t 111), (.i 11)]) (.op 6 [] (some 113) none true (.bin .xor (.t 109) (.t 112)) (.op 9 [8, 4, 1] (some 116) none false (.call 116 298 [(.t 115), (.i 25)]) (.op 10 [] (some 117) none true (.bin .xor (.t 113) (.t 116)) (.op 11 [] (some 14) none true (.mov (.t 117)) .done))))))))))))) (.g (.o 0 118 (.aad 8 1 (.t 12) (.i 4)) (.o 1 119 (.load none (.t 118)) (.o 2 120 (.aad 8 1 (.t 12) (.i 5)) (.o 3 121 (.load none (.t 120)) (.o 4 122 (.bin .and (.t 119) (.t 121)) (.o 5 123 (.aad 8 1 (.t 12) (.i 4)) (.o 6 124 (.load none (.t 123)) (.o 7 125 (.un .xor (.t 124)) (.o 8 126 (.aad 8 1 (.t 12) (.i 6)) (.o 9 127 (.load none (.t 126)) (.o 10 128 (.bin .and (.t 125) (.t 127)) (.o 11 129 (.bin .xor (.t 122) (.t 128)) (.o 12 15 (.mov (.t 129)) .done))))))))))))) (.seq (.reg true (.op 0 [] (some 130) none true (.aad 8 1 (.t 12) (.i 7)) (.op 1 [] (some 131) none true (.load none (.t 130)) (.op 2 [] (some 132) none true (.mov (.t 14)) (.op 3 [] (some 133) none true (.bin .add (.t 131) (.t 132)) (.op 4 [] (some 134) none true (.mov (.t 15)) (.op 5 [] (some 135) none true (.bin .add (.t 133) (.t 134)) (.op 6 [] (some 136) none true (.mov (.t 13)) (.op 9 [] (some 139) none true (.mov (.t 13)) (.op 10 [] (some 140) none true (.aad 64 1 (.t 5) (.t 139)) (.op 11 [] (some 141) none true (.load none (.t 140)) (.o 7 137 (.call 137 299 [(.t 136)]) (.op 8 [] (some 138) none true (.bin .add (.t 135) (.t 137)) (.op 12 [] (some 142) none true (.bin .add (.t 138) (.t 141)) (.op 13 [] (some 16) none true (.mov (.t 142)) .done))))))))))))))) (.seq (.reg true (.op 0 [] (some 143) none true (.aad 8 1 (.t 12) (.i 0)) (.op 1 [] (some 144) none true (.load none (.t 143)) (.op 3 [] (some 146) none true (.aad 8 1 (.t 12) (.i 0)) (.op 4 [] (some 147) none true (.load none (.t 146)) (.op 7 [] (some 150) none true (.aad 8 1 (.t 12) (.i 0)) (.op 8 [] (some 151) none true (.load none (.t 150)) (.op 2 [1] (some 145) none false (.call 145 298 [(.t 144), (.i 2)]) (.op 5 [4, 1] (some 148) none false (.call 148 298 [(.t 147), (.i 13)]) (.op 6 [] (some 149) none true (.bin .xor (.t 145) (.t 148)) (.op 9 [8, 4, 1] (some 152) none false (.call 152 298 [(.t 151), (.i 22)]) (.op 10 [] (some 153) none true (.bin .xor (.t 149) (.t 152)) (.op 11 [] (some 17) none true (.mov (.t 153)) .done))))))))))))) (.g (.o 0 154 (.aad 8 1 (.t 12) (.i 0)) (.o 1 155 (.load none (.t 154)) (.o 2 156 (.aad 8 1 (.t 12) (.i 1)) (.o 3 157 (.load none (.t 156)) (.o 4 158 (.bin .and (.t 155) (.t 157)) (.o 5 159 (.aad 8 1 (.t 12) (.i 0)) (.o 6 160 (.load none (.t 159)) (.o 7 161 (.aad 8 1 (.t 12) (.i 2)) (.o 8 162 (.load none (.t 161)) (.o 9 163 (.bin .and (.t 160) (.t 162)) (.o 10 164 (.bin .xor (.t 158) (.t 163)) (.o 11 165 (.aad 8 1 (.t 12) (.i 1)) (.o 12 166 (.load none (.t 165)) (.o 13 167 (.aad 8 1 (.t 12) (.i 2)) (.o 14 168 (.load none (.t 167)) (.o 15 169 (.bin .and (.t 166) (.t 168)) (.o 16 170 (.bin .xor (.t 164) (.t 169)) (.o 17 18 (.mov (.t 170)) .done)))))))))))))))))) (.reg false (.o 0 171 (.mov (.t 16)) (.o 1 172 (.mov (.t 17)) (.o 2 173 (.bin .add (.t 171) (.t 172)) (.o 3 174 (.mov (.t 18)) (.o 4 175 (.bin .add (.t 173) (.t 174)) (.o 5 176 (.aad 8 1 (.t 12) (.i 0)) (.o 6 177 (.load none (.t 176)) (.o 7 178 (.aad 8 1 (.t 12) (.i 1)) (.o 8 179 (.load none (.t 178)) (.o 9 180 (.aad 8 1 (.t 12) (.i 2)) (.o 10 181 (.load none (.t 180)) (.o 11 182 (.aad 8 1 (.t 12) (.i 3)) (.o 12 183 (.load none (.t 182)) (.o 13 184 (.mov (.t 16)) (.o 14 185 (.bin .add (.t 183) (.t 184)) (.o 15 186 (.aad 8 1 (.t 12) (.i 4)) (.o 16 187 (.load none (.t 186)) (.o 17 188 (.aad 8 1 (.t 12) (.i 5)) (.o 18 189 (.load none (.t 188)) (.o 19 190 (.aad 8 1 (.t 12) (.i 6)) (.o 20 191 (.load none (.t 190)) (.o 21 192 (.build [(.v (.int .u32 0)), (.v (.int .u32 0)), (.v (.int .u32 0)), (.v (.int .u32 0)), (.v (.int .u32 0)), (.v (.int .u32 0)), (.v (.int .u32 0)), (.v (.int .u32 0))] [(0, 1, (.t 175)), (1, 1, (.t 177)), (2, 1, (.t 179)), (3, 1, (.t 181)), (4, 1, (.t 185)), (5, 1, (.t 187)), (6, 1, (.t 189)), (7, 1, (.t 191))]) (.op 22 [] none none false (.store (some 8) (.t 12) (.t 192)) .done)))))))))))))))))))))))))))))) (.reg false (.o 0 105 (.mov (.t 13)) (.o 1 106 (.bin .add (.t 105) (.i 1)) (.o 2 13 (.mov (.t 106)) .done))))))))) (.seq (.g (.o 0 19 (.mov (.i 0)) .done) (.block 6 (.loop (.seq (.g (.o 0 193 (.mov (.t 19)) (.o 1 194 (.bin .lss (.t 193) (.i 8)) .done)) (.cond (.t 194) .skip (.exit 6))) (.seq (.block 7 (.reg true (.op 0 [] (some 197) none true (.mov (.t 19)) (.op 1 [] (some 198) none true (.mov (.t 19)) (.op 2 [] (some 199) none true (.aad 8 1 (.t 2) (.t 198)) (.op 3 [] (some 200) none true (.load none (.t 199)) (.op 4 [] (some 201) none true (.mov (.t 19)) (.op 5 [] (some 202) none true (.aad 8 1 (.t 12) (.t 201)) (.op 6 [] (some 203) none true (.load none (.t 202)) (.op 7 [] (some 204) none true (.bin .add (.t 200) (.t 203)) (.op 8 [] (some 205) none true (.aad 8 1 (.t 2) (.t 197)) (.op 9 [3, 6] none none false (.store none (.t 205) (.t 204)) .done)))))))))))) (.reg false (.o 0 195 (.mov (.t 19)) (.o 1 196 (.bin .add (.t 195) (.i 1)) (.o 2 19 (.mov (.t 196)) .done))))))))) (.g (.o 0 206 (.load (some 8) (.t 2)) (.op 1 [] none none false (.store (some 8) (.t 4) (.t 206)) .done)) .ret))))))))
theorem dg_spec_l7block : Tryz.f237.body.bind (digC Tryz.prog Tryz.f237.ntmps []) = some c_spec_l7block := by kernel_rfl
theorem rs_spec_l7block : resSlots Tryz.prog Tryz.f237 = some [.m 4 (some 8)] := by kernel_rfl
theorem ok_spec_l7block (x : W8) (b : List UInt8) (hb : b.length = 64) :
    FnOK Tryz.prog 237 [.agg [.d (.sc (.int .u32 x.p0)), .d (.sc (.int .u32 x.p1)), .d (.sc (.int .u32 x.p2)), .d (.sc (.int .u32 x.p3)), .d (.sc (.int .u32 x.p4)), .d (.sc (.int .u32 x.p5)), .d (.sc (.int .u32 x.p6)), .d (.sc (.int .u32 x.p7))], .one (.d (encB b))] (fun ra _ => ∃ y : W8, True ∧ ra = [.agg [.d (.sc (.int .u32 y.p0)), .d (.sc (.int .u32 y.p1)), .d (.sc (.int .u32 y.p2)), .d (.sc (.int .u32 y.p3)), .d (.sc (.int .u32 y.p4)), .d (.sc (.int .u32 y.p5)), .d (.sc (.int .u32 y.p6)), .d (.sc (.int .u32 y.p7))]]) := by
  refine FnOK.ofK Tryz.func237 (by kernel_rfl) dg_spec_l7block rs_spec_l7block rfl rfl ?_
  delta c_spec_l7block T.o X.i C.g
  refine Kbc (kBox Y Y Y Y Y (kAlloc Y Y (Kdb (Kc (kAlloc Y Y (Kdb (Kbc (Ka Y (Kd (Kt ?_))))))))))
  refine kLoop (α := { y : Nat × List Int // y.1 ≤ 16 ∧ y.2.length = 64 }) (fun y => ⟨tabSl [(1, .dv (encB b)), (2, .c (.ptr (rid 2 0) 1 0)), (4, .c (.ptr (rid 4 0) 1 0)), (5, .c (.ptr (rid 5 0) 1 0)), (6, .i y.1.1)], obTab 1 [(rid 2 0, ⟨1, 0, .box (ws x.l)⟩), (rid 4 0, ⟨1, 0, .box (ws [0, 0, 0, 0, 0, 0, 0, 0])⟩), (rid 5 0, ⟨1, 0, .box (ws y.1.2)⟩)], []⟩) (fun y => 16 - y.1.1) ⟨(0, List.replicate 64 0), by simp⟩ .normW ?_
  rintro ⟨⟨i, l⟩, hi, hl⟩
  simp only at hi hl ⊢
  rcases Nat.lt_or_ge i 16 with hlt | hge
  · refine Kb (Kbc (Ka Y (Kj Y Y Y (Kd (Km Y (fun g0 => Kn (Kb (Kt (kRegD (Ka Y (Ka Y (Ka Y (kMul Y Y om (kIadR Y Y Y prl (Ky Y Y (kConv Y (kBinW Y Y (by first | exact rfl | (show (0 : Int) ≤ _; omega)) (fun x1 => (Ka Y (Ka Y (kMul Y Y om (kAdd Y Y om (kIadR Y Y Y prl (Ky Y Y (kConv Y (kBinW Y Y (by first | exact rfl | (show (0 : Int) ≤ _; omega)) (fun x2 => (kBinW Y Y (by first | exact rfl | (show (0 : Int) ≤ _; omega)) (fun x3 => (Ka Y (Ka Y (kMul Y Y om (kAdd Y Y om (kIadR Y Y Y prl (Ky Y Y (kConv Y (kBinW Y Y (by first | exact rfl | (show (0 : Int) ≤ _; omega)) (fun x4 => (kBinW Y Y (by first | exact rfl | (show (0 : Int) ≤ _; omega)) (fun x5 => (Ka Y (Ka Y (kMul Y Y om (kAdd Y Y om (kIadR Y Y Y prl (Ky Y Y (kConv Y (kBinW Y Y (by first | exact rfl | (show (0 : Int) ≤ _; omega)) (fun x6 => (kAad Y Y Y (by first | omega | (simp only; omega)) (Ks Y Y (kStoreW Y Y Y Y (by first | exact rfl | exact ws_all _) (by first | omega | (simp only [ws_len, List.length_cons, List.length_nil]; omega) | (refine Nat.lt_of_lt_of_le (m := 64) ?_ (leb); omega) | (refine Nat.lt_of_lt_of_le (m := 8) ?_ (leb); omega)) (fun x7 hx7 => (Kd (kH (Kv (Kc (Ka Y (kAdd Y Y om (Ka Y (Kd ?_)))))))))))))))))))))))))))))))))))))))))))))))))))))))) (fun g0 => om))))))
    refine kInv ⟨⟨(i + 1, x7), by omega, by rw [hx7, ws_len]; exact hl⟩, by simp only; omega, ?_⟩
    exact .normW
  · obtain rfl : i = 16 := by omega
    refine Kb (Kbc (Ka Y (Kj Y Y Y (Kd (kCondF Y (kExit (kExC (kExI (kExB (Kb (Kbc (Ka Y (Kd (Kt ?_))))))))))))))
    refine kLoop (α := { y : Nat × List Int // 16 ≤ y.1 ∧ y.1 ≤ 64 ∧ y.2.length = 64 }) (fun y => ⟨tabSl [(2, .c (.ptr (rid 2 0) 1 0)), (4, .c (.ptr (rid 4 0) 1 0)), (5, .c (.ptr (rid 5 0) 1 0)), (7, .i y.1.1)], obTab 1 [(rid 2 0, ⟨1, 0, .box (ws x.l)⟩), (rid 4 0, ⟨1, 0, .box (ws [0, 0, 0, 0, 0, 0, 0, 0])⟩), (rid 5 0, ⟨1, 0, .box (ws y.1.2)⟩)], []⟩) (fun y => 64 - y.1.1) ⟨(16, l), by simp only; omega⟩ .normW ?_
    rintro ⟨⟨i, l⟩, h0, hi, hl⟩
    simp only at h0 hi hl ⊢
    rcases Nat.lt_or_ge i 64 with hlt | hge
    · refine Kb (Kbc (Ka Y (Kj Y Y Y (Kd (Km Y (fun g0 => Kn (Kb (Kt (Kb (kRegD (Ka Y (kDif Y Y om (kAad Y Y Y (by first | omega | (simp only; omega)) (kLoadW Y Y (by first | exact rfl | exact ws_all _) (by first | omega | (simp only [ws_len, List.length_cons, List.length_nil]; omega) | (refine Nat.lt_of_lt_of_le (m := 64) ?_ (leb); omega) | (refine Nat.lt_of_lt_of_le (m := 8) ?_ (leb); omega)) (fun x1 => (Ka Y (kDif Y Y om (kAad Y Y Y (by first | omega | (simp only; omega)) (kLoadW Y Y (by first | exact rfl | exact ws_all _) (by first | omega | (simp only [ws_len, List.length_cons, List.length_nil]; omega) | (refine Nat.lt_of_lt_of_le (m := 64) ?_ (leb); omega) | (refine Nat.lt_of_lt_of_le (m := 8) ?_ (leb); omega)) (fun x2 => (Ka Y (Ka Y (Kd (kH (Kbc (Ka Y (kCallX true (ok_spec_l7turn _ _ prx) ⟨Y, Y, trivial⟩ Y (fun _ => rfl) (fun _ => rfl) (fun x3 _ hx3 => (Ka Y (kCallX true (ok_spec_l7turn _ _ prx) ⟨Y, Y, trivial⟩ Y (fun _ => rfl) (fun _ => rfl) (fun x4 _ hx4 => (kBinW Y Y (by first | exact rfl | (show (0 : Int) ≤ _; omega)) (fun x5 => (Ka Y (kBinW Y Y (by first | exact rfl | (show (0 : Int) ≤ _; omega)) (fun x6 => (kBinW Y Y (by first | exact rfl | (show (0 : Int) ≤ _; omega)) (fun x7 => (Ka Y (Kdb (Kc (Ka Y (kCallX true (ok_spec_l7turn _ _ prx) ⟨Y, Y, trivial⟩ Y (fun _ => rfl) (fun _ => rfl) (fun x8 _ hx8 => (Ka Y (kCallX true (ok_spec_l7turn _ _ prx) ⟨Y, Y, trivial⟩ Y (fun _ => rfl) (fun _ => rfl) (fun x9 _ hx9 => (kBinW Y Y (by first | exact rfl | (show (0 : Int) ≤ _; omega)) (fun x10 => (Ka Y (kBinW Y Y (by first | exact rfl | (show (0 : Int) ≤ _; omega)) (fun x11 => (kBinW Y Y (by first | exact rfl | (show (0 : Int) ≤ _; omega)) (fun x12 => (Ka Y (Kd (kRegD (Ka Y (Ka Y (kDif Y Y om (kAad Y Y Y (by first | omega | (simp only; omega)) (kLoadW Y Y (by first | exact rfl | exact ws_all _) (by first | omega | (simp only [ws_len, List.length_cons, List.length_nil]; omega) | (refine Nat.lt_of_lt_of_le (m := 64) ?_ (leb); omega) | (refine Nat.lt_of_lt_of_le (m := 8) ?_ (leb); omega)) (fun x13 => (Ka Y (kBinW Y Y (by first | exact rfl | (show (0 : Int) ≤ _; omega)) (fun x14 => (Ka Y (kDif Y Y om (kAad Y Y Y (by first | omega | (simp only; omega)) (kLoadW Y Y (by first | exact rfl | exact ws_all _) (by first | omega | (simp only [ws_len, List.length_cons, List.length_nil]; omega) | (refine Nat.lt_of_lt_of_le (m := 64) ?_ (leb); omega) | (refine Nat.lt_of_lt_of_le (m := 8) ?_ (leb); omega)) (fun x15 => (kBinW Y Y (by first | exact rfl | (show (0 : Int) ≤ _; omega)) (fun x16 => (Ka Y (kBinW Y Y (by first | exact rfl | (show (0 : Int) ≤ _; omega)) (fun x17 => (kAad Y Y Y (by first | omega | (simp only; omega)) (Ks Y Y (kStoreW Y Y Y Y (by first | exact rfl | exact ws_all _) (by first | omega | (simp only [ws_len, List.length_cons, List.length_nil]; omega) | (refine Nat.lt_of_lt_of_le (m := 64) ?_ (leb); omega) | (refine Nat.lt_of_lt_of_le (m := 8) ?_ (leb); omega)) (fun x18 hx18 => (Kd (kH (Kv (Kc (Ka Y (kAdd Y Y om (Ka Y (Kd ?_))))))))))))))))))))))))))))))))))))))))))))))))))))))))))))))))))))))))))))))))))) (fun g0 => om))))))
      refine kInv ⟨⟨(i + 1, x18), by simp only; omega, by simp only; omega, by rw [hx18, ws_len]; exact hl⟩, by simp only; omega, ?_⟩
      exact .normW
    · obtain rfl : i = 64 := by omega
      refine Kb (Kbc (Ka Y (Kj Y Y Y (Kd (kCondF Y (kExit (kExC (kExI (kExB (Kbc (Ke Y Y Y (kAlloc Y Y (kMem [(53248, ⟨2, 0, .box [.d _, .d _, .d _, .d _, .d _, .d _, .d _, .d _]⟩)] [(12, .c (.ptr 53248 2 0)), (102, .g [.d _, .d _, .d _, .d _, .d _, .d _, .d _, .d _])] [] ⟨Y, trivial⟩ ⟨Y, Y, trivial⟩ Y (Ko Y Y Y Y (Kdb (Kbc (Ka Y (Kd (Kt ?_)))))))))))))))))))
      refine kLoop (α := { y : Nat × W8 // y.1 ≤ 64 }) (fun y => ⟨tabSl [(2, .c (.ptr (rid 2 0) 1 0)), (4, .c (.ptr (rid 4 0) 1 0)), (5, .c (.ptr (rid 5 0) 1 0)), (12, .c (.ptr (rid 12 0) 1 0)), (13, .i y.1.1)], obTab 1 [(rid 2 0, ⟨1, 0, .box (ws x.l)⟩), (rid 4 0, ⟨1, 0, .box (ws [0, 0, 0, 0, 0, 0, 0, 0])⟩), (rid 5 0, ⟨1, 0, .box (ws l)⟩), (rid 12 0, ⟨1, 0, .box (ws y.1.2.l)⟩)], []⟩) (fun y => 64 - y.1.1) ⟨(0, x), by simp⟩ .normW ?_
      rintro ⟨⟨i, y⟩, hi⟩
      simp only at hi ⊢
      rcases Nat.lt_or_ge i 64 with hlt | hge
      · refine Kb (Kbc (Ka Y (Kj Y Y Y (Kd (Km Y (fun g0 => Kn (Kb (Kt (Kb (kRegD (kAad Y Y Y (by first | omega | (simp only; omega)) (Ke Y Y Y (kAad Y Y Y (by first | omega | (simp only; omega)) (Ke Y Y Y (kAad Y Y Y (by first | omega | (simp only; omega)) (Ke Y Y Y (Kx Y Y (kCallX true (ok_spec_l7turn _ _ prx) ⟨Y, Y, trivial⟩ Y (fun _ => rfl) (fun _ => rfl) (fun x1 _ hx1 => (Kx Y Y (kCallX true (ok_spec_l7turn _ _ prx) ⟨Y, Y, trivial⟩ Y (fun _ => rfl) (fun _ => rfl) (fun x2 _ hx2 => (kBinW Y Y (by first | exact rfl | (show (0 : Int) ≤ _; omega)) (fun x3 => (Ks Y Y (kCallX true (ok_spec_l7turn _ _ prx) ⟨Y, Y, trivial⟩ Y (fun _ => rfl) (fun _ => rfl) (fun x4 _ hx4 => (kBinW Y Y (by first | exact rfl | (show (0 : Int) ≤ _; omega)) (fun x5 => (Ka Y (Kd (kH (Kbc (kAad Y Y Y (by first | omega | (simp only; omega)) (Ke Y Y Y (kAad Y Y Y (by first | omega | (simp only; omega)) (Ke Y Y Y (kBinW Y Y (by first | exact rfl | (show (0 : Int) ≤ _; omega)) (fun x6 => (kAad Y Y Y (by first | omega | (simp only; omega)) (Ke Y Y Y (Kw Y Y (kAad Y Y Y (by first | omega | (simp only; omega)) (kMem [(53248, ⟨1, 0, .box [.d _, .d _, .d _, .d _, .d _, .d _, .d _, .d _]⟩)] [(126, .c (.ptr 53248 1 6)), (125, .c (.d _)), (122, .c (.d _))] [] ⟨Y, trivial⟩ ⟨Y, Y, Y, trivial⟩ Y (Ke Y Y Y (kBinW Y Y (by first | exact rfl | (show (0 : Int) ≤ _; omega)) (fun x7 => (kBinW Y Y (by first | exact rfl | (show (0 : Int) ≤ _; omega)) (fun x8 => (Ka Y (Kdb (kRegD (kAad Y Y Y (by first | omega | (simp only; omega)) (Ke Y Y Y (Ka Y (kBinW Y Y (by first | exact rfl | (show (0 : Int) ≤ _; omega)) (fun x9 => (Ka Y (kBinW Y Y (by first | exact rfl | (show (0 : Int) ≤ _; omega)) (fun x10 => (Ka Y (Ka Y (kAad Y Y Y (by first | omega | (simp only; omega)) (kLoadW Y Y (by first | exact rfl | exact ws_all _) (by first | omega | (simp only [ws_len, List.length_cons, List.length_nil]; omega) | (refine Nat.lt_of_lt_of_le (m := 64) ?_ (leb); omega) | (refine Nat.lt_of_lt_of_le (m := 8) ?_ (leb); omega)) (fun x11 => (kCallX true (ok_spec_l7round _ prx) ⟨Y, trivial⟩ Y (fun _ => rfl) (fun _ => rfl) (fun x12 _ hx12 => (kBinW Y Y (by first | exact rfl | (show (0 : Int) ≤ _; omega)) (fun x13 => (kBinW Y Y (by first | exact rfl | (show (0 : Int) ≤ _; omega)) (fun x14 => (Ka Y (Kd (kH (Kb (kRegD (kAad Y Y Y (by first | omega | (simp only; omega)) (Ke Y Y Y (kAad Y Y Y (by first | omega | (simp only; omega)) (Ke Y Y Y (kAad Y Y Y (by first | omega | (simp only; omega)) (Ke Y Y Y (Kx Y Y (kCallX true (ok_spec_l7turn _ _ prx) ⟨Y, Y, trivial⟩ Y (fun _ => rfl) (fun _ => rfl) (fun x15 _ hx15 => (Kx Y Y (kCallX true (ok_spec_l7turn _ _ prx) ⟨Y, Y, trivial⟩ Y (fun _ => rfl) (fun _ => rfl) (fun x16 _ hx16 => (kBinW Y Y (by first | exact rfl | (show (0 : Int) ≤ _; omega)) (fun x17 => (Ks Y Y (kCallX true (ok_spec_l7turn _ _ prx) ⟨Y, Y, trivial⟩ Y (fun _ => rfl) (fun _ => rfl) (fun x18 _ hx18 => (kBinW Y Y (by first | exact rfl | (show (0 : Int) ≤ _; omega)) (fun x19 => (Ka Y (Kd (kH (Kbc (kAad Y Y Y (by first | omega | (simp only; omega)) (Ke Y Y Y (kAad Y Y Y (by first | omega | (simp only; omega)) (Ke Y Y Y (kBinW Y Y (by first | exact rfl | (show (0 : Int) ≤ _; omega)) (fun x20 => (kAad Y Y Y (by first | omega | (simp only; omega)) (Ke Y Y Y (kAad Y Y Y (by first | omega | (simp only; omega)) (Ke Y Y Y (kMem [(53248, ⟨1, 0, .box [.d _, .d _, .d _, .d _, .d _, .d _, .d _, .d _]⟩)] [(160, .c (.d _)), (162, .c (.d _)), (158, .c (.d _)), (12, .c (.ptr 53248 1 0))] [] ⟨Y, trivial⟩ ⟨Y, Y, Y, Y, trivial⟩ Y (kBinW Y Y (by first | exact rfl | (show (0 : Int) ≤ _; omega)) (fun x21 => (kBinW Y Y (by first | exact rfl | (show (0 : Int) ≤ _; omega)) (fun x22 => (kAad Y Y Y (by first | omega | (simp only; omega)) (Ke Y Y Y (kAad Y Y Y (by first | omega | (simp only; omega)) (Ke Y Y Y (kBinW Y Y (by first | exact rfl | (show (0 : Int) ≤ _; omega)) (fun x23 => (kBinW Y Y (by first | exact rfl | (show (0 : Int) ≤ _; omega)) (fun x24 => (Ka Y (Kd (Kc (Ka Y (kMem [(53248, ⟨1, 0, .box [.d _, .d _, .d _, .d _, .d _, .d _, .d _, .d _]⟩)] [(17, .c (.d _)), (171, .c (.d _)), (18, .c (.d _)), (12, .c (.ptr 53248 1 0)), (16, .c (.d _))] [] ⟨Y, trivial⟩ ⟨Y, Y, Y, Y, Y, trivial⟩ Y (Ka Y (kBinW Y Y (by first | exact rfl | (show (0 : Int) ≤ _; omega)) (fun x25 => (Ka Y (kBinW Y Y (by first | exact rfl | (show (0 : Int) ≤ _; omega)) (fun x26 => (kAad Y Y Y (by first | omega | (simp only; omega)) (Ke Y Y Y (kAad Y Y Y (by first | omega | (simp only; omega)) (Ke Y Y Y (kAad Y Y Y (by first | omega | (simp only; omega)) (Ke Y Y Y (kMem [(53248, ⟨1, 0, .box [.d _, .d _, .d _, .d _, .d _, .d _, .d _, .d _]⟩)] [(12, .c (.ptr 53248 1 0)), (16, .c (.d _)), (175, .c (.d _)), (177, .c (.d _)), (179, .c (.d _)), (181, .c (.d _))] [] ⟨Y, trivial⟩ ⟨Y, Y, Y, Y, Y, Y, trivial⟩ Y (kAad Y Y Y (by first | omega | (simp only; omega)) (Ke Y Y Y (Ka Y (kBinW Y Y (by first | exact rfl | (show (0 : Int) ≤ _; omega)) (fun x27 => (kAad Y Y Y (by first | omega | (simp only; omega)) (Ke Y Y Y (kAad Y Y Y (by first | omega | (simp only; omega)) (Ke Y Y Y (kAad Y Y Y (by first | omega | (simp only; omega)) (kMem [(53248, ⟨1, 0, .box [.d _, .d _, .d _, .d _, .d _, .d _, .d _, .d _]⟩)] [(190, .c (.ptr 53248 1 6)), (175, .c (.d _)), (177, .c (.d _)), (179, .c (.d _)), (181, .c (.d _)), (185, .c (.d _)), (187, .c (.d _)), (189, .c (.d _)), (12, .c (.ptr 53248 1 0))] [] ⟨Y, trivial⟩ ⟨Y, Y, Y, Y, Y, Y, Y, Y, Y, trivial⟩ Y (Ke Y Y Y (kBuildG Y (kMem [(53248, ⟨1, 0, .box [.d _, .d _, .d _, .d _, .d _, .d _, .d _, .d _]⟩)] [(12, .c (.ptr 53248 1 0)), (192, .g [.d _, .d _, .d _, .d _, .d _, .d _, .d _, .d _])] [] ⟨Y, trivial⟩ ⟨Y, Y, trivial⟩ Y (Ko Y Y Y Y (Kd (Kv (Kc (Ka Y (kAdd Y Y om (Ka Y (Kd ?_))))))))))))))))))))))))))))))))))))))))))))))))))))))))))))))))))))))))))))))))))))))))))))))))))))))))))))))))))))))))))))))))))))))))))))))))))))))))))))) (fun g0 => om))))))
        refine kInv ⟨⟨(i + 1, ⟨x26, y.p0, y.p1, y.p2, x27, y.p4, y.p5, y.p6⟩), by simp only; omega⟩, by simp only; omega, ?_⟩
        exact .normW
      · obtain rfl : i = 64 := by omega
        refine Kb (Kbc (Ka Y (Kj Y Y Y (Kd (kCondF Y (kExit (kExC (kExI (kExB (Kb (Kbc (Ka Y (Kd (Kt ?_))))))))))))))
        refine kLoop (α := { y : Nat × List Int // y.1 ≤ 8 ∧ y.2.length = 8 }) (fun z => ⟨tabSl [(2, .c (.ptr (rid 2 0) 1 0)), (4, .c (.ptr (rid 4 0) 1 0)), (12, .c (.ptr (rid 12 0) 1 0)), (19, .i z.1.1)], obTab 1 [(rid 2 0, ⟨1, 0, .box (ws z.1.2)⟩), (rid 4 0, ⟨1, 0, .box (ws [0, 0, 0, 0, 0, 0, 0, 0])⟩), (rid 12 0, ⟨1, 0, .box (ws y.l)⟩)], []⟩) (fun z => 8 - z.1.1) ⟨(0, x.l), by simp [W8.l]⟩ .normW ?_
        rintro ⟨⟨i, l⟩, hi, hl⟩
        simp only at hi hl ⊢
        have hy : y.l.length = 8 := rfl
        rcases Nat.lt_or_ge i 8 with hlt | hge
        · refine Kb (Kbc (Ka Y (Kj Y Y Y (Kd (Km Y (fun g0 => Kn (Kb (Kt (kRegD (Ka Y (Ka Y (kAad Y Y Y (by first | omega | (simp only; omega)) (kLoadW Y Y (by first | exact rfl | exact ws_all _) (by first | omega | (simp only [ws_len, List.length_cons, List.length_nil]; omega) | (refine Nat.lt_of_lt_of_le (m := 64) ?_ (leb); omega) | (refine Nat.lt_of_lt_of_le (m := 8) ?_ (leb); omega)) (fun x1 => (Ka Y (kAad Y Y Y (by first | omega | (simp only; omega)) (kLoadW Y Y (by first | exact rfl | exact ws_all _) (by first | omega | (simp only [ws_len, List.length_cons, List.length_nil]; omega) | (refine Nat.lt_of_lt_of_le (m := 64) ?_ (leb); omega) | (refine Nat.lt_of_lt_of_le (m := 8) ?_ (leb); omega)) (fun x2 => (kBinW Y Y (by first | exact rfl | (show (0 : Int) ≤ _; omega)) (fun x3 => (kAad Y Y Y (by first | omega | (simp only; omega)) (Ks Y Y (kStoreW Y Y Y Y (by first | exact rfl | exact ws_all _) (by first | omega | (simp only [ws_len, List.length_cons, List.length_nil]; omega) | (refine Nat.lt_of_lt_of_le (m := 64) ?_ (leb); omega) | (refine Nat.lt_of_lt_of_le (m := 8) ?_ (leb); omega)) (fun x4 hx4 => (Kd (kH (Kv (Kc (Ka Y (kAdd Y Y om (Ka Y (Kd ?_))))))))))))))))))))))))))) (fun g0 => om))))))
          refine kInv ⟨⟨(i + 1, x4), by simp only; omega, by rw [hx4, ws_len]; exact hl⟩, by simp only; omega, ?_⟩
          exact .normW
        · obtain rfl : i = 8 := by omega
          obtain ⟨z, rfl⟩ := W8.ofL hl
          refine Kb (Kbc (Ka Y (Kj Y Y Y (Kd (kCondF Y (kExit (kExC (kExI (kExB (Kbc (Ke Y Y Y (kMem [(20480, ⟨1, 0, .box [.d _, .d _, .d _, .d _, .d _, .d _, .d _, .d _]⟩)] [(4, .c (.ptr 20480 1 0)), (206, .g [.d _, .d _, .d _, .d _, .d _, .d _, .d _, .d _])] [] ⟨Y, trivial⟩ ⟨Y, Y, trivial⟩ Y (Ko Y Y Y Y (Kd (kMem [(20480, ⟨1, 0, .box [.d _, .d _, .d _, .d _, .d _, .d _, .d _, .d _]⟩)] [(4, .c (.ptr 20480 1 0))] [] ⟨Y, trivial⟩ ⟨Y, trivial⟩ Y (Kr (Er (ra := [.agg [(.d _), (.d _), (.d _), (.d _), (.d _), (.d _), (.d _), (.d _)]]) rfl ?_)))))))))))))))))
          exact ⟨z, trivial, rfl⟩

def c_spec_l7first : C := (.g (.o 0 0 (.alloc 0 [(.v (.int .u32 0)), (.v (.int .u32 0)), (.v (.int .u32 0)), (.v (.int .u32 0)), (.v (.int .u32 0)), (.v (.int .u32 0)), (.v (.int .u32 0)), (.v (.int .u32 0))]) .done) (.g (.o 0 1 (.build [(.v (.int .u32 0)), (.v (.int .u32 0)), (.v (.int .u32 0)), (.v (.int .u32 0)), (.v (.int .u32 0)), (.v (.int .u32 0)), (.v (.int .u32 0)), (.v (.int .u32 0))] [(0, 1, (.v (.int .u32 1779033703))), (1, 1, (.v (.int .u32 3144134277))), (2, 1, (.v (.int .u32 1013904242))), (3, 1, (.v (.int .u32 2773480762))), (4, 1, (.v (.int .u32 1359893119))), (5, 1, (.v (.int .u32 2600822924))), (6, 1, (.v (.int .u32 528734635))), (7, 1, (.v (.int .u32 1541459225)))]) (.op 1 [] none none false (.store (some 8) (.t 0) (.t 1)) .done)) .ret))
theorem dg_spec_l7first : Tryz.f236.body.bind (digC Tryz.prog Tryz.f236.ntmps []) = some c_spec_l7first := by kernel_rfl
theorem rs_spec_l7first : resSlots Tryz.prog Tryz.f236 = some [.m 0 (some 8)] := by kernel_rfl
theorem ok_spec_l7first :
    FnOK Tryz.prog 236 [] (fun ra _ => ra = [.agg [.d (.sc (.int .u32 1779033703)), .d (.sc (.int .u32 3144134277)), .d (.sc (.int .u32 1013904242)), .d (.sc (.int .u32 2773480762)), .d (.sc (.int .u32 1359893119)), .d (.sc (.int .u32 2600822924)), .d (.sc (.int .u32 528734635)), .d (.sc (.int .u32 1541459225))]]) := by
  refine FnOK.ofK Tryz.func236 (by kernel_rfl) dg_spec_l7first rs_spec_l7first rfl rfl ?_
  delta c_spec_l7first T.o X.i C.g
  refine Kbc (kAlloc Y Y (Kdb (Kc (kBuildG Y (kMem [(4096, ⟨1, 0, .box [.d _, .d _, .d _, .d _, .d _, .d _, .d _, .d _]⟩)] [(0, .c (.ptr 4096 1 0)), (1, .g [.d _, .d _, .d _, .d _, .d _, .d _, .d _, .d _])] [] ⟨Y, trivial⟩ ⟨Y, Y, trivial⟩ Y (Ko Y Y Y Y (Kd (kMem [(4096, ⟨1, 0, .box [.d _, .d _, .d _, .d _, .d _, .d _, .d _, .d _]⟩)] [(0, .c (.ptr 4096 1 0))] [] ⟨Y, trivial⟩ ⟨Y, trivial⟩ Y (Kr (Er (ra := [.agg [(.d _), (.d _), (.d _), (.d _), (.d _), (.d _), (.d _), (.d _)]]) rfl rfl))))))))))

def c_spec_l7sum : C := (.g (.o 0 2 (.mov (.n 1)) .done) (.g (.o 0 10 (.lit 10 1 [(.v (.int .u8 0))] 0 []) (.o 1 11 (.mov (.t 0)) (.o 2 12 (.app 12 1 1 (.t 10) (.t 11)) (.o 3 13 (.lit 13 1 [(.v (.int .u8 0))] 1 [(0, 1, (.v (.int .u8 128)))]) (.o 4 14 (.app 14 1 1 (.t 12) (.t 13)) (.o 5 3 (.mov (.t 14)) .done)))))) (.seq (.block 0 (.loop (.seq (.g (.o 0 15 (.mov (.t 3)) (.o 1 16 (.len (.t 15)) (.o 2 17 (.bin .rem (.t 16) (.i 64)) (.o 3 18 (.bin .neq (.t 17) (.i 56)) .done)))) (.cond (.t 18) .skip (.exit 0))) (.block 1 (.reg false (.o 0 19 (.mov (.t 3)) (.o 1 20 (.lit 20 1 [(.v (.int .u8 0))] 1 [(0, 1, (.v (.int .u8 0)))]) (.o 2 21 (.app 21 1 1 (.t 19) (.t 20)) (.o 3 3 (.mov (.t 21)) .done))))))))) (.g (.o 0 22 (.mov (.t 0)) (.o 1 23 (.len (.t 22)) (.o 2 24 (.bin .mul (.t 23) (.i 8)) (.o 3 4 (.mov (.t 24)) .done)))) (.seq (.g (.o 0 5 (.mov (.i 7)) .done) (.block 2 (.loop (.seq (.g (.o 0 25 (.mov (.t 5)) (.o 1 26 (.bin .geq (.t 25) (.i 0)) .done)) (.cond (.t 26) .skip (.exit 2))) (.seq (.block 3 (.reg false (.o 0 29 (.mov (.t 3)) (.o 1 30 (.mov (.t 4)) (.o 2 31 (.mov (.t 5)) (.o 3 32 (.bin .mul (.i 8) (.t 31)) (.o 4 33 (.bin .shr (.t 30) (.t 32)) (.o 5 34 (.conv .u8 (.t 33)) (.o 6 35 (.lit 35 1 [(.v (.int .u8 0))] 1 [(0, 1, (.t 34))]) (.o 7 36 (.app 36 1 1 (.t 29) (.t 35)) (.o 8 3 (.mov (.t 36)) .done))))))))))) (.reg false (.o 0 27 (.mov (.t 5)) (.o 1 28 (.bin .sub (.t 27) (.i 1)) (.o 2 5 (.mov (.t 28)) .done))))))))) (.g (.o 0 37 (.call 37 236 []) (.o 1 6 (.alloc 6 [(.v (.int .u32 0)), (.v (.int .u32 0)), (.v (.int .u32 0)), (.v (.int .u32 0)), (.v (.int .u32 0)), (.v (.int .u32 0)), (.v (.int .u32 0)), (.v (.int .u32 0))]) (.op 2 [] none none false (.store (some 8) (.t 6) (.t 37)) .done))) (.seq (.g (.o 0 7 (.mov (.i 0)) .done) (.block 4 (.loop (.seq (.g (.o 0 38 (.mov (.t 7)) (.o 1 39 (.mov (.t 3)) (.o 2 40 (.len (.t 39)) (.o 3 41 (.bin .lss (.t 38) (.t 40)) .done)))) (.cond (.t 41) .skip (.exit 4))) (.seq (.block 5 (.reg true (.op 0 [] (some 44) none true (.load (some 8) (.t 6)) (.op 1 [] (some 45) none true (.mov (.t 3)) (.op 2 [] (some 46) none true (.mov (.t 7)) (.op 3 [] (some 47) none true (.mov (.t 7)) (.op 4 [] (some 48) none true (.bin .add (.t 47) (.i 64)) (.op 5 [] (some 49) none true (.cut 1 (.t 45) (some (.t 46)) (some (.t 48))) (.op 6 [0] (some 50) none false (.call 50 237 [(.t 44), (.t 49)]) (.op 7 [0] none none false (.store (some 8) (.t 6) (.t 50)) .done)))))))))) (.reg false (.o 0 42 (.mov (.t 7)) (.o 1 43 (.bin .add (.t 42) (.i 64)) (.o 2 7 (.mov (.t 43)) .done))))))))) (.g (.o 0 8 (.mov (.n 1)) .done) (.seq (.g (.o 0 9 (.mov (.i 0)) .done) (.block 6 (.loop (.seq (.g (.o 0 51 (.mov (.t 9)) (.o 1 52 (.bin .lss (.t 51) (.i 8)) .done)) (.cond (.t 52) .skip (.exit 6))) (.seq (.block 7 (.reg true (.op 0 [] (some 55) none true (.mov (.t 8)) (.op 1 [] (some 56) none true (.mov (.t 9)) (.op 2 [] (some 57) none true (.aad 8 1 (.t 6) (.t 56)) (.op 3 [] (some 58) none true (.load none (.t 57)) (.op 4 [] (some 59) none true (.bin .shr (.t 58) (.v (.int .u64 24))) (.op 5 [] (some 60) none true (.conv .u8 (.t 59)) (.op 6 [] (some 61) none true (.mov (.t 9)) (.op 7 [] (some 62) none true (.aad 8 1 (.t 6) (.t 61)) (.op 8 [] (some 63) none true (.load none (.t 62)) (.op 9 [] (some 64) none true (.bin .shr (.t 63) (.v (.int .u64 16))) (.op 10 [] (some 65) none true (.conv .u8 (.t 64)) (.op 11 [] (some 66) none true (.mov (.t 9)) (.op 12 [] (some 67) none true (.aad 8 1 (.t 6) (.t 66)) (.op 13 [] (some 68) none true (.load none (.t 67)) (.op 14 [] (some 69) none true (.bin .shr (.t 68) (.v (.int .u64 8))) (.op 15 [] (some 70) none true (.conv .u8 (.t 69)) (.op 16 [] (some 71) none true (.mov (.t 9)) (.op 17 [] (some 72) none true (.aad 8 1 (.t 6) (.t 71)) (.op 18 [] (some 73) none true (.load none (.t 72)) (.op 19 [] (some 74) none true (.conv .u8 (.t 73)) (.op 20 [3, 8, 13, 18] (some 75) none false (.lit 75 1 [(.v (.int .u8 0))] 4 [(0, 1, (.t 60)), (1, 1, (.t 65)), (2, 1, (.t 70)), (3, 1, (.t 74))]) (.op 21 [3, 8, 13, 18] (some 76) none false (.app 76 1 1 (.t 55) (.t 75)) (.op 22 [] (some 8) none true (.mov (.t 76)) .done))))))))))))))))))))))))) (.reg false (.o 0 53 (.mov (.t 9)) (.o 1 54 (.bin .add (.t 53) (.i 1)) (.o 2 9 (.mov (.t 54)) .done))))))))) (.g (.o 0 77 (.mov (.t 8)) (.o 1 2 (.mov (.t 77)) .done)) .ret))))))))))
theorem dg_spec_l7sum : Tryz.f154.body.bind (digC Tryz.prog Tryz.f154.ntmps []) = some c_spec_l7sum := by kernel_rfl
theorem rs_spec_l7sum : resSlots Tryz.prog Tryz.f154 = some [.s 2] := by kernel_rfl
theorem ok_spec_l7sum (b : List UInt8) (hb : b.length ≤ 1048576) :
    FnOK Tryz.prog 154 [.one (.d (encB b))] (fun ra _ => ∃ o : List UInt8, o.length = 32 ∧ ra = [.one (.own true (encB o))]) := by
  refine FnOK.ofK Tryz.func154 (by kernel_rfl) dg_spec_l7sum rs_spec_l7sum rfl rfl ?_
  delta c_spec_l7sum T.o X.i C.g
  refine Kbc (Ka Y (Kdb (Kc (kLitG Y Y Y Y (Ka Y (kAppN Y Y Y (src_encB _ _) rfl rfl rfl rfl prl (kLitG Y Y Y Y (kAppR1 (z := (128 : UInt8)) rfl rfl rfl rfl rfl rfl rfl rfl prl (kMem [(45056, ⟨3, 0, .arr true _⟩)] [(14, .c (.arr 45056 3))] [] ⟨Y, trivial⟩ ⟨Y, trivial⟩ Y (Ka Y (Kdb (Kt ?_))))))))))))
  refine kLoop (α := { y : List UInt8 // y.length + (120 - y.length % 64) % 64 ≤ b.length + 64 }) (fun y => ⟨tabSl [(0, .dv (encB b)), (3, .c (.arr (rid 10 0) 1))], obTab 1 [(rid 10 0, ⟨1, 0, .arr true (encB y.1)⟩)], []⟩) (fun y => (120 - y.1.length % 64) % 64) ⟨b ++ [128], by simp only [List.length_append, List.length_singleton]; omega⟩ .normA ?_
  rintro ⟨l, hl⟩
  simp only at hl ⊢
  have hm : (l.length : Int).tmod 64 = ((l.length % 64 : Nat) : Int) := by rw [Int.tmod_eq_emod_of_nonneg (by omega)]; omega
  refine Kb (Kbc (Ka Y (Kq Y Y (Kj Y Y Y (Kj Y Y Y (Kd (kCondIN Y (fun g0 => Kn (Kt (Kc (Ka Y (kLitG Y Y Y Y (kAppR1 (z := (0 : UInt8)) rfl rfl rfl rfl rfl rfl rfl rfl prl (Ka Y (Kd (Kv ?_))))))))) (fun g0 => kExit (kExC (kExI (kExB (Kbc (Ka Y (Kq Y Y (kMul Y Y om (Ka Y (Kdb (Kbc (Ka Y (Kd (Kt ?_)))))))))))))))))))))
  · have h56 : l.length % 64 ≠ 56 := by omega
    refine kInv ⟨⟨l ++ [0], by simp only [List.length_append, List.length_singleton]; omega⟩, by simp only [List.length_append, List.length_singleton]; omega, ?_⟩
    exact .normA
  · have h56 : l.length % 64 = 56 := by omega
    clear hm g0
    refine kLoop (α := { y : Nat × List UInt8 // y.1 ≤ 8 ∧ y.2.length = l.length + y.1 }) (fun y => ⟨tabSl [(3, .c (.arr (rid 10 0) 1)), (4, .i (b.length * 8)), (5, .i (7 - y.1.1))], obTab 1 [(rid 10 0, ⟨1, 0, .arr true (encB y.1.2)⟩)], []⟩) (fun y => 8 - y.1.1) ⟨(0, l), by simp⟩ .normA ?_
    rintro ⟨⟨k, l2⟩, hk, hl2⟩
    simp only at hk hl2 ⊢
    rcases Nat.lt_or_ge k 8 with hlt | hge
    · refine Kb (Kbc (Ka Y (Kj Y Y Y (Kd (Km Y (fun g0 => Kn (Kb (Kt (Kc (Ka Y (Ka Y (Ka Y (kMul Y Y om (kShrW Y Y om (fun x1 => (kConvU8 Y (kLitG Y Y Y Y (kAppR1 Y Y Y Y Y Y Y Y prl (kMem [(45056, ⟨2, 0, .arr true _⟩)] [(36, .c (.arr 45056 2))] [] ⟨Y, trivial⟩ ⟨Y, trivial⟩ Y (Ka Y (Kd (Kv (Kc (Ka Y (kDif Y Y om (Ka Y (Kd ?_)))))))))))))))))))))) (fun g0 => om))))))
      refine kInv ⟨⟨(k + 1, l2 ++ [u8 x1]), by simp only; omega, by simp only [List.length_append, List.length_singleton]; omega⟩, by simp only; omega, ?_⟩
      exact .normA
    · obtain rfl : k = 8 := by omega
      obtain ⟨m, hm⟩ : ∃ m, l2.length = 64 * m := ⟨l2.length / 64, by omega⟩
      refine Kb (Kbc (Ka Y (Kj Y Y Y (Kd (kCondF Y (kExit (kExC (kExI (kExB (Kbc (Kp (ok_spec_l7first) trivial rfl rfl rfl rfl rfl (kAlloc Y Y (kMem [(28672, ⟨2, 0, .box [.d _, .d _, .d _, .d _, .d _, .d _, .d _, .d _]⟩)] [(6, .c (.ptr 28672 2 0)), (37, .g [.d _, .d _, .d _, .d _, .d _, .d _, .d _, .d _])] [] ⟨Y, trivial⟩ ⟨Y, Y, trivial⟩ Y (Ko Y Y Y Y (Kdb (Kbc (Ka Y (Kd (Kt ?_)))))))))))))))))))
      refine kSub (Sub.frz (j := 3) rfl rfl (Nat.zero_lt_succ _)) ?_
      refine kLoop (α := { y : Nat × W8 // y.1 ≤ m }) (fun y => ⟨tabSl [(3, .dv (encB l2)), (6, .c (.ptr (rid 6 0) 2 0)), (7, .i (64 * y.1.1))], obTab 1 [(rid 6 0, ⟨2, 0, .box (ws y.1.2.l)⟩)], []⟩) (fun y => m - y.1.1) ⟨(0, ⟨1779033703, 3144134277, 1013904242, 2773480762, 1359893119, 2600822924, 528734635, 1541459225⟩), by simp⟩ .normA ?_
      rintro ⟨⟨i, y⟩, hi⟩
      simp only at hi ⊢
      rcases Nat.lt_or_ge i m with hlt | hge
      · have hcut : (List.take (64 * i + 64 - 64 * i) (List.drop (64 * i) l2)).length = 64 := by rw [List.length_take, List.length_drop]; omega
        refine Kb (Kbc (Ka Y (Ka Y (Kq Y Y (Kj Y Y Y (Kd (Km Y (fun g0 => Kn (Kb (Kt (kRegD (Ke Y Y Y (Ka Y (Ka Y (Ka Y (kAdd Y Y om (kCutB Y Y Y Y Y om (Ks Y Y (kCallX true (ok_spec_l7block _ _ prx) ⟨⟨⟨Y, Y, Y, Y, Y, Y, Y, Y, trivial⟩, leb⟩, rfl, trivial⟩ Y (fun _ => rfl) (fun _ => rfl) (fun x1 _ hx1 => (kMem [(28672, ⟨2, 0, .box [.d _, .d _, .d _, .d _, .d _, .d _, .d _, .d _]⟩)] [(6, .c (.ptr 28672 2 0)), (50, .g [.d _, .d _, .d _, .d _, .d _, .d _, .d _, .d _])] [] ⟨Y, trivial⟩ ⟨Y, Y, trivial⟩ Y (Ks Y Y (Ko Y Y Y Y (Kd (kH (Kv (Kc (Ka Y (kAdd Y Y om (Ka Y (Kd ?_)))))))))))))))))))))))) (fun g0 => om))))))))
        refine kInv ⟨⟨(i + 1, x1), by simp only; omega⟩, by simp only; omega, ?_⟩
        exact .normW
      · obtain rfl : i = m := by omega
        refine Kb (Kbc (Ka Y (Ka Y (Kq Y Y (Kj Y Y Y (Kd (Km Y (fun g0 => om) (fun g0 => kExit (kExC (kExI (kExB (Kbc (Ka Y (Kdb (Kbc (Ka Y (Kd (Kt ?_))))))))))))))))))
        refine kSub (Sub.nilArr (j := 8) (id := rid 5000 0) rfl (by decide)) ?_
        refine kLoop (α := { z : Nat × List UInt8 // z.1 ≤ 8 ∧ z.2.length = 4 * z.1 }) (fun z => ⟨tabSl [(6, .c (.ptr (rid 6 0) 2 0)), (8, .c (.arr (rid 5000 0) 1)), (9, .i z.1.1)], obTab 1 [(rid 6 0, ⟨2, 0, .box (ws y.l)⟩), (rid 5000 0, ⟨1, 0, .arr true (encB z.1.2)⟩)], []⟩) (fun z => 8 - z.1.1) ⟨(0, []), by simp⟩ .normW ?_
        rintro ⟨⟨i, o⟩, hi, ho⟩
        simp only at hi ho ⊢
        rcases Nat.lt_or_ge i 8 with hlt | hge
        · refine Kb (Kbc (Ka Y (Kj Y Y Y (Kd (Km Y (fun g0 => Kn (Kb (Kt (kRegD (Ka Y (Ka Y (kAad Y Y Y (by first | omega | (simp only; omega)) (kLoadW Y Y (by first | exact rfl | exact ws_all _) (by first | omega | (simp only [ws_len, List.length_cons, List.length_nil]; omega) | (refine Nat.lt_of_lt_of_le (m := 64) ?_ (leb); omega) | (refine Nat.lt_of_lt_of_le (m := 8) ?_ (leb); omega)) (fun x1 => (kBinW Y Y (by first | exact rfl | (show (0 : Int) ≤ _; omega)) (fun x2 => (kConvU8 Y (Ka Y (kAad Y Y Y (by first | omega | (simp only; omega)) (kLoadW Y Y (by first | exact rfl | exact ws_all _) (by first | omega | (simp only [ws_len, List.length_cons, List.length_nil]; omega) | (refine Nat.lt_of_lt_of_le (m := 64) ?_ (leb); omega) | (refine Nat.lt_of_lt_of_le (m := 8) ?_ (leb); omega)) (fun x3 => (kMem [(28672, ⟨2, 0, .box [.d _, .d _, .d _, .d _, .d _, .d _, .d _, .d _]⟩), (20484096, ⟨1, 0, .arr true _⟩)] [(63, .c (.d _)), (9, .c (.d _)), (6, .c (.ptr 28672 2 0)), (60, .c (.d _)), (55, .c (.arr 20484096 1))] [28672, 28672] ⟨Y, Y, trivial⟩ ⟨Y, Y, Y, Y, Y, trivial⟩ Y (kBinW Y Y (by first | exact rfl | (show (0 : Int) ≤ _; omega)) (fun x4 => (kConvU8 Y (Ka Y (kAad Y Y Y (by first | omega | (simp only; omega)) (kLoadW Y Y (by first | exact rfl | exact ws_all _) (by first | omega | (simp only [ws_len, List.length_cons, List.length_nil]; omega) | (refine Nat.lt_of_lt_of_le (m := 64) ?_ (leb); omega) | (refine Nat.lt_of_lt_of_le (m := 8) ?_ (leb); omega)) (fun x5 => (kBinW Y Y (by first | exact rfl | (show (0 : Int) ≤ _; omega)) (fun x6 => (kConvU8 Y (Ka Y (kAad Y Y Y (by first | omega | (simp only; omega)) (kLoadW Y Y (by first | exact rfl | exact ws_all _) (by first | omega | (simp only [ws_len, List.length_cons, List.length_nil]; omega) | (refine Nat.lt_of_lt_of_le (m := 64) ?_ (leb); omega) | (refine Nat.lt_of_lt_of_le (m := 8) ?_ (leb); omega)) (fun x7 => (kMem [(20484096, ⟨1, 0, .arr true _⟩)] [(73, .c (.d _)), (60, .c (.d _)), (65, .c (.d _)), (70, .c (.d _)), (55, .c (.arr 20484096 1))] [28672, 28672, 28672, 28672] ⟨Y, trivial⟩ ⟨Y, Y, Y, Y, Y, trivial⟩ Y (kConvU8 Y (Ks Y Y (kLitG Y Y Y Y (Ks Y Y (kAppR4 Y Y Y Y Y Y Y Y prl (Ka Y (Kd (kH (Kv (Kc (Ka Y (kAdd Y Y om (Ka Y (Kd ?_)))))))))))))))))))))))))))))))))))))))))))))) (fun g0 => om))))))
          refine kInv ⟨⟨(i + 1, o ++ [u8 x2, u8 x4, u8 x6, u8 x7]), by simp only; omega, by simp only [List.length_append, List.length_cons, List.length_nil]; omega⟩, by simp only; omega, ?_⟩
          exact .normW
        · obtain rfl : i = 8 := by omega
          refine Kb (Kbc (Ka Y (Kj Y Y Y (Kd (kCondF Y (kExit (kExC (kExI (kExB (Kbc (Ka Y (Ka Y (Kd (kMem [(20484096, ⟨1, 0, .arr true _⟩)] [(2, .c (.arr 20484096 1))] [] ⟨Y, trivial⟩ ⟨Y, trivial⟩ Y (Kr (Er (ra := [.one (.own true _)]) rfl ?_))))))))))))))))
          exact ⟨o, ho, rfl⟩

def c_spec_l7dhcid : C := (.g (.o 0 3 (.box 3 (.t 1)) (.o 1 4 (.mov (.n 1)) .done)) (.seq (.reg true (.op 2 [] (some 7) none true (.mov (.t 0)) (.op 4 [] (some 9) none true (.load (some 1) (.t 3)) (.alt (.o 0 5 (.lit 5 1 [(.v (.int .u8 0))] 3 [(0, 1, (.v (.int .u8 0))), (1, 1, (.v (.int .u8 1))), (2, 1, (.v (.int .u8 1)))]) (.o 1 6 (.lit 6 1 [(.v (.int .u8 0))] 0 []) (.o 3 8 (.app 8 1 1 (.t 6) (.t 7)) (.op 5 [4] (some 10) none false (.call 10 155 [(.n 1), (.t 9)]) (.op 6 [4] (some 11) none false (.app 11 1 1 (.t 8) (.t 10)) (.op 7 [4] (some 12) none false (.call 12 154 [(.t 11)]) (.op 8 [4] (some 13) none false (.app 13 1 1 (.t 5) (.t 12)) (.op 9 [] (some 4) none true (.mov (.t 13)) .done)))))))) (.o 1 6 (.lit 6 1 [(.v (.int .u8 0))] 0 []) (.alt (.o 0 5 (.lit 5 1 [(.v (.int .u8 0))] 3 [(0, 1, (.v (.int .u8 0))), (1, 1, (.v (.int .u8 1))), (2, 1, (.v (.int .u8 1)))]) (.o 3 8 (.app 8 1 1 (.t 6) (.t 7)) (.op 5 [4] (some 10) none false (.call 10 155 [(.n 1), (.t 9)]) (.op 6 [4] (some 11) none false (.app 11 1 1 (.t 8) (.t 10)) (.op 7 [4] (some 12) none false (.call 12 154 [(.t 11)]) (.op 8 [4] (some 13) none false (.app 13 1 1 (.t 5) (.t 12)) (.op 9 [] (some 4) none true (.mov (.t 13)) .done))))))) (.o 3 8 (.app 8 1 1 (.t 6) (.t 7)) (.alt (.o 0 5 (.lit 5 1 [(.v (.int .u8 0))] 3 [(0, 1, (.v (.int .u8 0))), (1, 1, (.v (.int .u8 1))), (2, 1, (.v (.int .u8 1)))]) (.op 5 [4] (some 10) none false (.call 10 155 [(.n 1), (.t 9)]) (.op 6 [4] (some 11) none false (.app 11 1 1 (.t 8) (.t 10)) (.op 7 [4] (some 12) none false (.call 12 154 [(.t 11)]) (.op 8 [4] (some 13) none false (.app 13 1 1 (.t 5) (.t 12)) (.op 9 [] (some 4) none true (.mov (.t 13)) .done)))))) (.op 5 [4] (some 10) none false (.call 10 155 [(.n 1), (.t 9)]) (.alt (.o 0 5 (.lit 5 1 [(.v (.int .u8 0))] 3 [(0, 1, (.v (.int .u8 0))), (1, 1, (.v (.int .u8 1))), (2, 1, (.v (.int .u8 1)))]) (.op 6 [4] (some 11) none false (.app 11 1 1 (.t 8) (.t 10)) (.op 7 [4] (some 12) none false (.call 12 154 [(.t 11)]) (.op 8 [4] (some 13) none false (.app 13 1 1 (.t 5) (.t 12)) (.op 9 [] (some 4) none true (.mov (.t 13)) .done))))) (.op 6 [4] (some 11) none false (.app 11 1 1 (.t 8) (.t 10)) (.alt (.o 0 5 (.lit 5 1 [(.v (.int .u8 0))] 3 [(0, 1, (.v (.int .u8 0))), (1, 1, (.v (.int .u8 1))), (2, 1, (.v (.int .u8 1)))]) (.op 7 [4] (some 12) none false (.call 12 154 [(.t 11)]) (.op 8 [4] (some 13) none false (.app 13 1 1 (.t 5) (.t 12)) (.op 9 [] (some 4) none true (.mov (.t 13)) .done)))) (.op 7 [4] (some 12) none false (.call 12 154 [(.t 11)]) (.o 0 5 (.lit 5 1 [(.v (.int .u8 0))] 3 [(0, 1, (.v (.int .u8 0))), (1, 1, (.v (.int .u8 1))), (2, 1, (.v (.int .u8 1)))]) (.op 8 [4] (some 13) none false (.app 13 1 1 (.t 5) (.t 12)) (.op 9 [] (some 4) none true (.mov (.t 13)) .done)))))))))))))))) .ret))
theorem dg_spec_l7dhcid : Tryz.f66.body.bind (digC Tryz.prog Tryz.f66.ntmps []) = some c_spec_l7dhcid := by kernel_rfl
theorem rs_spec_l7dhcid : resSlots Tryz.prog Tryz.f66 = some [.s 4] := by kernel_rfl
theorem ok_spec_l7dhcid (b : List UInt8) (n : List (List UInt8)) (hb : b.length ≤ 64) (hn : nameOk n = true) :
    FnOK Tryz.prog 66 [.one (.d (encB b)), .agg [.d (encBB n)]] (fun ra _ => ∃ o : List UInt8, o.length = 35 ∧ ra = [.one (.own true (encB o))]) := by
  refine FnOK.ofK Tryz.func66 (by kernel_rfl) dg_spec_l7dhcid rs_spec_l7dhcid rfl rfl ?_
  delta c_spec_l7dhcid T.o X.i C.g
  have hs := SmallBB.ok hn
  have hw := wireN_small hn
  refine Kbc (kBox Y Y Y Y Y (Ka Y (Kdb (kRegD (Ka Y (Ke Y Y Y (kAlt (kLitG Y Y Y Y (kLitG Y Y Y Y (kMem [(28672, ⟨1, 0, .arr true _⟩), (24576, ⟨1, 0, .arr true _⟩)] [(6, .c (.arr 28672 1)), (7, .c (.d _)), (9, .g [.d _]), (8, .c (.un)), (10, .c (.un)), (11, .c (.un)), (5, .c (.arr 24576 1)), (12, .c (.un)), (13, .c (.un))] [16384] ⟨Y, Y, trivial⟩ ⟨Y, Y, Y, Y, Y, Y, Y, Y, Y, trivial⟩ Y (kAppN Y Y Y (src_encB _ _) rfl rfl rfl rfl prl (Ks Y Y (Ku true (ok_spec_l2put_nil _ prx) ⟨⟨rfl, rfl⟩, ⟨⟨Y, trivial⟩, leb⟩, trivial⟩ Y Y Y (fun _ => (Ks Y Y (kAppR Y Y Y (src_ownB rfl) rfl rfl rfl rfl prl (Ks Y Y (kCallX true (ok_spec_l7sum _ prx) ⟨Y, trivial⟩ Y (fun _ => rfl) (fun _ => rfl) (fun x1 _ hx1 => (Ks Y Y ?_))))))))))))) (kLitG Y Y Y Y (kAlt (kLitG Y Y Y Y (kMem [(28672, ⟨1, 0, .arr true _⟩), (24576, ⟨1, 0, .arr true _⟩)] [(6, .c (.arr 28672 1)), (7, .c (.d _)), (9, .g [.d _]), (8, .c (.un)), (10, .c (.un)), (11, .c (.un)), (5, .c (.arr 24576 1)), (12, .c (.un)), (13, .c (.un))] [16384] ⟨Y, Y, trivial⟩ ⟨Y, Y, Y, Y, Y, Y, Y, Y, Y, trivial⟩ Y (kAppN Y Y Y (src_encB _ _) rfl rfl rfl rfl prl (Ks Y Y (Ku true (ok_spec_l2put_nil _ prx) ⟨⟨rfl, rfl⟩, ⟨⟨Y, trivial⟩, leb⟩, trivial⟩ Y Y Y (fun _ => (Ks Y Y (kAppR Y Y Y (src_ownB rfl) rfl rfl rfl rfl prl (Ks Y Y (kCallX true (ok_spec_l7sum _ prx) ⟨Y, trivial⟩ Y (fun _ => rfl) (fun _ => rfl) (fun x3 _ hx3 => (Ks Y Y ?_)))))))))))) (kAppN Y Y Y (src_encB _ _) rfl rfl rfl rfl prl (kMem [(28672, ⟨2, 0, .arr true _⟩)] [(9, .g [.d _]), (8, .c (.arr 28672 2)), (10, .c (.un)), (11, .c (.un)), (5, .c (.un)), (12, .c (.un)), (13, .c (.un))] [16384] ⟨Y, trivial⟩ ⟨Y, Y, Y, Y, Y, Y, Y, trivial⟩ Y (kAlt (kLitG Y Y Y Y (Ks Y Y (Ku true (ok_spec_l2put_nil _ prx) ⟨⟨rfl, rfl⟩, ⟨⟨Y, trivial⟩, leb⟩, trivial⟩ Y Y Y (fun _ => (Ks Y Y (kAppR Y Y Y (src_ownB rfl) rfl rfl rfl rfl prl (Ks Y Y (kCallX true (ok_spec_l7sum _ prx) ⟨Y, trivial⟩ Y (fun _ => rfl) (fun _ => rfl) (fun x5 _ hx5 => (Ks Y Y ?_)))))))))) (Ks Y Y (Ku true (ok_spec_l2put_nil _ prx) ⟨⟨rfl, rfl⟩, ⟨⟨Y, trivial⟩, leb⟩, trivial⟩ Y Y Y (fun _ => (kAlt (kLitG Y Y Y Y (Ks Y Y (kAppR Y Y Y (src_ownB rfl) rfl rfl rfl rfl prl (Ks Y Y (kCallX true (ok_spec_l7sum _ prx) ⟨Y, trivial⟩ Y (fun _ => rfl) (fun _ => rfl) (fun x7 _ hx7 => (Ks Y Y ?_))))))) (Ks Y Y (kAppR Y Y Y (src_ownB rfl) rfl rfl rfl rfl prl (kAlt (kLitG Y Y Y Y (Ks Y Y (kCallX true (ok_spec_l7sum _ prx) ⟨Y, trivial⟩ Y (fun _ => rfl) (fun _ => rfl) (fun x9 _ hx9 => (Ks Y Y ?_))))) (Ks Y Y (kCallX true (ok_spec_l7sum _ prx) ⟨Y, trivial⟩ Y (fun _ => rfl) (fun _ => rfl) (fun x10 _ hx10 => (kLitG Y Y Y Y (Ks Y Y ?_))))))))))))))))))))))))
  · refine kAppR (f := fun b : UInt8 => [DV.sc (.int .u8 (b.toNat : Int))]) (l := [(0 : UInt8), 1, 1]) rfl rfl rfl (src_ownB rfl) rfl rfl rfl rfl ?_ ?_
    · simp only [List.length_append, List.length_cons, List.length_nil]; omega
    refine Ka Y (Kd (kH (kMem [(24576, ⟨2, 0, .arr true _⟩)] [(4, .c (.arr 24576 2))] [] ⟨Y, trivial⟩ ⟨Y, trivial⟩ Y (Kr (Er (ra := [.one (.own true _)]) rfl ?_)))))
    first | exact ⟨[0, 1, 1] ++ x0, by rw [List.length_append, hx0]; rfl, rfl⟩ | exact ⟨[0, 1, 1] ++ x1, by rw [List.length_append, hx1]; rfl, rfl⟩ | exact ⟨[0, 1, 1] ++ x2, by rw [List.length_append, hx2]; rfl, rfl⟩ | exact ⟨[0, 1, 1] ++ x3, by rw [List.length_append, hx3]; rfl, rfl⟩ | exact ⟨[0, 1, 1] ++ x4, by rw [List.length_append, hx4]; rfl, rfl⟩ | exact ⟨[0, 1, 1] ++ x5, by rw [List.length_append, hx5]; rfl, rfl⟩ | exact ⟨[0, 1, 1] ++ x6, by rw [List.length_append, hx6]; rfl, rfl⟩ | exact ⟨[0, 1, 1] ++ x7, by rw [List.length_append, hx7]; rfl, rfl⟩ | exact ⟨[0, 1, 1] ++ x9, by rw [List.length_append, hx9]; rfl, rfl⟩ | exact ⟨[0, 1, 1] ++ x11, by rw [List.length_append, hx11]; rfl, rfl⟩ | exact ⟨[0, 1, 1] ++ x10, by rw [List.length_append, hx10]; rfl, rfl⟩ | exact ⟨[0, 1, 1] ++ x8, by rw [List.length_append, hx8]; rfl, rfl⟩ | exact ⟨[0, 1, 1] ++ x12, by rw [List.length_append, hx12]; rfl, rfl⟩
  · refine kAppR (f := fun b : UInt8 => [DV.sc (.int .u8 (b.toNat : Int))]) (l := [(0 : UInt8), 1, 1]) rfl rfl rfl (src_ownB rfl) rfl rfl rfl rfl ?_ ?_
    · simp only [List.length_append, List.length_cons, List.length_nil]; omega
    refine Ka Y (Kd (kH (kMem [(24576, ⟨2, 0, .arr true _⟩)] [(4, .c (.arr 24576 2))] [] ⟨Y, trivial⟩ ⟨Y, trivial⟩ Y (Kr (Er (ra := [.one (.own true _)]) rfl ?_)))))
    first | exact ⟨[0, 1, 1] ++ x0, by rw [List.length_append, hx0]; rfl, rfl⟩ | exact ⟨[0, 1, 1] ++ x1, by rw [List.length_append, hx1]; rfl, rfl⟩ | exact ⟨[0, 1, 1] ++ x2, by rw [List.length_append, hx2]; rfl, rfl⟩ | exact ⟨[0, 1, 1] ++ x3, by rw [List.length_append, hx3]; rfl, rfl⟩ | exact ⟨[0, 1, 1] ++ x4, by rw [List.length_append, hx4]; rfl, rfl⟩ | exact ⟨[0, 1, 1] ++ x5, by rw [List.length_append, hx5]; rfl, rfl⟩ | exact ⟨[0, 1, 1] ++ x6, by rw [List.length_append, hx6]; rfl, rfl⟩ | exact ⟨[0, 1, 1] ++ x7, by rw [List.length_append, hx7]; rfl, rfl⟩ | exact ⟨[0, 1, 1] ++ x9, by rw [List.length_append, hx9]; rfl, rfl⟩ | exact ⟨[0, 1, 1] ++ x11, by rw [List.length_append, hx11]; rfl, rfl⟩ | exact ⟨[0, 1, 1] ++ x10, by rw [List.length_append, hx10]; rfl, rfl⟩ | exact ⟨[0, 1, 1] ++ x8, by rw [List.length_append, hx8]; rfl, rfl⟩ | exact ⟨[0, 1, 1] ++ x12, by rw [List.length_append, hx12]; rfl, rfl⟩
  · refine kAppR (f := fun b : UInt8 => [DV.sc (.int .u8 (b.toNat : Int))]) (l := [(0 : UInt8), 1, 1]) rfl rfl rfl (src_ownB rfl) rfl rfl rfl rfl ?_ ?_
    · simp only [List.length_append, List.length_cons, List.length_nil]; omega
    refine Ka Y (Kd (kH (kMem [(24576, ⟨2, 0, .arr true _⟩)] [(4, .c (.arr 24576 2))] [] ⟨Y, trivial⟩ ⟨Y, trivial⟩ Y (Kr (Er (ra := [.one (.own true _)]) rfl ?_)))))
    first | exact ⟨[0, 1, 1] ++ x0, by rw [List.length_append, hx0]; rfl, rfl⟩ | exact ⟨[0, 1, 1] ++ x1, by rw [List.length_append, hx1]; rfl, rfl⟩ | exact ⟨[0, 1, 1] ++ x2, by rw [List.length_append, hx2]; rfl, rfl⟩ | exact ⟨[0, 1, 1] ++ x3, by rw [List.length_append, hx3]; rfl, rfl⟩ | exact ⟨[0, 1, 1] ++ x4, by rw [List.length_append, hx4]; rfl, rfl⟩ | exact ⟨[0, 1, 1] ++ x5, by rw [List.length_append, hx5]; rfl, rfl⟩ | exact ⟨[0, 1, 1] ++ x6, by rw [List.length_append, hx6]; rfl, rfl⟩ | exact ⟨[0, 1, 1] ++ x7, by rw [List.length_append, hx7]; rfl, rfl⟩ | exact ⟨[0, 1, 1] ++ x9, by rw [List.length_append, hx9]; rfl, rfl⟩ | exact ⟨[0, 1, 1] ++ x11, by rw [List.length_append, hx11]; rfl, rfl⟩ | exact ⟨[0, 1, 1] ++ x10, by rw [List.length_append, hx10]; rfl, rfl⟩ | exact ⟨[0, 1, 1] ++ x8, by rw [List.length_append, hx8]; rfl, rfl⟩ | exact ⟨[0, 1, 1] ++ x12, by rw [List.length_append, hx12]; rfl, rfl⟩
  · refine kAppR (f := fun b : UInt8 => [DV.sc (.int .u8 (b.toNat : Int))]) (l := [(0 : UInt8), 1, 1]) rfl rfl rfl (src_ownB rfl) rfl rfl rfl rfl ?_ ?_
    · simp only [List.length_append, List.length_cons, List.length_nil]; omega
    refine Ka Y (Kd (kH (kMem [(24576, ⟨2, 0, .arr true _⟩)] [(4, .c (.arr 24576 2))] [] ⟨Y, trivial⟩ ⟨Y, trivial⟩ Y (Kr (Er (ra := [.one (.own true _)]) rfl ?_)))))
    first | exact ⟨[0, 1, 1] ++ x0, by rw [List.length_append, hx0]; rfl, rfl⟩ | exact ⟨[0, 1, 1] ++ x1, by rw [List.length_append, hx1]; rfl, rfl⟩ | exact ⟨[0, 1, 1] ++ x2, by rw [List.length_append, hx2]; rfl, rfl⟩ | exact ⟨[0, 1, 1] ++ x3, by rw [List.length_append, hx3]; rfl, rfl⟩ | exact ⟨[0, 1, 1] ++ x4, by rw [List.length_append, hx4]; rfl, rfl⟩ | exact ⟨[0, 1, 1] ++ x5, by rw [List.length_append, hx5]; rfl, rfl⟩ | exact ⟨[0, 1, 1] ++ x6, by rw [List.length_append, hx6]; rfl, rfl⟩ | exact ⟨[0, 1, 1] ++ x7, by rw [List.length_append, hx7]; rfl, rfl⟩ | exact ⟨[0, 1, 1] ++ x9, by rw [List.length_append, hx9]; rfl, rfl⟩ | exact ⟨[0, 1, 1] ++ x11, by rw [List.length_append, hx11]; rfl, rfl⟩ | exact ⟨[0, 1, 1] ++ x10, by rw [List.length_append, hx10]; rfl, rfl⟩ | exact ⟨[0, 1, 1] ++ x8, by rw [List.length_append, hx8]; rfl, rfl⟩ | exact ⟨[0, 1, 1] ++ x12, by rw [List.length_append, hx12]; rfl, rfl⟩
  · refine kAppR (f := fun b : UInt8 => [DV.sc (.int .u8 (b.toNat : Int))]) (l := [(0 : UInt8), 1, 1]) rfl rfl rfl (src_ownB rfl) rfl rfl rfl rfl ?_ ?_
    · simp only [List.length_append, List.length_cons, List.length_nil]; omega
    refine Ka Y (Kd (kH (kMem [(24576, ⟨2, 0, .arr true _⟩)] [(4, .c (.arr 24576 2))] [] ⟨Y, trivial⟩ ⟨Y, trivial⟩ Y (Kr (Er (ra := [.one (.own true _)]) rfl ?_)))))
    first | exact ⟨[0, 1, 1] ++ x0, by rw [List.length_append, hx0]; rfl, rfl⟩ | exact ⟨[0, 1, 1] ++ x1, by rw [List.length_append, hx1]; rfl, rfl⟩ | exact ⟨[0, 1, 1] ++ x2, by rw [List.length_append, hx2]; rfl, rfl⟩ | exact ⟨[0, 1, 1] ++ x3, by rw [List.length_append, hx3]; rfl, rfl⟩ | exact ⟨[0, 1, 1] ++ x4, by rw [List.length_append, hx4]; rfl, rfl⟩ | exact ⟨[0, 1, 1] ++ x5, by rw [List.length_append, hx5]; rfl, rfl⟩ | exact ⟨[0, 1, 1] ++ x6, by rw [List.length_append, hx6]; rfl, rfl⟩ | exact ⟨[0, 1, 1] ++ x7, by rw [List.length_append, hx7]; rfl, rfl⟩ | exact ⟨[0, 1, 1] ++ x9, by rw [List.length_append, hx9]; rfl, rfl⟩ | exact ⟨[0, 1, 1] ++ x11, by rw [List.length_append, hx11]; rfl, rfl⟩ | exact ⟨[0, 1, 1] ++ x10, by rw [List.length_append, hx10]; rfl, rfl⟩ | exact ⟨[0, 1, 1] ++ x8, by rw [List.length_append, hx8]; rfl, rfl⟩ | exact ⟨[0, 1, 1] ++ x12, by rw [List.length_append, hx12]; rfl, rfl⟩
  · refine kAppR (f := fun b : UInt8 => [DV.sc (.int .u8 (b.toNat : Int))]) (l := [(0 : UInt8), 1, 1]) rfl rfl rfl (src_ownB rfl) rfl rfl rfl rfl ?_ ?_
    · simp only [List.length_append, List.length_cons, List.length_nil]; omega
    refine Ka Y (Kd (kH (kMem [(24576, ⟨2, 0, .arr true _⟩)] [(4, .c (.arr 24576 2))] [] ⟨Y, trivial⟩ ⟨Y, trivial⟩ Y (Kr (Er (ra := [.one (.own true _)]) rfl ?_)))))
    first | exact ⟨[0, 1, 1] ++ x0, by rw [List.length_append, hx0]; rfl, rfl⟩ | exact ⟨[0, 1, 1] ++ x1, by rw [List.length_append, hx1]; rfl, rfl⟩ | exact ⟨[0, 1, 1] ++ x2, by rw [List.length_append, hx2]; rfl, rfl⟩ | exact ⟨[0, 1, 1] ++ x3, by rw [List.length_append, hx3]; rfl, rfl⟩ | exact ⟨[0, 1, 1] ++ x4, by rw [List.length_append, hx4]; rfl, rfl⟩ | exact ⟨[0, 1, 1] ++ x5, by rw [List.length_append, hx5]; rfl, rfl⟩ | exact ⟨[0, 1, 1] ++ x6, by rw [List.length_append, hx6]; rfl, rfl⟩ | exact ⟨[0, 1, 1] ++ x7, by rw [List.length_append, hx7]; rfl, rfl⟩ | exact ⟨[0, 1, 1] ++ x9, by rw [List.length_append, hx9]; rfl, rfl⟩ | exact ⟨[0, 1, 1] ++ x11, by rw [List.length_append, hx11]; rfl, rfl⟩ | exact ⟨[0, 1, 1] ++ x10, by rw [List.length_append, hx10]; rfl, rfl⟩ | exact ⟨[0, 1, 1] ++ x8, by rw [List.length_append, hx8]; rfl, rfl⟩ | exact ⟨[0, 1, 1] ++ x12, by rw [List.length_append, hx12]; rfl, rfl⟩

def c_spec_DrawOwner : C := (.g (.o 0 2 (.alloc 2 [(.n 1), (.n 7)]) (.o 1 3 (.alloc 3 [(.n 1)]) (.o 2 4 (.mov (.n 1)) .done))) (.g (.o 0 9 (.mov (.t 0)) (.o 1 10 (.call 10 63 [(.t 9)]) (.o 2 5 (.mov (.t 10)) .done))) (.g (.o 0 11 (.mov (.t 5)) (.o 1 12 (.call 12 64 [(.t 11)]) (.o 2 6 (.alloc 6 [(.n 1), (.n 7)]) (.op 3 [] none none false (.store (some 2) (.t 6) (.t 12)) .done)))) (.g (.o 0 13 (.mov (.t 5)) (.o 1 14 (.call 14 65 [(.t 13)]) (.o 2 7 (.alloc 7 [(.n 1)]) (.op 3 [] none none false (.store (some 1) (.t 7) (.t 14)) .done)))) (.seq (.reg true (.op 0 [] (some 15) none true (.mov (.t 5)) (.op 2 [] (some 17) none true (.load (some 1) (.t 7)) (.o 1 16 (.call 16 67 [(.t 15)]) (.op 3 [2] (some 18) none false (.call 18 66 [(.t 16), (.t 17)]) (.op 4 [] (some 8) none true (.mov (.t 18)) .done)))))) (.seq (.g (.o 0 19 (.mov (.t 5)) (.o 1 20 (.call 20 68 [(.t 19), (.i 2)]) .done)) (.cond (.t 20) (.reg true (.op 0 [] (some 22) none true (.load (some 2) (.t 6)) (.op 1 [] (some 23) none true (.load (some 1) (.t 7)) (.op 2 [] (some 24) none true (.mov (.t 5)) (.op 4 [] (some 26) none true (.load (some 1) (.t 7)) (.o 3 25 (.call 25 67 [(.t 24)]) (.op 5 [4] (some 27) none false (.call 27 66 [(.t 25), (.t 26)]) (.op 6 [] (some 28) none true (.build [(.n 1), (.i 0), (.i 0), (.i 0), (.n 1), (.n 1), (.n 1)] [(0, 1, (.t 23)), (1, 1, (.i 49)), (2, 1, (.i 9)), (5, 1, (.t 27))]) (.op 7 [0, 1, 4] (some 29) none false (.call 29 69 [(.t 22), (.t 28)]) (.op 8 [] (some 21) none true (.mov (.t 29)) (.op 9 [] (some 30) none true (.ext (.t 21) 0) (.op 10 [] (some 31) none true (.ext (.t 21) 1) (.op 11 [0, 1, 4] none none false (.store (some 2) (.t 6) (.t 30)) .done))))))))))))) .skip)) (.seq (.reg true (.op 0 [] (some 32) none true (.load (some 2) (.t 6)) (.op 1 [] (some 33) none true (.load (some 1) (.t 7)) (.op 2 [] (some 34) none true (.mov (.t 8)) (.op 3 [0] none none false (.store (some 2) (.t 2) (.t 32)) (.op 4 [1, 0] none none false (.store (some 1) (.t 3) (.t 33)) (.op 5 [] (some 4) none true (.mov (.t 34)) .done))))))) .ret)))))))
theorem dg_spec_DrawOwner : Tryz.f12.body.bind (digC Tryz.prog Tryz.f12.ntmps []) = some c_spec_DrawOwner := by kernel_rfl
theorem rs_spec_DrawOwner : resSlots Tryz.prog Tryz.f12 = some [.m 2 (some 2), .m 3 (some 1), .s 4] := by kernel_rfl
theorem ok_spec_DrawOwner (code : List UInt8) (hb : (code.length : Int) ≤ 9223372036854775807) :
    FnOK Tryz.prog 12 [.one (.d (encB code))] (fun ra _ => ∃ x : Zone × List (List UInt8) × List UInt8, (SmallZ x.1 ∧ nameOk x.2.1 = true) ∧ ra = [.agg [.d (encBB x.1.origin), .d (encR x.1.rrs)], .agg [.d (encBB x.2.1)], .one (.d (encB x.2.2))]) := by
  refine FnOK.ofK Tryz.func12 (by kernel_rfl) dg_spec_DrawOwner rs_spec_DrawOwner rfl rfl ?_
  delta c_spec_DrawOwner T.o X.i C.g
  refine Kbc (kAlloc Y Y (kAlloc Y Y (Ka Y (Kdb (Kc (Ka Y (kCallX false (ok_spec_l1New _ prx) ⟨Y, trivial⟩ Y (fun _ => rfl) (fun _ => rfl) (fun x0 _ hx0 => (Ka Y (Kdb (Kc (Ka Y (Kz (ok_spec_l5bent _) ⟨⟨rfl, _, rfl, rfl⟩, trivial⟩ Y Y Y (fun _ => rfl) (fun x1 hx1 => (kAlloc Y Y (kMem [(28672, ⟨1, 0, .box [.nil 1, .nil 7]⟩)] [(6, .c (.ptr 28672 1 0)), (12, .g [.d _, .d _])] [] ⟨Y, trivial⟩ ⟨Y, Y, trivial⟩ Y (Ko Y Y Y Y (Kdb (Kc (Ka Y (Kz (ok_spec_l5owned _) ⟨⟨rfl, _, rfl, rfl⟩, trivial⟩ Y Y Y (fun _ => rfl) (fun x2 hx2 => (kAlloc Y Y (Ko Y Y Y Y (Kdb (kRegD (Ka Y (Ke Y Y Y (kMem [(45056, ⟨1, 2, .box [.d _, .d _, .d _]⟩), (61440, ⟨1, 0, .arr true _⟩)] [(15, .c (.ptr 45056 1 0)), (16, .c (.un)), (17, .g [.arr 61440 1]), (18, .c (.un))] [32768] ⟨Y, Y, trivial⟩ ⟨Y, Y, Y, Y, trivial⟩ Y (Kz (ok_spec_l7drawClient _) ⟨⟨rfl, _, rfl, rfl⟩, trivial⟩ Y Y Y (fun _ => rfl) (fun x3 hx3 => (Ks Y Y (kCallX true (ok_spec_l7dhcid _ _ prx prx) ⟨rfl, ⟨⟨Y, trivial⟩, leb⟩, trivial⟩ Y (fun _ => rfl) (fun _ => rfl) (fun x4 _ hx4 => (Ka Y (Kd (kH (Kb (Kbc (Ka Y (Kz (ok_spec_l1Once _ _) ⟨⟨rfl, _, rfl, rfl⟩, rfl, trivial⟩ Y Y Y (fun _ => rfl) (fun x5 hx5 => (Kd (kCond Y (fun g6 => kRegD (Ke Y Y Y (Ke Y Y Y (Ka Y (Ke Y Y Y (Kz (ok_spec_l7drawClient _) ⟨⟨rfl, _, rfl, rfl⟩, trivial⟩ Y Y Y (fun _ => rfl) (fun x7 hx7 => (kMem [(61440, ⟨1, 0, .arr true _⟩), (28672, ⟨1, 0, .box [.d _, .d _]⟩)] [(25, .c (.d _)), (26, .g [.arr 61440 1]), (23, .g [.arr 61440 1]), (27, .c (.un)), (22, .g [.d _, .d _]), (28, .c (.un)), (29, .c (.un)), (21, .c (.un)), (6, .c (.ptr 28672 1 0)), (30, .c (.un))] [32768, 32768, 28672] ⟨Y, Y, trivial⟩ ⟨Y, Y, Y, Y, Y, Y, Y, Y, Y, Y, trivial⟩ Y (Kx Y Y (kCallX true (ok_spec_l7dhcid _ _ prx prx) ⟨rfl, ⟨⟨Y, trivial⟩, leb⟩, trivial⟩ Y (fun _ => rfl) (fun _ => rfl) (fun x8 _ hx8 => (kBuildG Y (Ks Y Y ?_))))))))))))) (fun g6 => Kn (Kb (kRegD (Ke Y Y Y (Ke Y Y Y (Ka Y (kMem [(12288, ⟨1, 0, .box [.nil 1, .nil 7]⟩), (16384, ⟨1, 0, .box [.nil 1]⟩), (61440, ⟨1, 0, .arr true _⟩), (77824, ⟨1, 0, .arr true _⟩)] [(2, .c (.ptr 12288 1 0)), (32, .g [.d _, .d _]), (3, .c (.ptr 16384 1 0)), (33, .g [.arr 61440 1]), (34, .c (.arr 77824 1))] [32768, 28672] ⟨Y, Y, Y, Y, trivial⟩ ⟨Y, Y, Y, Y, Y, trivial⟩ Y (Kx Y Y (Ko Y Y Y Y (Ks Y Y (Ko Y Y Y Y (Ka Y (Kd (kH (kMem [(12288, ⟨1, 0, .box [.d _, .d _]⟩), (16384, ⟨1, 0, .box [.arr 61440 1]⟩), (77824, ⟨1, 0, .arr true _⟩), (61440, ⟨1, 0, .arr true _⟩)] [(2, .c (.ptr 12288 1 0)), (3, .c (.ptr 16384 1 0)), (4, .c (.arr 77824 1))] [] ⟨Y, Y, Y, Y, trivial⟩ ⟨Y, Y, Y, trivial⟩ Y (Kr (Er (ra := [.agg [(.d _), (.d _)], .agg [(.d _)], .one (.d _)]) rfl ?_)))))))))))))))))))))))))))))))))))))))))))))))))))))))))))))
  · have hr : SmallR ⟨x2.1, 49, 9, 0, [], x8, []⟩ := ⟨.ok hx2, .ok rfl, by simp only; omega, by simp⟩
    refine Ku true (ok_spec_Add x1.1 ⟨x2.1, 49, 9, 0, [], x8, []⟩ hx1 hr) ⟨⟨⟨Y, Y, trivial⟩, leb⟩, ⟨⟨Y, Y, Y, Y, Y, Y, Y, trivial⟩, leb⟩, trivial⟩ rfl rfl rfl fun os => ?_
    refine kMovT Y (kExtC Y Y (kExtC Y Y (kMem [(28672, ⟨1, 0, .box [.d _, .d _]⟩), (122880, ⟨1, 0, .arr true _⟩), (122881, ⟨1, 0, .arr true _⟩)] [(6, .c (.ptr 28672 1 0)), (30, .g [.arr 122880 1, .arr 122881 1])] [] ⟨Y, Y, Y, trivial⟩ ⟨Y, Y, trivial⟩ Y (Ks Y Y (Ko Y Y Y Y (Kd (kH (Kb (kRegD (Ke Y Y Y (Ke Y Y Y (Ka Y (kMem [(12288, ⟨1, 0, .box [.nil 1, .nil 7]⟩), (122880, ⟨1, 0, .arr true _⟩), (122881, ⟨1, 0, .arr true _⟩), (16384, ⟨1, 0, .box [.nil 1]⟩), (61440, ⟨1, 0, .arr true _⟩), (77824, ⟨1, 0, .arr true _⟩)] [(2, .c (.ptr 12288 1 0)), (32, .g [.arr 122880 1, .arr 122881 1]), (3, .c (.ptr 16384 1 0)), (33, .g [.arr 61440 1]), (34, .c (.arr 77824 1))] [32768, 28672] ⟨Y, Y, Y, Y, Y, Y, trivial⟩ ⟨Y, Y, Y, Y, Y, trivial⟩ Y (Kx Y Y (Ko Y Y Y Y (Ks Y Y (Ko Y Y Y Y (Ka Y (Kd (kH (kMem [(12288, ⟨1, 0, .box [.arr 122880 1, .arr 122881 1]⟩), (16384, ⟨1, 0, .box [.arr 61440 1]⟩), (77824, ⟨1, 0, .arr true _⟩), (122880, ⟨1, 0, .arr true _⟩), (122881, ⟨1, 0, .arr true _⟩), (61440, ⟨1, 0, .arr true _⟩)] [(2, .c (.ptr 12288 1 0)), (3, .c (.ptr 16384 1 0)), (4, .c (.arr 77824 1))] [] ⟨Y, Y, Y, Y, Y, Y, trivial⟩ ⟨Y, Y, Y, trivial⟩ Y (Kr (Er (ra := [.agg [(.d _), (.d _)], .agg [(.d _)], .one (.d _)]) rfl ?_)))))))))))))))))))))))
    exact ⟨(addN x1.1 ⟨x2.1, 49, 9, 0, [], x8, []⟩, x2.1, x4), ⟨addN_small, hx2⟩, rfl⟩
  · exact ⟨(x1.1, x2.1, x4), ⟨hx1, hx2⟩, rfl⟩

def c_bytes_Equal : C := (.g (.o 0 4 (.mov (.v (.bool false))) .done) (.g (.o 0 5 (.mov (.t 0)) (.o 1 6 (.b2s (.t 5)) (.o 2 7 (.mov (.t 1)) (.o 3 8 (.b2s (.t 7)) (.o 4 9 (.bin .eql (.t 6) (.t 8)) (.o 5 4 (.mov (.t 9)) .done)))))) .ret))
theorem dg_bytes_Equal : Tryz.f163.body.bind (digC Tryz.prog Tryz.f163.ntmps []) = some c_bytes_Equal := by kernel_rfl
theorem rs_bytes_Equal : resSlots Tryz.prog Tryz.f163 = some [.s 4] := by kernel_rfl
theorem ok_bytes_Equal (a b : List UInt8) :
    FnOK Tryz.prog 163 [.one (.d (encB a)), .one (.d (encB b))] (fun ra _ => ra = [.one (.d (.sc (.bool (a == b))))]) := by
  refine FnOK.ofK Tryz.func163 (by kernel_rfl) dg_bytes_Equal rs_bytes_Equal rfl rfl ?_
  delta c_bytes_Equal T.o X.i C.g
  refine Kbc (Ka Y (Kdb (Kc (Ka Y (kB2s Y Y (Ka Y (kB2s Y Y (Kj Y Y Y (Ka Y (Kd (Kr (Er (ra := [.one (.d _)]) rfl ?_))))))))))))
  simp only [bt_list]

def c_impl_Zone_owner_1 : C := (.g (.o 0 2 (.box 2 (.t 0)) (.o 1 3 (.mov (.v (.bool false))) .done)) (.g (.o 0 4 (.fad (.t 2) 5) (.o 1 5 (.load none (.t 4)) (.o 2 6 (.load none (.t 1)) (.o 3 7 (.call 7 163 [(.t 5), (.t 6)]) (.o 4 3 (.mov (.t 7)) .done))))) .ret))
theorem dg_impl_Zone_owner_1 : Tryz.f162.body.bind (digC Tryz.prog Tryz.f162.ntmps []) = some c_impl_Zone_owner_1 := by kernel_rfl
theorem rs_impl_Zone_owner_1 : resSlots Tryz.prog Tryz.f162 = some [.s 3] := by kernel_rfl
theorem ok_impl_Zone_owner_1 (o : Rr) (b : List UInt8) :
    FnOK Tryz.prog 162 [.agg (o.cells.map .d), .one (.ptr [.d (encB b)])] (fun ra _ => ra = [.one (.d (.sc (.bool (o.text == b))))]) := by
  refine FnOK.ofK Tryz.func162 (by kernel_rfl) dg_impl_Zone_owner_1 rs_impl_Zone_owner_1 rfl rfl ?_
  delta c_impl_Zone_owner_1 T.o X.i C.g
  refine Kbc (kBox Y Y Y Y Y (Ka Y (Kdb (Kc (Kf Y Y (Ke Y Y Y (kLoadC Y Y (Kp (ok_bytes_Equal _ _) ⟨Y, Y, trivial⟩ Y Y Y Y Y (Ka Y (Kd (Kr (Er (ra := [.one (.d _)]) rfl rfl))))))))))))

theorem ok_bytes_Compare (a b : List UInt8) : FnOK Tryz.prog 226 [.one (.d (encB a)), .one (.d (encB b))] (fun ra _ => ra = [.one (.d (.sc (.int .i64 (cmpB a b))))]) := by
  refine FnOK.ofWalkB Tryz.func226 rfl (by kernel_rfl) fun w va vb h1 h2 => ?_
  have hc := run_compare (P := Tryz.prog) (w := w) (va := va) (vb := vb) Tryz.func291 (by kernel_rfl) rfl (by kernel_rfl) (by kernel_rfl) h1 h2
  go_enter Tryz.func226, Tryz.ntmps226
  go_wp2
  all_goals go_ret
  exact ⟨rfl, Go.RowKit.Below.refl _ _, by first | exact Nat.le_refl _ | exact Nat.le_succ _ | (simp only [Go.World.drew, Go.World.drewN]; omega)⟩

def c_cmp_isNaN_int : C := (.g (.o 0 2 (.mov (.v (.bool false))) .done) (.g (.o 0 3 (.mov (.t 0)) (.o 1 4 (.mov (.t 0)) (.o 2 5 (.bin .neq (.t 3) (.t 4)) (.o 3 2 (.mov (.t 5)) .done)))) .ret))
theorem dg_cmp_isNaN_int : Tryz.f290.body.bind (digC Tryz.prog Tryz.f290.ntmps []) = some c_cmp_isNaN_int := by kernel_rfl
theorem rs_cmp_isNaN_int : resSlots Tryz.prog Tryz.f290 = some [.s 2] := by kernel_rfl
theorem ok_cmp_isNaN_int (a : Int) :
    FnOK Tryz.prog 290 [.one (.d (.sc (.int .i64 a)))] (fun ra _ => ra = [.one (.d (.sc (.bool false)))]) := by
  refine FnOK.ofK Tryz.func290 (by kernel_rfl) dg_cmp_isNaN_int rs_cmp_isNaN_int rfl rfl ?_
  delta c_cmp_isNaN_int T.o X.i C.g
  refine Kbc (Ka Y (Kdb (Kc (Ka Y (Ka Y (Kj Y Y Y (Ka Y (Kd (Kr (Er (ra := [.one (.d _)]) rfl ?_))))))))))
  rw [show (a != a) = false by simp]

def c_cmp_Compare_int : C := (.g (.o 0 4 (.mov (.i 0)) .done) (.g (.o 0 7 (.mov (.t 0)) (.o 1 8 (.call 8 290 [(.t 7)]) (.o 2 5 (.mov (.t 8)) .done))) (.g (.o 0 9 (.mov (.t 1)) (.o 1 10 (.call 10 290 [(.t 9)]) (.o 2 6 (.mov (.t 10)) .done))) (.seq (.g (.o 0 11 (.mov (.t 5)) .done) (.cond (.t 11) (.seq (.g (.o 0 12 (.mov (.t 6)) .done) (.cond (.t 12) (.g (.o 0 4 (.mov (.i 0)) .done) .ret) .skip)) (.g (.o 0 4 (.mov (.i (-1))) .done) .ret)) .skip)) (.seq (.g (.o 0 13 (.mov (.t 6)) .done) (.cond (.t 13) (.g (.o 0 4 (.mov (.i 1)) .done) .ret) .skip)) (.seq (.g (.o 0 14 (.mov (.t 0)) (.o 1 15 (.mov (.t 1)) (.o 2 16 (.bin .lss (.t 14) (.t 15)) .done))) (.cond (.t 16) (.g (.o 0 4 (.mov (.i (-1))) .done) .ret) .skip)) (.seq (.g (.o 0 17 (.mov (.t 0)) (.o 1 18 (.mov (.t 1)) (.o 2 19 (.bin .gtr (.t 17) (.t 18)) .done))) (.cond (.t 19) (.g (.o 0 4 (.mov (.i 1)) .done) .ret) .skip)) (.g (.o 0 4 (.mov (.i 0)) .done) .ret))))))))
theorem dg_cmp_Compare_int : Tryz.f225.body.bind (digC Tryz.prog Tryz.f225.ntmps []) = some c_cmp_Compare_int := by kernel_rfl
theorem rs_cmp_Compare_int : resSlots Tryz.prog Tryz.f225 = some [.s 4] := by kernel_rfl
theorem ok_cmp_Compare_int (a b : Int) :
    FnOK Tryz.prog 225 [.one (.d (.sc (.int .i64 a))), .one (.d (.sc (.int .i64 b)))] (fun ra _ => ra = [.one (.d (.sc (.int .i64 (cmpI a b))))]) := by
  refine FnOK.ofK Tryz.func225 (by kernel_rfl) dg_cmp_Compare_int rs_cmp_Compare_int rfl rfl ?_
  delta c_cmp_Compare_int T.o X.i C.g
  refine Kbc (Ka Y (Kdb (Kc (Ka Y (Kp (ok_cmp_isNaN_int _) ⟨Y, trivial⟩ Y Y Y Y Y (Ka Y (Kdb (Kc (Ka Y (Kp (ok_cmp_isNaN_int _) ⟨Y, trivial⟩ Y Y Y Y Y (Ka Y (Kdb (Kbc (Ka Y (Kd (kCondF Y (Kn (Kb (Kbc (Ka Y (Kd (kCondF Y (Kn (Kb (Kbc (Ka Y (Ka Y (Kj Y Y Y (Kd (Km Y (fun g0 => Kbc (Ka Y (Kd (Kr (Er (ra := [.one (.d _)]) rfl ?_))))) (fun g0 => Kn (Kb (Kbc (Ka Y (Ka Y (Kj Y Y Y (Kd (Km Y (fun g1 => Kbc (Ka Y (Kd (Kr (Er (ra := [.one (.d _)]) rfl ?_))))) (fun g1 => Kn (Kbc (Ka Y (Kd (Kr (Er (ra := [.one (.d _)]) rfl ?_))))))))))))))))))))))))))))))))))))))))))))
  all_goals (refine congrArg (fun z : Int => [RA.one (RV.d (DV.sc (Value.int IntKind.i64 z)))]) ?_; unfold cmpI; split <;> first | omega | (split <;> omega))

def c_impl_Name_compare : C := (.g (.o 0 2 (.box 2 (.t 0)) (.o 1 3 (.box 3 (.t 1)) (.o 2 4 (.mov (.i 0)) .done))) (.seq (.g (.o 0 5 (.mov (.i 1)) .done) (.block 0 (.loop (.seq (.g (.o 0 7 (.mov (.t 5)) (.o 1 8 (.fad (.t 2) 0) (.o 2 9 (.load none (.t 8)) (.o 3 10 (.len (.t 9)) (.o 4 11 (.fad (.t 3) 0) (.o 5 12 (.load none (.t 11)) (.o 6 13 (.len (.t 12)) (.o 7 14 (.mm false (.t 10) (.t 13)) (.o 8 15 (.bin .leq (.t 7) (.t 14)) .done))))))))) (.cond (.t 15) .skip (.exit 0))) (.seq (.block 1 (.seq (.reg true (.op 0 [] (some 18) none true (.fad (.t 2) 0) (.op 1 [] (some 19) none true (.load none (.t 18)) (.op 2 [] (some 20) none true (.fad (.t 2) 0) (.op 3 [] (some 21) none true (.load none (.t 20)) (.op 4 [] (some 22) none true (.len (.t 21)) (.op 5 [] (some 23) none true (.mov (.t 5)) (.op 6 [] (some 24) none true (.bin .sub (.t 22) (.t 23)) (.op 7 [] (some 25) none true (.iad 1 (.t 19) (.t 24)) (.op 8 [] (some 26) none true (.load none (.t 25)) (.op 9 [] (some 27) none true (.fad (.t 3) 0) (.op 10 [] (some 28) none true (.load none (.t 27)) (.op 11 [] (some 29) none true (.fad (.t 3) 0) (.op 12 [] (some 30) none true (.load none (.t 29)) (.op 13 [] (some 31) none true (.len (.t 30)) (.op 14 [] (some 32) none true (.mov (.t 5)) (.op 15 [] (some 33) none true (.bin .sub (.t 31) (.t 32)) (.op 16 [] (some 34) none true (.iad 1 (.t 28) (.t 33)) (.op 17 [] (some 35) none true (.load none (.t 34)) (.op 18 [8, 1, 3, 17, 10, 12] (some 36) none false (.call 36 226 [(.t 26), (.t 35)]) (.op 19 [] (some 6) none true (.mov (.t 36)) .done))))))))))))))))))))) (.g (.o 0 37 (.mov (.t 6)) (.o 1 38 (.bin .neq (.t 37) (.i 0)) .done)) (.cond (.t 38) (.g (.o 0 39 (.mov (.t 6)) (.o 1 4 (.mov (.t 39)) .done)) .ret) .skip)))) (.reg false (.o 0 16 (.mov (.t 5)) (.o 1 17 (.bin .add (.t 16) (.i 1)) (.o 2 5 (.mov (.t 17)) .done))))))))) (.g (.o 0 40 (.fad (.t 2) 0) (.o 1 41 (.load none (.t 40)) (.o 2 42 (.len (.t 41)) (.o 3 43 (.fad (.t 3) 0) (.o 4 44 (.load none (.t 43)) (.o 5 45 (.len (.t 44)) (.o 6 46 (.call 46 225 [(.t 42), (.t 45)]) (.o 7 4 (.mov (.t 46)) .done)))))))) .ret)))
theorem dg_impl_Name_compare : Tryz.f221.body.bind (digC Tryz.prog Tryz.f221.ntmps []) = some c_impl_Name_compare := by kernel_rfl
theorem rs_impl_Name_compare : resSlots Tryz.prog Tryz.f221 = some [.s 4] := by kernel_rfl
theorem ok_impl_Name_compare (a b : List (List UInt8)) (ha : a.length ≤ 4194304) (hb : b.length ≤ 4194304) :
    FnOK Tryz.prog 221 [.agg [.d (encBB a)], .agg [.d (encBB b)]] (fun ra _ => ra = [.one (.d (.sc (.int .i64 (cmpN a b))))]) := by
  refine FnOK.ofK Tryz.func221 (by kernel_rfl) dg_impl_Name_compare rs_impl_Name_compare rfl rfl ?_
  delta c_impl_Name_compare T.o X.i C.g
  refine Kbc (kBox Y Y Y Y Y (kBox Y Y Y Y Y (Ka Y (Kdb (Kbc (Ka Y (Kd (Kt ?_))))))))
  refine kLoop (α := { k : Nat // k ≤ a.length ∧ k ≤ b.length ∧ cmpN a b = cmpL (a.reverse.drop k) (b.reverse.drop k) })
    (fun y => ⟨tabSl [(2, .c (.ptr (rid 2 0) 1 0)), (3, .c (.ptr (rid 3 0) 1 0)), (5, .i (y.1 + 1))], obTab 1 [(rid 2 0, ⟨1, 0, .box [.d (encBB a)]⟩), (rid 3 0, ⟨1, 0, .box [.d (encBB b)]⟩)], []⟩) (fun y => a.length - y.1) ⟨0, by simp [cmpN]⟩
    .normA ?_
  rintro ⟨k, h1, h2, h3⟩
  simp only
  rcases Nat.lt_or_ge k a.length with hla | hga
  · rcases Nat.lt_or_ge k b.length with hlb | hgb
    · have hst := cmpL_step a b k hla hlb (a.length - (k + 1) : Int).toNat (b.length - (k + 1) : Int).toNat (by omega) (by omega)
      refine Kb (Kbc (Ka Y (Kf Y Y (Ke Y Y Y (Kq Y Y (Kf Y Y (Ke Y Y Y (Kq Y Y (kMmMin Y Y (Kj Y Y Y (Kd (Km Y (fun g0 => Kn (Kb (Kt (Kb (kRegD (Kf Y Y (Ke Y Y Y (Kf Y Y (Ke Y Y Y (Kq Y Y (Ka Y (kDif Y Y om (kIadT Y Y om (Ky Y Y (Kf Y Y (Ke Y Y Y (Kf Y Y (Ke Y Y Y (Kq Y Y (Ka Y (kDif Y Y om (kIadT Y Y om (Ky Y Y (Ks Y Y (Kp (ok_bytes_Compare _ _) ⟨Y, Y, trivial⟩ Y Y Y Y Y (Ka Y (Kd (kH (Kbc (Ka Y (Kj Y Y Y (Kd (kCondIN Y (fun g1 => Kbc (Ka Y (Ka Y (Kd (Kr (Er (ra := [.one (.d _)]) rfl ?_)))))) (fun g1 => Kn (Kv (Kc (Ka Y (kAdd Y Y om (Ka Y (Kd ?_)))))))))))))))))))))))))))))))))))))))) (fun g0 => om)))))))))))))
      · rw [h3, hst, if_neg (by assumption)]
      · refine kInv ⟨⟨k + 1, hla, hlb, ?_⟩, by simp only; omega, .normA⟩
        rw [h3, hst, if_pos (by assumption)]
    · rw [cmpL_end a b k h1 h2 (by omega)] at h3
      refine Kb (Kbc (Ka Y (Kf Y Y (Ke Y Y Y (Kq Y Y (Kf Y Y (Ke Y Y Y (Kq Y Y (kMmMin Y Y (Kj Y Y Y (Kd (Km Y (fun g0 => om) (fun g0 => kExit (kExC (kExI (kExB (Kbc (Kf Y Y (Ke Y Y Y (Kq Y Y (Kf Y Y (Ke Y Y Y (Kq Y Y (Kp (ok_cmp_Compare_int _ _) ⟨Y, Y, trivial⟩ Y Y Y Y Y (Ka Y (Kd (Kr (Er (ra := [.one (.d _)]) rfl ?_))))))))))))))))))))))))))))
      all_goals (rw [h3]; refine congrArg (fun z : Int => [RA.one (RV.d (DV.sc (Value.int IntKind.i64 z)))]) ?_; unfold cmpI; split <;> (repeat' split) <;> omega)
  · rw [cmpL_end a b k h1 h2 (by omega)] at h3
    refine Kb (Kbc (Ka Y (Kf Y Y (Ke Y Y Y (Kq Y Y (Kf Y Y (Ke Y Y Y (Kq Y Y (kMmMin Y Y (Kj Y Y Y (Kd (Km Y (fun g0 => om) (fun g0 => kExit (kExC (kExI (kExB (Kbc (Kf Y Y (Ke Y Y Y (Kq Y Y (Kf Y Y (Ke Y Y Y (Kq Y Y (Kp (ok_cmp_Compare_int _ _) ⟨Y, Y, trivial⟩ Y Y Y Y Y (Ka Y (Kd (Kr (Er (ra := [.one (.d _)]) rfl ?_))))))))))))))))))))))))))))
    all_goals (rw [h3]; refine congrArg (fun z : Int => [RA.one (RV.d (DV.sc (Value.int IntKind.i64 z)))]) ?_; unfold cmpI; split <;> (repeat' split) <;> omega)

def c_impl_Name_is : C := (.g (.o 0 2 (.box 2 (.t 0)) (.o 1 3 (.box 3 (.t 1)) (.o 2 4 (.mov (.v (.bool false))) .done))) (.g (.o 0 5 (.load (some 1) (.t 2)) (.o 1 6 (.load (some 1) (.t 3)) (.o 2 7 (.call 7 221 [(.t 5), (.t 6)]) (.o 3 8 (.bin .eql (.t 7) (.i 0)) (.o 4 4 (.mov (.t 8)) .done))))) .ret))
theorem dg_impl_Name_is : Tryz.f131.body.bind (digC Tryz.prog Tryz.f131.ntmps []) = some c_impl_Name_is := by kernel_rfl
theorem rs_impl_Name_is : resSlots Tryz.prog Tryz.f131 = some [.s 4] := by kernel_rfl
theorem ok_impl_Name_is (a b : List (List UInt8)) (ha : a.length ≤ 4194304) (hb : b.length ≤ 4194304) :
    FnOK Tryz.prog 131 [.agg [.d (encBB a)], .agg [.d (encBB b)]] (fun ra _ => ra = [.one (.d (.sc (.bool (decide (a = b)))))]) := by
  refine FnOK.ofK Tryz.func131 (by kernel_rfl) dg_impl_Name_is rs_impl_Name_is rfl rfl ?_
  delta c_impl_Name_is T.o X.i C.g
  rw [← cmpN_zero]
  refine Kbc (kBox Y Y Y Y Y (kBox Y Y Y Y Y (Ka Y (Kdb (Kc (Ke Y Y Y (Ke Y Y Y (Kp (ok_impl_Name_compare _ _ pr pr) ⟨⟨⟨Y, trivial⟩, leb⟩, ⟨⟨Y, trivial⟩, leb⟩, trivial⟩ Y Y Y Y Y (Kj Y Y Y (Ka Y (Kd (Kr (Er (ra := [.one (.d _)]) rfl rfl)))))))))))))

def c_impl_Zone_set : C := (.g (.o 0 3 (.box 3 (.t 0)) (.o 1 4 (.box 4 (.t 1)) (.o 2 6 (.mov (.n 7)) .done))) (.g (.o 0 10 (.lit 10 7 [(.n 1), (.i 0), (.i 0), (.i 0), (.n 1), (.n 1), (.n 1)] 0 []) (.o 1 7 (.mov (.t 10)) .done)) (.seq (.g (.o 0 11 (.fad (.t 3) 1) (.o 1 12 (.load none (.t 11)) (.o 2 13 (.len (.t 12)) (.o 3 14 (.mov (.i 0)) .done)))) (.block 0 (.loop (.g (.o 0 15 (.bin .lss (.t 14) (.t 13)) .done) (.seq (.cond (.t 15) .skip (.exit 0)) (.seq (.block 1 (.g (.o 0 16 (.iad 7 (.t 12) (.t 14)) (.o 1 17 (.load (some 7) (.t 16)) (.o 2 9 (.alloc 9 [(.n 1), (.i 0), (.i 0), (.i 0), (.n 1), (.n 1), (.n 1)]) (.op 3 [] none none false (.store (some 7) (.t 9) (.t 17)) .done)))) (.g (.o 0 18 (.fad (.t 9) 0) (.o 1 19 (.load (some 1) (.t 18)) (.o 2 20 (.load (some 1) (.t 4)) (.o 3 21 (.call 21 131 [(.t 19), (.t 20)]) (.o 4 22 (.mov (.t 21)) (.op 5 [] (some 23) (some (22, true)) false (.mov (.t 2)) (.op 6 [] (some 24) (some (22, true)) false (.bin .eql (.t 23) (.i 255)) (.op 7 [] (some 25) (some (22, true)) false (.mov (.t 24)) (.op 8 [] (some 26) (some (25, false)) false (.fad (.t 9) 1) (.op 9 [] (some 27) (some (25, false)) false (.load none (.t 26)) (.op 10 [] (some 28) (some (25, false)) false (.mov (.t 2)) (.op 11 [] (some 29) (some (25, false)) false (.bin .eql (.t 27) (.t 28)) (.op 12 [] (some 30) (some (22, true)) false (.pick (.t 25) (.v (.bool true)) (.t 29)) (.o 13 31 (.pick (.t 22) (.t 30) (.v (.bool false))) .done)))))))))))))) (.cond (.t 31) (.reg false (.o 0 32 (.mov (.t 7)) (.o 1 33 (.load (some 7) (.t 9)) (.o 2 34 (.lit 34 7 [(.n 1), (.i 0), (.i 0), (.i 0), (.n 1), (.n 1), (.n 1)] 1 [(0, 7, (.t 33))]) (.o 3 35 (.app 35 7 120 (.t 32) (.t 34)) (.o 4 7 (.mov (.t 35)) .done)))))) .skip)))) (.reg false (.o 0 36 (.bin .add (.t 14) (.i 1)) (.o 1 14 (.mov (.t 36)) .done))))))))) (.g (.o 0 37 (.mov (.t 7)) (.o 1 6 (.mov (.t 37)) .done)) .ret))))
theorem dg_impl_Zone_set : Tryz.f82.body.bind (digC Tryz.prog Tryz.f82.ntmps []) = some c_impl_Zone_set := by kernel_rfl
theorem rs_impl_Zone_set : resSlots Tryz.prog Tryz.f82 = some [.s 6] := by kernel_rfl
theorem ok_impl_Zone_set (z : Zone) (n : List (List UInt8)) (t : Int) (hs : SmallZ z) (hn : n.length ≤ 4194304) :
    FnOK Tryz.prog 82 [.agg (z.cells.map .d), .agg [.d (encBB n)], .one (.d (.sc (.int .i64 t)))] (fun ra _ => ra = [.one (.d (encR (setOf z.rrs n t)))]) := by
  refine FnOK.ofK Tryz.func82 (by kernel_rfl) dg_impl_Zone_set rs_impl_Zone_set rfl rfl ?_
  delta c_impl_Zone_set T.o X.i C.g
  have h1 := hs.r.len
  refine Kbc (kBox Y Y Y Y Y (kBox Y Y Y Y Y (Ka Y (Kdb (Kc (kLit Y Y Y Y (Ka Y (Kdb (Kbc (Kf Y Y (Ke Y Y Y (Kq Y Y (Ka Y (Kd (Kt ?_)))))))))))))))
  refine kLoop (α := { i : Nat // i ≤ z.rrs.length }) (fun y => ⟨tabSl [(2, .i t), (4, .c (.ptr (rid 4 0) 1 0)), (7, .c (.arr (rid 10 0) 1)), (12, .dv (encR z.rrs)), (13, .i z.rrs.length), (14, .i y.1)], obTab 1 [(rid 4 0, ⟨1, 0, .box [.d (encBB n)]⟩), (rid 10 0, ⟨1, 0, .arr false (encR (setOf (z.rrs.take y.1) n t))⟩)], []⟩) (fun y => z.rrs.length - y.1) ⟨0, by simp⟩ .normA ?_
  rintro ⟨i, hi⟩
  simp only
  have hlen : (z.rrs.take i).length = i := by simp; omega
  have hle : (setOf (z.rrs.take i) n t).length ≤ z.rrs.length := filter_len _ z.rrs i
  rcases Nat.lt_or_ge i z.rrs.length with hlt | hge
  · have hbi := hs.r.mem _ (List.getElem_mem hlt)
    have n1 := hbi.n.len
    have no : ∀ h : (decide (z.rrs[i].name = n) && (t == 255 || z.rrs[i].ty == t)) = false, setOf (z.rrs.take (i + 1)) n t = setOf (z.rrs.take i) n t := fun h => filter_no hlt h
    have yes : ∀ h : (decide (z.rrs[i].name = n) && (t == 255 || z.rrs[i].ty == t)) = true, setOf (z.rrs.take (i + 1)) n t = setOf (z.rrs.take i) n t ++ [z.rrs[i]] := fun h => filter_yes hlt h
    by_cases p1 : z.rrs[i].name = n
    · by_cases p2 : t = 255
      · have hst := yes (by simp [p1, p2])
        refine Kbc (Kj Y Y Y (Kdb (Km Y (fun g0 => Kn (Kb (Kt (Kbc (kIadR Y Y Y om (Ky Y Y (kAlloc Y Y (Ko Y Y Y Y (Kdb (Kc (Kf Y Y (Ke Y Y Y (Ke Y Y Y (Kp (ok_impl_Name_is _ _ pr pr) ⟨⟨⟨Y, trivial⟩, leb⟩, ⟨⟨Y, trivial⟩, leb⟩, trivial⟩ Y Y Y Y Y (Ka Y (kGP Y (fun g1 => Ki Y (Ka Y (Ki Y (Kj Y Y Y (Ki Y (Ka Y (kGP Y (fun g2 => Kg Y (Kg Y (Kg Y (Kg Y (Ki Y (Kk Y (Ka Y (Kk Y (Ka Y (Kd (kCondT Y (Kc (Ka Y (Ke Y Y Y (kLit Y Y Y Y (kAppRec Y Y Y Y Y Y Y om (Ka Y (Kd (Kv (Kc (kAdd Y Y om (Ka Y (Kd ?_))))))))))))))))))))))) (fun g2 => om)))))))) (fun g1 => (by (simp [*] at g1))))))))))))))))))) (fun g0 => om))))
        refine kInv ⟨⟨i + 1, by omega⟩, by simp only; omega, ?_⟩
        simp only [hst]
        exact .normA
      · by_cases p3 : z.rrs[i].ty = t
        · have hst := yes (by simp [p1, p3])
          refine Kbc (Kj Y Y Y (Kdb (Km Y (fun g0 => Kn (Kb (Kt (Kbc (kIadR Y Y Y om (Ky Y Y (kAlloc Y Y (Ko Y Y Y Y (Kdb (Kc (Kf Y Y (Ke Y Y Y (Ke Y Y Y (Kp (ok_impl_Name_is _ _ pr pr) ⟨⟨⟨Y, trivial⟩, leb⟩, ⟨⟨Y, trivial⟩, leb⟩, trivial⟩ Y Y Y Y Y (Ka Y (kGP Y (fun g1 => Ki Y (Ka Y (Ki Y (Kj Y Y Y (Ki Y (Ka Y (kGP Y (fun g2 => om) (fun g2 => Ki Y (Kf Y Y (Ki Y (Ke Y Y Y (Ki Y (Ka Y (Ki Y (Kj Y Y Y (Ki Y (Kl Y (Ka Y (Kk Y (Ka Y (Kd (Km Y (fun g3 => Kc (Ka Y (Ke Y Y Y (kLit Y Y Y Y (kAppRec Y Y Y Y Y Y Y om (Ka Y (Kd (Kv (Kc (kAdd Y Y om (Ka Y (Kd ?_)))))))))))) (fun g3 => om))))))))))))))))))))))) (fun g1 => (by (simp [*] at g1))))))))))))))))))) (fun g0 => om))))
          refine kInv ⟨⟨i + 1, by omega⟩, by simp only; omega, ?_⟩
          simp only [hst]
          exact .normA
        · have hst := no (by simp [p2, p3])
          refine Kbc (Kj Y Y Y (Kdb (Km Y (fun g0 => Kn (Kb (Kt (Kbc (kIadR Y Y Y om (Ky Y Y (kAlloc Y Y (Ko Y Y Y Y (Kdb (Kc (Kf Y Y (Ke Y Y Y (Ke Y Y Y (Kp (ok_impl_Name_is _ _ pr pr) ⟨⟨⟨Y, trivial⟩, leb⟩, ⟨⟨Y, trivial⟩, leb⟩, trivial⟩ Y Y Y Y Y (Ka Y (kGP Y (fun g1 => Ki Y (Ka Y (Ki Y (Kj Y Y Y (Ki Y (Ka Y (kGP Y (fun g2 => om) (fun g2 => Ki Y (Kf Y Y (Ki Y (Ke Y Y Y (Ki Y (Ka Y (Ki Y (Kj Y Y Y (Ki Y (Kl Y (Ka Y (Kk Y (Ka Y (Kd (Km Y (fun g3 => om) (fun g3 => Kn (Kv (Kc (kAdd Y Y om (Ka Y (Kd ?_)))))))))))))))))))))))))))) (fun g1 => (by (simp [*] at g1))))))))))))))))))) (fun g0 => om))))
          refine kInv ⟨⟨i + 1, by omega⟩, by simp only; omega, ?_⟩
          simp only [hst]
          exact .normA
    · have hst := no (by simp [p1])
      refine Kbc (Kj Y Y Y (Kdb (Km Y (fun g0 => Kn (Kb (Kt (Kbc (kIadR Y Y Y om (Ky Y Y (kAlloc Y Y (Ko Y Y Y Y (Kdb (Kc (Kf Y Y (Ke Y Y Y (Ke Y Y Y (Kp (ok_impl_Name_is _ _ pr pr) ⟨⟨⟨Y, trivial⟩, leb⟩, ⟨⟨Y, trivial⟩, leb⟩, trivial⟩ Y Y Y Y Y (Ka Y (kGP Y (fun g1 => (by (simp [*] at g1))) (fun g1 => Kg Y (Kg Y (Kg Y (kGU Y (kGU Y (kGU Y (kGU Y (Kg Y (Kl Y (Ka Y (Kd (kCondF Y (Kn (Kv (Kc (kAdd Y Y om (Ka Y (Kd ?_)))))))))))))))))))))))))))))))))) (fun g0 => om))))
      refine kInv ⟨⟨i + 1, by omega⟩, by simp only; omega, ?_⟩
      simp only [hst]
      exact .normA
  · refine Kbc (Kj Y Y Y (Kdb (Km Y (fun g0 => om) (fun g0 => kExit (kExC (kExI (kExB (Kbc (Ka Y (Ka Y (Kd (Kr (Er (ra := [.one (.d _)]) rfl ?_)))))))))))))
    rw [show i = z.rrs.length by omega, List.take_length]

def c_impl_all_impl_Rr_1 : C := (.g (.o 0 2 (.box 2 (.t 0)) (.o 1 3 (.mov (.v (.bool false))) .done)) (.g (.o 0 4 (.load none (.t 1)) (.o 1 5 (.load (some 7) (.t 2)) (.o 2 6 (.callv 6 (.t 4) [(.t 5)]) (.o 3 7 (.un .not (.t 6)) (.o 4 3 (.mov (.t 7)) .done))))) .ret))
theorem dg_impl_all_impl_Rr_1 : Tryz.f238.body.bind (digC Tryz.prog Tryz.f238.ntmps []) = some c_impl_all_impl_Rr_1 := by kernel_rfl
theorem rs_impl_all_impl_Rr_1 : resSlots Tryz.prog Tryz.f238 = some [.s 3] := by kernel_rfl
theorem ok_impl_all_impl_Rr_1 (x : Rr) (D : Rr → Prop) (g : Rr → Bool) (hx : D x) :
    FnOK Tryz.prog 238 [.agg (x.cells.map .d), .one (.ptr [.fv false (fcAgg D Rr.cells g)])] (fun ra _ => ra = [.one (.d (.sc (.bool (!g x))))]) := by
  refine FnOK.ofK Tryz.func238 (by kernel_rfl) dg_impl_all_impl_Rr_1 rs_impl_all_impl_Rr_1 rfl rfl ?_
  delta c_impl_all_impl_Rr_1 T.o X.i C.g
  refine Kbc (kBox Y Y Y Y Y (Ka Y (Kdb (Kc (kLoadC Y Y (Ke Y Y Y ?_))))))
  refine kCallv Y ⟨x, hx, rfl, rfl⟩ ⟨⟨⟨Y, Y, Y, Y, Y, Y, Y, trivial⟩, leb⟩, trivial⟩ (.inr ?_) rfl ?_ rfl ?_
  · rintro _ rfl; rfl
  · rintro _ rfl; exact leb
  rintro _ rfl
  refine Kw Y Y (Ka Y (Kd (Kr (Er (ra := [.one (.d _)]) rfl rfl))))

def c_slices_IndexFunc_Limpl_Rr_impl_Rr : C := (.g (.o 0 4 (.mov (.i 0)) .done) (.seq (.g (.o 0 6 (.mov (.t 0)) (.o 1 7 (.len (.t 6)) (.o 2 8 (.mov (.i 0)) .done))) (.block 0 (.loop (.g (.o 0 9 (.bin .lss (.t 8) (.t 7)) .done) (.seq (.cond (.t 9) .skip (.exit 0)) (.seq (.block 1 (.g (.o 0 10 (.mov (.t 8)) (.o 1 5 (.mov (.t 10)) .done)) (.g (.o 0 11 (.mov (.t 1)) (.o 1 12 (.mov (.t 0)) (.o 2 13 (.mov (.t 5)) (.o 3 14 (.iad 7 (.t 12) (.t 13)) (.o 4 15 (.load (some 7) (.t 14)) (.o 5 16 (.callv 16 (.t 11) [(.t 15)]) .done)))))) (.cond (.t 16) (.g (.o 0 17 (.mov (.t 5)) (.o 1 4 (.mov (.t 17)) .done)) .ret) .skip)))) (.reg false (.o 0 18 (.bin .add (.t 8) (.i 1)) (.o 1 8 (.mov (.t 18)) .done))))))))) (.g (.o 0 4 (.mov (.i (-1))) .done) .ret)))
theorem dg_slices_IndexFunc_Limpl_Rr_impl_Rr : Tryz.f270.body.bind (digC Tryz.prog Tryz.f270.ntmps []) = some c_slices_IndexFunc_Limpl_Rr_impl_Rr := by kernel_rfl
theorem rs_slices_IndexFunc_Limpl_Rr_impl_Rr : resSlots Tryz.prog Tryz.f270 = some [.s 4] := by kernel_rfl
theorem ok_slices_IndexFunc_Limpl_Rr_impl_Rr (l : List Rr) (D : Rr → Prop) (g : Rr → Bool) (hl : l.length ≤ 4194304) (hD : ∀ x ∈ l, D x) :
    FnOK Tryz.prog 270 [.one (.d (encR l)), .one (.fv false (fcAgg D Rr.cells g))] (fun ra _ => ra = [.one (.d (.sc (.int .i64 (idx g l))))]) := by
  refine FnOK.ofK Tryz.func270 (by kernel_rfl) dg_slices_IndexFunc_Limpl_Rr_impl_Rr rs_slices_IndexFunc_Limpl_Rr_impl_Rr rfl rfl ?_
  delta c_slices_IndexFunc_Limpl_Rr_impl_Rr T.o X.i C.g
  refine Kbc (Ka Y (Kdb (Kbc (Ka Y (Kq Y Y (Ka Y (Kd (Kt ?_))))))))
  refine kLoop (α := { i : Nat // i ≤ l.length ∧ ∀ x ∈ l.take i, g x = false })
    (fun y => ⟨tabSl [(0, .dv (encR l)), (1, .c (.fv false (fcAgg D Rr.cells g))), (7, .i l.length), (8, .i y.1)], obTab 1 [], []⟩) (fun y => l.length - y.1) ⟨0, by simp⟩
    .normA ?_
  rintro ⟨i, hi, hg⟩
  simp only
  rcases Nat.lt_or_ge i l.length with hlt | hge
  · refine Kbc (Kj Y Y Y (Kdb (Km Y (fun g0 => Kn (Kb (Kt (Kbc (Ka Y (Ka Y (Kdb (Kc (Ka Y (Ka Y (Ka Y (kIadR Y Y Y om (Ky Y Y ?_))))))))))))) (fun g0 => om))))
    refine kCallv Y ⟨l[i], hD _ (List.getElem_mem hlt), rfl, rfl⟩ ⟨⟨⟨Y, Y, Y, Y, Y, Y, Y, trivial⟩, leb⟩, trivial⟩ (.inr ?_) rfl ?_ rfl ?_
    · rintro _ rfl; rfl
    · rintro _ rfl; exact leb
    rintro _ rfl
    refine Kd (kCond Y (fun g0 => Kbc (Ka Y (Ka Y (Kd (Kr (Er (ra := [.one (.d _)]) rfl ?_)))))) (fun g0 => Kn (Kv (Kc (kAdd Y Y om (Ka Y (Kd ?_)))))))
    · have : l.findIdx? g = some i := by
        rw [List.findIdx?_eq_some_iff_getElem]
        refine ⟨hlt, by assumption, fun j hj => ?_⟩
        simpa using hg _ (by rw [List.mem_take_iff_getElem]; exact ⟨j, by omega, rfl⟩)
      simp [idx, this]
    · refine kInv ⟨⟨i + 1, hlt, ?_⟩, by simp only; omega, .normA⟩
      intro x hx
      rw [← List.take_append_getElem hlt, List.mem_append] at hx
      rcases hx with hx | hx
      · exact hg x hx
      · simp at hx; rw [hx]; assumption
  · refine Kbc (Kj Y Y Y (Kdb (Km Y (fun g0 => om) (fun g0 => kExit (kExC (kExI (kExB (Kbc (Ka Y (Kd (Kr (Er (ra := [.one (.d _)]) rfl ?_))))))))))))
    have : l.findIdx? g = none := by
      rw [List.findIdx?_eq_none_iff]
      intro x hx
      rw [show i = l.length by omega, List.take_length] at hg
      exact hg x hx
    simp [idx, this]

def c_slices_ContainsFunc_Limpl_Rr_impl_Rr : C := (.g (.o 0 4 (.mov (.v (.bool false))) .done) (.g (.o 0 5 (.mov (.t 0)) (.o 1 6 (.mov (.t 1)) (.o 2 7 (.call 7 270 [(.t 5), (.t 6)]) (.o 3 8 (.bin .geq (.t 7) (.i 0)) (.o 4 4 (.mov (.t 8)) .done))))) .ret))
theorem dg_slices_ContainsFunc_Limpl_Rr_impl_Rr : Tryz.f197.body.bind (digC Tryz.prog Tryz.f197.ntmps []) = some c_slices_ContainsFunc_Limpl_Rr_impl_Rr := by kernel_rfl
theorem rs_slices_ContainsFunc_Limpl_Rr_impl_Rr : resSlots Tryz.prog Tryz.f197 = some [.s 4] := by kernel_rfl
theorem ok_slices_ContainsFunc_Limpl_Rr_impl_Rr (l : List Rr) (D : Rr → Prop) (g : Rr → Bool) (hl : l.length ≤ 4194304) (hD : ∀ x ∈ l, D x) :
    FnOK Tryz.prog 197 [.one (.d (encR l)), .one (.fv false (fcAgg D Rr.cells g))] (fun ra _ => ra = [.one (.d (.sc (.bool (l.any g))))]) := by
  refine FnOK.ofK Tryz.func197 (by kernel_rfl) dg_slices_ContainsFunc_Limpl_Rr_impl_Rr rs_slices_ContainsFunc_Limpl_Rr_impl_Rr rfl rfl ?_
  delta c_slices_ContainsFunc_Limpl_Rr_impl_Rr T.o X.i C.g
  refine Kbc (Ka Y (Kdb (Kc (Ka Y (Ka Y ?_)))))
  refine Ku true (ok_slices_IndexFunc_Limpl_Rr_impl_Rr l D g hl hD) ⟨rfl, ⟨fun h => h, fun _ _ h => h⟩, trivial⟩ rfl rfl rfl fun os => ?_
  rw [← idx_ge g l]
  refine Kj Y Y Y (Ka Y (Kd (Kr (Er (ra := [.one (.d _)]) rfl rfl))))

def c_impl_all_impl_Rr : C := (.g (.o 0 3 (.box 3 (.t 1)) (.o 1 4 (.mov (.v (.bool false))) .done)) (.g (.o 0 5 (.mov (.t 0)) (.o 1 6 (.clo 238 [] [(.t 3)]) (.o 2 7 (.call 7 197 [(.t 5), (.t 6)]) (.o 3 8 (.un .not (.t 7)) (.o 4 4 (.mov (.t 8)) .done))))) .ret))
theorem dg_impl_all_impl_Rr : Tryz.f158.body.bind (digC Tryz.prog Tryz.f158.ntmps []) = some c_impl_all_impl_Rr := by kernel_rfl
theorem rs_impl_all_impl_Rr : resSlots Tryz.prog Tryz.f158 = some [.s 4] := by kernel_rfl
theorem ok_impl_all_impl_Rr (l : List Rr) (D : Rr → Prop) (g : Rr → Bool) (hl : l.length ≤ 4194304) (hD : ∀ x ∈ l, D x) :
    FnOK Tryz.prog 158 [.one (.d (encR l)), .one (.fv false (fcAgg D Rr.cells g))] (fun ra _ => ra = [.one (.d (.sc (.bool (l.all g))))]) := by
  refine FnOK.ofK Tryz.func158 (by kernel_rfl) dg_impl_all_impl_Rr rs_impl_all_impl_Rr rfl rfl ?_
  delta c_impl_all_impl_Rr T.o X.i C.g
  refine Kbc (kBox Y Y Y Y Y (Ka Y (Kdb (Kc (Ka Y (kClo Y Y ?_))))))
  refine Ku true (ok_slices_ContainsFunc_Limpl_Rr_impl_Rr l D (fun x => !g x) hl hD) ⟨rfl, ⟨rfl, ⟨_, Tryz.func238, rfl, by kernel_rfl⟩, _, rfl, ?_⟩, trivial⟩ rfl rfl rfl fun os => ?_
  · rintro _ R ⟨x, hx, rfl, rfl⟩
    exact ⟨by rintro _ rfl; rfl, ok_impl_all_impl_Rr_1 x D g hx⟩
  rw [List.all_eq_not_any_not]
  refine Kw Y Y (Ka Y (Kd (Kr (Er (ra := [.one (.d _)]) rfl rfl))))

def mineF (l : List Rr) (b : List UInt8) : Bool := decide ((l.length : Int) > 0) && l.all fun r => r.text == b
def c_impl_Zone_owner : C := (.g (.o 0 3 (.box 3 (.t 0)) (.o 1 4 (.box 4 (.t 1)) (.o 2 5 (.box 5 (.t 2)) (.o 3 6 (.mov (.v (.bool false))) (.o 4 7 (.mov (.v (.bool false))) .done))))) (.g (.o 0 9 (.load (some 2) (.t 3)) (.o 1 10 (.load (some 1) (.t 4)) (.o 2 11 (.call 11 82 [(.t 9), (.t 10), (.i 49)]) (.o 3 8 (.mov (.t 11)) .done)))) (.g (.o 0 12 (.load (some 2) (.t 3)) (.o 1 13 (.load (some 1) (.t 4)) (.o 2 14 (.call 14 82 [(.t 12), (.t 13), (.i 255)]) (.o 3 15 (.len (.t 14)) (.o 4 16 (.bin .eql (.t 15) (.i 0)) (.o 5 17 (.mov (.t 8)) (.o 6 18 (.len (.t 17)) (.o 7 19 (.bin .gtr (.t 18) (.i 0)) (.o 8 20 (.mov (.t 19)) (.op 9 [] (some 21) (some (20, true)) false (.mov (.t 8)) (.op 10 [] (some 22) (some (20, true)) false (.clo 162 [] [(.t 5)]) (.op 11 [] (some 23) (some (20, true)) false (.call 23 158 [(.t 21), (.t 22)]) (.o 12 24 (.pick (.t 20) (.t 23) (.v (.bool false))) (.o 13 6 (.mov (.t 16)) (.o 14 7 (.mov (.t 24)) .done))))))))))))))) .ret)))
theorem dg_impl_Zone_owner : Tryz.f72.body.bind (digC Tryz.prog Tryz.f72.ntmps []) = some c_impl_Zone_owner := by kernel_rfl
theorem rs_impl_Zone_owner : resSlots Tryz.prog Tryz.f72 = some [.s 6, .s 7] := by kernel_rfl
theorem ok_impl_Zone_owner (z : Zone) (n : List (List UInt8)) (b : List UInt8) (hs : SmallZ z) (hn : n.length ≤ 4194304) :
    FnOK Tryz.prog 72 [.agg (z.cells.map .d), .agg [.d (encBB n)], .one (.d (encB b))] (fun ra _ => ra = [.one (.d (.sc (.bool (decide (((setOf z.rrs n 255).length : Int) = 0))))), .one (.d (.sc (.bool (mineF (setOf z.rrs n 49) b))))]) := by
  refine FnOK.ofK Tryz.func72 (by kernel_rfl) dg_impl_Zone_owner rs_impl_Zone_owner rfl rfl ?_
  delta c_impl_Zone_owner T.o X.i C.g
  have hll := hs.r.len
  have hle : (setOf z.rrs n 49).length ≤ z.rrs.length := List.length_filter_le _ _
  have e255 : ((((setOf z.rrs n 255).length : Int)) == 0) = decide (((setOf z.rrs n 255).length : Int) = 0) := rfl
  refine Kbc (kBox Y Y Y Y Y (kBox Y Y Y Y Y (kBox Y Y Y Y Y (Ka Y (Ka Y (Kdb (Kc (Ke Y Y Y (Ke Y Y Y (kCallD2 (ok_impl_Zone_set _ _ _ prx prx) ⟨⟨⟨Y, Y, trivial⟩, leb⟩, ⟨⟨Y, trivial⟩, leb⟩, rfl, trivial⟩ Y Y Y Y (Ka Y (Kdb (Kc (kMem [(16384, ⟨1, 0, .box [.d _, .d _]⟩), (20480, ⟨1, 0, .box [.d _]⟩), (24576, ⟨1, 0, .box [.d _]⟩)] ((3, .c (.ptr 16384 1 0)) :: (4, .c (.ptr 20480 1 0)) :: (12, .c (.un)) :: (13, .c (.un)) :: (14, .c (.un)) :: (15, .c (.un)) :: (8, .c (.d _)) :: (17, .c (.un)) :: (18, .c (.un)) :: (19, .c (.un)) :: (5, .c (.ptr 24576 1 0)) :: (21, .c (.un)) :: (22, .c (.un)) :: (20, .c (.un)) :: (23, .c (.un)) :: (16, .c (.un)) :: (24, .c (.un)) :: []) [] ⟨Y, Y, Y, trivial⟩ ⟨Y, Y, Y, Y, Y, Y, Y, Y, Y, Y, Y, Y, Y, Y, Y, Y, Y, trivial⟩ Y (Ke Y Y Y (Ke Y Y Y (kCallD2 (ok_impl_Zone_set _ _ _ prx prx) ⟨⟨⟨Y, Y, trivial⟩, leb⟩, ⟨⟨Y, trivial⟩, leb⟩, rfl, trivial⟩ Y Y Y Y (Kq Y Y (Kj Y Y Y (Ka Y (Kq Y Y (Kj Y Y Y (Ka Y (kGP Y (fun g0 => kMem [(24576, ⟨1, 0, .box [.d _]⟩)] [(8, .c (.d _)), (5, .c (.ptr 24576 1 0)), (21, .c (.un)), (22, .c (.un)), (20, .c (.d _)), (23, .c (.un)), (16, .c (.d _)), (24, .c (.un))] [] ⟨Y, trivial⟩ ⟨Y, Y, Y, Y, Y, Y, Y, Y, trivial⟩ Y (Ki Y (Ka Y (Ki Y (kClo Y Y (Ki Y ?_)))))) (fun g0 => kMem [(24576, ⟨1, 0, .box [.d _]⟩)] [(8, .c (.d _)), (5, .c (.ptr 24576 1 0)), (21, .c (.un)), (22, .c (.un)), (20, .c (.d _)), (23, .c (.un)), (16, .c (.d _)), (24, .c (.un))] [] ⟨Y, trivial⟩ ⟨Y, Y, Y, Y, Y, Y, Y, Y, trivial⟩ Y (Kg Y (Kg Y (Kg Y (Kl Y (Ka Y (Ka Y (Ka Y (Kd (Kr (Er (ra := [.one (.d _), .one (.d _)]) rfl ?_)))))))))))))))))))))))))))))))))))
  · refine Ku true (ok_impl_all_impl_Rr (setOf z.rrs n 49) (fun _ => True) (fun r => r.text == b) om (fun _ _ => trivial)) ⟨rfl, ⟨rfl, ⟨_, Tryz.func162, rfl, by kernel_rfl⟩, _, rfl, ?_⟩, trivial⟩ rfl rfl rfl fun os => ?_
    · rintro _ R ⟨x, hx, rfl, rfl⟩
      exact ⟨by rintro _ rfl; rfl, ok_impl_Zone_owner_1 x b⟩
    have em : mineF (setOf z.rrs n 49) b = (setOf z.rrs n 49).all fun r => r.text == b := by unfold mineF; rw [decide_eq_true (by assumption)]; rfl
    rw [em, ← e255]
    refine Kk Y (Ka Y (Ka Y (Ka Y (Kd (Kr (Er (ra := [.one (.d _), .one (.d _)]) rfl rfl))))))
  · have em : mineF (setOf z.rrs n 49) b = false := by unfold mineF; rw [decide_eq_false (by assumption)]; rfl
    rw [em, ← e255]

def c_impl_within : C := (.g (.o 0 6 (.mov (.v (.bool false))) .done) (.g (.o 0 7 (.mov (.t 1)) (.o 1 8 (.mov (.t 0)) (.o 2 9 (.bin .leq (.t 7) (.t 8)) (.o 3 10 (.mov (.t 9)) (.op 4 [] (some 11) (some (10, true)) false (.mov (.t 0)) (.op 5 [] (some 12) (some (10, true)) false (.mov (.t 2)) (.op 6 [] (some 13) (some (10, true)) false (.bin .leq (.t 11) (.t 12)) (.o 7 14 (.pick (.t 10) (.t 13) (.v (.bool false))) (.o 8 6 (.mov (.t 14)) .done))))))))) .ret))
theorem dg_impl_within : Tryz.f109.body.bind (digC Tryz.prog Tryz.f109.ntmps []) = some c_impl_within := by kernel_rfl
theorem rs_impl_within : resSlots Tryz.prog Tryz.f109 = some [.s 6] := by kernel_rfl
theorem ok_impl_within (n lo hi : Int) : FnOK Tryz.prog 109 [.one (.d (.sc (.int .i64 n))), .one (.d (.sc (.int .i64 lo))), .one (.d (.sc (.int .i64 hi)))] (fun ra _ => ra = [.one (.d (.sc (.bool (decide (lo ≤ n ∧ n ≤ hi)))))]) := by
  refine FnOK.ofK Tryz.func109 (by kernel_rfl) dg_impl_within rs_impl_within rfl rfl ?_
  delta c_impl_within T.o X.i C.g
  repeat' first
    | refine kSeq ?_ | refine kReg ?_ | refine kDone ?_ | refine kMovC rfl ?_ | refine kBin rfl rfl rfl ?_
    | refine kGT rfl ?_ | refine kGF rfl ?_ | refine kGU rfl ?_ | refine kG rfl (fun h => ?_) (fun h => ?_)
    | refine kPickT rfl ?_ | refine kPickF rfl ?_ | refine kPick rfl (fun h => ?_) (fun h => ?_) | refine kRet ?_
  all_goals refine endRet (ra := [.one (.d _)]) rfl ⟨⟨⟨rfl, .inl rfl⟩, trivial⟩, .nil, trivial, trivial, trivial, trivial⟩ ?_
  all_goals simp_all
  all_goals omega

def c_impl_all_byte_1 : C := (.g (.o 0 3 (.mov (.v (.bool false))) .done) (.g (.o 0 4 (.load none (.t 1)) (.o 1 5 (.mov (.t 0)) (.o 2 6 (.callv 6 (.t 4) [(.t 5)]) (.o 3 7 (.un .not (.t 6)) (.o 4 3 (.mov (.t 7)) .done))))) .ret))
theorem dg_impl_all_byte_1 : Tryz.f302.body.bind (digC Tryz.prog Tryz.f302.ntmps []) = some c_impl_all_byte_1 := by kernel_rfl
theorem rs_impl_all_byte_1 : resSlots Tryz.prog Tryz.f302 = some [.s 3] := by kernel_rfl
theorem ok_impl_all_byte_1 (x : DV) (D : DV → Prop) (g : DV → Bool) (hx : D x) :
    FnOK Tryz.prog 302 [.one (.d x), .one (.ptr [.fv false (fcPred D g)])] (fun ra _ => ra = [.one (.d (.sc (.bool (!g x))))]) := by
  refine FnOK.ofK Tryz.func302 (by kernel_rfl) dg_impl_all_byte_1 rs_impl_all_byte_1 rfl rfl ?_
  delta c_impl_all_byte_1 T.o X.i C.g
  refine Kbc (Ka Y (Kd ?_))
  refine Kbc (kLoadC Y Y (Ka Y (kCallv Y ⟨x, hx, rfl, rfl⟩ ⟨Y, trivial⟩ (.inr ?_) rfl ?_ rfl ?_)))
  · rintro _ rfl; rfl
  · rintro _ rfl; exact leb
  rintro _ rfl
  refine Kw Y Y (Ka Y (Kd (Kr ?_)))
  exact endRet (ra := [.one (.d _)]) rfl ⟨⟨⟨rfl, .inl rfl⟩, trivial⟩, .nil, trivial, trivial, trivial⟩ rfl

def c_slices_IndexFunc_Lbyte_byte : C := (.g (.o 0 4 (.mov (.i 0)) .done) (.seq (.g (.o 0 6 (.mov (.t 0)) (.o 1 7 (.len (.t 6)) (.o 2 8 (.mov (.i 0)) .done))) (.block 0 (.loop (.g (.o 0 9 (.bin .lss (.t 8) (.t 7)) .done) (.seq (.cond (.t 9) .skip (.exit 0)) (.seq (.block 1 (.g (.o 0 10 (.mov (.t 8)) (.o 1 5 (.mov (.t 10)) .done)) (.g (.o 0 11 (.mov (.t 1)) (.o 1 12 (.mov (.t 0)) (.o 2 13 (.mov (.t 5)) (.o 3 14 (.iad 1 (.t 12) (.t 13)) (.o 4 15 (.load none (.t 14)) (.o 5 16 (.callv 16 (.t 11) [(.t 15)]) .done)))))) (.cond (.t 16) (.g (.o 0 17 (.mov (.t 5)) (.o 1 4 (.mov (.t 17)) .done)) .ret) .skip)))) (.reg false (.o 0 18 (.bin .add (.t 8) (.i 1)) (.o 1 8 (.mov (.t 18)) .done))))))))) (.g (.o 0 4 (.mov (.i (-1))) .done) .ret)))
theorem dg_slices_IndexFunc_Lbyte_byte : Tryz.f337.body.bind (digC Tryz.prog Tryz.f337.ntmps []) = some c_slices_IndexFunc_Lbyte_byte := by kernel_rfl
theorem rs_slices_IndexFunc_Lbyte_byte : resSlots Tryz.prog Tryz.f337 = some [.s 4] := by kernel_rfl
theorem ok_slices_IndexFunc_Lbyte_byte (l : List DV) (D : DV → Prop) (g : DV → Bool) (hl : (l.length : Int) ≤ 9223372036854775807) (hD : ∀ x ∈ l, D x) :
    FnOK Tryz.prog 337 [.one (.d (lst l)), .one (.fv false (fcPred D g))] (fun ra _ => ra = [.one (.d (.sc (.int .i64 (idxF g l))))]) := by
  refine FnOK.ofK Tryz.func337 (by kernel_rfl) dg_slices_IndexFunc_Lbyte_byte rs_slices_IndexFunc_Lbyte_byte rfl rfl ?_
  delta c_slices_IndexFunc_Lbyte_byte T.o X.i C.g
  refine Kbc (Ka Y (Kd ?_))
  refine Kb (Kbc (Ka Y (kLen Y Y Y (Ka Y (Kd (Kt ?_))))))
  rw [len_lst]
  refine kLoop (α := { i : Nat // i ≤ l.length ∧ ∀ x ∈ l.take i, g x = false })
    (fun y => ⟨tabSl [(0, .dv (lst l)), (1, .c (.fv false (fcPred D g))), (7, .i l.length), (8, .i y.1)], (St.init [.one (.d (lst l)), .one (.fv false (fcPred D g))]).ob, []⟩) (fun y => l.length - y.1) ⟨0, by simp⟩
    (.tab rfl ⟨.refl _, .refl _, .refl _, .refl _, trivial⟩) ?_
  rintro ⟨i, hi, hg⟩
  simp only
  refine Kbc (Kj Y Y Y (Kd ?_))
  refine Kb (kCond Y (fun h1 => ?_) (fun h1 => ?_))
  · have hlt : i < l.length := by simp at h1; omega
    refine Kn (Kb (Kt (Kbc (Ka Y (Ka Y (Kd ?_))))))
    refine Kbc (Ka Y (Ka Y (Ka Y (kIadD Y Y Y Y ?_ ?_))))
    · rw [len_lst]; omega
    rw [show (lst l).row (i : Int).toNat = [l[i]] from row_lst l i hlt]
    refine Ky Y Y (kCallv Y ⟨l[i], hD _ (List.getElem_mem hlt), rfl, rfl⟩ ⟨Y, trivial⟩ (.inr ?_) rfl ?_ rfl ?_)
    · rintro _ rfl; rfl
    · rintro _ rfl; exact leb
    rintro _ rfl
    refine Kd (kCond Y (fun h2 => ?_) (fun h2 => ?_))
    · refine Kbc (Ka Y (Ka Y (Kd (Kr ?_))))
      refine endRet (ra := [.one (.d _)]) rfl ⟨⟨⟨rfl, .inl rfl⟩, trivial⟩, .nil, trivial, trivial, trivial⟩ ?_
      have : l.findIdx? g = some i := by
        rw [List.findIdx?_eq_some_iff_getElem]
        refine ⟨hlt, h2, fun j hj => ?_⟩
        simpa using hg _ (by rw [List.mem_take_iff_getElem]; exact ⟨j, by omega, rfl⟩)
      simp [idxF, this]
    · refine Kn (Kv (Kc (kAdd Y Y ?_ (Ka Y (Kd (kInv ?_))))))
      · omega
      refine ⟨⟨i + 1, hlt, ?_⟩, by simp only; omega, .tab rfl ⟨.refl _, .refl _, .refl _, .refl _, trivial⟩⟩
      intro x hx
      rw [← List.take_append_getElem hlt, List.mem_append] at hx
      rcases hx with hx | hx
      · exact hg x hx
      · simp at hx; rw [hx]; exact h2
  · refine kExit (kExC (kExI (kExB ?_)))
    have hge : i = l.length := by simp at h1; omega
    refine Kbc (Ka Y (Kd (Kr ?_)))
    refine endRet (ra := [.one (.d _)]) rfl ⟨⟨⟨rfl, .inl rfl⟩, trivial⟩, .nil, trivial, trivial, trivial⟩ ?_
    have : l.findIdx? g = none := by
      rw [List.findIdx?_eq_none_iff]
      intro x hx
      rw [hge, List.take_length] at hg
      exact hg x hx
    simp [idxF, this]

def c_slices_ContainsFunc_Lbyte_byte : C := (.g (.o 0 4 (.mov (.v (.bool false))) .done) (.g (.o 0 5 (.mov (.t 0)) (.o 1 6 (.mov (.t 1)) (.o 2 7 (.call 7 337 [(.t 5), (.t 6)]) (.o 3 8 (.bin .geq (.t 7) (.i 0)) (.o 4 4 (.mov (.t 8)) .done))))) .ret))
theorem dg_slices_ContainsFunc_Lbyte_byte : Tryz.f301.body.bind (digC Tryz.prog Tryz.f301.ntmps []) = some c_slices_ContainsFunc_Lbyte_byte := by kernel_rfl
theorem rs_slices_ContainsFunc_Lbyte_byte : resSlots Tryz.prog Tryz.f301 = some [.s 4] := by kernel_rfl
theorem ok_slices_ContainsFunc_Lbyte_byte (l : List DV) (D : DV → Prop) (g : DV → Bool) (hl : (l.length : Int) ≤ 9223372036854775807) (hD : ∀ x ∈ l, D x) :
    FnOK Tryz.prog 301 [.one (.d (lst l)), .one (.fv false (fcPred D g))] (fun ra _ => ra = [.one (.d (.sc (.bool (l.any g))))]) := by
  refine FnOK.ofK Tryz.func301 (by kernel_rfl) dg_slices_ContainsFunc_Lbyte_byte rs_slices_ContainsFunc_Lbyte_byte rfl rfl ?_
  delta c_slices_ContainsFunc_Lbyte_byte T.o X.i C.g
  refine Kbc (Ka Y (Kd ?_))
  refine Kbc (Ka Y (Ka Y ?_))
  refine Ku true (ok_slices_IndexFunc_Lbyte_byte l D g hl hD) ⟨rfl, ⟨fun h => h, fun _ _ h => h⟩, trivial⟩ rfl rfl rfl fun os => ?_
  refine Kj Y Y Y (Ka Y (Kd (Kr ?_)))
  refine endRet (ra := [.one (.d _)]) rfl ⟨⟨⟨rfl, .inl rfl⟩, trivial⟩, .nil, trivial, trivial, trivial⟩ ?_
  have : decide (idxF g l ≥ 0) = l.any g := by
    unfold idxF
    cases h : l.findIdx? g with
    | none =>
      rw [List.findIdx?_eq_none_iff] at h
      have : l.any g = false := by rw [List.any_eq_false]; intro x hx; simp [h x hx]
      rw [this]; rfl
    | some i =>
      rw [List.findIdx?_eq_some_iff_getElem] at h
      obtain ⟨h1, h2, _⟩ := h
      have : l.any g = true := by rw [List.any_eq_true]; exact ⟨_, List.getElem_mem h1, h2⟩
      rw [this]; simp
  rw [this]

def c_impl_all_byte : C := (.g (.o 0 3 (.box 3 (.t 1)) (.o 1 4 (.mov (.v (.bool false))) .done)) (.g (.o 0 5 (.mov (.t 0)) (.o 1 6 (.clo 302 [] [(.t 3)]) (.o 2 7 (.call 7 301 [(.t 5), (.t 6)]) (.o 3 8 (.un .not (.t 7)) (.o 4 4 (.mov (.t 8)) .done))))) .ret))
theorem dg_impl_all_byte : Tryz.f243.body.bind (digC Tryz.prog Tryz.f243.ntmps []) = some c_impl_all_byte := by kernel_rfl
theorem rs_impl_all_byte : resSlots Tryz.prog Tryz.f243 = some [.s 4] := by kernel_rfl
theorem ok_impl_all_byte (l : List DV) (D : DV → Prop) (g : DV → Bool) (hl : (l.length : Int) ≤ 9223372036854775807) (hD : ∀ x ∈ l, D x) :
    FnOK Tryz.prog 243 [.one (.d (lst l)), .one (.fv false (fcPred D g))] (fun ra _ => ra = [.one (.d (.sc (.bool (l.all g))))]) := by
  refine FnOK.ofK Tryz.func243 (by kernel_rfl) dg_impl_all_byte rs_impl_all_byte rfl rfl ?_
  delta c_impl_all_byte T.o X.i C.g
  refine Kbc (kBox Y Y Y Y Y (Ka Y (Kd ?_)))
  refine Kbc (Ka Y (kClo Y Y ?_))
  refine Ku true (ok_slices_ContainsFunc_Lbyte_byte l D (fun x => !g x) hl hD) ⟨rfl, ⟨rfl, ⟨_, Tryz.func302, rfl, by kernel_rfl⟩, _, rfl, ?_⟩, trivial⟩ rfl rfl rfl fun os => ?_
  · rintro l R ⟨x, hx, rfl, rfl⟩
    exact ⟨by rintro _ rfl; rfl, ok_impl_all_byte_1 x D g hx⟩
  refine Kw Y Y (Ka Y (Kd (Kr ?_)))
  refine endRet (ra := [.one (.d _)]) rfl ⟨⟨⟨rfl, .inl rfl⟩, trivial⟩, .nil, trivial, trivial, trivial⟩ ?_
  simp [List.all_eq_not_any_not]

def c_impl_LabelOk_1 : C := (.g (.o 0 2 (.mov (.v (.bool false))) .done) (.g (.o 0 3 (.mov (.t 0)) (.o 1 4 (.bin .geq (.t 3) (.v (.int .u8 97))) (.o 2 5 (.mov (.t 4)) (.op 3 [] (some 6) (some (5, true)) false (.mov (.t 0)) (.op 4 [] (some 7) (some (5, true)) false (.bin .leq (.t 6) (.v (.int .u8 122))) (.o 5 8 (.pick (.t 5) (.t 7) (.v (.bool false))) (.o 6 9 (.mov (.t 8)) (.op 7 [] (some 10) (some (9, false)) false (.mov (.t 0)) (.op 8 [] (some 11) (some (9, false)) false (.bin .geq (.t 10) (.v (.int .u8 48))) (.op 9 [] (some 12) (some (9, false)) false (.mov (.t 11)) (.op 10 [] (some 13) (some (12, true)) false (.mov (.t 0)) (.op 11 [] (some 14) (some (12, true)) false (.bin .leq (.t 13) (.v (.int .u8 57))) (.op 12 [] (some 15) (some (9, false)) false (.pick (.t 12) (.t 14) (.v (.bool false))) (.o 13 16 (.pick (.t 9) (.v (.bool true)) (.t 15)) (.o 14 17 (.mov (.t 16)) (.op 15 [] (some 18) (some (17, false)) false (.mov (.t 0)) (.op 16 [] (some 19) (some (17, false)) false (.bin .eql (.t 18) (.v (.int .u8 45))) (.o 17 20 (.pick (.t 17) (.v (.bool true)) (.t 19)) (.o 18 2 (.mov (.t 20)) .done))))))))))))))))))) .ret))
theorem dg_impl_LabelOk_1 : Tryz.f244.body.bind (digC Tryz.prog Tryz.f244.ntmps []) = some c_impl_LabelOk_1 := by kernel_rfl
theorem rs_impl_LabelOk_1 : resSlots Tryz.prog Tryz.f244 = some [.s 2] := by kernel_rfl
theorem ok_impl_LabelOk_1 (b : UInt8) : FnOK Tryz.prog 244 [.one (.d (.sc (.int .u8 b.toNat)))] (fun ra _ => ra = [.one (.d (.sc (.bool (okLetter b))))]) := by
  refine FnOK.ofK Tryz.func244 (by kernel_rfl) dg_impl_LabelOk_1 rs_impl_LabelOk_1 rfl rfl ?_
  delta c_impl_LabelOk_1 T.o X.i C.g
  repeat' first
    | refine kSeq ?_ | refine kReg ?_ | refine kDone ?_ | refine kMovC rfl ?_ | refine kBin rfl rfl rfl ?_
    | refine kGT rfl ?_ | refine kGF rfl ?_ | refine kGU rfl ?_ | refine kG rfl (fun h => ?_) (fun h => ?_)
    | refine kPickT rfl ?_ | refine kPickF rfl ?_ | refine kPick rfl (fun h => ?_) (fun h => ?_) | refine kRet ?_
  all_goals refine endRet (ra := [.one (.d _)]) rfl ⟨⟨⟨rfl, .inl rfl⟩, trivial⟩, .nil, trivial, trivial⟩ ?_
  all_goals simp_all [okLetter]
  all_goals first | omega | (rw [Bool.eq_iff_iff]; simp; omega)

def c_impl_LabelOk : C := (.g (.o 0 2 (.mov (.v (.bool false))) .done) (.g (.o 0 3 (.mov (.t 0)) (.o 1 4 (.len (.t 3)) (.o 2 5 (.call 5 109 [(.t 4), (.i 1), (.i 15)]) (.o 3 6 (.mov (.t 5)) (.op 4 [] (some 7) (some (6, true)) false (.mov (.t 0)) (.op 5 [] (some 8) (some (6, true)) false (.call 8 243 [(.t 7), (.fn 244)]) (.o 6 9 (.pick (.t 6) (.t 8) (.v (.bool false))) (.o 7 2 (.mov (.t 9)) .done)))))))) .ret))
theorem dg_impl_LabelOk : Tryz.f161.body.bind (digC Tryz.prog Tryz.f161.ntmps []) = some c_impl_LabelOk := by kernel_rfl
theorem rs_impl_LabelOk : resSlots Tryz.prog Tryz.f161 = some [.s 2] := by kernel_rfl
theorem ok_impl_LabelOk (b : List UInt8) (hb : b.length ≤ 4194304) :
    FnOK Tryz.prog 161 [.one (.d (encB b))] (fun ra _ => ra = [.one (.d (.sc (.bool (labelOk b))))]) := by
  refine FnOK.ofK Tryz.func161 (by kernel_rfl) dg_impl_LabelOk rs_impl_LabelOk rfl rfl ?_
  delta c_impl_LabelOk T.o X.i C.g
  refine Kbc (Ka Y (Kdb (Kc (Ka Y (Kq Y Y (Kp (ok_impl_within _ _ _) ⟨Y, Y, Y, trivial⟩ Y Y Y Y Y (Ka Y (kGP Y (fun g0 => Ki Y (Ka Y (Ki Y ?_))) (fun g0 => Kg Y (Kg Y (Kl Y (Ka Y (Ka Y (Kd (Kr (Er (ra := [.one (.d _)]) rfl ?_))))))))))))))))
  · refine Ku true (ok_impl_all_byte (b.map fun b : UInt8 => .sc (.int .u8 b.toNat)) is8 (fun x => okLetter (dec8 x)) (by simp; omega) (fun x hx => by obtain ⟨c, _, rfl⟩ := List.mem_map.1 hx; exact ⟨c, rfl⟩)) ⟨congrArg some (encB_lst b), ⟨rfl, rfl, ⟨_, Tryz.func244, rfl, by kernel_rfl⟩, ?_⟩, trivial⟩ Y Y Y (fun _ => ?_)
    · rintro _ R ⟨x, ⟨c, rfl⟩, rfl, rfl⟩
      have := ok_impl_LabelOk_1 c
      simp only [dec8_enc]
      exact this
    refine Kk Y (Ka Y (Ka Y (Kd (Kr (Er (ra := [.one (.d _)]) rfl ?_)))))
    rw [all_dec8, show labelOk b = b.all okLetter by simp only [labelOk]; rw [decide_eq_true (by omega), decide_eq_true (by omega)]; rfl]
  · rw [show labelOk b = false by simp only [labelOk]; rw [show (decide (1 ≤ b.length) && decide (b.length ≤ 15)) = false by simp; omega]; rfl]

def c_impl_all_Lbyte_1 : C := (.g (.o 0 3 (.mov (.v (.bool false))) .done) (.g (.o 0 4 (.load none (.t 1)) (.o 1 5 (.mov (.t 0)) (.o 2 6 (.callv 6 (.t 4) [(.t 5)]) (.o 3 7 (.un .not (.t 6)) (.o 4 3 (.mov (.t 7)) .done))))) .ret))
theorem dg_impl_all_Lbyte_1 : Tryz.f242.body.bind (digC Tryz.prog Tryz.f242.ntmps []) = some c_impl_all_Lbyte_1 := by kernel_rfl
theorem rs_impl_all_Lbyte_1 : resSlots Tryz.prog Tryz.f242 = some [.s 3] := by kernel_rfl
theorem ok_impl_all_Lbyte_1 (x : DV) (D : DV → Prop) (g : DV → Bool) (hx : D x) :
    FnOK Tryz.prog 242 [.one (.d x), .one (.ptr [.fv false (fcPred D g)])] (fun ra _ => ra = [.one (.d (.sc (.bool (!g x))))]) := by
  refine FnOK.ofK Tryz.func242 (by kernel_rfl) dg_impl_all_Lbyte_1 rs_impl_all_Lbyte_1 rfl rfl ?_
  delta c_impl_all_Lbyte_1 T.o X.i C.g
  refine Kbc (Ka Y (Kd ?_))
  refine Kbc (kLoadC Y Y (Ka Y (kCallv Y ⟨x, hx, rfl, rfl⟩ ⟨Y, trivial⟩ (.inr ?_) rfl ?_ rfl ?_)))
  · rintro _ rfl; rfl
  · rintro _ rfl; exact leb
  rintro _ rfl
  refine Kw Y Y (Ka Y (Kd (Kr ?_)))
  exact endRet (ra := [.one (.d _)]) rfl ⟨⟨⟨rfl, .inl rfl⟩, trivial⟩, .nil, trivial, trivial, trivial⟩ rfl

def c_slices_IndexFunc_LLbyte_Lbyte : C := (.g (.o 0 4 (.mov (.i 0)) .done) (.seq (.g (.o 0 6 (.mov (.t 0)) (.o 1 7 (.len (.t 6)) (.o 2 8 (.mov (.i 0)) .done))) (.block 0 (.loop (.g (.o 0 9 (.bin .lss (.t 8) (.t 7)) .done) (.seq (.cond (.t 9) .skip (.exit 0)) (.seq (.block 1 (.g (.o 0 10 (.mov (.t 8)) (.o 1 5 (.mov (.t 10)) .done)) (.g (.o 0 11 (.mov (.t 1)) (.o 1 12 (.mov (.t 0)) (.o 2 13 (.mov (.t 5)) (.o 3 14 (.iad 1 (.t 12) (.t 13)) (.o 4 15 (.load none (.t 14)) (.o 5 16 (.callv 16 (.t 11) [(.t 15)]) .done)))))) (.cond (.t 16) (.g (.o 0 17 (.mov (.t 5)) (.o 1 4 (.mov (.t 17)) .done)) .ret) .skip)))) (.reg false (.o 0 18 (.bin .add (.t 8) (.i 1)) (.o 1 8 (.mov (.t 18)) .done))))))))) (.g (.o 0 4 (.mov (.i (-1))) .done) .ret)))
theorem dg_slices_IndexFunc_LLbyte_Lbyte : Tryz.f300.body.bind (digC Tryz.prog Tryz.f300.ntmps []) = some c_slices_IndexFunc_LLbyte_Lbyte := by kernel_rfl
theorem rs_slices_IndexFunc_LLbyte_Lbyte : resSlots Tryz.prog Tryz.f300 = some [.s 4] := by kernel_rfl
theorem ok_slices_IndexFunc_LLbyte_Lbyte (l : List DV) (D : DV → Prop) (g : DV → Bool) (hl : (l.length : Int) ≤ 9223372036854775807) (hD : ∀ x ∈ l, D x) :
    FnOK Tryz.prog 300 [.one (.d (lst l)), .one (.fv false (fcPred D g))] (fun ra _ => ra = [.one (.d (.sc (.int .i64 (idxF g l))))]) := by
  refine FnOK.ofK Tryz.func300 (by kernel_rfl) dg_slices_IndexFunc_LLbyte_Lbyte rs_slices_IndexFunc_LLbyte_Lbyte rfl rfl ?_
  delta c_slices_IndexFunc_LLbyte_Lbyte T.o X.i C.g
  refine Kbc (Ka Y (Kd ?_))
  refine Kb (Kbc (Ka Y (kLen Y Y Y (Ka Y (Kd (Kt ?_))))))
  rw [len_lst]
  refine kLoop (α := { i : Nat // i ≤ l.length ∧ ∀ x ∈ l.take i, g x = false })
    (fun y => ⟨tabSl [(0, .dv (lst l)), (1, .c (.fv false (fcPred D g))), (7, .i l.length), (8, .i y.1)], (St.init [.one (.d (lst l)), .one (.fv false (fcPred D g))]).ob, []⟩) (fun y => l.length - y.1) ⟨0, by simp⟩
    (.tab rfl ⟨.refl _, .refl _, .refl _, .refl _, trivial⟩) ?_
  rintro ⟨i, hi, hg⟩
  simp only
  refine Kbc (Kj Y Y Y (Kd ?_))
  refine Kb (kCond Y (fun h1 => ?_) (fun h1 => ?_))
  · have hlt : i < l.length := by simp at h1; omega
    refine Kn (Kb (Kt (Kbc (Ka Y (Ka Y (Kd ?_))))))
    refine Kbc (Ka Y (Ka Y (Ka Y (kIadD Y Y Y Y ?_ ?_))))
    · rw [len_lst]; omega
    rw [show (lst l).row (i : Int).toNat = [l[i]] from row_lst l i hlt]
    refine Ky Y Y (kCallv Y ⟨l[i], hD _ (List.getElem_mem hlt), rfl, rfl⟩ ⟨Y, trivial⟩ (.inr ?_) rfl ?_ rfl ?_)
    · rintro _ rfl; rfl
    · rintro _ rfl; exact leb
    rintro _ rfl
    refine Kd (kCond Y (fun h2 => ?_) (fun h2 => ?_))
    · refine Kbc (Ka Y (Ka Y (Kd (Kr ?_))))
      refine endRet (ra := [.one (.d _)]) rfl ⟨⟨⟨rfl, .inl rfl⟩, trivial⟩, .nil, trivial, trivial, trivial⟩ ?_
      have : l.findIdx? g = some i := by
        rw [List.findIdx?_eq_some_iff_getElem]
        refine ⟨hlt, h2, fun j hj => ?_⟩
        simpa using hg _ (by rw [List.mem_take_iff_getElem]; exact ⟨j, by omega, rfl⟩)
      simp [idxF, this]
    · refine Kn (Kv (Kc (kAdd Y Y ?_ (Ka Y (Kd (kInv ?_))))))
      · omega
      refine ⟨⟨i + 1, hlt, ?_⟩, by simp only; omega, .tab rfl ⟨.refl _, .refl _, .refl _, .refl _, trivial⟩⟩
      intro x hx
      rw [← List.take_append_getElem hlt, List.mem_append] at hx
      rcases hx with hx | hx
      · exact hg x hx
      · simp at hx; rw [hx]; exact h2
  · refine kExit (kExC (kExI (kExB ?_)))
    have hge : i = l.length := by simp at h1; omega
    refine Kbc (Ka Y (Kd (Kr ?_)))
    refine endRet (ra := [.one (.d _)]) rfl ⟨⟨⟨rfl, .inl rfl⟩, trivial⟩, .nil, trivial, trivial, trivial⟩ ?_
    have : l.findIdx? g = none := by
      rw [List.findIdx?_eq_none_iff]
      intro x hx
      rw [hge, List.take_length] at hg
      exact hg x hx
    simp [idxF, this]

def c_slices_ContainsFunc_LLbyte_Lbyte : C := (.g (.o 0 4 (.mov (.v (.bool false))) .done) (.g (.o 0 5 (.mov (.t 0)) (.o 1 6 (.mov (.t 1)) (.o 2 7 (.call 7 300 [(.t 5), (.t 6)]) (.o 3 8 (.bin .geq (.t 7) (.i 0)) (.o 4 4 (.mov (.t 8)) .done))))) .ret))
theorem dg_slices_ContainsFunc_LLbyte_Lbyte : Tryz.f241.body.bind (digC Tryz.prog Tryz.f241.ntmps []) = some c_slices_ContainsFunc_LLbyte_Lbyte := by kernel_rfl
theorem rs_slices_ContainsFunc_LLbyte_Lbyte : resSlots Tryz.prog Tryz.f241 = some [.s 4] := by kernel_rfl
theorem ok_slices_ContainsFunc_LLbyte_Lbyte (l : List DV) (D : DV → Prop) (g : DV → Bool) (hl : (l.length : Int) ≤ 9223372036854775807) (hD : ∀ x ∈ l, D x) :
    FnOK Tryz.prog 241 [.one (.d (lst l)), .one (.fv false (fcPred D g))] (fun ra _ => ra = [.one (.d (.sc (.bool (l.any g))))]) := by
  refine FnOK.ofK Tryz.func241 (by kernel_rfl) dg_slices_ContainsFunc_LLbyte_Lbyte rs_slices_ContainsFunc_LLbyte_Lbyte rfl rfl ?_
  delta c_slices_ContainsFunc_LLbyte_Lbyte T.o X.i C.g
  refine Kbc (Ka Y (Kd ?_))
  refine Kbc (Ka Y (Ka Y ?_))
  refine Ku true (ok_slices_IndexFunc_LLbyte_Lbyte l D g hl hD) ⟨rfl, ⟨fun h => h, fun _ _ h => h⟩, trivial⟩ rfl rfl rfl fun os => ?_
  refine Kj Y Y Y (Ka Y (Kd (Kr ?_)))
  refine endRet (ra := [.one (.d _)]) rfl ⟨⟨⟨rfl, .inl rfl⟩, trivial⟩, .nil, trivial, trivial, trivial⟩ ?_
  have : decide (idxF g l ≥ 0) = l.any g := by
    unfold idxF
    cases h : l.findIdx? g with
    | none =>
      rw [List.findIdx?_eq_none_iff] at h
      have : l.any g = false := by rw [List.any_eq_false]; intro x hx; simp [h x hx]
      rw [this]; rfl
    | some i =>
      rw [List.findIdx?_eq_some_iff_getElem] at h
      obtain ⟨h1, h2, _⟩ := h
      have : l.any g = true := by rw [List.any_eq_true]; exact ⟨_, List.getElem_mem h1, h2⟩
      rw [this]; simp
  rw [this]

def c_impl_all_Lbyte : C := (.g (.o 0 3 (.box 3 (.t 1)) (.o 1 4 (.mov (.v (.bool false))) .done)) (.g (.o 0 5 (.mov (.t 0)) (.o 1 6 (.clo 242 [] [(.t 3)]) (.o 2 7 (.call 7 241 [(.t 5), (.t 6)]) (.o 3 8 (.un .not (.t 7)) (.o 4 4 (.mov (.t 8)) .done))))) .ret))
theorem dg_impl_all_Lbyte : Tryz.f160.body.bind (digC Tryz.prog Tryz.f160.ntmps []) = some c_impl_all_Lbyte := by kernel_rfl
theorem rs_impl_all_Lbyte : resSlots Tryz.prog Tryz.f160 = some [.s 4] := by kernel_rfl
theorem ok_impl_all_Lbyte (l : List DV) (D : DV → Prop) (g : DV → Bool) (hl : (l.length : Int) ≤ 9223372036854775807) (hD : ∀ x ∈ l, D x) :
    FnOK Tryz.prog 160 [.one (.d (lst l)), .one (.fv false (fcPred D g))] (fun ra _ => ra = [.one (.d (.sc (.bool (l.all g))))]) := by
  refine FnOK.ofK Tryz.func160 (by kernel_rfl) dg_impl_all_Lbyte rs_impl_all_Lbyte rfl rfl ?_
  delta c_impl_all_Lbyte T.o X.i C.g
  refine Kbc (kBox Y Y Y Y Y (Ka Y (Kd ?_)))
  refine Kbc (Ka Y (kClo Y Y ?_))
  refine Ku true (ok_slices_ContainsFunc_LLbyte_Lbyte l D (fun x => !g x) hl hD) ⟨rfl, ⟨rfl, ⟨_, Tryz.func242, rfl, by kernel_rfl⟩, _, rfl, ?_⟩, trivial⟩ rfl rfl rfl fun os => ?_
  · rintro l R ⟨x, hx, rfl, rfl⟩
    exact ⟨by rintro _ rfl; rfl, ok_impl_all_Lbyte_1 x D g hx⟩
  refine Kw Y Y (Ka Y (Kd (Kr ?_)))
  refine endRet (ra := [.one (.d _)]) rfl ⟨⟨⟨rfl, .inl rfl⟩, trivial⟩, .nil, trivial, trivial, trivial⟩ ?_
  simp [List.all_eq_not_any_not]

def c_impl_NameOk : C := (.g (.o 0 1 (.box 1 (.t 0)) (.o 1 2 (.mov (.v (.bool false))) .done)) (.g (.o 0 3 (.fad (.t 1) 0) (.o 1 4 (.load none (.t 3)) (.o 2 5 (.len (.t 4)) (.o 3 6 (.bin .leq (.t 5) (.i 6)) (.o 4 7 (.mov (.t 6)) (.op 5 [] (some 8) (some (7, true)) false (.fad (.t 1) 0) (.op 6 [] (some 9) (some (7, true)) false (.load none (.t 8)) (.op 7 [] (some 10) (some (7, true)) false (.call 10 160 [(.t 9), (.fn 161)]) (.o 8 11 (.pick (.t 7) (.t 10) (.v (.bool false))) (.o 9 2 (.mov (.t 11)) .done)))))))))) .ret))
theorem dg_impl_NameOk : Tryz.f71.body.bind (digC Tryz.prog Tryz.f71.ntmps []) = some c_impl_NameOk := by kernel_rfl
theorem rs_impl_NameOk : resSlots Tryz.prog Tryz.f71 = some [.s 2] := by kernel_rfl
theorem ok_impl_NameOk (a : List (List UInt8)) (ha : a.length ≤ 4194304) (hb : ∀ b ∈ a, b.length ≤ 4194304) :
    FnOK Tryz.prog 71 [.agg [.d (encBB a)]] (fun ra _ => ra = [.one (.d (.sc (.bool (nameOk a))))]) := by
  refine FnOK.ofK Tryz.func71 (by kernel_rfl) dg_impl_NameOk rs_impl_NameOk rfl rfl ?_
  delta c_impl_NameOk T.o X.i C.g
  refine Kbc (kBox Y Y Y Y Y (Ka Y (Kdb (Kc (Kf Y Y (Ke Y Y Y (Kq Y Y (Kj Y Y Y (Ka Y (kGP Y (fun g0 => Ki Y (Kf Y Y (Ki Y (Ke Y Y Y (Ki Y ?_))))) (fun g0 => Kg Y (Kg Y (Kg Y (Kl Y (Ka Y (Ka Y (Kd (Kr (Er (ra := [.one (.d _)]) rfl ?_)))))))))))))))))))
  · refine Ku true (ok_impl_all_Lbyte (a.map encB) (fun x => ∃ b : List UInt8, x = encB b ∧ b.length ≤ 4194304) (fun x => labelOk (decB x)) (by simp; omega) (fun x hx => by obtain ⟨c, h, rfl⟩ := List.mem_map.1 hx; exact ⟨c, rfl, hb c h⟩)) ⟨congrArg some (encBB_lst a), ⟨rfl, rfl, ⟨_, Tryz.func161, rfl, by kernel_rfl⟩, ?_⟩, trivial⟩ Y Y Y (fun _ => ?_)
    · rintro _ R ⟨x, ⟨c, rfl, h⟩, rfl, rfl⟩
      have := ok_impl_LabelOk c h
      simp only [decB_enc]
      exact this
    refine Kk Y (Ka Y (Ka Y (Kd (Kr (Er (ra := [.one (.d _)]) rfl ?_)))))
    rw [all_decB, show nameOk a = a.all labelOk by simp only [nameOk]; rw [decide_eq_true (by omega)]; rfl]
  · rw [show nameOk a = false by simp only [nameOk]; rw [decide_eq_false (by omega)]; rfl]

def typeTab : List (Int × ByteArray) := [(1, ⟨#[65]⟩), (2, ⟨#[78, 83]⟩), (5, ⟨#[67, 78, 65, 77, 69]⟩), (6, ⟨#[83, 79, 65]⟩), (12, ⟨#[80, 84, 82]⟩), (16, ⟨#[84, 88, 84]⟩), (49, ⟨#[68, 72, 67, 73, 68]⟩)]
def typeNm (n : Int) : ByteArray := ((typeTab.find? fun e => n == e.1).map (·.2)).getD ByteArray.empty
theorem ok_impl_typeName (n : Int) : FnOK Tryz.prog 180 [.one (.d (.sc (.int .i64 n)))] (fun ra _ => ra = [.one (.d (.sc (.string (typeNm n))))]) := by
  refine FnOK.ofWalk Tryz.func180 rfl (by kernel_rfl) fun w => ?_
  have kk : Tryz.prog.underlying 3 = some (.int .i64) := by kernel_rfl
  have hmm := @Go.RowKit.run_makeMap Tryz.prog
  go_enter Tryz.func180, Tryz.ntmps180
  go_wp2
  have t0 : Tab (w.alloc (.map #[] 0)) w.heap.size [] := ⟨_, _, (MapKept.heap_alloc w _).1, rfl⟩
  have b0 : BelowD w.heap.size w (w.alloc (.map #[] 0)) := ⟨(Go.RowKit.Below.refl _ _).alloc (Nat.le_refl _) _, Nat.le_refl _⟩
  have st : ∀ {w1 w2 : World}, BelowD w.heap.size w w1 → Ext w1 w2 (fun b => b = w.heap.size) → BelowD w.heap.size w w2 := fun h e => ⟨⟨e.os.trans h.1.os, e.tape.trans h.1.tape, e.output.trans h.1.output, Nat.le_trans h.1.size e.size, fun k hk => (e.same k (Nat.lt_of_lt_of_le hk h.1.size) (by omega)).trans (h.1.block k hk)⟩, Nat.le_trans h.2 e.drawn⟩
  refine upon_insert (kt := 3) (et := 9) ?_ kk t0 ?_ (fun w1 t1 e1 => ?_)
  · kernel_rfl
  · rfl
  have b1 := st b0 e1
  go_wp2
  refine upon_insert (kt := 3) (et := 9) ?_ kk t1 ?_ (fun w2 t2 e2 => ?_)
  · kernel_rfl
  · rfl
  have b2 := st b1 e2
  go_wp2
  refine upon_insert (kt := 3) (et := 9) ?_ kk t2 ?_ (fun w3 t3 e3 => ?_)
  · kernel_rfl
  · rfl
  have b3 := st b2 e3
  go_wp2
  refine upon_insert (kt := 3) (et := 9) ?_ kk t3 ?_ (fun w4 t4 e4 => ?_)
  · kernel_rfl
  · rfl
  have b4 := st b3 e4
  go_wp2
  refine upon_insert (kt := 3) (et := 9) ?_ kk t4 ?_ (fun w5 t5 e5 => ?_)
  · kernel_rfl
  · rfl
  have b5 := st b4 e5
  go_wp2
  refine upon_insert (kt := 3) (et := 9) ?_ kk t5 ?_ (fun w6 t6 e6 => ?_)
  · kernel_rfl
  · rfl
  have b6 := st b5 e6
  go_wp2
  refine upon_insert (kt := 3) (et := 9) ?_ kk t6 ?_ (fun w7 t7 e7 => ?_)
  · kernel_rfl
  · rfl
  have b7 := st b6 e7
  go_wp2
  refine upon_find (kt := 3) (et := 9) ?_ kk ?_ t7 ?_
  · kernel_rfl
  · rfl
  go_wp2
  all_goals go_ret
  exact ⟨rfl, b7⟩
theorem typeNm_ok (n : Int) : (!((typeNm n).toList == (⟨#[]⟩ : ByteArray).toList)) = tyOk n := by
  by_cases h1 : n = 1
  · subst h1; rw [ByteArray.toList_eq, ByteArray.toList_eq]; rfl
  by_cases h2 : n = 2
  · subst h2; rw [ByteArray.toList_eq, ByteArray.toList_eq]; rfl
  by_cases h3 : n = 5
  · subst h3; rw [ByteArray.toList_eq, ByteArray.toList_eq]; rfl
  by_cases h4 : n = 6
  · subst h4; rw [ByteArray.toList_eq, ByteArray.toList_eq]; rfl
  by_cases h5 : n = 12
  · subst h5; rw [ByteArray.toList_eq, ByteArray.toList_eq]; rfl
  by_cases h6 : n = 16
  · subst h6; rw [ByteArray.toList_eq, ByteArray.toList_eq]; rfl
  by_cases h7 : n = 49
  · subst h7; rw [ByteArray.toList_eq, ByteArray.toList_eq]; rfl
  have e : ∀ m : Int, n ≠ m → (n == m) = false := fun m h => by simpa using h
  have : typeNm n = ByteArray.empty := by
    unfold typeNm typeTab
    simp only [List.find?_cons, e 1 h1, e 2 h2, e 5 h3, e 6 h4, e 12 h5, e 16 h6, e 49 h7, List.find?_nil]
    rfl
  rw [this]
  simp only [tyOk, e 1 h1, e 2 h2, e 5 h3, e 6 h4, e 12 h5, e 16 h6, e 49 h7]
  rw [ByteArray.toList_eq, ByteArray.toList_eq]; rfl

def c_impl_TypeOk : C := (.g (.o 0 2 (.mov (.v (.bool false))) .done) (.g (.o 0 3 (.mov (.t 0)) (.o 1 4 (.call 4 180 [(.t 3)]) (.o 2 5 (.bin .neq (.t 4) (.v (.string ⟨#[]⟩))) (.o 3 2 (.mov (.t 5)) .done)))) .ret))
theorem dg_impl_TypeOk : Tryz.f89.body.bind (digC Tryz.prog Tryz.f89.ntmps []) = some c_impl_TypeOk := by kernel_rfl
theorem rs_impl_TypeOk : resSlots Tryz.prog Tryz.f89 = some [.s 2] := by kernel_rfl
theorem ok_impl_TypeOk (n : Int) : FnOK Tryz.prog 89 [.one (.d (.sc (.int .i64 n)))] (fun ra _ => ra = [.one (.d (.sc (.bool (tyOk n))))]) := by
  rw [← typeNm_ok]
  refine FnOK.ofK Tryz.func89 (by kernel_rfl) dg_impl_TypeOk rs_impl_TypeOk rfl rfl ?_
  delta c_impl_TypeOk T.o X.i C.g
  refine Kbc (Ka Y (Kdb (Kc (Ka Y (Kp (ok_impl_typeName _) ⟨Y, trivial⟩ Y Y Y Y Y (Kj Y Y Y (Ka Y (Kd (Kr (Er (ra := [.one (.d _)]) rfl rfl))))))))))

def c_impl_isWord : C := (.g (.o 0 2 (.mov (.v (.bool false))) .done) (.g (.o 0 3 (.mov (.t 0)) (.o 1 4 (.call 4 109 [(.t 3), (.i 0), (.i 4294967295)]) (.o 2 2 (.mov (.t 4)) .done))) .ret))
theorem dg_impl_isWord : Tryz.f192.body.bind (digC Tryz.prog Tryz.f192.ntmps []) = some c_impl_isWord := by kernel_rfl
theorem rs_impl_isWord : resSlots Tryz.prog Tryz.f192 = some [.s 2] := by kernel_rfl
theorem ok_impl_isWord (n : Int) : FnOK Tryz.prog 192 [.one (.d (.sc (.int .i64 n)))] (fun ra _ => ra = [.one (.d (.sc (.bool (isW n))))]) := by
  refine FnOK.ofK Tryz.func192 (by kernel_rfl) dg_impl_isWord rs_impl_isWord rfl rfl ?_
  delta c_impl_isWord T.o X.i C.g
  refine Kbc (Ka Y (Kdb (Kc (Ka Y (Kp (ok_impl_within _ _ _) ⟨Y, Y, Y, trivial⟩ Y Y Y Y Y (Ka Y (Kd (Kr (Er (ra := [.one (.d _)]) rfl ?_)))))))))
  rw [show isW n = decide (0 ≤ n ∧ n ≤ 4294967295) by unfold isW; rw [Bool.eq_iff_iff]; simp; omega]

def c_impl_hasTo : C := (.g (.o 0 2 (.mov (.v (.bool false))) .done) (.g (.o 0 3 (.mov (.t 0)) (.o 1 4 (.bin .eql (.t 3) (.i 2)) (.o 2 5 (.mov (.t 4)) (.op 3 [] (some 6) (some (5, false)) false (.mov (.t 0)) (.op 4 [] (some 7) (some (5, false)) false (.bin .eql (.t 6) (.i 5)) (.o 5 8 (.pick (.t 5) (.v (.bool true)) (.t 7)) (.o 6 9 (.mov (.t 8)) (.op 7 [] (some 10) (some (9, false)) false (.mov (.t 0)) (.op 8 [] (some 11) (some (9, false)) false (.bin .eql (.t 10) (.i 6)) (.o 9 12 (.pick (.t 9) (.v (.bool true)) (.t 11)) (.o 10 13 (.mov (.t 12)) (.op 11 [] (some 14) (some (13, false)) false (.mov (.t 0)) (.op 12 [] (some 15) (some (13, false)) false (.bin .eql (.t 14) (.i 12)) (.o 13 16 (.pick (.t 13) (.v (.bool true)) (.t 15)) (.o 14 2 (.mov (.t 16)) .done))))))))))))))) .ret))
theorem dg_impl_hasTo : Tryz.f239.body.bind (digC Tryz.prog Tryz.f239.ntmps []) = some c_impl_hasTo := by kernel_rfl
theorem rs_impl_hasTo : resSlots Tryz.prog Tryz.f239 = some [.s 2] := by kernel_rfl
theorem ok_impl_hasTo (n : Int) : FnOK Tryz.prog 239 [.one (.d (.sc (.int .i64 n)))] (fun ra _ => ra = [.one (.d (.sc (.bool (hasTo n))))]) := by
  refine FnOK.ofK Tryz.func239 (by kernel_rfl) dg_impl_hasTo rs_impl_hasTo rfl rfl ?_
  delta c_impl_hasTo T.o X.i C.g
  refine Kbc (Ka Y (Kdb (Kc (Ka Y (Kj Y Y Y (Ka Y (kGP Y (fun g0 => Kg Y (Kg Y (Kk Y (Ka Y (Ka Y (Kg Y (Kg Y (Kk Y (Ka Y (Ka Y (Kg Y (Kg Y (Kk Y (Ka Y (Ka Y (Kd (Kr (Er (ra := [.one (.d _)]) rfl ?_)))))))))))))))))) (fun g0 => Ki Y (Ka Y (Ki Y (Kj Y Y Y (Kl Y (Ka Y (Ka Y (kGP Y (fun g1 => Kg Y (Kg Y (Kk Y (Ka Y (Ka Y (Kg Y (Kg Y (Kk Y (Ka Y (Ka Y (Kd (Kr (Er (ra := [.one (.d _)]) rfl ?_))))))))))))) (fun g1 => Ki Y (Ka Y (Ki Y (Kj Y Y Y (Kl Y (Ka Y (Ka Y (kGP Y (fun g2 => Kg Y (Kg Y (Kk Y (Ka Y (Ka Y (Kd (Kr (Er (ra := [.one (.d _)]) rfl ?_)))))))) (fun g2 => Ki Y (Ka Y (Ki Y (Kj Y Y Y (Kl Y (Ka Y (Ka Y (Kd (Kr (Er (ra := [.one (.d _)]) rfl ?_)))))))))))))))))))))))))))))))))
  all_goals simp_all [hasTo]

def c_impl_hasText : C := (.g (.o 0 2 (.mov (.v (.bool false))) .done) (.g (.o 0 3 (.mov (.t 0)) (.o 1 4 (.bin .eql (.t 3) (.i 16)) (.o 2 5 (.mov (.t 4)) (.op 3 [] (some 6) (some (5, false)) false (.mov (.t 0)) (.op 4 [] (some 7) (some (5, false)) false (.bin .eql (.t 6) (.i 49)) (.o 5 8 (.pick (.t 5) (.v (.bool true)) (.t 7)) (.o 6 2 (.mov (.t 8)) .done))))))) .ret))
theorem dg_impl_hasText : Tryz.f240.body.bind (digC Tryz.prog Tryz.f240.ntmps []) = some c_impl_hasText := by kernel_rfl
theorem rs_impl_hasText : resSlots Tryz.prog Tryz.f240 = some [.s 2] := by kernel_rfl
theorem ok_impl_hasText (n : Int) : FnOK Tryz.prog 240 [.one (.d (.sc (.int .i64 n)))] (fun ra _ => ra = [.one (.d (.sc (.bool (hasText n))))]) := by
  refine FnOK.ofK Tryz.func240 (by kernel_rfl) dg_impl_hasText rs_impl_hasText rfl rfl ?_
  delta c_impl_hasText T.o X.i C.g
  refine Kbc (Ka Y (Kdb (Kc (Ka Y (Kj Y Y Y (Ka Y (kGP Y (fun g0 => Kg Y (Kg Y (Kk Y (Ka Y (Ka Y (Kd (Kr (Er (ra := [.one (.d _)]) rfl ?_)))))))) (fun g0 => Ki Y (Ka Y (Ki Y (Kj Y Y Y (Kl Y (Ka Y (Ka Y (Kd (Kr (Er (ra := [.one (.d _)]) rfl ?_)))))))))))))))))
  all_goals simp_all [hasText]

def c_impl_RrOk : C := (.g (.o 0 1 (.box 1 (.t 0)) (.o 1 2 (.mov (.v (.bool false))) .done)) (.seq (.g (.o 0 7 (.fad (.t 1) 0) (.o 1 8 (.load (some 1) (.t 7)) (.o 2 9 (.call 9 71 [(.t 8)]) (.o 3 10 (.un .not (.t 9)) (.o 4 11 (.mov (.t 10)) (.op 5 [] (some 12) (some (11, false)) false (.fad (.t 1) 1) (.op 6 [] (some 13) (some (11, false)) false (.load none (.t 12)) (.op 7 [] (some 14) (some (11, false)) false (.call 14 89 [(.t 13)]) (.op 8 [] (some 15) (some (11, false)) false (.un .not (.t 14)) (.o 9 16 (.pick (.t 11) (.v (.bool true)) (.t 15)) (.o 10 17 (.mov (.t 16)) (.op 11 [] (some 18) (some (17, false)) false (.fad (.t 1) 2) (.op 12 [] (some 19) (some (17, false)) false (.load none (.t 18)) (.op 13 [] (some 20) (some (17, false)) false (.call 20 109 [(.t 19), (.i 0), (.i 100000)]) (.op 14 [] (some 21) (some (17, false)) false (.un .not (.t 20)) (.o 15 22 (.pick (.t 17) (.v (.bool true)) (.t 21)) .done)))))))))))))))) (.cond (.t 22) (.g (.o 0 2 (.mov (.v (.bool false))) .done) .ret) .skip)) (.g (.o 0 23 (.fad (.t 1) 6) (.o 1 24 (.load none (.t 23)) (.o 2 25 (.len (.t 24)) (.o 3 26 (.bin .eql (.t 25) (.i 0)) (.o 4 3 (.mov (.t 26)) .done))))) (.seq (.g (.o 0 27 (.fad (.t 1) 1) (.o 1 28 (.load none (.t 27)) (.o 2 29 (.bin .eql (.t 28) (.i 6)) .done))) (.cond (.t 29) (.reg false (.o 0 30 (.fad (.t 1) 6) (.o 1 31 (.load none (.t 30)) (.o 2 32 (.len (.t 31)) (.o 3 33 (.bin .eql (.t 32) (.i 2)) (.o 4 34 (.mov (.t 33)) (.op 5 [] (some 35) (some (34, true)) false (.fad (.t 1) 6) (.op 6 [] (some 36) (some (34, true)) false (.load none (.t 35)) (.op 7 [] (some 37) (some (34, true)) false (.iad 1 (.t 36) (.i 0)) (.op 8 [] (some 38) (some (34, true)) false (.load none (.t 37)) (.op 9 [] (some 39) (some (34, true)) false (.call 39 192 [(.t 38)]) (.o 10 40 (.pick (.t 34) (.t 39) (.v (.bool false))) (.o 11 41 (.mov (.t 40)) (.op 12 [] (some 42) (some (41, true)) false (.fad (.t 1) 6) (.op 13 [] (some 43) (some (41, true)) false (.load none (.t 42)) (.op 14 [] (some 44) (some (41, true)) false (.iad 1 (.t 43) (.i 1)) (.op 15 [] (some 45) (some (41, true)) false (.load none (.t 44)) (.op 16 [] (some 46) (some (41, true)) false (.call 46 109 [(.t 45), (.i 0), (.i 100000)]) (.o 17 47 (.pick (.t 41) (.t 46) (.v (.bool false))) (.o 18 3 (.mov (.t 47)) .done)))))))))))))))))))) .skip)) (.g (.o 0 48 (.fad (.t 1) 3) (.o 1 49 (.load none (.t 48)) (.o 2 50 (.bin .eql (.t 49) (.i 0)) (.o 3 51 (.mov (.t 50)) (.op 4 [] (some 52) (some (51, false)) false (.fad (.t 1) 1) (.op 5 [] (some 53) (some (51, false)) false (.load none (.t 52)) (.op 6 [] (some 54) (some (51, false)) false (.bin .eql (.t 53) (.i 1)) (.op 7 [] (some 55) (some (51, false)) false (.mov (.t 54)) (.op 8 [] (some 56) (some (55, true)) false (.fad (.t 1) 3) (.op 9 [] (some 57) (some (55, true)) false (.load none (.t 56)) (.op 10 [] (some 58) (some (55, true)) false (.call 58 192 [(.t 57)]) (.op 11 [] (some 59) (some (51, false)) false (.pick (.t 55) (.t 58) (.v (.bool false))) (.o 12 60 (.pick (.t 51) (.v (.bool true)) (.t 59)) (.o 13 4 (.mov (.t 60)) .done)))))))))))))) (.g (.o 0 61 (.fad (.t 1) 4) (.o 1 62 (.fad (.t 61) 0) (.o 2 63 (.load none (.t 62)) (.o 3 64 (.len (.t 63)) (.o 4 65 (.bin .eql (.t 64) (.i 0)) (.o 5 66 (.mov (.t 65)) (.op 6 [] (some 67) (some (66, false)) false (.fad (.t 1) 1) (.op 7 [] (some 68) (some (66, false)) false (.load none (.t 67)) (.op 8 [] (some 69) (some (66, false)) false (.call 69 239 [(.t 68)]) (.op 9 [] (some 70) (some (66, false)) false (.mov (.t 69)) (.op 10 [] (some 71) (some (70, true)) false (.fad (.t 1) 4) (.op 11 [] (some 72) (some (70, true)) false (.load (some 1) (.t 71)) (.op 12 [] (some 73) (some (70, true)) false (.call 73 71 [(.t 72)]) (.op 13 [] (some 74) (some (66, false)) false (.pick (.t 70) (.t 73) (.v (.bool false))) (.o 14 75 (.pick (.t 66) (.v (.bool true)) (.t 74)) (.o 15 5 (.mov (.t 75)) .done)))))))))))))))) (.g (.o 0 76 (.fad (.t 1) 5) (.o 1 77 (.load none (.t 76)) (.o 2 78 (.len (.t 77)) (.o 3 79 (.bin .eql (.t 78) (.i 0)) (.o 4 80 (.mov (.t 79)) (.op 5 [] (some 81) (some (80, false)) false (.fad (.t 1) 1) (.op 6 [] (some 82) (some (80, false)) false (.load none (.t 81)) (.op 7 [] (some 83) (some (80, false)) false (.call 83 240 [(.t 82)]) (.op 8 [] (some 84) (some (80, false)) false (.mov (.t 83)) (.op 9 [] (some 85) (some (84, true)) false (.fad (.t 1) 5) (.op 10 [] (some 86) (some (84, true)) false (.load none (.t 85)) (.op 11 [] (some 87) (some (84, true)) false (.len (.t 86)) (.op 12 [] (some 88) (some (84, true)) false (.bin .leq (.t 87) (.i 40)) (.op 13 [] (some 89) (some (80, false)) false (.pick (.t 84) (.t 88) (.v (.bool false))) (.o 14 90 (.pick (.t 80) (.v (.bool true)) (.t 89)) (.o 15 6 (.mov (.t 90)) .done)))))))))))))))) (.g (.o 0 91 (.mov (.t 3)) (.o 1 92 (.mov (.t 91)) (.op 2 [] (some 93) (some (92, true)) false (.mov (.t 4)) (.o 3 94 (.pick (.t 92) (.t 93) (.v (.bool false))) (.o 4 95 (.mov (.t 94)) (.op 5 [] (some 96) (some (95, true)) false (.mov (.t 5)) (.o 6 97 (.pick (.t 95) (.t 96) (.v (.bool false))) (.o 7 98 (.mov (.t 97)) (.op 8 [] (some 99) (some (98, true)) false (.mov (.t 6)) (.o 9 100 (.pick (.t 98) (.t 99) (.v (.bool false))) (.o 10 2 (.mov (.t 100)) .done))))))))))) .ret))))))))
theorem dg_impl_RrOk : Tryz.f159.body.bind (digC Tryz.prog Tryz.f159.ntmps []) = some c_impl_RrOk := by kernel_rfl
theorem rs_impl_RrOk : resSlots Tryz.prog Tryz.f159 = some [.s 2] := by kernel_rfl
theorem ok_impl_RrOk (r : Rr) (hs : SmallR r) :
    FnOK Tryz.prog 159 [.agg (r.cells.map .d)] (fun ra _ => ra = [.one (.d (.sc (.bool (rrOk r))))]) := by
  refine FnOK.ofK Tryz.func159 (by kernel_rfl) dg_impl_RrOk rs_impl_RrOk rfl rfl ?_
  delta c_impl_RrOk T.o X.i C.g
  have n1 := hs.n.len
  have n2 := hs.n.mem
  have t1 := hs.t.len
  have t2 := hs.t.mem
  have x1 := hs.x
  have m1 := hs.m
  refine Kbc (kBox Y Y Y Y Y (Ka Y (Kd ?_)))
  by_cases h0 : nameOk r.name = true ∧ tyOk r.ty = true ∧ (0 ≤ r.ttl ∧ r.ttl ≤ 100000)
  case neg =>
    rw [show rrOk r = false by simp only [rrOk]; revert h0; cases nameOk r.name <;> cases tyOk r.ty <;> simp <;> intros <;> omega]
    refine Kb ?_
    cases h1 : nameOk r.name
    case false => refine kSeq (kReg (kFadP rfl rfl (kLoadP rfl rfl rfl (kCallD (ok_impl_NameOk _ pr pr) ⟨⟨⟨rfl, trivial⟩, leb⟩, trivial⟩ rfl rfl rfl rfl rfl (kUn rfl rfl (kMovC rfl (kGN rfl (fun g0 => kGF rfl (kGF rfl (kGF rfl (kGF rfl (kPickT rfl (kMovC rfl (kMovC rfl (kGF rfl (kGF rfl (kGF rfl (kGF rfl (kPickT rfl (kMovC rfl (kDone (kCondT rfl (kSeq (kReg (kMovC rfl (kDone (kRet (endRetA (ra := [.one (.d _)]) rfl rfl))))))))))))))))))))) (fun g0 => (by (simp [*] at g0))))))))))
    cases h2 : tyOk r.ty
    case false => refine kSeq (kReg (kFadP rfl rfl (kLoadP rfl rfl rfl (kCallD (ok_impl_NameOk _ pr pr) ⟨⟨⟨rfl, trivial⟩, leb⟩, trivial⟩ rfl rfl rfl rfl rfl (kUn rfl rfl (kMovC rfl (kGN rfl (fun g0 => (by (simp [*] at g0))) (fun g0 => kGT rfl (kFadP rfl rfl (kGT rfl (kLoadP rfl rfl rfl (kGT rfl (kCallD (ok_impl_TypeOk _) ⟨rfl, trivial⟩ rfl rfl rfl rfl rfl (kGT rfl (kUn rfl rfl (kPickF rfl (kMovC rfl (kMovC rfl (kGN rfl (fun g1 => kGF rfl (kGF rfl (kGF rfl (kGF rfl (kPickT rfl (kMovC rfl (kDone (kCondT rfl (kSeq (kReg (kMovC rfl (kDone (kRet (endRetA (ra := [.one (.d _)]) rfl rfl)))))))))))))) (fun g1 => (by (simp [*] at g1))))))))))))))))))))))
    have h3 : ¬ (0 ≤ r.ttl ∧ r.ttl ≤ 100000) := fun h => h0 ⟨h1, h2, h⟩
    refine Kbc (Kf Y Y (Ke Y Y Y (Kp (ok_impl_NameOk _ pr pr) ⟨⟨⟨Y, trivial⟩, leb⟩, trivial⟩ Y Y Y Y Y (Kw Y Y (Ka Y (kGN Y (fun g0 => (by (simp [*] at g0))) (fun g0 => Ki Y (Kf Y Y (Ki Y (Ke Y Y Y (Ki Y (Kp (ok_impl_TypeOk _) ⟨Y, trivial⟩ Y Y Y Y Y (Ki Y (Kw Y Y (Kl Y (Ka Y (Ka Y (kGN Y (fun g1 => (by (simp [*] at g1))) (fun g1 => Ki Y (Kf Y Y (Ki Y (Ke Y Y Y (Ki Y (Kp (ok_impl_within _ _ _) ⟨Y, Y, Y, trivial⟩ Y Y Y Y Y (Ki Y (Kw Y Y (Kl Y (Ka Y (Kd (kCondN Y (fun g2 => Kbc (Ka Y (Kd (Kr (Er (ra := [.one (.d _)]) rfl rfl))))) (fun g2 => (by (simp [*] at g2)))))))))))))))))))))))))))))))))
  obtain ⟨h1, h2, h3⟩ := h0
  rw [show rrOk r = dataOk r by simp only [rrOk]; rw [h1, h2, decide_eq_true h3.1, decide_eq_true h3.2]; rfl]
  refine Kb (kCut ⟨tabSl [(1, .c (.ptr (rid 1 0) 1 0))], obTab 1 [(rid 1 0, ⟨1, 0, .box (r.cells.map .d)⟩)], []⟩ ?_ (fun x hc => ?_))
  case refine_2 =>
    refine Kbc (Kf Y Y (Ke Y Y Y (Kp (ok_impl_NameOk _ pr pr) ⟨⟨⟨Y, trivial⟩, leb⟩, trivial⟩ Y Y Y Y Y (Kw Y Y (Ka Y (kGN Y (fun g0 => (by (simp [*] at g0))) (fun g0 => Ki Y (Kf Y Y (Ki Y (Ke Y Y Y (Ki Y (Kp (ok_impl_TypeOk _) ⟨Y, trivial⟩ Y Y Y Y Y (Ki Y (Kw Y Y (Kl Y (Ka Y (Ka Y (kGN Y (fun g1 => (by (simp [*] at g1))) (fun g1 => Ki Y (Kf Y Y (Ki Y (Ke Y Y Y (Ki Y (Kp (ok_impl_within _ _ _) ⟨Y, Y, Y, trivial⟩ Y Y Y Y Y (Ki Y (Kw Y Y (Kl Y (Ka Y (Kd (kCondN Y (fun g2 => (by (simp [*] at g2))) (fun g2 => Kn (hc _ .normA))))))))))))))))))))))))))))))))
  refine Kb (kCut ⟨tabSl [(1, .c (.ptr (rid 1 0) 1 0)), (3, .b (((r.nums.length : Int) == 0)))], obTab 1 [(rid 1 0, ⟨1, 0, .box (r.cells.map .d)⟩)], []⟩ ?_ (fun x hc => ?_))
  case refine_2 => refine kReg (kFadP rfl rfl (kLoadP rfl rfl rfl (kLenR rfl rfl (kBin rfl rfl rfl (kMovC rfl (kDone (hc _ .normA)))))))
  refine Kb (kCut ⟨tabSl [(1, .c (.ptr (rid 1 0) 1 0)), (3, .b ((if r.ty == 6 then numsOk r.nums else ((r.nums.length : Int) == 0))))], obTab 1 [(rid 1 0, ⟨1, 0, .box (r.cells.map .d)⟩)], []⟩ ?_ (fun x hc => ?_))
  case refine_2 =>
    refine Kbc (Kf Y Y (Ke Y Y Y (Kj Y Y Y (Kd (Km Y (fun g0 => Kc (Kf Y Y (Ke Y Y Y (Kq Y Y (Kj Y Y Y (Ka Y (kGP Y (fun g1 => Ki Y (Kf Y Y (Ki Y (Ke Y Y Y (Ki Y (kIadR Y Y Y om (Ki Y (Ky Y Y (Ki Y (Kp (ok_impl_isWord _) ⟨Y, trivial⟩ Y Y Y Y Y (Kk Y (Ka Y (Ka Y (kGS Y (fun g2 => Ki Y (Kf Y Y (Ki Y (Ke Y Y Y (Ki Y (kIadR Y Y Y om (Ki Y (Ky Y Y (Ki Y (Kp (ok_impl_within _ _ _) ⟨Y, Y, Y, trivial⟩ Y Y Y Y Y (Kk Y (Ka Y (Ka Y (Kd (hc _ .normA))))))))))))))) (fun g2 => Kg Y (Kg Y (Kg Y (Kg Y (Kg Y (Kl Y (Ka Y (Ka Y (Kd (hc _ .normA)))))))))))))))))))))))) (fun g1 => Kg Y (Kg Y (Kg Y (Kg Y (Kg Y (Kl Y (Ka Y (Ka Y (Kg Y (Kg Y (Kg Y (Kg Y (Kg Y (Kl Y (Ka Y (Ka Y (Kd (hc _ .normA))))))))))))))))))))))))) (fun g0 => Kn (hc _ .normA)))))))
  refine Kb (kCut ⟨tabSl [(1, .c (.ptr (rid 1 0) 1 0)), (3, .b ((if r.ty == 6 then numsOk r.nums else ((r.nums.length : Int) == 0)))), (4, .b ((if r.ty == 1 then isW r.addr else r.addr == 0)))], obTab 1 [(rid 1 0, ⟨1, 0, .box (r.cells.map .d)⟩)], []⟩ ?_ (fun x hc => ?_))
  case refine_2 =>
    refine Kc (Kf Y Y (Ke Y Y Y (Kj Y Y Y (Ka Y (kGP Y (fun g0 => Kg Y (Kg Y (Kg Y (Kg Y (kGU Y (kGU Y (kGU Y (Kg Y (Kk Y (Ka Y (Ka Y (Kd (hc _ .normA))))))))))))) (fun g0 => Ki Y (Kf Y Y (Ki Y (Ke Y Y Y (Ki Y (Kj Y Y Y (Ki Y (Ka Y (kGP Y (fun g1 => Ki Y (Kf Y Y (Ki Y (Ke Y Y Y (Ki Y (Kp (ok_impl_isWord _) ⟨Y, trivial⟩ Y Y Y Y Y (Ki Y (Kk Y (Ka Y (Kl Y (Ka Y (Ka Y (Kd (hc _ .normA)))))))))))))) (fun g1 => Kg Y (Kg Y (Kg Y (Ki Y (Kl Y (Ka Y (Kl Y (Ka Y (Ka Y (Kd (hc _ .normA)))))))))))))))))))))))))
  refine Kb (kCut ⟨tabSl [(1, .c (.ptr (rid 1 0) 1 0)), (3, .b ((if r.ty == 6 then numsOk r.nums else ((r.nums.length : Int) == 0)))), (4, .b ((if r.ty == 1 then isW r.addr else r.addr == 0))), (5, .b ((if hasTo r.ty then nameOk r.to else ((r.to.length : Int) == 0))))], obTab 1 [(rid 1 0, ⟨1, 0, .box (r.cells.map .d)⟩)], []⟩ ?_ (fun x hc => ?_))
  case refine_2 =>
    refine Kc (Kf Y Y (Kf Y Y (Ke Y Y Y (Kq Y Y (Kj Y Y Y (Ka Y (kGP Y (fun g0 => Kg Y (Kg Y (Kg Y (Kg Y (kGU Y (kGU Y (kGU Y (Kg Y (Kk Y (Ka Y (Ka Y (Kd (hc _ .normA))))))))))))) (fun g0 => Ki Y (Kf Y Y (Ki Y (Ke Y Y Y (Ki Y (Kp (ok_impl_hasTo _) ⟨Y, trivial⟩ Y Y Y Y Y (Ki Y (Ka Y (kGS Y (fun g1 => Ki Y (Kf Y Y (Ki Y (Ke Y Y Y (Ki Y (Kp (ok_impl_NameOk _ pr pr) ⟨⟨⟨Y, trivial⟩, leb⟩, trivial⟩ Y Y Y Y Y (Ki Y (Kk Y (Ka Y (Kl Y (Ka Y (Ka Y (Kd (hc _ .normA)))))))))))))) (fun g1 => Kg Y (Kg Y (Kg Y (Ki Y (Kl Y (Ka Y (Kl Y (Ka Y (Ka Y (Kd (hc _ .normA)))))))))))))))))))))))))))
  refine Kb (kCut ⟨tabSl [(1, .c (.ptr (rid 1 0) 1 0)), (3, .b ((if r.ty == 6 then numsOk r.nums else ((r.nums.length : Int) == 0)))), (4, .b ((if r.ty == 1 then isW r.addr else r.addr == 0))), (5, .b ((if hasTo r.ty then nameOk r.to else ((r.to.length : Int) == 0)))), (6, .b ((if hasText r.ty then decide ((r.text.length : Int) ≤ 40) else ((r.text.length : Int) == 0))))], obTab 1 [(rid 1 0, ⟨1, 0, .box (r.cells.map .d)⟩)], []⟩ ?_ (fun x hc => ?_))
  case refine_2 =>
    refine Kc (Kf Y Y (Ke Y Y Y (Kq Y Y (Kj Y Y Y (Ka Y (kGP Y (fun g0 => Kg Y (Kg Y (Kg Y (Kg Y (kGU Y (kGU Y (kGU Y (kGU Y (Kg Y (Kk Y (Ka Y (Ka Y (Kd (hc _ .normA)))))))))))))) (fun g0 => Ki Y (Kf Y Y (Ki Y (Ke Y Y Y (Ki Y (Kp (ok_impl_hasText _) ⟨Y, trivial⟩ Y Y Y Y Y (Ki Y (Ka Y (kGS Y (fun g1 => Ki Y (Kf Y Y (Ki Y (Ke Y Y Y (Ki Y (Kq Y Y (Ki Y (Kj Y Y Y (Ki Y (Kk Y (Ka Y (Kl Y (Ka Y (Ka Y (Kd (hc _ .normA)))))))))))))))) (fun g1 => Kg Y (Kg Y (Kg Y (Kg Y (Ki Y (Kl Y (Ka Y (Kl Y (Ka Y (Ka Y (Kd (hc _ .normA)))))))))))))))))))))))))))
  refine Kbc (Ka Y (Ka Y (kGS Y (fun g0 => Ki Y (Ka Y (Kk Y (Ka Y (Ka Y (kGS Y (fun g1 => Ki Y (Ka Y (Kk Y (Ka Y (Ka Y (kGS Y (fun g2 => Ki Y (Ka Y (Kk Y (Ka Y (Ka Y (Kd (Kr (Er (ra := [.one (.d _)]) rfl ?_)))))))) (fun g2 => Kg Y (Kl Y (Ka Y (Ka Y (Kd (Kr (Er (ra := [.one (.d _)]) rfl ?_))))))))))))) (fun g1 => Kg Y (Kl Y (Ka Y (Ka Y (Kg Y (Kl Y (Ka Y (Ka Y (Kd (Kr (Er (ra := [.one (.d _)]) rfl ?_))))))))))))))))) (fun g0 => Kg Y (Kl Y (Ka Y (Ka Y (Kg Y (Kl Y (Ka Y (Ka Y (Kg Y (Kl Y (Ka Y (Ka Y (Kd (Kr (Er (ra := [.one (.d _)]) rfl ?_))))))))))))))))))
  all_goals simp only [dataOk, *, Bool.true_and, Bool.false_and, Bool.and_true, Bool.and_false]

def c_impl_two : C := (.g (.o 0 2 (.mov (.n 1)) .done) (.g (.o 0 3 (.mov (.t 0)) (.o 1 4 (.bin .shr (.t 3) (.v (.int .u64 8))) (.o 2 5 (.conv .u8 (.t 4)) (.o 3 6 (.mov (.t 0)) (.o 4 7 (.conv .u8 (.t 6)) (.o 5 8 (.lit 8 1 [(.v (.int .u8 0))] 2 [(0, 1, (.t 5)), (1, 1, (.t 7))]) (.o 6 2 (.mov (.t 8)) .done))))))) .ret))
theorem dg_impl_two : Tryz.f212.body.bind (digC Tryz.prog Tryz.f212.ntmps []) = some c_impl_two := by kernel_rfl
theorem rs_impl_two : resSlots Tryz.prog Tryz.f212 = some [.s 2] := by kernel_rfl
theorem ok_impl_two (n : Int) :
    FnOK Tryz.prog 212 [.one (.d (.sc (.int .i64 n)))] (fun ra _ => ra = [.one (.own true (encB (w2 n)))]) := by
  refine FnOK.ofK Tryz.func212 (by kernel_rfl) dg_impl_two rs_impl_two rfl rfl ?_
  delta c_impl_two T.o X.i C.g
  refine Kbc (Ka Y (Kdb (Kc (Ka Y (kShr (m := 8) Y Y Y (kConvU8 Y (Ka Y (kConvU8 Y (kLit Y Y Y Y (Ka Y (Kd (Kr (Er (ra := [.one (.own true _)]) rfl rfl)))))))))))))

def c_impl_four : C := (.g (.o 0 2 (.mov (.n 1)) .done) (.g (.o 0 3 (.mov (.t 0)) (.o 1 4 (.bin .shr (.t 3) (.v (.int .u64 16))) (.o 2 5 (.call 5 212 [(.t 4)]) (.o 3 6 (.mov (.t 0)) (.o 4 7 (.call 7 212 [(.t 6)]) (.o 5 8 (.app 8 1 1 (.t 5) (.t 7)) (.o 6 2 (.mov (.t 8)) .done))))))) .ret))
theorem dg_impl_four : Tryz.f292.body.bind (digC Tryz.prog Tryz.f292.ntmps []) = some c_impl_four := by kernel_rfl
theorem rs_impl_four : resSlots Tryz.prog Tryz.f292 = some [.s 2] := by kernel_rfl
theorem ok_impl_four (n : Int) :
    FnOK Tryz.prog 292 [.one (.d (.sc (.int .i64 n)))] (fun ra _ => ra = [.one (.own true (encB (w4 n)))]) := by
  refine FnOK.ofK Tryz.func292 (by kernel_rfl) dg_impl_four rs_impl_four rfl rfl ?_
  delta c_impl_four T.o X.i C.g
  rw [← w4_two]
  have hl : ∀ m, (w2 m).length = 2 := fun _ => rfl
  have l1 := hl (sr n 16)
  have l2 := hl n
  refine Kbc (Ka Y (Kdb (Kc (Ka Y (kShr (m := 16) Y Y Y (Ku true (ok_impl_two _) ⟨Y, trivial⟩ Y Y Y (fun _ => (Ka Y (Ku true (ok_impl_two _) ⟨Y, trivial⟩ Y Y Y (fun _ => (kAppR Y Y Y Y Y Y Y Y om (Ka Y (Kd (Kr (Er (ra := [.one (.own true _)]) rfl rfl)))))))))))))))

def c_impl_Name_wire : C := (.g (.o 0 1 (.box 1 (.t 0)) (.o 1 2 (.mov (.n 1)) .done)) (.g (.o 0 6 (.lit 6 1 [(.v (.int .u8 0))] 0 []) (.o 1 3 (.mov (.t 6)) .done)) (.seq (.g (.o 0 7 (.fad (.t 1) 0) (.o 1 8 (.load none (.t 7)) (.o 2 9 (.len (.t 8)) (.o 3 10 (.mov (.i 0)) .done)))) (.block 0 (.loop (.g (.o 0 11 (.bin .lss (.t 10) (.t 9)) .done) (.seq (.cond (.t 11) .skip (.exit 0)) (.seq (.block 1 (.g (.o 0 12 (.iad 1 (.t 8) (.t 10)) (.o 1 13 (.load none (.t 12)) (.o 2 5 (.mov (.t 13)) .done))) (.reg false (.o 0 14 (.mov (.t 3)) (.o 1 15 (.mov (.t 5)) (.o 2 16 (.len (.t 15)) (.o 3 17 (.conv .u8 (.t 16)) (.o 4 18 (.lit 18 1 [(.v (.int .u8 0))] 1 [(0, 1, (.t 17))]) (.o 5 19 (.app 19 1 1 (.t 14) (.t 18)) (.o 6 20 (.mov (.t 5)) (.o 7 21 (.app 21 1 1 (.t 19) (.t 20)) (.o 8 3 (.mov (.t 21)) .done)))))))))))) (.reg false (.o 0 22 (.bin .add (.t 10) (.i 1)) (.o 1 10 (.mov (.t 22)) .done))))))))) (.g (.o 0 23 (.mov (.t 3)) (.o 1 24 (.lit 24 1 [(.v (.int .u8 0))] 1 [(0, 1, (.v (.int .u8 0)))]) (.o 2 25 (.app 25 1 1 (.t 23) (.t 24)) (.o 3 2 (.mov (.t 25)) .done)))) .ret))))
theorem dg_impl_Name_wire : Tryz.f214.body.bind (digC Tryz.prog Tryz.f214.ntmps []) = some c_impl_Name_wire := by kernel_rfl
theorem rs_impl_Name_wire : resSlots Tryz.prog Tryz.f214 = some [.s 2] := by kernel_rfl
theorem ok_impl_Name_wire (a : List (List UInt8)) (hs : SmallBB a) :
    FnOK Tryz.prog 214 [.agg [.d (encBB a)]] (fun ra _ => ra = [.one (.own true (encB (wireN a)))]) := by
  refine FnOK.ofK Tryz.func214 (by kernel_rfl) dg_impl_Name_wire rs_impl_Name_wire rfl rfl ?_
  delta c_impl_Name_wire T.o X.i C.g
  have h1 := hs.len
  have h2 := hs.flat
  refine Kbc (kBox Y Y Y Y Y (Ka Y (Kdb (Kc (kLit Y Y Y Y (Ka Y (Kdb (Kbc (Kf Y Y (Ke Y Y Y (Kq Y Y (Ka Y (Kd (Kt ?_))))))))))))))
  refine kLoop (α := { i : Nat // i ≤ a.length }) (fun y => ⟨tabSl [(3, .c (.arr (rid 6 0) 1)), (8, .dv (encBB a)), (9, .i a.length), (10, .i y.1)], obTab 1 [(rid 6 0, ⟨1, 0, .arr true (encB (wireL (a.take y.1)))⟩)], []⟩) (fun y => a.length - y.1) ⟨0, by simp⟩ .normA ?_
  rintro ⟨i, hi⟩
  simp only
  have hl := wireL_le a i
  rcases Nat.lt_or_ge i a.length with hlt | hge
  · have hst := wireL_take a i hlt
    have hm := hs.mem _ (List.getElem_mem hlt)
    have hlen : (wireL (a.take i) ++ [u8 a[i].length]).length = (wireL (a.take i)).length + 1 := by simp
    refine Kbc (Kj Y Y Y (Kdb (Km Y (fun g0 => Kn (Kb (Kt (Kbc (kIadR Y Y Y om (Ky Y Y (Ka Y (Kd (Kc (Ka Y (Ka Y (Kq Y Y (kConvU8 Y (kLit Y Y Y Y (kAppR1 Y Y Y Y Y Y Y Y om (Ka Y (kAppR Y Y Y (src_encB _ _) rfl rfl rfl rfl om (Ka Y (Kd (Kv (Kc (kAdd Y Y om (Ka Y (Kd ?_)))))))))))))))))))))))) (fun g0 => om))))
    refine kInv ⟨⟨i + 1, by omega⟩, by simp only; omega, ?_⟩
    simp only [hst]
    exact .normA
  · have he : wireN a = wireL (a.take i) ++ [0] := by rw [show i = a.length by omega, List.take_length]; rfl
    rw [he]
    refine Kbc (Kj Y Y Y (Kdb (Km Y (fun g0 => om) (fun g0 => kExit (kExC (kExI (kExB (Kbc (Ka Y (kLit Y Y Y Y (kAppR1 (z := (0 : UInt8)) rfl rfl rfl rfl rfl rfl rfl rfl om (Ka Y (Kd (Kr (Er (ra := [.one (.own true _)]) rfl rfl)))))))))))))))

def c_impl_Rr_data : C := (.g (.o 0 1 (.box 1 (.t 0)) (.o 1 2 (.mov (.n 1)) .done)) (.seq (.block 0 (.g (.o 0 7 (.fad (.t 1) 1) (.o 1 8 (.load none (.t 7)) (.o 2 9 (.bin .eql (.t 8) (.i 1)) (.o 3 6 (.mov (.t 9)) .done)))) (.cond (.t 6) (.g (.o 0 10 (.fad (.t 1) 3) (.o 1 11 (.load none (.t 10)) (.o 2 12 (.call 12 292 [(.t 11)]) (.o 3 2 (.mov (.t 12)) .done)))) .ret) (.g (.o 0 14 (.fad (.t 1) 1) (.o 1 15 (.load none (.t 14)) (.o 2 16 (.call 16 239 [(.t 15)]) (.o 3 13 (.mov (.t 16)) .done)))) (.cond (.t 13) (.g (.o 0 17 (.fad (.t 1) 4) (.o 1 18 (.load (some 1) (.t 17)) (.o 2 19 (.call 19 214 [(.t 18)]) (.o 3 3 (.mov (.t 19)) .done)))) (.seq (.g (.o 0 20 (.fad (.t 1) 6) (.o 1 21 (.load none (.t 20)) (.o 2 22 (.len (.t 21)) (.o 3 23 (.mov (.i 0)) .done)))) (.block 1 (.loop (.g (.o 0 24 (.bin .lss (.t 23) (.t 22)) .done) (.seq (.cond (.t 24) .skip (.exit 1)) (.seq (.block 2 (.g (.o 0 25 (.iad 1 (.t 21) (.t 23)) (.o 1 26 (.load none (.t 25)) (.o 2 5 (.mov (.t 26)) .done))) (.reg false (.o 0 27 (.mov (.t 3)) (.o 1 28 (.mov (.t 5)) (.o 2 29 (.call 29 292 [(.t 28)]) (.o 3 30 (.app 30 1 1 (.t 27) (.t 29)) (.o 4 3 (.mov (.t 30)) .done)))))))) (.reg false (.o 0 31 (.bin .add (.t 23) (.i 1)) (.o 1 23 (.mov (.t 31)) .done))))))))) (.g (.o 0 32 (.mov (.t 3)) (.o 1 2 (.mov (.t 32)) .done)) .ret))) .skip))))) (.g (.o 0 33 (.fad (.t 1) 5) (.o 1 34 (.load none (.t 33)) (.o 2 35 (.len (.t 34)) (.o 3 36 (.conv .u8 (.t 35)) (.o 4 37 (.lit 37 1 [(.v (.int .u8 0))] 1 [(0, 1, (.t 36))]) (.o 5 38 (.fad (.t 1) 5) (.o 6 39 (.load none (.t 38)) (.o 7 40 (.app 40 1 1 (.t 37) (.t 39)) (.o 8 2 (.mov (.t 40)) .done))))))))) .ret)))
theorem dg_impl_Rr_data : Tryz.f227.body.bind (digC Tryz.prog Tryz.f227.ntmps []) = some c_impl_Rr_data := by kernel_rfl
theorem rs_impl_Rr_data : resSlots Tryz.prog Tryz.f227 = some [.s 2] := by kernel_rfl
theorem ok_impl_Rr_data (r : Rr) (hs : SmallR r) :
    FnOK Tryz.prog 227 [.agg (r.cells.map .d)] (fun ra _ => ra = [.one (.own true (encB (rdata r)))]) := by
  refine FnOK.ofK Tryz.func227 (by kernel_rfl) dg_impl_Rr_data rs_impl_Rr_data rfl rfl ?_
  delta c_impl_Rr_data T.o X.i C.g
  have ht := hs.t
  have t1 := hs.t.len
  have t2 := hs.t.flat
  have x1 := hs.x
  have m1 := hs.m
  by_cases h1 : r.ty = 1
  · rw [rdata_A h1]
    refine Kbc (kBox Y Y Y Y Y (Ka Y (Kdb (Kt (Kbc (Kf Y Y (Ke Y Y Y (Kj Y Y Y (Ka Y (Kd (Km Y (fun g0 => Kbc (Kf Y Y (Ke Y Y Y (Ku true (ok_impl_four _) ⟨Y, trivial⟩ Y Y Y (fun _ => (Ka Y (Kd (Kr (Er (ra := [.one (.own true _)]) rfl rfl))))))))) (fun g0 => om))))))))))))
  cases h2 : hasTo r.ty
  · rw [rdata_text h1 h2]
    refine Kbc (kBox Y Y Y Y Y (Ka Y (Kdb (Kt (Kbc (Kf Y Y (Ke Y Y Y (Kj Y Y Y (Ka Y (Kd (Km Y (fun g0 => om) (fun g0 => Kbc (Kf Y Y (Ke Y Y Y (Kp (ok_impl_hasTo _) ⟨Y, trivial⟩ Y Y Y Y Y (Ka Y (Kd (kCond Y (fun g1 => (by (simp [*] at g1))) (fun g1 => Kn (Kv (Kbc (Kf Y Y (Ke Y Y Y (Kq Y Y (kConvU8 Y (kLit Y Y Y Y (Kf Y Y (Ke Y Y Y (kApp1R Y Y (src_encB _ _) rfl rfl rfl rfl rfl om (Ka Y (Kd (Kr (Er (ra := [.one (.own true _)]) rfl rfl)))))))))))))))))))))))))))))))))
  · rw [rdata_to h1 h2]
    refine Kbc (kBox Y Y Y Y Y (Ka Y (Kdb (Kt (Kbc (Kf Y Y (Ke Y Y Y (Kj Y Y Y (Ka Y (Kd (Km Y (fun g0 => om) (fun g0 => Kbc (Kf Y Y (Ke Y Y Y (Kp (ok_impl_hasTo _) ⟨Y, trivial⟩ Y Y Y Y Y (Ka Y (Kd (kCond Y (fun g1 => Kbc (Kf Y Y (Ke Y Y Y (Ku true (ok_impl_Name_wire _ pr) ⟨⟨⟨Y, trivial⟩, leb⟩, trivial⟩ Y Y Y (fun _ => (Ka Y (Kdb (Kbc (Kf Y Y (Ke Y Y Y (Kq Y Y (Ka Y (Kd (Kt ?_)))))))))))))) (fun g1 => (by (simp [*] at g1)))))))))))))))))))))
    refine kLoop (α := { i : Nat // i ≤ r.nums.length }) (fun y => ⟨tabSl [(3, .c (.arr (rid 19 0) 1)), (21, .dv (encI r.nums)), (22, .i r.nums.length), (23, .i y.1)], obTab 1 [(rid 19 0, ⟨1, 0, .arr true (encB (wireN r.to ++ (r.nums.take y.1).flatMap w4))⟩)], []⟩) (fun y => r.nums.length - y.1) ⟨0, by simp⟩ (by simp only [List.take_zero, List.flatMap_nil, List.append_nil]; exact .normA) ?_
    rintro ⟨i, hi⟩
    simp only
    have hl : (wireN r.to ++ (r.nums.take i).flatMap w4).length ≤ 33554432 := by
      rw [List.length_append, wireN_len, w4s_len, List.length_take]; omega
    have hl4 : ∀ n, (w4 n).length = 4 := w4_len
    rcases Nat.lt_or_ge i r.nums.length with hlt | hge
    · have hst : wireN r.to ++ (r.nums.take (i + 1)).flatMap w4 = wireN r.to ++ (r.nums.take i).flatMap w4 ++ w4 r.nums[i] := by rw [flatMap_take _ _ _ hlt, List.append_assoc]
      have h4 := hl4 r.nums[i]
      refine Kbc (Kj Y Y Y (Kdb (Km Y (fun g0 => Kn (Kb (Kt (Kbc (kIadR Y Y Y om (Ky Y Y (Ka Y (Kd (Kc (Ka Y (Ka Y (Ku true (ok_impl_four _) ⟨Y, trivial⟩ Y Y Y (fun _ => (kAppR Y Y Y Y Y Y Y Y om (Ka Y (Kd (Kv (Kc (kAdd Y Y om (Ka Y (Kd ?_))))))))))))))))))))) (fun g0 => om))))
      refine kInv ⟨⟨i + 1, by omega⟩, by simp only; omega, ?_⟩
      simp only [hst]
      exact .normA
    · rw [show i = r.nums.length by omega, List.take_length]
      refine Kbc (Kj Y Y Y (Kdb (Km Y (fun g0 => om) (fun g0 => kExit (kExC (kExI (kExB (Kbc (Ka Y (Ka Y (Kd (Kr (Er (ra := [.one (.own true _)]) rfl rfl)))))))))))))

def c_cmp_Or_int : C := (.g (.o 0 2 (.mov (.i 0)) .done) (.g (.o 0 3 (.mov (.i 0)) .done) (.seq (.g (.o 0 6 (.mov (.t 0)) (.o 1 7 (.len (.t 6)) (.o 2 8 (.mov (.i 0)) .done))) (.block 0 (.loop (.g (.o 0 9 (.bin .lss (.t 8) (.t 7)) .done) (.seq (.cond (.t 9) .skip (.exit 0)) (.seq (.block 1 (.g (.o 0 10 (.iad 1 (.t 6) (.t 8)) (.o 1 11 (.load none (.t 10)) (.o 2 5 (.mov (.t 11)) .done))) (.g (.o 0 12 (.mov (.t 5)) (.o 1 13 (.mov (.t 3)) (.o 2 14 (.bin .neq (.t 12) (.t 13)) .done))) (.cond (.t 14) (.g (.o 0 15 (.mov (.t 5)) (.o 1 2 (.mov (.t 15)) .done)) .ret) .skip)))) (.reg false (.o 0 16 (.bin .add (.t 8) (.i 1)) (.o 1 8 (.mov (.t 16)) .done))))))))) (.g (.o 0 17 (.mov (.t 3)) (.o 1 2 (.mov (.t 17)) .done)) .ret))))
theorem dg_cmp_Or_int : Tryz.f224.body.bind (digC Tryz.prog Tryz.f224.ntmps []) = some c_cmp_Or_int := by kernel_rfl
theorem rs_cmp_Or_int : resSlots Tryz.prog Tryz.f224 = some [.s 2] := by kernel_rfl
theorem ok_cmp_Or_int (l : List Int) (h : l.length ≤ 4194304) :
    FnOK Tryz.prog 224 [.one (.d (encI l))] (fun ra _ => ra = [.one (.d (.sc (.int .i64 (orL l))))]) := by
  refine FnOK.ofK Tryz.func224 (by kernel_rfl) dg_cmp_Or_int rs_cmp_Or_int rfl rfl ?_
  delta c_cmp_Or_int T.o X.i C.g
  refine Kbc (Ka Y (Kdb (Kc (Ka Y (Kdb (Kbc (Ka Y (Kq Y Y (Ka Y (Kd (Kt ?_)))))))))))
  refine kLoop (α := { i : Nat // i ≤ l.length ∧ orL l = orL (l.drop i) }) (fun y => ⟨tabSl [(3, .i 0), (6, .dv (encI l)), (7, .i l.length), (8, .i y.1)], obTab 1 [], []⟩) (fun y => l.length - y.1) ⟨0, by simp⟩ .normA ?_
  rintro ⟨i, hi, hr⟩
  simp only
  rcases Nat.lt_or_ge i l.length with hlt | hge
  · have hst := orL_drop l i hlt
    refine Kbc (Kj Y Y Y (Kdb (Km Y (fun g0 => Kn (Kb (Kt (Kbc (kIadR Y Y Y om (Ky Y Y (Ka Y (Kdb (Kc (Ka Y (Ka Y (Kj Y Y Y (Kd (kCondIN Y (fun g1 => Kbc (Ka Y (Ka Y (Kd (Kr (Er (ra := [.one (.d _)]) rfl ?_)))))) (fun g1 => Kn (Kv (Kc (kAdd Y Y om (Ka Y (Kd ?_)))))))))))))))))))) (fun g0 => om))))
    · rw [hr, hst, if_neg (by assumption)]
    · exact kInv ⟨⟨i + 1, by omega, by rw [hr, hst, if_pos (by assumption)]⟩, by simp only; omega, .normA⟩
  · have hst : orL l = 0 := by rw [hr, List.drop_eq_nil_of_le hge]; rfl
    rw [hst]
    refine Kbc (Kj Y Y Y (Kdb (Km Y (fun g0 => om) (fun g0 => kExit (kExC (kExI (kExB (Kbc (Ka Y (Ka Y (Kd (Kr (Er (ra := [.one (.d _)]) rfl rfl)))))))))))))
theorem ok_cmp_Or_int3 (a b c : Int) :
    FnOK Tryz.prog 224 [.one (.d (.sl 1 [[.sc (.int .i64 a)], [.sc (.int .i64 b)], [.sc (.int .i64 c)]]))] (fun ra _ => ra = [.one (.d (.sc (.int .i64 (orL [a, b, c]))))]) := ok_cmp_Or_int [a, b, c] (by simp)
def c_impl_Rr_compare : C := (.g (.o 0 2 (.box 2 (.t 0)) (.o 1 3 (.box 3 (.t 1)) (.o 2 4 (.mov (.i 0)) .done))) (.seq (.reg true (.op 0 [] (some 5) none true (.fad (.t 2) 0) (.op 1 [] (some 6) none true (.load (some 1) (.t 5)) (.op 2 [] (some 7) none true (.fad (.t 3) 0) (.op 3 [] (some 8) none true (.load (some 1) (.t 7)) (.op 5 [] (some 10) none true (.fad (.t 2) 1) (.op 6 [] (some 11) none true (.load none (.t 10)) (.op 7 [] (some 12) none true (.fad (.t 3) 1) (.op 8 [] (some 13) none true (.load none (.t 12)) (.op 10 [] (some 15) none true (.load (some 7) (.t 2)) (.op 12 [] (some 17) none true (.load (some 7) (.t 3)) (.op 4 [1, 3] (some 9) none false (.call 9 221 [(.t 6), (.t 8)]) (.op 9 [6, 8, 1, 3] (some 14) none false (.call 14 225 [(.t 11), (.t 13)]) (.op 11 [10, 6, 8, 1, 3] (some 16) none false (.call 16 227 [(.t 15)]) (.op 13 [12, 10, 6, 8, 1, 3] (some 18) none false (.call 18 227 [(.t 17)]) (.op 14 [10, 6, 8, 1, 3, 12] (some 19) none false (.call 19 226 [(.t 16), (.t 18)]) (.op 15 [1, 3, 6, 8, 10, 12] (some 20) none false (.lit 20 1 [(.i 0)] 3 [(0, 1, (.t 9)), (1, 1, (.t 14)), (2, 1, (.t 19))]) (.op 16 [1, 3, 6, 8, 10, 12] (some 21) none false (.call 21 224 [(.t 20)]) (.op 17 [] (some 4) none true (.mov (.t 21)) .done))))))))))))))))))) .ret))
theorem dg_impl_Rr_compare : Tryz.f133.body.bind (digC Tryz.prog Tryz.f133.ntmps []) = some c_impl_Rr_compare := by kernel_rfl
theorem rs_impl_Rr_compare : resSlots Tryz.prog Tryz.f133 = some [.s 4] := by kernel_rfl
theorem ok_impl_Rr_compare (a b : Rr) (ha : SmallR a) (hb : SmallR b) :
    FnOK Tryz.prog 133 [.agg (a.cells.map .d), .agg (b.cells.map .d)] (fun ra _ => ra = [.one (.d (.sc (.int .i64 (cmpR a b))))]) := by
  refine FnOK.ofK Tryz.func133 (by kernel_rfl) dg_impl_Rr_compare rs_impl_Rr_compare rfl rfl ?_
  delta c_impl_Rr_compare T.o X.i C.g
  have n1 := ha.n.len
  have n2 := hb.n.len
  have r1 := rdata_le ha
  have r2 := rdata_le hb
  rw [cmpR_or]
  refine Kbc (kBox Y Y Y Y Y (kBox Y Y Y Y Y (Ka Y (Kdb (kRegD (Kf Y Y (Ke Y Y Y (Kf Y Y (Ke Y Y Y (Kf Y Y (Ke Y Y Y (Kf Y Y (Ke Y Y Y (Ke Y Y Y (Ke Y Y Y (Kx Y Y (Kp (ok_impl_Name_compare _ _ pr pr) ⟨⟨⟨Y, trivial⟩, leb⟩, ⟨⟨Y, trivial⟩, leb⟩, trivial⟩ Y Y Y Y Y (Kx Y Y (Kp (ok_cmp_Compare_int _ _) ⟨Y, Y, trivial⟩ Y Y Y Y Y (Kx Y Y (Ku true (ok_impl_Rr_data _ pr) ⟨⟨⟨Y, Y, Y, Y, Y, Y, Y, trivial⟩, leb⟩, trivial⟩ Y Y Y (fun _ => (Ks Y Y (Ku true (ok_impl_Rr_data _ pr) ⟨⟨⟨Y, Y, Y, Y, Y, Y, Y, trivial⟩, leb⟩, trivial⟩ Y Y Y (fun _ => (Ks Y Y (Kp (ok_bytes_Compare _ _) ⟨Y, Y, trivial⟩ Y Y Y Y Y (Ks Y Y (kLit Y Y Y Y (Ks Y Y (Kp (ok_cmp_Or_int3 _ _ _) ⟨Y, trivial⟩ Y Y Y Y Y (Ka Y (Kd (kH (Kr (Er (ra := [.one (.d _)]) rfl rfl))))))))))))))))))))))))))))))))))))

def c_slices_EqualFunc_LLbyte_LLbyte_Lbyte_Lbyte : C := (.g (.o 0 6 (.mov (.v (.bool false))) .done) (.seq (.g (.o 0 10 (.mov (.t 0)) (.o 1 11 (.len (.t 10)) (.o 2 12 (.mov (.t 1)) (.o 3 13 (.len (.t 12)) (.o 4 14 (.bin .neq (.t 11) (.t 13)) .done))))) (.cond (.t 14) (.g (.o 0 6 (.mov (.v (.bool false))) .done) .ret) .skip)) (.seq (.g (.o 0 15 (.mov (.t 0)) (.o 1 16 (.len (.t 15)) (.o 2 17 (.mov (.i 0)) .done))) (.block 0 (.loop (.g (.o 0 18 (.bin .lss (.t 17) (.t 16)) .done) (.seq (.cond (.t 18) .skip (.exit 0)) (.seq (.block 1 (.g (.o 0 19 (.mov (.t 17)) (.o 1 20 (.iad 1 (.t 15) (.t 17)) (.o 2 21 (.load none (.t 20)) (.o 3 7 (.mov (.t 19)) (.o 4 8 (.mov (.t 21)) .done))))) (.g (.o 0 22 (.mov (.t 1)) (.o 1 23 (.mov (.t 7)) (.o 2 24 (.iad 1 (.t 22) (.t 23)) (.o 3 25 (.load none (.t 24)) (.o 4 9 (.mov (.t 25)) .done))))) (.g (.o 0 26 (.mov (.t 2)) (.o 1 27 (.mov (.t 8)) (.o 2 28 (.mov (.t 9)) (.o 3 29 (.callv 29 (.t 26) [(.t 27), (.t 28)]) (.o 4 30 (.un .not (.t 29)) .done))))) (.cond (.t 30) (.g (.o 0 6 (.mov (.v (.bool false))) .done) .ret) .skip))))) (.reg false (.o 0 31 (.bin .add (.t 17) (.i 1)) (.o 1 17 (.mov (.t 31)) .done))))))))) (.g (.o 0 6 (.mov (.v (.bool true))) .done) .ret))))
theorem dg_slices_EqualFunc_LLbyte_LLbyte_Lbyte_Lbyte : Tryz.f210.body.bind (digC Tryz.prog Tryz.f210.ntmps []) = some c_slices_EqualFunc_LLbyte_LLbyte_Lbyte_Lbyte := by kernel_rfl
theorem rs_slices_EqualFunc_LLbyte_LLbyte_Lbyte_Lbyte : resSlots Tryz.prog Tryz.f210 = some [.s 6] := by kernel_rfl
def fcEq : FC := fun l R => ∃ x y : List UInt8, l = [DA.one (encB x), DA.one (encB y)] ∧ R = fun ra => ra = [.one (.d (.sc (.bool (x == y))))]
theorem ok_slices_EqualFunc_LLbyte_LLbyte_Lbyte_Lbyte (a b : List (List UInt8)) (ha : a.length ≤ 4194304) (hb : b.length ≤ 4194304) :
    FnOK Tryz.prog 210 [.one (.d (encBB a)), .one (.d (encBB b)), .one (.fv false fcEq)] (fun ra _ => ra = [.one (.d (.sc (.bool (decide (a = b)))))]) := by
  refine FnOK.ofK Tryz.func210 (by kernel_rfl) dg_slices_EqualFunc_LLbyte_LLbyte_Lbyte_Lbyte rs_slices_EqualFunc_LLbyte_LLbyte_Lbyte_Lbyte rfl rfl ?_
  delta c_slices_EqualFunc_LLbyte_LLbyte_Lbyte_Lbyte T.o X.i C.g
  refine Kbc (Ka Y (Kdb (Kbc (Ka Y (Kq Y Y (Ka Y (Kq Y Y (Kj Y Y Y (Kd (kCondIN Y (fun g0 => Kbc (Ka Y (Kd (Kr (Er (ra := [.one (.d _)]) rfl ?_))))) (fun g0 => Kn (Kb (Kbc (Ka Y (Kq Y Y (Ka Y (Kd (Kt ?_))))))))))))))))))
  · rw [decide_eq_false (by rintro rfl; simp_all)]
  have hab : a.length = b.length := by omega
  refine kLoop (α := { i : Nat // i ≤ a.length ∧ a.take i = b.take i })
    (fun y => ⟨tabSl [(1, .dv (encBB b)), (2, .c (.fv false fcEq)), (15, .dv (encBB a)), (16, .i a.length), (17, .i y.1)], obTab 1 [], []⟩) (fun y => a.length - y.1) ⟨0, by simp⟩
    .normA ?_
  rintro ⟨i, hi, he⟩
  simp only
  rcases Nat.lt_or_ge i a.length with hlt | hge
  · refine Kbc (Kj Y Y Y (Kdb (Km Y (fun g0 => Kn (Kb (Kt (Kbc (Ka Y (kIadR Y Y Y om (Ky Y Y (Ka Y (Ka Y (Kdb (Kc (Ka Y (Ka Y (kIadR Y Y Y om (Ky Y Y (Ka Y (Kdb (Kc (Ka Y (Ka Y (Ka Y ?_))))))))))))))))))))) (fun g0 => om))))
    refine kCallv Y ⟨a[i], b[i], rfl, rfl⟩ ⟨Y, Y, trivial⟩ (.inr ?_) rfl ?_ rfl ?_
    · rintro _ rfl; rfl
    · rintro _ rfl; exact leb
    rintro _ rfl
    refine Kw Y Y (Kd (kCondN Y (fun g0 => Kbc (Ka Y (Kd (Kr (Er (ra := [.one (.d _)]) rfl ?_))))) (fun g0 => Kn (Kv (Kc (kAdd Y Y om (Ka Y (Kd ?_))))))))
    · rw [decide_eq_false]
      rintro rfl
      simp_all
    · refine kInv ⟨⟨i + 1, by omega, ?_⟩, by simp only; omega, .normA⟩
      rw [← List.take_append_getElem (by omega), ← List.take_append_getElem (by omega), he]
      simp_all
  · refine Kbc (Kj Y Y Y (Kdb (Km Y (fun g0 => om) (fun g0 => kExit (kExC (kExI (kExB (Kbc (Ka Y (Kd (Kr (Er (ra := [.one (.d _)]) rfl ?_))))))))))))
    rw [show i = a.length by omega, List.take_length, hab, List.take_length] at he
    rw [he, decide_eq_true rfl]

def c_impl_Name_under : C := (.g (.o 0 2 (.box 2 (.t 0)) (.o 1 3 (.box 3 (.t 1)) (.o 2 4 (.mov (.v (.bool false))) .done))) (.g (.o 0 6 (.fad (.t 2) 0) (.o 1 7 (.load none (.t 6)) (.o 2 8 (.len (.t 7)) (.o 3 9 (.fad (.t 3) 0) (.o 4 10 (.load none (.t 9)) (.o 5 11 (.len (.t 10)) (.o 6 12 (.bin .sub (.t 8) (.t 11)) (.o 7 5 (.mov (.t 12)) .done)))))))) (.seq (.reg true (.op 0 [] (some 13) none true (.mov (.t 5)) (.op 1 [] (some 14) none true (.bin .geq (.t 13) (.i 0)) (.op 2 [] (some 15) none true (.mov (.t 14)) (.op 3 [] (some 16) (some (15, true)) true (.fad (.t 2) 0) (.op 4 [] (some 17) (some (15, true)) true (.load none (.t 16)) (.op 5 [] (some 18) (some (15, true)) true (.mov (.t 5)) (.op 6 [] (some 19) (some (15, true)) true (.mm true (.t 18) (.i 0)) (.op 7 [] (some 20) (some (15, true)) true (.cut 1 (.t 17) (some (.t 19)) none) (.op 8 [] (some 21) (some (15, true)) true (.fad (.t 3) 0) (.op 9 [] (some 22) (some (15, true)) true (.load none (.t 21)) (.op 10 [4, 9] (some 23) (some (15, true)) false (.call 23 210 [(.t 20), (.t 22), (.fn 163)]) (.op 11 [] (some 24) none true (.pick (.t 15) (.t 23) (.v (.bool false))) (.op 12 [] (some 4) none true (.mov (.t 24)) .done)))))))))))))) .ret)))
theorem dg_impl_Name_under : Tryz.f123.body.bind (digC Tryz.prog Tryz.f123.ntmps []) = some c_impl_Name_under := by kernel_rfl
theorem rs_impl_Name_under : resSlots Tryz.prog Tryz.f123 = some [.s 4] := by kernel_rfl
theorem ok_impl_Name_under (n z : List (List UInt8)) (hn : n.length ≤ 4194304) (hz : z.length ≤ 4194304) :
    FnOK Tryz.prog 123 [.agg [.d (encBB n)], .agg [.d (encBB z)]] (fun ra _ => ra = [.one (.d (.sc (.bool (underN n z))))]) := by
  refine FnOK.ofK Tryz.func123 (by kernel_rfl) dg_impl_Name_under rs_impl_Name_under rfl rfl ?_
  delta c_impl_Name_under T.o X.i C.g
  have hd : ∀ m, (n.drop m).length ≤ 4194304 := fun m => by simp; omega
  refine Kbc (kBox Y Y Y Y Y (kBox Y Y Y Y Y (Ka Y (Kdb (Kc (Kf Y Y (Ke Y Y Y (Kq Y Y (Kf Y Y (Ke Y Y Y (Kq Y Y (kDif Y Y om (Ka Y (Kdb (kRegD (Ka Y (Kj Y Y Y (Ka Y (kGP Y (fun g0 => Ki Y (Kf Y Y (Ki Y (Ke Y Y Y (Ki Y (Ka Y (Ki Y (kMm Y Y (Ki Y (kCutLT Y Y om (Ki Y (Kf Y Y (Ki Y (Ke Y Y Y (Ks Y Y (Ki Y ?_)))))))))))))))) (fun g0 => Kg Y (Kg Y (Kg Y (Kg Y (Kg Y (Kg Y (Kg Y (Ks Y Y (Kg Y (Kl Y (Ka Y (Ka Y (Kd (kH (Kr (Er (ra := [.one (.d _)]) rfl ?_)))))))))))))))))))))))))))))))))))
  · refine Kp (ok_slices_EqualFunc_LLbyte_LLbyte_Lbyte_Lbyte _ z (hd _) hz) ⟨rfl, rfl, ⟨rfl, rfl, ⟨_, Tryz.func163, rfl, by kernel_rfl⟩, ?_⟩, trivial⟩ Y Y Y Y Y ?_
    · rintro _ R ⟨x, y, rfl, rfl⟩
      exact ok_bytes_Equal x y
    refine Kk Y (Ka Y (Ka Y (Kd (kH (Kr (Er (ra := [.one (.d _)]) rfl ?_))))))
    simp only [if_true, underN]
    rw [if_neg (by omega), show (n.length - z.length : Int).toNat = n.length - z.length by omega, decide_eq_true (show z.length ≤ n.length by omega), Bool.true_and]
  · rw [show underN n z = false by simp only [underN]; rw [decide_eq_false (by omega)]; rfl]

def c_impl_ZoneOk : C := (.g (.o 0 1 (.box 1 (.t 0)) (.o 1 2 (.mov (.v (.bool false))) .done)) (.seq (.g (.o 0 6 (.fad (.t 1) 0) (.o 1 7 (.load (some 1) (.t 6)) (.o 2 8 (.call 8 71 [(.t 7)]) (.o 3 9 (.un .not (.t 8)) (.o 4 10 (.mov (.t 9)) (.op 5 [] (some 11) (some (10, false)) false (.fad (.t 1) 1) (.op 6 [] (some 12) (some (10, false)) false (.load none (.t 11)) (.op 7 [] (some 13) (some (10, false)) false (.len (.t 12)) (.op 8 [] (some 14) (some (10, false)) false (.bin .gtr (.t 13) (.i 60)) (.o 9 15 (.pick (.t 10) (.v (.bool true)) (.t 14)) (.o 10 16 (.mov (.t 15)) (.op 11 [] (some 17) (some (16, false)) false (.fad (.t 1) 1) (.op 12 [] (some 18) (some (16, false)) false (.load none (.t 17)) (.op 13 [] (some 19) (some (16, false)) false (.call 19 158 [(.t 18), (.fn 159)]) (.op 14 [] (some 20) (some (16, false)) false (.un .not (.t 19)) (.o 15 21 (.pick (.t 16) (.v (.bool true)) (.t 20)) .done)))))))))))))))) (.cond (.t 21) (.g (.o 0 2 (.mov (.v (.bool false))) .done) .ret) .skip)) (.g (.o 0 3 (.mov (.i 0)) .done) (.seq (.g (.o 0 22 (.fad (.t 1) 1) (.o 1 23 (.load none (.t 22)) (.o 2 24 (.len (.t 23)) (.o 3 25 (.mov (.i 0)) .done)))) (.block 0 (.loop (.g (.o 0 26 (.bin .lss (.t 25) (.t 24)) .done) (.seq (.cond (.t 26) .skip (.exit 0)) (.seq (.block 1 (.g (.o 0 27 (.mov (.t 25)) (.o 1 28 (.iad 7 (.t 23) (.t 25)) (.o 2 29 (.load (some 7) (.t 28)) (.o 3 5 (.alloc 5 [(.n 1), (.i 0), (.i 0), (.i 0), (.n 1), (.n 1), (.n 1)]) (.o 4 4 (.mov (.t 27)) (.op 5 [] none none false (.store (some 7) (.t 5) (.t 29)) .done)))))) (.seq (.seq (.reg true (.op 0 [] (some 30) none true (.mov (.t 4)) (.op 1 [] (some 31) none true (.bin .gtr (.t 30) (.i 0)) (.op 2 [] (some 32) none true (.mov (.t 31)) (.op 3 [] (some 33) (some (32, true)) true (.fad (.t 1) 1) (.op 4 [] (some 34) (some (32, true)) true (.load none (.t 33)) (.op 5 [] (some 35) (some (32, true)) true (.mov (.t 4)) (.op 6 [] (some 36) (some (32, true)) true (.bin .sub (.t 35) (.i 1)) (.op 7 [] (some 37) (some (32, true)) true (.iad 7 (.t 34) (.t 36)) (.op 8 [] (some 38) (some (32, true)) true (.load (some 7) (.t 37)) (.op 9 [] (some 39) (some (32, true)) true (.load (some 7) (.t 5)) (.op 10 [8, 4, 9] (some 40) (some (32, true)) false (.call 40 133 [(.t 38), (.t 39)]) (.op 11 [] (some 41) (some (32, true)) true (.bin .geq (.t 40) (.i 0)) (.op 12 [] (some 42) none true (.pick (.t 32) (.t 41) (.v (.bool false))) (.op 13 [] (some 43) none true (.mov (.t 42)) (.op 14 [] (some 44) (some (43, false)) true (.fad (.t 5) 0) (.op 15 [] (some 45) (some (43, false)) true (.load (some 1) (.t 44)) (.op 16 [] (some 46) (some (43, false)) true (.fad (.t 1) 0) (.op 17 [] (some 47) (some (43, false)) true (.load (some 1) (.t 46)) (.op 18 [15, 8, 9, 4, 17] (some 48) (some (43, false)) false (.call 48 123 [(.t 45), (.t 47)]) (.op 19 [] (some 49) (some (43, false)) true (.un .not (.t 48)) (.op 20 [] (some 50) none true (.pick (.t 43) (.v (.bool true)) (.t 49)) .done)))))))))))))))))))))) (.cond (.t 50) (.g (.o 0 2 (.mov (.v (.bool false))) .done) .ret) .skip)) (.seq (.g (.o 0 51 (.fad (.t 5) 1) (.o 1 52 (.load none (.t 51)) (.o 2 53 (.bin .eql (.t 52) (.i 6)) .done))) (.cond (.t 53) (.g (.o 0 54 (.mov (.t 3)) (.o 1 55 (.bin .add (.t 54) (.i 1)) (.o 2 3 (.mov (.t 55)) .done))) (.g (.o 0 56 (.fad (.t 5) 0) (.o 1 57 (.load (some 1) (.t 56)) (.o 2 58 (.fad (.t 1) 0) (.o 3 59 (.load (some 1) (.t 58)) (.o 4 60 (.call 60 131 [(.t 57), (.t 59)]) (.o 5 61 (.un .not (.t 60)) .done)))))) (.cond (.t 61) (.g (.o 0 2 (.mov (.v (.bool false))) .done) .ret) .skip))) .skip)) (.g (.o 0 62 (.fad (.t 5) 1) (.o 1 63 (.load none (.t 62)) (.o 2 64 (.bin .eql (.t 63) (.i 5)) (.o 3 65 (.mov (.t 64)) (.op 4 [] (some 66) (some (65, true)) false (.load (some 2) (.t 1)) (.op 5 [] (some 67) (some (65, true)) false (.fad (.t 5) 0) (.op 6 [] (some 68) (some (65, true)) false (.load (some 1) (.t 67)) (.op 7 [] (some 69) (some (65, true)) false (.call 69 82 [(.t 66), (.t 68), (.i 255)]) (.op 8 [] (some 70) (some (65, true)) false (.len (.t 69)) (.op 9 [] (some 71) (some (65, true)) false (.bin .gtr (.t 70) (.i 1)) (.o 10 72 (.pick (.t 65) (.t 71) (.v (.bool false))) .done))))))))))) (.cond (.t 72) (.g (.o 0 2 (.mov (.v (.bool false))) .done) .ret) .skip)))))) (.reg false (.o 0 73 (.bin .add (.t 25) (.i 1)) (.o 1 25 (.mov (.t 73)) .done))))))))) (.g (.o 0 74 (.mov (.t 3)) (.o 1 75 (.bin .eql (.t 74) (.i 1)) (.o 2 2 (.mov (.t 75)) .done))) .ret)))))
theorem dg_impl_ZoneOk : Tryz.f70.body.bind (digC Tryz.prog Tryz.f70.ntmps []) = some c_impl_ZoneOk := by kernel_rfl
theorem rs_impl_ZoneOk : resSlots Tryz.prog Tryz.f70 = some [.s 2] := by kernel_rfl
theorem ok_impl_ZoneOk (z : Zone) (hs : SmallZ z) :
    FnOK Tryz.prog 70 [.agg (z.cells.map .d)] (fun ra _ => ra = [.one (.d (.sc (.bool (zoneOk z))))]) := by
  refine FnOK.ofK Tryz.func70 (by kernel_rfl) dg_impl_ZoneOk rs_impl_ZoneOk rfl rfl ?_
  delta c_impl_ZoneOk T.o X.i C.g
  have o1 := hs.o.len
  have o2 := hs.o.mem
  have h1 := hs.r.len
  have hm := hs.r.mem
  have hr := hs.r
  cases a1 : nameOk z.origin
  · rw [show zoneOk z = false by unfold zoneOk; rw [a1]; rfl]
    refine Kbc (kBox Y Y Y Y Y (Ka Y (Kdb (Kbc (Kf Y Y (Ke Y Y Y (Kp (ok_impl_NameOk _ pr pr) ⟨⟨⟨Y, trivial⟩, leb⟩, trivial⟩ Y Y Y Y Y (Kw Y Y (Ka Y (kGN Y (fun g0 => Kg Y (Kg Y (Kg Y (Kg Y (Kk Y (Ka Y (Ka Y (Kg Y (Kg Y (Kg Y (Kg Y (Kk Y (Ka Y (Kd (kCondT Y (Kbc (Ka Y (Kd (Kr (Er (ra := [.one (.d _)]) rfl rfl)))))))))))))))))))) (fun g0 => (by (simp [*] at g0)))))))))))))
  by_cases a2 : z.rrs.length ≤ 60
  case neg =>
    rw [show zoneOk z = false by unfold zoneOk; rw [decide_eq_false a2]; simp]
    refine Kbc (kBox Y Y Y Y Y (Ka Y (Kdb (Kbc (Kf Y Y (Ke Y Y Y (Kp (ok_impl_NameOk _ pr pr) ⟨⟨⟨Y, trivial⟩, leb⟩, trivial⟩ Y Y Y Y Y (Kw Y Y (Ka Y (kGN Y (fun g0 => (by (simp [*] at g0))) (fun g0 => Ki Y (Kf Y Y (Ki Y (Ke Y Y Y (Ki Y (Kq Y Y (Ki Y (Kj Y Y Y (Kl Y (Ka Y (Ka Y (kGP Y (fun g1 => Kg Y (Kg Y (Kg Y (Kg Y (Kk Y (Ka Y (Kd (kCondT Y (Kbc (Ka Y (Kd (Kr (Er (ra := [.one (.d _)]) rfl rfl))))))))))))) (fun g1 => om)))))))))))))))))))))))
  refine Kbc (kBox Y Y Y Y Y (Ka Y (Kdb (Kbc (Kf Y Y (Ke Y Y Y (Kp (ok_impl_NameOk _ pr pr) ⟨⟨⟨Y, trivial⟩, leb⟩, trivial⟩ Y Y Y Y Y (Kw Y Y (Ka Y (kGN Y (fun g0 => (by (simp [*] at g0))) (fun g0 => Ki Y (Kf Y Y (Ki Y (Ke Y Y Y (Ki Y (Kq Y Y (Ki Y (Kj Y Y Y (Kl Y (Ka Y (Ka Y (kGP Y (fun g1 => om) (fun g1 => Ki Y (Kf Y Y (Ki Y (Ke Y Y Y (Ki Y ?_)))))))))))))))))))))))))))
  refine Kp (ok_impl_all_impl_Rr z.rrs SmallR rrOk h1 hm) ⟨rfl, ⟨rfl, rfl, ⟨_, Tryz.func159, rfl, by kernel_rfl⟩, ?_⟩, trivial⟩ Y Y Y Y Y ?_
  · rintro _ R ⟨x, h, rfl, rfl⟩
    exact ok_impl_RrOk x h
  cases a3 : z.rrs.all rrOk
  · rw [show zoneOk z = false by unfold zoneOk; rw [a3]; simp]
    refine Ki Y (Kw Y Y (Kl Y (Ka Y (Kd (kCondT Y (Kbc (Ka Y (Kd (Kr (Er (ra := [.one (.d _)]) rfl rfl))))))))))
  refine Ki Y (Kw Y Y (Kl Y (Ka Y (Kd (kCondF Y (Kn (Kbc (Ka Y (Kdb (Kbc (Kf Y Y (Ke Y Y Y (Kq Y Y (Ka Y (Kd (Kt ?_))))))))))))))))
  refine kLoop (α := { i : Nat // i ≤ z.rrs.length ∧ (List.range i).all (zAt z) = true }) (fun y => ⟨tabSl [(1, .c (.ptr (rid 1 0) 1 0)), (3, .i (zTops (z.rrs.take y.1))), (23, .dv (encR z.rrs)), (24, .i z.rrs.length), (25, .i y.1)], obTab 1 [(rid 1 0, ⟨1, 0, .box (z.cells.map .d)⟩)], []⟩) (fun y => z.rrs.length - y.1) ⟨0, by simp⟩ .normA ?_
  rintro ⟨i, hi, hz⟩
  simp only
  have ht := zTops_le z.rrs i
  rcases Nat.lt_or_ge i z.rrs.length with hlt | hge
  · have hbi := hm _ (List.getElem_mem hlt)
    have n1 := hbi.n.len
    have n2 := hbi.n.mem
    have hts := zTops_succ z.rrs i hlt
    have hq := zAt_eq hlt
    rw [aloneR_eq hlt] at hq
    have hset : (setOf z.rrs z.rrs[i].name 255).length ≤ z.rrs.length := List.length_filter_le _ _
    refine Kb ?_
    refine Kc (Kj Y Y Y (Kdb (Km Y (fun g0 => Kn (Kb (Kt (Kbc (Ka Y (kIadR Y Y Y om (Ky Y Y (kAlloc Y Y (Ka Y (Ko Y Y Y Y (Kdb (Kb (kRegD (Ka Y (Kj Y Y Y (Ka Y (kGP Y (fun g1 => Ki Y (Kf Y Y (Ki Y (Ke Y Y Y (Ki Y (Ka Y (Ki Y (kDif Y Y om (Ki Y (kIadT Y Y om (Ki Y (Ky Y Y (Ki Y (Ke Y Y Y (Ks Y Y (Ki Y (Kp (ok_impl_Rr_compare _ _ pr pr) ⟨⟨⟨Y, Y, Y, Y, Y, Y, Y, trivial⟩, leb⟩, ⟨⟨Y, Y, Y, Y, Y, Y, Y, trivial⟩, leb⟩, trivial⟩ Y Y Y Y Y (Ki Y (Kj Y Y Y (Kk Y (Ka Y (Ka Y (kGP Y (fun g2 => Kg Y (Kg Y (Kg Y (Kg Y (Ks Y Y (Kg Y (Kg Y (Kk Y (Ka Y (Kd (kH (kCondT Y (Kbc (Ka Y (Kd (Kr (Er (ra := [.one (.d _)]) rfl ?_))))))))))))))))) (fun g2 => Ki Y (Kf Y Y (Ki Y (Ke Y Y Y (Ki Y (Kf Y Y (Ki Y (Ke Y Y Y (Ks Y Y (Ki Y (Kp (ok_impl_Name_under _ _ pr pr) ⟨⟨⟨Y, trivial⟩, leb⟩, ⟨⟨Y, trivial⟩, leb⟩, trivial⟩ Y Y Y Y Y (Ki Y (Kw Y Y (Kl Y (Ka Y (Kd (kH (kCondN Y (fun g3 => Kbc (Ka Y (Kd (Kr (Er (ra := [.one (.d _)]) rfl ?_))))) (fun g3 => Kn (Kb (Kbc (Kf Y Y (Ke Y Y Y (Kj Y Y Y (Kd (Km Y (fun g4 => Kbc (Ka Y (kAdd Y Y om (Ka Y (Kdb (Kc (Kf Y Y (Ke Y Y Y (Kf Y Y (Ke Y Y Y (Kp (ok_impl_Name_is _ _ pr pr) ⟨⟨⟨Y, trivial⟩, leb⟩, ⟨⟨Y, trivial⟩, leb⟩, trivial⟩ Y Y Y Y Y (Kw Y Y (Kd (kCondN Y (fun g5 => Kbc (Ka Y (Kd (Kr (Er (ra := [.one (.d _)]) rfl ?_))))) (fun g5 => Kn (Kbc (Kf Y Y (Ke Y Y Y (Kj Y Y Y (Ka Y (kGP Y (fun g6 => om) (fun g6 => Kg Y (Kg Y (Kg Y (Kg Y (Kg Y (Kg Y (Kl Y (Ka Y (Kd (kCondF Y (Kn (Kv (Kc (kAdd Y Y om (Ka Y (Kd ?_))))))))))))))))))))))))))))))))))))) (fun g4 => Kn (Kbc (Kf Y Y (Ke Y Y Y (Kj Y Y Y (Ka Y (kGP Y (fun g7 => Ki Y (Ke Y Y Y (Ki Y (Kf Y Y (Ki Y (Ke Y Y Y (Ki Y (kCallD2 (ok_impl_Zone_set _ _ _ pr pr) ⟨⟨⟨Y, Y, trivial⟩, leb⟩, ⟨⟨Y, trivial⟩, leb⟩, rfl, trivial⟩ Y Y Y Y (Ki Y (Kq Y Y (Ki Y (Kj Y Y Y (Kk Y (Ka Y (Kd (Km Y (fun g8 => Kbc (Ka Y (Kd (Kr (Er (ra := [.one (.d _)]) rfl ?_))))) (fun g8 => Kn (Kv (Kc (kAdd Y Y om (Ka Y (Kd ?_)))))))))))))))))))))) (fun g7 => Kg Y (Kg Y (Kg Y (Kg Y (Kg Y (Kg Y (Kl Y (Ka Y (Kd (kCondF Y (Kn (Kv (Kc (kAdd Y Y om (Ka Y (Kd ?_)))))))))))))))))))))))))))))))))))))))))))))))))))))))))))))))))))))))) (fun g1 => Kg Y (Kg Y (Kg Y (Kg Y (Kg Y (Kg Y (Kg Y (Ks Y Y (Kg Y (Kg Y (Kl Y (Ka Y (Ka Y (Ki Y (Kf Y Y (Ki Y (Ke Y Y Y (Ki Y (Kf Y Y (Ki Y (Ke Y Y Y (Ks Y Y (Ki Y (Kp (ok_impl_Name_under _ _ pr pr) ⟨⟨⟨Y, trivial⟩, leb⟩, ⟨⟨Y, trivial⟩, leb⟩, trivial⟩ Y Y Y Y Y (Ki Y (Kw Y Y (Kl Y (Ka Y (Kd (kH (kCondN Y (fun g9 => Kbc (Ka Y (Kd (Kr (Er (ra := [.one (.d _)]) rfl ?_))))) (fun g9 => Kn (Kb (Kbc (Kf Y Y (Ke Y Y Y (Kj Y Y Y (Kd (Km Y (fun g10 => Kbc (Ka Y (kAdd Y Y om (Ka Y (Kdb (Kc (Kf Y Y (Ke Y Y Y (Kf Y Y (Ke Y Y Y (Kp (ok_impl_Name_is _ _ pr pr) ⟨⟨⟨Y, trivial⟩, leb⟩, ⟨⟨Y, trivial⟩, leb⟩, trivial⟩ Y Y Y Y Y (Kw Y Y (Kd (kCondN Y (fun g11 => Kbc (Ka Y (Kd (Kr (Er (ra := [.one (.d _)]) rfl ?_))))) (fun g11 => Kn (Kbc (Kf Y Y (Ke Y Y Y (Kj Y Y Y (Ka Y (kGP Y (fun g12 => om) (fun g12 => Kg Y (Kg Y (Kg Y (Kg Y (Kg Y (Kg Y (Kl Y (Ka Y (Kd (kCondF Y (Kn (Kv (Kc (kAdd Y Y om (Ka Y (Kd ?_))))))))))))))))))))))))))))))))))))) (fun g10 => Kn (Kbc (Kf Y Y (Ke Y Y Y (Kj Y Y Y (Ka Y (kGP Y (fun g13 => Ki Y (Ke Y Y Y (Ki Y (Kf Y Y (Ki Y (Ke Y Y Y (Ki Y (kCallD2 (ok_impl_Zone_set _ _ _ pr pr) ⟨⟨⟨Y, Y, trivial⟩, leb⟩, ⟨⟨Y, trivial⟩, leb⟩, rfl, trivial⟩ Y Y Y Y (Ki Y (Kq Y Y (Ki Y (Kj Y Y Y (Kk Y (Ka Y (Kd (Km Y (fun g14 => Kbc (Ka Y (Kd (Kr (Er (ra := [.one (.d _)]) rfl ?_))))) (fun g14 => Kn (Kv (Kc (kAdd Y Y om (Ka Y (Kd ?_)))))))))))))))))))))) (fun g13 => Kg Y (Kg Y (Kg Y (Kg Y (Kg Y (Kg Y (Kl Y (Ka Y (Kd (kCondF Y (Kn (Kv (Kc (kAdd Y Y om (Ka Y (Kd ?_))))))))))))))))))))))))))))))))))))))))))))))))))))))))))))))))))))))))))))))) (fun g0 => om))))
    all_goals first
      | (refine congrArg (fun z : Bool => [RA.one (RV.d (DV.sc (Value.bool z)))]) (zone_no hlt (Bool.eq_false_iff.2 fun h => ?_)).symm
         rw [hq] at h
         simp only [Bool.and_eq_true, decide_eq_true_eq, Bool.or_eq_true, Bool.not_eq_true', beq_eq_false_iff_ne] at h
         obtain ⟨⟨⟨k1, k2⟩, k3⟩, k4⟩ := h
         first
           | (rw [prevB_pos (by omega) hlt (by omega), decide_eq_true_eq] at k2; omega)
           | (simp_all; done)
           | (simp_all; omega))
      | (have e1 : prevB z.rrs i = true := by
           first
             | (rw [prevB_pos (by omega) hlt (by omega)]; exact decide_eq_true (by omega))
             | (have : i = 0 := by omega
                subst this; exact prevB_zero)
         have e2 : (!(z.rrs[i].ty == 5) || decide ((setOf z.rrs z.rrs[i].name 255).length ≤ 1)) = true := by
           first
             | assumption
             | (simp [*]; done)
             | (rw [decide_eq_true (by omega)]; simp)
         have e3 : (!(z.rrs[i].ty == 6) || decide (z.rrs[i].name = z.origin)) = true := by
           first
             | (simp [*]; done)
             | (simp_all; done)
         first
           | rw [if_pos (by assumption)] at hts
           | rw [if_neg (by assumption)] at hts
         have hz' : zAt z i = true := by rw [hq, e1, e2, e3]; simp [*]
         exact kInv ⟨⟨i + 1, by omega, range_all hz hz'⟩, by simp only; omega, .normA⟩)
  · rw [show zoneOk z = decide (zTops z.rrs = 1) by unfold zoneOk; rw [a1, decide_eq_true a2, a3, show (List.range z.rrs.length).all (zAt z) = true by rw [show z.rrs.length = i by omega]; exact hz]; rfl]
    refine Kbc (Kj Y Y Y (Kdb (Km Y (fun g0 => om) (fun g0 => kExit (kExC (kExI (kExB (Kbc (Ka Y (Kj Y Y Y (Ka Y (Kd (Kr (Er (ra := [.one (.d _)]) rfl ?_))))))))))))))
    rw [show i = z.rrs.length by omega, List.take_length]
    rfl

def ownF (z : Zone) (n : List (List UInt8)) (b : List UInt8) : Bool × Bool := if zoneOk z && nameOk n then (decide (((setOf z.rrs n 255).length : Int) = 0), mineF (setOf z.rrs n 49) b) else (false, false)
def c_impl_Owner : C := (.g (.o 0 3 (.box 3 (.t 0)) (.o 1 4 (.box 4 (.t 1)) (.o 2 6 (.mov (.v (.bool false))) (.o 3 7 (.mov (.v (.bool false))) .done)))) (.seq (.g (.o 0 8 (.load (some 2) (.t 3)) (.o 1 9 (.call 9 70 [(.t 8)]) (.o 2 10 (.un .not (.t 9)) (.o 3 11 (.mov (.t 10)) (.op 4 [] (some 12) (some (11, false)) false (.load (some 1) (.t 4)) (.op 5 [] (some 13) (some (11, false)) false (.call 13 71 [(.t 12)]) (.op 6 [] (some 14) (some (11, false)) false (.un .not (.t 13)) (.o 7 15 (.pick (.t 11) (.v (.bool true)) (.t 14)) .done)))))))) (.cond (.t 15) (.g (.o 0 6 (.mov (.v (.bool false))) (.o 1 7 (.mov (.v (.bool false))) .done)) .ret) .skip)) (.g (.o 0 16 (.load (some 2) (.t 3)) (.o 1 17 (.load (some 1) (.t 4)) (.o 2 18 (.mov (.t 2)) (.o 3 19 (.call 19 72 [(.t 16), (.t 17), (.t 18)]) (.o 4 20 (.ext (.t 19) 0) (.o 5 21 (.ext (.t 19) 1) (.o 6 6 (.mov (.t 20)) (.o 7 7 (.mov (.t 21)) .done)))))))) .ret)))
theorem dg_impl_Owner : Tryz.f13.body.bind (digC Tryz.prog Tryz.f13.ntmps []) = some c_impl_Owner := by kernel_rfl
theorem rs_impl_Owner : resSlots Tryz.prog Tryz.f13 = some [.s 6, .s 7] := by kernel_rfl
theorem ok_impl_Owner (z : Zone) (n : List (List UInt8)) (b : List UInt8) (hs : SmallZ z) (hn : SmallBB n) :
    FnOK Tryz.prog 13 [.agg (z.cells.map .d), .agg [.d (encBB n)], .one (.d (encB b))] (fun ra _ => ra = [.one (.d (.sc (.bool (ownF z n b).1))), .one (.d (.sc (.bool (ownF z n b).2)))]) := by
  refine FnOK.ofK Tryz.func13 (by kernel_rfl) dg_impl_Owner rs_impl_Owner rfl rfl ?_
  delta c_impl_Owner T.o X.i C.g
  have hn1 := hn.len
  have hn2 := hn.mem
  refine Kbc (kBox Y Y Y Y Y (kBox Y Y Y Y Y (Ka Y (Ka Y (Kdb (Kbc (Ke Y Y Y (Kp (ok_impl_ZoneOk _ prx) ⟨⟨⟨Y, Y, trivial⟩, leb⟩, trivial⟩ Y Y Y Y Y (Kw Y Y (Ka Y (kGN Y (fun g0 => kMem [(20480, ⟨1, 0, .box [.d _]⟩)] [(4, .c (.ptr 20480 1 0)), (12, .c (.un)), (13, .c (.un)), (11, .c (.d _)), (14, .c (.un))] [] ⟨Y, trivial⟩ ⟨Y, Y, Y, Y, Y, trivial⟩ Y (Kg Y (Kg Y (Kg Y (Kk Y (Ka Y (Kd (kCondT Y (Kbc (Ka Y (Ka Y (Kd (Kr (Er (ra := [.one (.d _), .one (.d _)]) rfl ?_)))))))))))))) (fun g0 => kMem [(20480, ⟨1, 0, .box [.d _]⟩)] [(4, .c (.ptr 20480 1 0)), (12, .c (.un)), (13, .c (.un)), (11, .c (.d _)), (14, .c (.un))] [] ⟨Y, trivial⟩ ⟨Y, Y, Y, Y, Y, trivial⟩ Y (Ki Y (Ke Y Y Y (Ki Y (Kp (ok_impl_NameOk _ prx prx) ⟨⟨⟨Y, trivial⟩, leb⟩, trivial⟩ Y Y Y Y Y (Ki Y (Kw Y Y (Kl Y (Ka Y (Kd (kCondN Y (fun g1 => Kbc (Ka Y (Ka Y (Kd (Kr (Er (ra := [.one (.d _), .one (.d _)]) rfl ?_)))))) (fun g1 => Kn (Kbc (Ke Y Y Y (Ke Y Y Y (Ka Y (Kp (ok_impl_Zone_owner _ _ _ prx prx) ⟨⟨⟨Y, Y, trivial⟩, leb⟩, ⟨⟨Y, trivial⟩, leb⟩, rfl, trivial⟩ Y Y Y Y Y (kExtC Y Y (kExtC Y Y (Ka Y (Ka Y (Kd (Kr (Er (ra := [.one (.d _), .one (.d _)]) rfl ?_)))))))))))))))))))))))))))))))))))
  all_goals unfold ownF; simp_all

def c_bytes_Clone : C := (.g (.o 0 2 (.mov (.n 1)) .done) (.seq (.g (.o 0 3 (.mov (.t 0)) (.o 1 4 (.eqn false (.t 3)) .done)) (.cond (.t 4) (.g (.o 0 2 (.mov (.n 1)) .done) .ret) .skip)) (.g (.o 0 5 (.lit 5 1 [(.v (.int .u8 0))] 0 []) (.o 1 6 (.mov (.t 0)) (.o 2 7 (.app 7 1 1 (.t 5) (.t 6)) (.o 3 2 (.mov (.t 7)) .done)))) .ret)))
theorem dg_bytes_Clone : Tryz.f233.body.bind (digC Tryz.prog Tryz.f233.ntmps []) = some c_bytes_Clone := by kernel_rfl
theorem rs_bytes_Clone : resSlots Tryz.prog Tryz.f233 = some [.s 2] := by kernel_rfl
theorem ok_bytes_Clone (b : List UInt8) (hb : b.length ≤ 140737488355328) :
    FnOK Tryz.prog 233 [.one (.d (encB b))] (fun ra _ => ra = [.one (.own true (encB b))]) := by
  refine FnOK.ofK Tryz.func233 (by kernel_rfl) dg_bytes_Clone rs_bytes_Clone rfl rfl ?_
  delta c_bytes_Clone T.o X.i C.g
  refine Kbc (Ka Y (Kd ?_))
  refine Kb (Kbc (Ka Y (kEqn Y Y Y fun n hn => Kd ?_)))
  refine kCond Y (fun h => ?_) (fun h => ?_)
  · refine Kbc (Ka Y (Kd (Kr ?_)))
    refine endRet (ra := [.one (.own true (.sl 1 []))]) rfl ⟨⟨rfl, trivial⟩, nodupB_sound rfl, trivial, trivial⟩ ?_
    have : b = [] := by
      rw [len_encB] at hn
      cases b with
      | nil => rfl
      | cons x l => have := hn (by simp); simp [this] at h
    rw [this]; rfl
  · refine Kn (Kbc ?_)
    refine kLit Y Y Y Y (Ka Y ?_)
    refine kApp (cy := .d (encB b)) rfl rfl rfl (src_encB _ b) rfl rfl ⟨rfl, rfl, Nat.zero_lt_one⟩ Y ?_ (Ka Y (Kd (Kr ?_)))
    · show ((DV.sl 1 (chunk 1 0 [])).len + (encB b).len) * 1 ≤ _ ∧ _
      rw [len_encB]; simp [DV.len, chunk]; omega
    refine endRet (ra := [.one (.own true _)]) rfl ⟨⟨⟨⟨_, rfl, fun _ => rfl⟩, .inl (Nat.zero_lt_succ _)⟩, trivial⟩, nodupB_sound rfl, trivial, trivial⟩ ?_
    exact congrArg (fun x => [RA.one (RV.own true x)]) (app_nil_encB b)

def c_impl_Name_copied : C := (.g (.o 0 1 (.box 1 (.t 0)) (.o 1 2 (.alloc 2 [(.n 1)]) .done)) (.g (.o 0 6 (.build [(.n 1)] []) (.o 1 3 (.alloc 3 [(.n 1)]) (.op 2 [] none none false (.store (some 1) (.t 3) (.t 6)) .done))) (.seq (.g (.o 0 7 (.fad (.t 1) 0) (.o 1 8 (.load none (.t 7)) (.o 2 9 (.len (.t 8)) (.o 3 10 (.mov (.i 0)) .done)))) (.block 0 (.loop (.g (.o 0 11 (.bin .lss (.t 10) (.t 9)) .done) (.seq (.cond (.t 11) .skip (.exit 0)) (.seq (.block 1 (.g (.o 0 12 (.iad 1 (.t 8) (.t 10)) (.o 1 13 (.load none (.t 12)) (.o 2 5 (.mov (.t 13)) .done))) (.reg true (.op 0 [] (some 14) none true (.fad (.t 3) 0) (.op 1 [] (some 15) none true (.load none (.t 14)) (.op 2 [] (some 16) none true (.mov (.t 5)) (.o 3 17 (.call 17 233 [(.t 16)]) (.o 4 18 (.lit 18 1 [(.n 1)] 1 [(0, 1, (.t 17))]) (.op 5 [1] (some 19) none false (.app 19 1 24 (.t 15) (.t 18)) (.op 6 [] (some 20) none true (.fad (.t 3) 0) (.op 7 [1] none none false (.store none (.t 20) (.t 19)) .done))))))))))) (.reg false (.o 0 21 (.bin .add (.t 10) (.i 1)) (.o 1 10 (.mov (.t 21)) .done))))))))) (.g (.o 0 22 (.load (some 1) (.t 3)) (.op 1 [] none none false (.store (some 1) (.t 2) (.t 22)) .done)) .ret))))
theorem dg_impl_Name_copied : Tryz.f151.body.bind (digC Tryz.prog Tryz.f151.ntmps []) = some c_impl_Name_copied := by kernel_rfl
theorem rs_impl_Name_copied : resSlots Tryz.prog Tryz.f151 = some [.m 2 (some 1)] := by kernel_rfl
theorem ok_impl_Name_copied (a : List (List UInt8)) (ha : a.length ≤ 4194304) (hb : ∀ b ∈ a, b.length ≤ 4194304) :
    FnOK Tryz.prog 151 [.agg [.d (encBB a)]] (fun ra _ => ra = [.agg [.own true (encBB a)]]) := by
  refine FnOK.ofK Tryz.func151 (by kernel_rfl) dg_impl_Name_copied rs_impl_Name_copied rfl rfl ?_
  delta c_impl_Name_copied T.o X.i C.g
  refine Kbc (kBox Y Y Y Y Y (kAlloc Y Y (Kd ?_)))
  refine Kbc (kBuild Y (kAlloc Y Y (Ko Y Y Y Y (Kd ?_))))
  refine Kb (Kbc (Kf Y Y (Ke Y Y Y (kLen Y Y Y (Ka Y (Kd (Kt ?_)))))))
  rw [len_encBB]
  refine kSub (Sub.nilBox (id := rid 3 0) (id2 := rid 5000 0) (j := 0) rfl rfl rfl (by decide) (by decide)) ?_
  refine kLoop (α := { i : Nat // i ≤ a.length })
    (fun y => ⟨tabSl [(1, .c (.ptr (rid 1 0) 1 0)), (2, .c (.ptr (rid 2 0) 1 0)), (3, .c (.ptr (rid 3 0) 1 0)), (8, .dv (encBB a)), (9, .i a.length), (10, .i y.1)],
      obTab 1 [(rid 1 0, ⟨1, 0, .box [.d (encBB a)]⟩), (rid 2 0, ⟨1, 0, .box [.nil 1]⟩), (rid 3 0, ⟨1, 0, .box [.arr (rid 5000 0) 1]⟩), (rid 5000 0, ⟨1, 0, .arr true (encBB (a.take y.1))⟩)], []⟩) (fun y => a.length - y.1) ⟨0, by simp⟩
    (.norm ?_ ?_) ?_
  · repeat' first | exact trivial | exact rfl | exact .inl rfl | refine ⟨_, rfl, ?_⟩ | refine ⟨?_, ?_⟩ | fail
  · repeat' first | exact trivial | exact rfl | exact .inl rfl | refine ⟨_, rfl, ?_⟩ | refine ⟨?_, ?_⟩ | fail
  rintro ⟨i, hi⟩
  simp only at hi ⊢
  refine Kbc (Kj Y Y Y (Kdb ?_))
  refine kCond Y (fun h1 => ?_) (fun h1 => ?_)
  · have hlt : i < a.length := by simp at h1; omega
    refine Kn (Kb (Kt (Kbc ?_)))
    refine kIadD Y Y Y Y ?_ ?_
    · rw [len_encBB]; omega
    rw [show (encBB a).row (i : Int).toNat = [encB a[i]] from row_encBB a i hlt]
    refine Ky Y Y (Ka Y (Kd (kRegD (Kf Y Y (Ke Y Y Y (Ka Y ?_))))))
    refine Ku false (ok_bytes_Clone a[i] (Nat.le_trans (hb _ (List.getElem_mem hlt)) om)) ⟨Y, trivial⟩ rfl rfl rfl fun os => ?_
    refine kLit Y Y Y Y (Ks Y Y ?_)
    refine kApp Y Y Y Y Y Y ⟨rfl, rfl, Nat.zero_lt_one⟩ Y ?_ ?_
    · show ((encBB (a.take i)).len + (DV.sl 1 [[encB a[i]]]).len) * 24 ≤ _ ∧ (encBB (a.take i)).len + (DV.sl 1 [[encB a[i]]]).len ≤ _
      rw [len_encBB, List.length_take]; simp [DV.len, DV.rows]; omega
    refine Kf Y Y (Ks Y Y (Ko Y Y Y Y (Kd (kH (Kv (Kc (kAdd Y Y om (Ka Y (Kd ?_)))))))))
    refine kInv ⟨⟨i + 1, hlt⟩, by simp only; omega, .norm ?_ ?_⟩
    · repeat' first | exact trivial | exact rfl | exact .inl rfl | refine ⟨_, rfl, ?_⟩ | refine ⟨?_, ?_⟩ | fail
    · repeat' first | exact trivial | exact rfl | exact .inl rfl | refine ⟨_, rfl, ?_⟩ | refine ⟨?_, ?_⟩ | fail
      rw [← List.take_append_getElem hlt, ← app_encBB]
      rfl
  · refine kExit (kExC (kExI (kExB (Kbc (Ke Y Y Y (Ko Y Y Y Y (Kd ?_)))))))
    have hge : i = a.length := by simp at h1; omega
    subst hge
    refine Kr (endRet (ra := [.agg [.own true _]]) rfl ⟨⟨⟨⟨⟨⟨_, rfl, fun _ => rfl⟩, .inl Nat.zero_lt_one⟩, trivial⟩, leb⟩, trivial⟩, nodupB_sound rfl, ⟨trivial, trivial⟩, trivial⟩ ?_)
    rw [List.take_length]

def c_slices_Clone_Lint_int : C := (.g (.o 0 2 (.mov (.n 1)) .done) (.seq (.g (.o 0 3 (.mov (.t 0)) (.o 1 4 (.eqn false (.t 3)) .done)) (.cond (.t 4) (.g (.o 0 2 (.mov (.n 1)) .done) .ret) .skip)) (.g (.o 0 5 (.lit 5 1 [(.i 0)] 0 []) (.o 1 6 (.mov (.t 0)) (.o 2 7 (.app 7 1 8 (.t 5) (.t 6)) (.o 3 2 (.mov (.t 7)) .done)))) .ret)))
theorem dg_slices_Clone_Lint_int : Tryz.f188.body.bind (digC Tryz.prog Tryz.f188.ntmps []) = some c_slices_Clone_Lint_int := by kernel_rfl
theorem rs_slices_Clone_Lint_int : resSlots Tryz.prog Tryz.f188 = some [.s 2] := by kernel_rfl
theorem ok_slices_Clone_Lint_int (b : List Int) (hb : b.length ≤ 4194304) :
    FnOK Tryz.prog 188 [.one (.d (encI b))] (fun ra _ => ra = [.one (.own true (encI b))]) := by
  refine FnOK.ofK Tryz.func188 (by kernel_rfl) dg_slices_Clone_Lint_int rs_slices_Clone_Lint_int rfl rfl ?_
  delta c_slices_Clone_Lint_int T.o X.i C.g
  refine Kbc (Ka Y (Kd ?_))
  refine Kb (Kbc (Ka Y (kEqn Y Y Y fun n hn => Kd ?_)))
  refine kCond Y (fun h => ?_) (fun h => ?_)
  · refine Kbc (Ka Y (Kd (Kr ?_)))
    refine endRet (ra := [.one (.own true (.sl 1 []))]) rfl ⟨⟨rfl, trivial⟩, nodupB_sound rfl, trivial, trivial⟩ ?_
    have : b = [] := by
      rw [len_encI] at hn
      cases b with
      | nil => rfl
      | cons x l => have := hn (by simp); simp [this] at h
    rw [this]; rfl
  · refine Kn (Kbc ?_)
    refine kLit Y Y Y Y (Ka Y ?_)
    refine kApp (cy := .d (encI b)) rfl rfl rfl (src_encI _ b) rfl rfl ⟨rfl, rfl, Nat.zero_lt_one⟩ Y ?_ (Ka Y (Kd (Kr ?_)))
    · show ((DV.sl 1 (chunk 1 0 [])).len + (encI b).len) * 8 ≤ _ ∧ _
      rw [len_encI]; simp [DV.len, chunk]; omega
    refine endRet (ra := [.one (.own true _)]) rfl ⟨⟨⟨⟨_, rfl, fun _ => rfl⟩, .inl (Nat.zero_lt_succ _)⟩, trivial⟩, nodupB_sound rfl, trivial, trivial⟩ ?_
    exact congrArg (fun x => [RA.one (RV.own true x)]) (app_nil_encI b)

def c_impl_Rr_copied : C := (.g (.o 0 1 (.box 1 (.t 0)) (.o 1 2 (.alloc 2 [(.n 1), (.i 0), (.i 0), (.i 0), (.n 1), (.n 1), (.n 1)]) .done)) (.seq (.reg true (.op 0 [] (some 3) none true (.fad (.t 1) 0) (.op 1 [] (some 4) none true (.load (some 1) (.t 3)) (.op 3 [] (some 6) none true (.fad (.t 1) 4) (.op 4 [] (some 7) none true (.load (some 1) (.t 6)) (.op 6 [] (some 9) none true (.fad (.t 1) 5) (.op 7 [] (some 10) none true (.load none (.t 9)) (.op 9 [] (some 12) none true (.fad (.t 1) 6) (.op 10 [] (some 13) none true (.load none (.t 12)) (.op 2 [1] (some 5) none false (.call 5 151 [(.t 4)]) (.op 12 [] (some 15) none true (.fad (.t 1) 0) (.op 5 [4, 1] (some 8) none false (.call 8 151 [(.t 7)]) (.op 8 [7, 4, 1] (some 11) none false (.call 11 233 [(.t 10)]) (.op 11 [10, 7, 4, 1] (some 14) none false (.call 14 188 [(.t 13)]) (.op 13 [1, 4, 7, 10] none none false (.store (some 1) (.t 15) (.t 5)) (.op 14 [] (some 16) none true (.fad (.t 1) 4) (.op 15 [1, 4, 7, 10] none none false (.store (some 1) (.t 16) (.t 8)) (.op 16 [] (some 17) none true (.fad (.t 1) 5) (.op 17 [1, 4, 7, 10] none none false (.store none (.t 17) (.t 11)) (.op 18 [] (some 18) none true (.fad (.t 1) 6) (.op 19 [1, 4, 7, 10] none none false (.store none (.t 18) (.t 14)) .done))))))))))))))))))))) (.g (.o 0 19 (.load (some 7) (.t 1)) (.op 1 [] none none false (.store (some 7) (.t 2) (.t 19)) .done)) .ret)))
theorem dg_impl_Rr_copied : Tryz.f172.body.bind (digC Tryz.prog Tryz.f172.ntmps []) = some c_impl_Rr_copied := by kernel_rfl
theorem rs_impl_Rr_copied : resSlots Tryz.prog Tryz.f172 = some [.m 2 (some 7)] := by kernel_rfl
theorem ok_impl_Rr_copied (r : Rr) (hs : SmallR r) :
    FnOK Tryz.prog 172 [.agg (r.cells.map .d)] (fun ra _ => ra = [.agg [.own true (encBB r.name), .d (.sc (.int .i64 r.ty)), .d (.sc (.int .i64 r.ttl)), .d (.sc (.int .i64 r.addr)), .own true (encBB r.to), .own true (encB r.text), .own true (encI r.nums)]]) := by
  refine FnOK.ofK Tryz.func172 (by kernel_rfl) dg_impl_Rr_copied rs_impl_Rr_copied rfl rfl ?_
  delta c_impl_Rr_copied T.o X.i C.g
  have n1 := hs.n.len
  have n2 := hs.n.mem
  have t1 := hs.t.len
  have t2 := hs.t.mem
  have x1 := hs.x
  have m1 := hs.m
  refine Kb (kCut ⟨tabSl [(1, .c (.ptr (rid 1 0) 1 0)), (2, .c (.ptr (rid 2 0) 1 0))], obTab 1 [(rid 1 0, ⟨1, 0, .box (r.cells.map .d)⟩), (rid 2 0, ⟨1, 0, .box [.nil 1, .d (.sc (.int .i64 0)), .d (.sc (.int .i64 0)), .d (.sc (.int .i64 0)), .nil 1, .nil 1, .nil 1]⟩)], []⟩ ?_ (fun x hc => ?_))
  case refine_2 => refine kReg (kBox rfl rfl rfl rfl rfl (kAlloc rfl rfl (kDone (hc _ .normA))))
  refine Kb (kCut ⟨tabSl [(1, .c (.ptr (rid 1 0) 1 0)), (2, .c (.ptr (rid 2 0) 1 0))], obTab 1 [(rid 1 0, ⟨1, 0, .box [.arr (rid 5 0) 1, .d (.sc (.int .i64 r.ty)), .d (.sc (.int .i64 r.ttl)), .d (.sc (.int .i64 r.addr)), .arr (rid 8 0) 1, .arr (rid 11 0) 1, .arr (rid 14 0) 1]⟩), (rid 2 0, ⟨1, 0, .box [.nil 1, .d (.sc (.int .i64 0)), .d (.sc (.int .i64 0)), .d (.sc (.int .i64 0)), .nil 1, .nil 1, .nil 1]⟩), (rid 5 0, ⟨1, 0, .arr true (encBB r.name)⟩), (rid 8 0, ⟨1, 0, .arr true (encBB r.to)⟩), (rid 11 0, ⟨1, 0, .arr true (encB r.text)⟩), (rid 14 0, ⟨1, 0, .arr true (encI r.nums)⟩)], []⟩ ?_ (fun x hc => ?_))
  case refine_2 => refine kRegD (kFadP rfl rfl (kLoadP rfl rfl rfl (kFadP rfl rfl (kLoadP rfl rfl rfl (kFadP rfl rfl (kLoadP rfl rfl rfl (kFadP rfl rfl (kLoadP rfl rfl rfl (kRelK rfl rfl (kCall1 true (ok_impl_Name_copied _ pr pr) ⟨⟨⟨rfl, trivial⟩, leb⟩, trivial⟩ rfl rfl rfl (fun _ => (kFadP rfl rfl (kRelK rfl rfl (kCall1 true (ok_impl_Name_copied _ pr pr) ⟨⟨⟨rfl, trivial⟩, leb⟩, trivial⟩ rfl rfl rfl (fun _ => (kRelK rfl rfl (kCall1 true (ok_bytes_Clone _ pr) ⟨rfl, trivial⟩ rfl rfl rfl (fun _ => (kRelF rfl rfl (kCall1 true (ok_slices_Clone_Lint_int _ pr) ⟨rfl, trivial⟩ rfl rfl rfl (fun _ => (kRelF rfl rfl (kStoreP rfl rfl rfl rfl (kFadP rfl rfl (kRelF rfl rfl (kStoreP rfl rfl rfl rfl (kFadP rfl rfl (kRelF rfl rfl (kStoreP rfl rfl rfl rfl (kFadP rfl rfl (kRelF rfl rfl (kStoreP rfl rfl rfl rfl (kDone (kH (kMem [(8192, ⟨1, 0, .box [.arr 24576 2, .d _, .d _, .d _, .arr 36864 2, .arr 49152 2, .arr 61440 2]⟩), (12288, ⟨1, 0, .box [.nil 1, .d _, .d _, .d _, .nil 1, .nil 1, .nil 1]⟩), (24576, ⟨2, 0, .arr true _⟩), (36864, ⟨2, 0, .arr true _⟩), (49152, ⟨2, 0, .arr true _⟩), (61440, ⟨2, 0, .arr true _⟩)] [(1, .c (.ptr 8192 1 0)), (2, .c (.ptr 12288 1 0))] [] ⟨rfl, rfl, rfl, rfl, rfl, rfl, trivial⟩ ⟨rfl, rfl, trivial⟩ rfl (hc _ .normA))))))))))))))))))))))))))))))))))))
  refine Kb (kCut ⟨tabSl [(2, .c (.ptr (rid 2 0) 1 0))], obTab 1 [(rid 2 0, ⟨1, 0, .box [.arr (rid 5 0) 1, .d (.sc (.int .i64 r.ty)), .d (.sc (.int .i64 r.ttl)), .d (.sc (.int .i64 r.addr)), .arr (rid 8 0) 1, .arr (rid 11 0) 1, .arr (rid 14 0) 1]⟩), (rid 5 0, ⟨1, 0, .arr true (encBB r.name)⟩), (rid 8 0, ⟨1, 0, .arr true (encBB r.to)⟩), (rid 11 0, ⟨1, 0, .arr true (encB r.text)⟩), (rid 14 0, ⟨1, 0, .arr true (encI r.nums)⟩)], []⟩ ?_ (fun x hc => ?_))
  case refine_2 => refine kReg (kLoadP rfl rfl rfl (kStoreP rfl rfl rfl rfl (kDone (hc _ .normA))))
  refine (Kr (Er (ra := [.agg [(.own true _), (.d _), (.d _), (.d _), (.own true _), (.own true _), (.own true _)]]) rfl rfl))

def c_impl_copyRrs : C := (.g (.o 0 2 (.mov (.n 7)) .done) (.g (.o 0 6 (.lit 6 7 [(.n 1), (.i 0), (.i 0), (.i 0), (.n 1), (.n 1), (.n 1)] 0 []) (.o 1 3 (.mov (.t 6)) .done)) (.seq (.g (.o 0 7 (.mov (.t 0)) (.o 1 8 (.len (.t 7)) (.o 2 9 (.mov (.i 0)) .done))) (.block 0 (.loop (.g (.o 0 10 (.bin .lss (.t 9) (.t 8)) .done) (.seq (.cond (.t 10) .skip (.exit 0)) (.seq (.block 1 (.g (.o 0 11 (.iad 7 (.t 7) (.t 9)) (.o 1 12 (.load (some 7) (.t 11)) (.o 2 5 (.alloc 5 [(.n 1), (.i 0), (.i 0), (.i 0), (.n 1), (.n 1), (.n 1)]) (.op 3 [] none none false (.store (some 7) (.t 5) (.t 12)) .done)))) (.reg false (.o 0 13 (.mov (.t 3)) (.o 1 14 (.load (some 7) (.t 5)) (.o 2 15 (.call 15 172 [(.t 14)]) (.o 3 16 (.lit 16 7 [(.n 1), (.i 0), (.i 0), (.i 0), (.n 1), (.n 1), (.n 1)] 1 [(0, 7, (.t 15))]) (.o 4 17 (.app 17 7 120 (.t 13) (.t 16)) (.o 5 3 (.mov (.t 17)) .done))))))))) (.reg false (.o 0 18 (.bin .add (.t 9) (.i 1)) (.o 1 9 (.mov (.t 18)) .done))))))))) (.g (.o 0 19 (.mov (.t 3)) (.o 1 2 (.mov (.t 19)) .done)) .ret))))
theorem dg_impl_copyRrs : Tryz.f81.body.bind (digC Tryz.prog Tryz.f81.ntmps []) = some c_impl_copyRrs := by kernel_rfl
theorem rs_impl_copyRrs : resSlots Tryz.prog Tryz.f81 = some [.s 2] := by kernel_rfl
theorem ok_impl_copyRrs (l : List Rr) (hs : SmallRs l) :
    FnOK Tryz.prog 81 [.one (.d (encR l))] (fun ra _ => ra = [.one (.own true (encR l))]) := by
  refine FnOK.ofK Tryz.func81 (by kernel_rfl) dg_impl_copyRrs rs_impl_copyRrs rfl rfl ?_
  delta c_impl_copyRrs T.o X.i C.g
  have h1 := hs.len
  refine Kbc (Ka Y (Kdb (Kc (kLit Y Y Y Y (Ka Y (Kdb (Kbc (Ka Y (Kq Y Y (Ka Y (Kd (Kt ?_))))))))))))
  refine kLoop (α := { i : Nat // i ≤ l.length }) (fun y => ⟨tabSl [(3, .c (.arr (rid 6 0) 1)), (7, .dv (encR l)), (8, .i l.length), (9, .i y.1)], obTab 1 [(rid 6 0, ⟨1, 0, .arr true (encR (l.take y.1))⟩)], []⟩) (fun y => l.length - y.1) ⟨0, by simp⟩ .normA ?_
  rintro ⟨i, hi⟩
  simp only
  have hlen : (l.take i).length = i := by simp; omega
  rcases Nat.lt_or_ge i l.length with hlt | hge
  · have hbi := hs.mem _ (List.getElem_mem hlt)
    refine Kbc (Kj Y Y Y (Kdb (Km Y (fun g0 => Kn (Kb (Kt (Kbc (kIadR Y Y Y om (Ky Y Y (kAlloc Y Y (Ko Y Y Y Y (Kd (Kc (Ka Y (Ke Y Y Y (Ku true (ok_impl_Rr_copied _ pr) ⟨⟨⟨Y, Y, Y, Y, Y, Y, Y, trivial⟩, leb⟩, trivial⟩ Y Y Y (fun _ => (kLit Y Y Y Y (kAppRec Y Y Y Y Y Y Y om (Ka Y (Kd (Kv (Kc (kAdd Y Y om (Ka Y (Kd ?_))))))))))))))))))))))) (fun g0 => om))))
    exact kInv ⟨⟨i + 1, by omega⟩, by simp only; omega, .normA⟩
  · refine Kbc (Kj Y Y Y (Kdb (Km Y (fun g0 => om) (fun g0 => kExit (kExC (kExI (kExB (Kbc (Ka Y (Ka Y (Kd (Kr (Er (ra := [.one (.own true _)]) rfl ?_)))))))))))))
    rw [show i = l.length by omega, List.take_length]

def c_impl_SetOf : C := (.g (.o 0 3 (.box 3 (.t 0)) (.o 1 4 (.box 4 (.t 1)) (.o 2 6 (.mov (.n 7)) .done))) (.seq (.g (.o 0 7 (.load (some 2) (.t 3)) (.o 1 8 (.call 8 70 [(.t 7)]) (.o 2 9 (.un .not (.t 8)) (.o 3 10 (.mov (.t 9)) (.op 4 [] (some 11) (some (10, false)) false (.load (some 1) (.t 4)) (.op 5 [] (some 12) (some (10, false)) false (.call 12 71 [(.t 11)]) (.op 6 [] (some 13) (some (10, false)) false (.un .not (.t 12)) (.o 7 14 (.pick (.t 10) (.v (.bool true)) (.t 13)) .done)))))))) (.cond (.t 14) (.g (.o 0 6 (.mov (.n 7)) .done) .ret) .skip)) (.g (.o 0 15 (.load (some 2) (.t 3)) (.o 1 16 (.load (some 1) (.t 4)) (.o 2 17 (.mov (.t 2)) (.o 3 18 (.call 18 82 [(.t 15), (.t 16), (.t 17)]) (.o 4 19 (.call 19 81 [(.t 18)]) (.o 5 6 (.mov (.t 19)) .done)))))) .ret)))
theorem dg_impl_SetOf : Tryz.f16.body.bind (digC Tryz.prog Tryz.f16.ntmps []) = some c_impl_SetOf := by kernel_rfl
theorem rs_impl_SetOf : resSlots Tryz.prog Tryz.f16 = some [.s 6] := by kernel_rfl
theorem ok_impl_SetOf (z : Zone) (n : List (List UInt8)) (t : Int) (hs : SmallZ z) (hn : SmallBB n) :
    FnOK Tryz.prog 16 [.agg (z.cells.map .d), .agg [.d (encBB n)], .one (.d (.sc (.int .i64 t)))] (fun ra _ => ra = [.one (.own true (encR (setN z n t)))]) := by
  refine FnOK.ofK Tryz.func16 (by kernel_rfl) dg_impl_SetOf rs_impl_SetOf rfl rfl ?_
  delta c_impl_SetOf T.o X.i C.g
  have n1 := hn.len
  have n2 := hn.mem
  have hsm : SmallRs (setOf z.rrs n t) := hs.r.filter _
  cases h : zoneOk z && nameOk n
  · rw [show setN z n t = [] by unfold setN; rw [h]; rfl]
    refine Kbc (kBox Y Y Y Y Y (kBox Y Y Y Y Y (Ka Y (Kdb (Kbc (Ke Y Y Y (Kp (ok_impl_ZoneOk _ pr) ⟨⟨⟨Y, Y, trivial⟩, leb⟩, trivial⟩ Y Y Y Y Y (Kw Y Y (Ka Y (kGN Y (fun g0 => Kg Y (Kg Y (Kg Y (Kk Y (Ka Y (Kd (kCondT Y (Kbc (Ka Y (Kd (Kr (Er (ra := [.one (.own true _)]) rfl rfl)))))))))))) (fun g0 => Ki Y (Ke Y Y Y (Ki Y (Kp (ok_impl_NameOk _ pr pr) ⟨⟨⟨Y, trivial⟩, leb⟩, trivial⟩ Y Y Y Y Y (Ki Y (Kw Y Y (Kl Y (Ka Y (Kd (kCondN Y (fun g1 => Kbc (Ka Y (Kd (Kr (Er (ra := [.one (.own true _)]) rfl rfl))))) (fun g1 => Kn (Kbc (Ke Y Y Y (Ke Y Y Y (Ka Y (kCallD2 (ok_impl_Zone_set _ _ _ pr pr) ⟨⟨⟨Y, Y, trivial⟩, leb⟩, ⟨⟨Y, trivial⟩, leb⟩, rfl, trivial⟩ Y Y Y Y (Ku true (ok_impl_copyRrs _ pr) ⟨Y, trivial⟩ Y Y Y (fun _ => (Ka Y (Kd (Kr (Er (ra := [.one (.own true _)]) rfl ?_))))))))))))))))))))))))))))))))
    all_goals simp_all
  · rw [show setN z n t = setOf z.rrs n t by unfold setN; rw [h]; rfl]
    have h' := h
    simp only [Bool.and_eq_true] at h'
    obtain ⟨a1, a2⟩ := h'
    refine Kbc (kBox Y Y Y Y Y (kBox Y Y Y Y Y (Ka Y (Kdb (Kbc (Ke Y Y Y (Kp (ok_impl_ZoneOk _ pr) ⟨⟨⟨Y, Y, trivial⟩, leb⟩, trivial⟩ Y Y Y Y Y (Kw Y Y (Ka Y (kGN Y (fun g0 => (by (simp [*] at g0))) (fun g0 => Ki Y (Ke Y Y Y (Ki Y (Kp (ok_impl_NameOk _ pr pr) ⟨⟨⟨Y, trivial⟩, leb⟩, trivial⟩ Y Y Y Y Y (Ki Y (Kw Y Y (Kl Y (Ka Y (Kd (kCondN Y (fun g1 => (by (simp [*] at g1))) (fun g1 => Kn (Kbc (Ke Y Y Y (Ke Y Y Y (Ka Y (kCallD2 (ok_impl_Zone_set _ _ _ pr pr) ⟨⟨⟨Y, Y, trivial⟩, leb⟩, ⟨⟨Y, trivial⟩, leb⟩, rfl, trivial⟩ Y Y Y Y (Ku true (ok_impl_copyRrs _ pr) ⟨Y, trivial⟩ Y Y Y (fun _ => (Ka Y (Kd (Kr (Er (ra := [.one (.own true _)]) rfl rfl))))))))))))))))))))))))))))))))

def c_laws_name : C := (.g (.o 0 2 (.alloc 2 [(.n 1)]) .done) (.g (.o 0 6 (.mov (.t 0)) (.o 1 7 (.s2b (.t 6)) (.o 2 8 (.call 8 170 [(.t 7)]) (.o 3 5 (.mov (.t 8)) (.o 4 9 (.ext (.t 5) 0) (.o 5 10 (.ext (.t 5) 1) (.o 6 3 (.alloc 3 [(.n 1)]) (.op 7 [] none none false (.store (some 1) (.t 3) (.t 9)) (.o 8 4 (.mov (.t 10)) .done))))))))) (.g (.o 0 11 (.load (some 1) (.t 3)) (.op 1 [] none none false (.store (some 1) (.t 2) (.t 11)) .done)) .ret)))
theorem dg_laws_name : Tryz.f79.body.bind (digC Tryz.prog Tryz.f79.ntmps []) = some c_laws_name := by kernel_rfl
theorem rs_laws_name : resSlots Tryz.prog Tryz.f79 = some [.m 2 (some 1)] := by kernel_rfl
theorem ok_laws_name (b : ByteArray) (hb : b.size ≤ 4194303) :
    FnOK Tryz.prog 79 [.one (.d (.sc (.string b)))] (fun ra _ => ra = [.agg [.own true (encBB (readN b.toList))]]) := by
  refine FnOK.ofK Tryz.func79 (by kernel_rfl) dg_laws_name rs_laws_name rfl rfl ?_
  delta c_laws_name T.o X.i C.g
  have h : b.toList.length ≤ 4194303 := by rw [bt_len]; exact hb
  refine Kbc (kAlloc Y Y (Kdb (Kc (Ka Y (kS2b Y om (Ku true (ok_spec_NameRead _ pry) ⟨Y, trivial⟩ Y Y Y (fun _ => (kMovT Y (kExtC Y Y (kExtC Y Y (kAlloc Y Y (Ko Y Y Y Y (Ka Y (Kdb (Kc (Ke Y Y Y (Ko Y Y Y Y (Kd (Kr (Er (ra := [.agg [(.own true _)]]) rfl rfl))))))))))))))))))))

def c_impl_topRr : C := (.g (.o 0 2 (.box 2 (.t 0)) (.o 1 4 (.alloc 4 [(.n 1), (.i 0), (.i 0), (.i 0), (.n 1), (.n 1), (.n 1)]) .done)) (.g (.o 0 5 (.load (some 1) (.t 2)) (.o 1 6 (.load (some 1) (.t 2)) (.o 2 7 (.mov (.t 1)) (.o 3 8 (.lit 8 1 [(.i 0)] 2 [(0, 1, (.t 7)), (1, 1, (.i 60))]) (.o 4 9 (.build [(.n 1), (.i 0), (.i 0), (.i 0), (.n 1), (.n 1), (.n 1)] [(0, 1, (.t 5)), (1, 1, (.i 6)), (2, 1, (.i 60)), (4, 1, (.t 6)), (6, 1, (.t 8))]) (.op 5 [] none none false (.store (some 7) (.t 4) (.t 9)) .done)))))) .ret))
theorem dg_impl_topRr : Tryz.f168.body.bind (digC Tryz.prog Tryz.f168.ntmps []) = some c_impl_topRr := by kernel_rfl
theorem rs_impl_topRr : resSlots Tryz.prog Tryz.f168 = some [.m 4 (some 7)] := by kernel_rfl
theorem ok_impl_topRr (o : List (List UInt8)) (s : Int) :
    FnOK Tryz.prog 168 [.agg [.d (encBB o)], .one (.d (.sc (.int .i64 s)))] (fun ra _ => ra = [.agg [.d (encBB o), .d (.sc (.int .i64 6)), .d (.sc (.int .i64 60)), .d (.sc (.int .i64 0)), .d (encBB o), .d (.sl 1 []), .own true (encI [s, 60])]]) := by
  refine FnOK.ofK Tryz.func168 (by kernel_rfl) dg_impl_topRr rs_impl_topRr rfl rfl ?_
  delta c_impl_topRr T.o X.i C.g
  refine Kbc (kBox Y Y Y Y Y (kAlloc Y Y (Kdb (Kc (Ke Y Y Y (Ke Y Y Y (Ka Y (kLit Y Y Y Y (kBuildG Y (Ko Y Y Y Y (Kd (Kr (Er (ra := [.agg [(.d _), (.d _), (.d _), (.d _), (.d _), (.d _), (.own true _)]]) rfl rfl)))))))))))))

def c_impl_Zone_copied : C := (.g (.o 0 1 (.box 1 (.t 0)) (.o 1 2 (.alloc 2 [(.n 1), (.n 7)]) .done)) (.seq (.reg true (.op 0 [] (some 3) none true (.fad (.t 1) 0) (.op 1 [] (some 4) none true (.load (some 1) (.t 3)) (.op 3 [] (some 6) none true (.fad (.t 1) 1) (.op 4 [] (some 7) none true (.load none (.t 6)) (.op 2 [1] (some 5) none false (.call 5 151 [(.t 4)]) (.op 5 [4, 1] (some 8) none false (.call 8 81 [(.t 7)]) (.op 6 [] (some 9) none true (.build [(.n 1), (.n 7)] [(0, 1, (.t 5)), (1, 1, (.t 8))]) (.op 7 [1, 4] none none false (.store (some 2) (.t 2) (.t 9)) .done))))))))) .ret))
theorem dg_impl_Zone_copied : Tryz.f169.body.bind (digC Tryz.prog Tryz.f169.ntmps []) = some c_impl_Zone_copied := by kernel_rfl
theorem rs_impl_Zone_copied : resSlots Tryz.prog Tryz.f169 = some [.m 2 (some 2)] := by kernel_rfl
theorem ok_impl_Zone_copied (z : Zone) (hs : SmallZ z) :
    FnOK Tryz.prog 169 [.agg (z.cells.map .d)] (fun ra _ => ra = [.agg [.own true (encBB z.origin), .own true (encR z.rrs)]]) := by
  refine FnOK.ofK Tryz.func169 (by kernel_rfl) dg_impl_Zone_copied rs_impl_Zone_copied rfl rfl ?_
  delta c_impl_Zone_copied T.o X.i C.g
  have o1 := hs.o.len
  have o2 := hs.o.mem
  have h1 := hs.r
  refine Kbc (kBox Y Y Y Y Y (kAlloc Y Y (Kdb (kRegD (Kf Y Y (Ke Y Y Y (Kf Y Y (Ke Y Y Y (Kx Y Y (Ku true (ok_impl_Name_copied _ pr pr) ⟨⟨⟨Y, trivial⟩, leb⟩, trivial⟩ Y Y Y (fun _ => (Ks Y Y (Ku true (ok_impl_copyRrs _ pr) ⟨Y, trivial⟩ Y Y Y (fun _ => (kBuildG Y (Ks Y Y (Ko Y Y Y Y (Kd (kH (Kr (Er (ra := [.agg [(.own true _), (.own true _)]]) rfl rfl)))))))))))))))))))))

def c_impl_ZoneNew : C := (.g (.o 0 2 (.box 2 (.t 0)) (.o 1 4 (.alloc 4 [(.n 1), (.n 7)]) (.o 2 5 (.mov (.v (.bool false))) .done))) (.seq (.reg true (.op 0 [] (some 7) none true (.load (some 1) (.t 2)) (.op 1 [] (some 8) none true (.load (some 1) (.t 2)) (.op 2 [] (some 9) none true (.mov (.t 1)) (.alt (.op 3 [1] (some 10) none false (.call 10 168 [(.t 8), (.t 9)]) (.alt (.op 4 [1] (some 11) none false (.lit 11 7 [(.n 1), (.i 0), (.i 0), (.i 0), (.n 1), (.n 1), (.n 1)] 1 [(0, 7, (.t 10))]) (.op 5 [] (some 12) none true (.build [(.n 1), (.n 7)] [(0, 1, (.t 7)), (1, 1, (.t 11))]) (.o 6 6 (.alloc 6 [(.n 1), (.n 7)]) (.op 7 [0, 1] none none false (.store (some 2) (.t 6) (.t 12)) .done)))) (.o 6 6 (.alloc 6 [(.n 1), (.n 7)]) (.op 4 [1] (some 11) none false (.lit 11 7 [(.n 1), (.i 0), (.i 0), (.i 0), (.n 1), (.n 1), (.n 1)] 1 [(0, 7, (.t 10))]) (.op 5 [] (some 12) none true (.build [(.n 1), (.n 7)] [(0, 1, (.t 7)), (1, 1, (.t 11))]) (.op 7 [0, 1] none none false (.store (some 2) (.t 6) (.t 12)) .done)))))) (.o 6 6 (.alloc 6 [(.n 1), (.n 7)]) (.op 3 [1] (some 10) none false (.call 10 168 [(.t 8), (.t 9)]) (.op 4 [1] (some 11) none false (.lit 11 7 [(.n 1), (.i 0), (.i 0), (.i 0), (.n 1), (.n 1), (.n 1)] 1 [(0, 7, (.t 10))]) (.op 5 [] (some 12) none true (.build [(.n 1), (.n 7)] [(0, 1, (.t 7)), (1, 1, (.t 11))]) (.op 7 [0, 1] none none false (.store (some 2) (.t 6) (.t 12)) .done)))))))))) (.seq (.g (.o 0 13 (.load (some 2) (.t 6)) (.o 1 14 (.call 14 70 [(.t 13)]) (.o 2 15 (.un .not (.t 14)) .done))) (.cond (.t 15) (.g (.o 0 16 (.build [(.n 1), (.n 7)] []) (.op 1 [] none none false (.store (some 2) (.t 4) (.t 16)) (.o 2 5 (.mov (.v (.bool false))) .done))) .ret) .skip)) (.g (.o 0 17 (.load (some 2) (.t 6)) (.o 1 18 (.call 18 169 [(.t 17)]) (.op 2 [] none none false (.store (some 2) (.t 4) (.t 18)) (.o 3 5 (.mov (.v (.bool true))) .done)))) .ret))))
theorem dg_impl_ZoneNew : Tryz.f78.body.bind (digC Tryz.prog Tryz.f78.ntmps []) = some c_impl_ZoneNew := by kernel_rfl
theorem rs_impl_ZoneNew : resSlots Tryz.prog Tryz.f78 = some [.m 4 (some 2), .s 5] := by kernel_rfl
theorem ok_impl_ZoneNew (o : List (List UInt8)) (s : Int) (ho : SmallBB o) :
    FnOK Tryz.prog 78 [.agg [.d (encBB o)], .one (.d (.sc (.int .i64 s)))] (fun ra _ => ra = [.agg [.own true (encBB (zoneNewN o s).origin), .own true (encR (zoneNewN o s).rrs)], .one (.d (.sc (.bool (zoneOk (newZ o s)))))]) := by
  refine FnOK.ofK Tryz.func78 (by kernel_rfl) dg_impl_ZoneNew rs_impl_ZoneNew rfl rfl ?_
  delta c_impl_ZoneNew T.o X.i C.g
  have hs := SmallZ.top s ho
  refine Kb (kCut ⟨tabSl [(1, .i s), (2, .c (.ptr (rid 2 0) 1 0)), (4, .c (.ptr (rid 4 0) 1 0)), (5, .b false)], obTab 1 [(rid 2 0, ⟨1, 0, .box [.d (encBB o)]⟩), (rid 4 0, ⟨1, 0, .box [.nil 1, .nil 7]⟩)], []⟩ ?_ (fun x hc => ?_))
  case refine_2 => refine kReg (kBox rfl rfl rfl rfl rfl (kAlloc rfl rfl (kMovC rfl (kDone (hc _ .normA)))))
  refine Kb (kCut ⟨tabSl [(4, .c (.ptr (rid 4 0) 1 0)), (5, .b false), (6, .c (.ptr (rid 6 0) 1 0))], obTab 1 [(rid 4 0, ⟨1, 0, .box [.nil 1, .nil 7]⟩), (rid 6 0, ⟨1, 0, .box [.d (encBB o), .arr (rid 11 0) 1]⟩), (rid 11 0, ⟨1, 0, .arr false (encR [topR o s])⟩)], []⟩ ?_ (fun x hc => ?_))
  case refine_2 => refine kRegD (kLoadP rfl rfl rfl (kLoadP rfl rfl rfl (kMovC rfl (kAlt (kRelK rfl rfl (kCall1 false (ok_impl_topRr _ _) ⟨⟨⟨rfl, trivial⟩, leb⟩, rfl, trivial⟩ rfl rfl rfl (fun _ => (kAlt (kRelK rfl rfl (kLit rfl rfl rfl rfl (kBuildG rfl (kAlloc rfl rfl (kRelF rfl rfl (kStoreP rfl rfl rfl rfl (kDone (kH (hc _ .normA))))))))) (kAlloc rfl rfl (kRelK rfl rfl (kLit rfl rfl rfl rfl (kBuildG rfl (kRelF rfl rfl (kStoreP rfl rfl rfl rfl (kDone (kH (hc _ .normA))))))))))))) (kAlloc rfl rfl (kRelK rfl rfl (kCall1 false (ok_impl_topRr _ _) ⟨⟨⟨rfl, trivial⟩, leb⟩, rfl, trivial⟩ rfl rfl rfl (fun _ => (kRelK rfl rfl (kLit rfl rfl rfl rfl (kBuildG rfl (kRelF rfl rfl (kStoreP rfl rfl rfl rfl (kDone (kH (hc _ .normA))))))))))))))))
  refine Kb (Kbc (Ke Y Y Y ?_))
  refine Kp (ok_impl_ZoneOk (newZ o s) hs) ⟨⟨⟨Y, Y, trivial⟩, leb⟩, trivial⟩ Y Y Y Y Y ?_
  cases hok : zoneOk (newZ o s)
  · rw [show zoneNewN o s = zeroZ by unfold zoneNewN; rw [hok]; rfl]
    refine Kw Y Y (Kd (kCondT Y (Kbc (kBuildG Y (Ko Y Y Y Y (Ka Y (Kd (Kr (Er (ra := [.agg [(.own true _), (.own true _)], .one (.d _)]) rfl rfl)))))))))
  · rw [show zoneNewN o s = newZ o s by unfold zoneNewN; rw [hok]; rfl]
    refine Kw Y Y (Kd (kCondF Y (Kn (Kbc (Ke Y Y Y ?_)))))
    refine Ku true (ok_impl_Zone_copied (newZ o s) hs) ⟨⟨⟨Y, Y, trivial⟩, leb⟩, trivial⟩ Y Y Y (fun _ => ?_)
    refine (Ko Y Y Y Y (Ka Y (Kd (Kr (Er (ra := [.agg [(.own true _), (.own true _)], .one (.d _)]) rfl rfl)))))

def c_impl_Zone_top_1 : C := (.g (.o 0 1 (.box 1 (.t 0)) (.o 1 2 (.mov (.v (.bool false))) .done)) (.g (.o 0 3 (.fad (.t 1) 1) (.o 1 4 (.load none (.t 3)) (.o 2 5 (.bin .eql (.t 4) (.i 6)) (.o 3 2 (.mov (.t 5)) .done)))) .ret))
theorem dg_impl_Zone_top_1 : Tryz.f274.body.bind (digC Tryz.prog Tryz.f274.ntmps []) = some c_impl_Zone_top_1 := by kernel_rfl
theorem rs_impl_Zone_top_1 : resSlots Tryz.prog Tryz.f274 = some [.s 2] := by kernel_rfl
theorem ok_impl_Zone_top_1 (r : Rr) :
    FnOK Tryz.prog 274 [.agg (r.cells.map .d)] (fun ra _ => ra = [.one (.d (.sc (.bool (r.ty == 6))))]) := by
  refine FnOK.ofK Tryz.func274 (by kernel_rfl) dg_impl_Zone_top_1 rs_impl_Zone_top_1 rfl rfl ?_
  delta c_impl_Zone_top_1 T.o X.i C.g
  refine Kbc (kBox Y Y Y Y Y (Ka Y (Kdb (Kc (Kf Y Y (Ke Y Y Y (Kj Y Y Y (Ka Y (Kd (Kr (Er (ra := [.one (.d _)]) rfl rfl)))))))))))

def c_impl_Zone_top : C := (.g (.o 0 1 (.box 1 (.t 0)) (.o 1 2 (.mov (.i 0)) .done)) (.g (.o 0 3 (.fad (.t 1) 1) (.o 1 4 (.load none (.t 3)) (.o 2 5 (.call 5 270 [(.t 4), (.fn 274)]) (.o 3 2 (.mov (.t 5)) .done)))) .ret))
theorem dg_impl_Zone_top : Tryz.f203.body.bind (digC Tryz.prog Tryz.f203.ntmps []) = some c_impl_Zone_top := by kernel_rfl
theorem rs_impl_Zone_top : resSlots Tryz.prog Tryz.f203 = some [.s 2] := by kernel_rfl
theorem ok_impl_Zone_top (z : Zone) (hs : SmallZ z) :
    FnOK Tryz.prog 203 [.agg (z.cells.map .d)] (fun ra _ => ra = [.one (.d (.sc (.int .i64 (topIx z.rrs))))]) := by
  refine FnOK.ofK Tryz.func203 (by kernel_rfl) dg_impl_Zone_top rs_impl_Zone_top rfl rfl ?_
  delta c_impl_Zone_top T.o X.i C.g
  have h1 := hs.r.len
  refine Kbc (kBox Y Y Y Y Y (Ka Y (Kdb (Kc (Kf Y Y (Ke Y Y Y ?_))))))
  refine Kp (ok_slices_IndexFunc_Limpl_Rr_impl_Rr z.rrs SmallR (fun r => r.ty == 6) h1 hs.r.mem) ⟨rfl, ⟨rfl, rfl, ⟨_, Tryz.func274, rfl, by kernel_rfl⟩, ?_⟩, trivial⟩ Y Y Y Y Y ?_
  · rintro _ R ⟨x, h, rfl, rfl⟩
    exact ok_impl_Zone_top_1 x
  refine Ka Y (Kd (Kr (Er (ra := [.one (.d _)]) rfl rfl)))

def c_impl_Zone_serial : C := (.g (.o 0 1 (.box 1 (.t 0)) (.o 1 2 (.mov (.i 0)) .done)) (.seq (.reg true (.op 0 [] (some 3) none true (.fad (.t 1) 1) (.op 1 [] (some 4) none true (.load none (.t 3)) (.op 2 [] (some 5) none true (.load (some 2) (.t 1)) (.op 3 [2] (some 6) none false (.call 6 203 [(.t 5)]) (.op 4 [] (some 7) none true (.iad 7 (.t 4) (.t 6)) (.op 5 [] (some 8) none true (.fad (.t 7) 6) (.op 6 [] (some 9) none true (.load none (.t 8)) (.op 7 [] (some 10) none true (.iad 1 (.t 9) (.i 0)) (.op 8 [] (some 11) none true (.load none (.t 10)) (.op 9 [] (some 2) none true (.mov (.t 11)) .done))))))))))) .ret))
theorem dg_impl_Zone_serial : Tryz.f171.body.bind (digC Tryz.prog Tryz.f171.ntmps []) = some c_impl_Zone_serial := by kernel_rfl
theorem rs_impl_Zone_serial : resSlots Tryz.prog Tryz.f171 = some [.s 2] := by kernel_rfl
theorem ok_impl_Zone_serial (z : Zone) (hs : SmallZ z) (hz : zoneOk z = true) (h0 : (topIx z.rrs).toNat < z.rrs.length) (h1 : 0 < (z.rrs[(topIx z.rrs).toNat]).nums.length) :
    FnOK Tryz.prog 171 [.agg (z.cells.map .d)] (fun ra _ => ra = [.one (.d (.sc (.int .i64 ((z.rrs[(topIx z.rrs).toNat]).nums[0]))))]) := by
  refine FnOK.ofK Tryz.func171 (by kernel_rfl) dg_impl_Zone_serial rs_impl_Zone_serial rfl rfl ?_
  delta c_impl_Zone_serial T.o X.i C.g
  have ht := topIx_lt hz
  refine Kbc (kBox Y Y Y Y Y (Ka Y (Kdb (kRegD (Kf Y Y (Ke Y Y Y (Ke Y Y Y (Kx Y Y (Kp (ok_impl_Zone_top _ pr) ⟨⟨⟨Y, Y, trivial⟩, leb⟩, trivial⟩ Y Y Y Y Y (kIadT Y Y om (kFadD Y (Ky Y Y (kIadR (m := 0) Y Y Y om (Ky Y Y (Ka Y (Kd (kH (Kr (Er (ra := [.one (.d _)]) rfl rfl)))))))))))))))))))

end Go.Proofs.YtmdmlncdjdphdaaGreat.FnOwnersFn
