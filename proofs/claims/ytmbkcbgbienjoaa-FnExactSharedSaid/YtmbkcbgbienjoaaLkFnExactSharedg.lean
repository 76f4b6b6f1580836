/- Functions' walks: each computes what its plain form says. No condition. -/
import Derived.Test.YtmbkcbgbienjoaaLkFnExactSharedh
import Derived.Test.YtmbkcbgbienjoaaLkFnExactSharedc
import Derived.Test.YtmbkcbgbienjoaaLkFnExactSharedf
open Go Go.Proofs Go.Proofs.Ytmbkcbgbienjoaa.Abs
namespace Go.Proofs.Ytmbkcbgbienjoaa.PFnExactShared
open Go.RowKit Go.Proofs.YtmbkcbgbienjoaaW.PrintWords Go.Proofs.YtmbkcbgbienjoaaW.PrintLast Go.Proofs.YtmbkcbgbienjoaaW.PrintMore
set_option linter.unusedVariables false
set_option linter.unusedSimpArgs false
set_option maxRecDepth 100000
attribute [local irreducible] evK evQ evM evF evW evH goE goK goKD goQ goQD goD Ok ACalls
set_option maxHeartbeats 8000000 in
theorem spec_l05Deeps.link {k : Nat} {l0_0 : List (S77)} {l0_1 : List (S106)} {l0_2 : List (S103)} {r : List Int} (H : spec_l05Deeps.f k l0_0 l0_1 l0_2 = some r) : ACalls Try.prog 83 [.dat true [.sl none 6 (List.flatMap e77 l0_0), .sl none 4 (List.flatMap e106 l0_1), .sl none 4 (List.flatMap e103 l0_2)]] [(false, [.sl (some 0) 1 (List.flatMap eI r)])] [.dat true [.sl none 6 (List.flatMap e77 l0_0), .sl none 4 (List.flatMap e106 l0_1), .sl none 4 (List.flatMap e103 l0_2)]] := by
 refine ACalls.en Try.func83 Try.ntmps83 .go .go .go .go ?_
 intro C F hC hP hF hn (hx : C.fx = [])
 have kp : KL [0, 1, 2, 3, 4, 5, 6, 12, 17, 26, 43, 70] := ⟨⟩
 have kr : KR #[.tmp 2] := ⟨⟩
 have c0 := Hold.mk @spec_NodeOk.link
 simp only [spec_l05Deeps.f] at H
 have w0 : LJ [1, 3, 4] (fun q X => ∃ x3, ∃ x4, ∃ x313000, ∃ x313001, ∃ x313002, X = ⟨[(1, .pl 0 none 0), (3, .bor 1 none 0 1 false), (4, .dat false [.sc (.int .i64 x4)])], [(0, .mem [.sl none 6 (List.flatMap e77 x313000), .sl none 4 (List.flatMap e106 x313001), .sl none 4 (List.flatMap e103 x313002)]), (1, .vir [.sl (some 0) 1 (List.flatMap eI x3)])]⟩ ∧ q ≤ k ∧ spec_l05Deeps.l0 q x3 x4 x313000 x313001 x313002 = some r) := ⟨⟩
 apply late
 · intro lp0
   apply BZa.out
   exact BZa.go
 · intro q1 X hJ ih0
   clear H
   obtain ⟨x3, x4, x313000, x313001, x313002, rfl, hq, H⟩ := hJ
   cases q1 with
   | zero => (simp only [spec_l05Deeps.l0] at H; cases H)
   | succ kq1 =>
    simp only [spec_l05Deeps.l0] at H
    have w1 : LJ [1, 3, 4, 5, 6] (fun q X => ∃ x3, ∃ x4, ∃ x5, ∃ x6, ∃ x313000, ∃ x313001, ∃ x313002, X = ⟨[(1, .pl 0 none 0), (3, .bor 1 none 0 1 false), (4, .dat false [.sc (.int .i64 x4)]), (5, .dat false [.sc (.int .i64 x5)]), (6, .dat false [.sc (.int .i64 x6)])], [(0, .mem [.sl none 6 (List.flatMap e77 x313000), .sl none 4 (List.flatMap e106 x313001), .sl none 4 (List.flatMap e103 x313002)]), (1, .vir [.sl (some 0) 1 (List.flatMap eI x3)])]⟩ ∧ q ≤ kq1 ∧ spec_l05Deeps.l1 q x3 x4 x5 x6 x313000 x313001 x313002 = some r) := ⟨⟩
    apply late
    · intro lp1
      apply BZna.out
      exact BZna.go
    · intro q2 X hJ ih1
      clear H
      obtain ⟨x3, x4, x5, x6, x313000, x313001, x313002, rfl, hq, H⟩ := hJ
      cases q2 with
      | zero => (simp only [spec_l05Deeps.l1] at H; cases H)
      | succ kq2 =>
       simp only [spec_l05Deeps.l1] at H
       apply BZna.out
       exact BZna.go
set_option maxHeartbeats 8000000 in
theorem spec_DeepOf.link {k : Nat} {l0_0 : List (S77)} {l0_1 : List (S106)} {l0_2 : List (S103)} {a1 : Int} {r : Int} (H : spec_DeepOf.f k l0_0 l0_1 l0_2 a1 = some r) : ACalls Try.prog 37 [.dat true [.sl none 6 (List.flatMap e77 l0_0), .sl none 4 (List.flatMap e106 l0_1), .sl none 4 (List.flatMap e103 l0_2)], .dat false [.sc (.int .i64 a1)]] [(false, [.sc (.int .i64 r)])] [.dat true [.sl none 6 (List.flatMap e77 l0_0), .sl none 4 (List.flatMap e106 l0_1), .sl none 4 (List.flatMap e103 l0_2)], .dat false [.sc (.int .i64 a1)]] := by
 refine ACalls.en Try.func37 Try.ntmps37 .go .go .go .go ?_
 intro C F hC hP hF hn (hx : C.fx = [])
 have kp : KL [0, 1, 2, 4, 11] := ⟨⟩
 have kr : KR #[.tmp 4] := ⟨⟩
 have c0 := Hold.mk @spec_l01In.link
 have c1 := Hold.mk @spec_l05Deeps.link
 simp only [spec_DeepOf.f] at H
 apply BZn.out
 exact BZn.go
attribute [-go_sem] eB_rep List.length_replicate in
attribute [local go_sem] eB_per in
set_option maxHeartbeats 8000000 in
theorem spec_l08Under.link {k : Nat} {l0_0 : List (S77)} {l0_1 : List (S106)} {l0_2 : List (S103)} {a1 : Int} {r : List Bool} (H : spec_l08Under.f k l0_0 l0_1 l0_2 a1 = some r) : ACalls Try.prog 85 [.dat true [.sl none 6 (List.flatMap e77 l0_0), .sl none 4 (List.flatMap e106 l0_1), .sl none 4 (List.flatMap e103 l0_2)], .dat false [.sc (.int .i64 a1)]] [(false, [.sl (some 0) 1 (List.flatMap eB r)])] [.dat true [.sl none 6 (List.flatMap e77 l0_0), .sl none 4 (List.flatMap e106 l0_1), .sl none 4 (List.flatMap e103 l0_2)], .dat false [.sc (.int .i64 a1)]] := by
 refine ACalls.en Try.func85 Try.ntmps85 .go .go .go .go ?_
 intro C F hC hP hF hn (hx : C.fx = [])
 have kp : KL [0, 1, 2, 4, 5, 6, 7, 17, 34] := ⟨⟩
 have kr : KR #[.tmp 4] := ⟨⟩
 simp only [spec_l08Under.f] at H
 have w0 : LJ [2, 5, 6] (fun q X => ∃ x5, ∃ x6, ∃ x357000, ∃ x357001, ∃ x357002, X = ⟨[(2, .pl 0 none 0), (5, .bor 1 none 0 1 false), (6, .dat false [.sc (.int .i64 x6)])], [(0, .mem [.sl none 6 (List.flatMap e77 x357000), .sl none 4 (List.flatMap e106 x357001), .sl none 4 (List.flatMap e103 x357002)]), (1, .vir [.sl (some 0) 1 (List.flatMap eB x5)])]⟩ ∧ q ≤ k ∧ spec_l08Under.l0 q x5 x6 x357000 x357001 x357002 = some r) := ⟨⟩
 apply late
 · intro lp0
   apply BZn.out
   exact BZn.go
 · intro q1 X hJ ih0
   clear H
   obtain ⟨x5, x6, x357000, x357001, x357002, rfl, hq, H⟩ := hJ
   cases q1 with
   | zero => (simp only [spec_l08Under.l0] at H; cases H)
   | succ kq1 =>
    simp only [spec_l08Under.l0] at H
    have w1 : LJ [2, 5, 6, 7] (fun q X => ∃ x5, ∃ x6, ∃ x7, ∃ x357000, ∃ x357001, ∃ x357002, X = ⟨[(2, .pl 0 none 0), (5, .bor 1 none 0 1 false), (6, .dat false [.sc (.int .i64 x6)]), (7, .dat false [.sc (.int .i64 x7)])], [(0, .mem [.sl none 6 (List.flatMap e77 x357000), .sl none 4 (List.flatMap e106 x357001), .sl none 4 (List.flatMap e103 x357002)]), (1, .vir [.sl (some 0) 1 (List.flatMap eB x5)])]⟩ ∧ q ≤ kq1 ∧ spec_l08Under.l1 q x5 x6 x7 x357000 x357001 x357002 = some r) := ⟨⟩
    apply late
    · intro lp1
      apply BZ.out
      exact BZ.go
    · intro q2 X hJ ih1
      clear H
      obtain ⟨x5, x6, x7, x357000, x357001, x357002, rfl, hq, H⟩ := hJ
      cases q2 with
      | zero => (simp only [spec_l08Under.l1] at H; cases H)
      | succ kq2 =>
       simp only [spec_l08Under.l1] at H
       apply BZn.out
       exact BZn.go
set_option maxHeartbeats 8000000 in
theorem spec_NodesUnder.link {k : Nat} {l0_0 : List (S77)} {l0_1 : List (S106)} {l0_2 : List (S103)} {a1 : Int} {r : List Int} (H : spec_NodesUnder.f k l0_0 l0_1 l0_2 a1 = some r) : ACalls Try.prog 41 [.dat true [.sl none 6 (List.flatMap e77 l0_0), .sl none 4 (List.flatMap e106 l0_1), .sl none 4 (List.flatMap e103 l0_2)], .dat false [.sc (.int .i64 a1)]] [(false, [.sl (some 0) 1 (List.flatMap eI r)])] [.dat true [.sl none 6 (List.flatMap e77 l0_0), .sl none 4 (List.flatMap e106 l0_1), .sl none 4 (List.flatMap e103 l0_2)], .dat false [.sc (.int .i64 a1)]] := by
 refine ACalls.en Try.func41 Try.ntmps41 .go .go .go .go ?_
 intro C F hC hP hF hn (hx : C.fx = [])
 have kp : KL [0, 1, 2, 4, 5, 6, 7, 12, 20, 26] := ⟨⟩
 have kr : KR #[.tmp 4] := ⟨⟩
 have c0 := Hold.mk @spec_DeepOf.link
 have c1 := Hold.mk @spec_l08Under.link
 simp only [spec_NodesUnder.f] at H
 have w0 : LJ [5, 6, 7] (fun q X => ∃ x5, ∃ x6, ∃ x7, X = ⟨[(5, .bor 0 none 0 1 false), (6, .bor 1 none 0 1 false), (7, .dat false [.sc (.int .i64 x7)])], [(0, .vir [.sl (some 0) 1 (List.flatMap eI x5)]), (1, .vir [.sl (some 0) 1 (List.flatMap eB x6)])]⟩ ∧ q ≤ k ∧ spec_NodesUnder.l0 q x5 x6 x7 = some r) := ⟨⟩
 apply late
 · intro lp0
   apply BZa.out
   exact BZa.go
 · intro q1 X hJ ih0
   clear H
   obtain ⟨x5, x6, x7, rfl, hq, H⟩ := hJ
   cases q1 with
   | zero => (simp only [spec_NodesUnder.l0] at H; cases H)
   | succ kq1 =>
    simp only [spec_NodesUnder.l0] at H
    apply BZna.out
    exact BZna.go
set_option maxHeartbeats 8000000 in
theorem spec_CallsOf.link {k : Nat} {l0_0 : List (S77)} {l0_1 : List (S106)} {l0_2 : List (S103)} {a1 : Int} {r : List Int} (H : spec_CallsOf.f k l0_0 l0_1 l0_2 a1 = some r) : ACalls Try.prog 45 [.dat true [.sl none 6 (List.flatMap e77 l0_0), .sl none 4 (List.flatMap e106 l0_1), .sl none 4 (List.flatMap e103 l0_2)], .dat false [.sc (.int .i64 a1)]] [(false, [.sl (some 0) 1 (List.flatMap eI r)])] [.dat true [.sl none 6 (List.flatMap e77 l0_0), .sl none 4 (List.flatMap e106 l0_1), .sl none 4 (List.flatMap e103 l0_2)], .dat false [.sc (.int .i64 a1)]] := by
 refine ACalls.en Try.func45 Try.ntmps45 .go .go .go .go ?_
 intro C F hC hP hF hn (hx : C.fx = [])
 have kp : KL [0, 1, 2, 4, 5, 6, 7, 8, 9, 10, 18, 32, 38, 66] := ⟨⟩
 have kr : KR #[.tmp 4] := ⟨⟩
 have kd0 : KD 4 (noneL [0, 1, 2, 3, 4, 5, 6] ++ ((7, some []) :: (noneL [8] ++ []))) := ⟨⟩
 have kd1 : KD 12 (noneL [0, 1, 2, 3, 4, 5, 6, 7] ++ ((8, some [7, 6, 5, 4, 3, 2, 1, 0]) :: ((9, some []) :: ([])))) := ⟨⟩
 have kd2 : KD 13 (noneL [0, 1, 2, 3, 4, 5, 6, 7, 8, 9, 10, 11, 12, 13, 14, 15, 16] ++ ((17, some []) :: ([]))) := ⟨⟩
 have c0 := Hold.mk @spec_l01In.link
 have c1 := Hold.mk @spec_NodesUnder.link
 simp only [spec_CallsOf.f] at H
 have w0 : LJ [2, 5, 6, 7] (fun q X => ∃ x5, ∃ x6, ∃ x7, ∃ x379000, ∃ x379001, ∃ x379002, X = ⟨[(2, .pl 0 none 0), (5, .bor 1 none 0 1 false), (6, .bor 2 none 0 1 false), (7, .dat false [.sc (.int .i64 x7)])], [(0, .mem [.sl none 6 (List.flatMap e77 x379000), .sl none 4 (List.flatMap e106 x379001), .sl none 4 (List.flatMap e103 x379002)]), (1, .vir [.sl (some 0) 1 (List.flatMap eI x5)]), (2, .vir [.sl (some 0) 1 (List.flatMap eI x6)])]⟩ ∧ q ≤ k ∧ spec_CallsOf.l0 q x5 x6 x7 x379000 x379001 x379002 = some r) := ⟨⟩
 apply late
 · intro lp0
   apply BZna.out
   exact BZna.go
 · intro q1 X hJ ih0
   clear H
   obtain ⟨x5, x6, x7, x379000, x379001, x379002, rfl, hq, H⟩ := hJ
   cases q1 with
   | zero => (simp only [spec_CallsOf.l0] at H; cases H)
   | succ kq1 =>
    simp only [spec_CallsOf.l0] at H
    have w1 : LJ [2, 5, 6, 7, 8, 9] (fun q X => ∃ x5, ∃ x6, ∃ x7, ∃ x8, ∃ x9, ∃ x379000, ∃ x379001, ∃ x379002, X = ⟨[(2, .pl 0 none 0), (5, .bor 1 none 0 1 false), (6, .bor 2 none 0 1 false), (7, .dat false [.sc (.int .i64 x7)]), (8, .dat false [.sc (.bool x8)]), (9, .dat false [.sc (.int .i64 x9)])], [(0, .mem [.sl none 6 (List.flatMap e77 x379000), .sl none 4 (List.flatMap e106 x379001), .sl none 4 (List.flatMap e103 x379002)]), (1, .vir [.sl (some 0) 1 (List.flatMap eI x5)]), (2, .vir [.sl (some 0) 1 (List.flatMap eI x6)])]⟩ ∧ q ≤ kq1 ∧ spec_CallsOf.l1 q x5 x6 x7 x8 x9 x379000 x379001 x379002 = some r) := ⟨⟩
    apply late
    · intro lp1
      apply BZa.out
      exact BZa.go
    · intro q2 X hJ ih1
      clear H
      obtain ⟨x5, x6, x7, x8, x9, x379000, x379001, x379002, rfl, hq, H⟩ := hJ
      cases q2 with
      | zero => (simp only [spec_CallsOf.l1] at H; cases H)
      | succ kq2 =>
       simp only [spec_CallsOf.l1] at H
       apply BZna.out
       exact BZna.go
set_option maxHeartbeats 8000000 in
theorem spec_Shared.link {k : Nat} {l0_0 : List (S77)} {l0_1 : List (S106)} {l0_2 : List (S103)} {a1 : Int} {r : Bool} (H : spec_Shared.f k l0_0 l0_1 l0_2 a1 = some r) : ACalls Try.prog 39 [.dat true [.sl none 6 (List.flatMap e77 l0_0), .sl none 4 (List.flatMap e106 l0_1), .sl none 4 (List.flatMap e103 l0_2)], .dat false [.sc (.int .i64 a1)]] [(false, [.sc (.bool r)])] [.dat true [.sl none 6 (List.flatMap e77 l0_0), .sl none 4 (List.flatMap e106 l0_1), .sl none 4 (List.flatMap e103 l0_2)], .dat false [.sc (.int .i64 a1)]] := by
 refine ACalls.en Try.func39 Try.ntmps39 .go .go .go .go ?_
 intro C F hC hP hF hn (hx : C.fx = [])
 have kp : KL [0, 1, 2, 4, 5, 6, 7, 8, 13, 22, 30] := ⟨⟩
 have kr : KR #[.tmp 4] := ⟨⟩
 have c0 := Hold.mk @spec_CallsOf.link
 simp only [spec_Shared.f] at H
 have w0 : LJ [1, 2, 5, 6] (fun q X => ∃ x1, ∃ x5, ∃ x6, ∃ x395000, ∃ x395001, ∃ x395002, X = ⟨[(1, .dat false [.sc (.int .i64 x1)]), (2, .pl 0 none 0), (5, .dat false [.sc (.int .i64 x5)]), (6, .dat false [.sc (.int .i64 x6)])], [(0, .mem [.sl none 6 (List.flatMap e77 x395000), .sl none 4 (List.flatMap e106 x395001), .sl none 4 (List.flatMap e103 x395002)])]⟩ ∧ q ≤ k ∧ spec_Shared.l0 q x1 x5 x6 x395000 x395001 x395002 = some r) := ⟨⟩
 apply late
 · intro lp0
   apply BZ.out
   exact BZ.go
 · intro q1 X hJ ih0
   clear H
   obtain ⟨x1, x5, x6, x395000, x395001, x395002, rfl, hq, H⟩ := hJ
   cases q1 with
   | zero => (simp only [spec_Shared.l0] at H; cases H)
   | succ kq1 =>
    simp only [spec_Shared.l0] at H
    have w1 : LJ [1, 2, 5, 6, 7, 8] (fun q X => ∃ x1, ∃ x5, ∃ x6, ∃ x7, ∃ x8, ∃ x395000, ∃ x395001, ∃ x395002, X = ⟨[(1, .dat false [.sc (.int .i64 x1)]), (2, .pl 0 none 0), (5, .dat false [.sc (.int .i64 x5)]), (6, .dat false [.sc (.int .i64 x6)]), (7, .bor 1 none 0 1 false), (8, .dat false [.sc (.int .i64 x8)])], [(0, .mem [.sl none 6 (List.flatMap e77 x395000), .sl none 4 (List.flatMap e106 x395001), .sl none 4 (List.flatMap e103 x395002)]), (1, .vir [.sl (some 0) 1 (List.flatMap eI x7)])]⟩ ∧ q ≤ kq1 ∧ spec_Shared.l1 q x1 x5 x6 x7 x8 x395000 x395001 x395002 = some r) := ⟨⟩
    apply late
    · intro lp1
      apply BZ.out
      exact BZ.go
    · intro q2 X hJ ih1
      clear H
      obtain ⟨x1, x5, x6, x7, x8, x395000, x395001, x395002, rfl, hq, H⟩ := hJ
      cases q2 with
      | zero => (simp only [spec_Shared.l1] at H; cases H)
      | succ kq2 =>
       simp only [spec_Shared.l1] at H
       apply BZn.out
       exact BZn.go
set_option maxHeartbeats 8000000 in
theorem impl_within.link {a0 : Int} {a1 : Int} {a2 : Int} {r : Bool} (H : impl_within.f a0 a1 a2 = some r) : ACalls Try.prog 79 [.dat false [.sc (.int .i64 a0)], .dat false [.sc (.int .i64 a1)], .dat false [.sc (.int .i64 a2)]] [(false, [.sc (.bool r)])] [.dat false [.sc (.int .i64 a0)], .dat false [.sc (.int .i64 a1)], .dat false [.sc (.int .i64 a2)]] := by
 refine ACalls.en Try.func79 Try.ntmps79 .go .go .go .go ?_
 intro C F hC hP hF hn (hx : C.fx = [])
 have kp : KL [0, 1, 2, 6] := ⟨⟩
 have kr : KR #[.tmp 6] := ⟨⟩
 simp only [impl_within.f] at H
 apply BZ.out
 exact BZ.go
set_option maxHeartbeats 8000000 in
theorem impl_isNode.link {l0_0 : List (S77)} {l0_1 : List (S106)} {l0_2 : List (S103)} {a1 : Int} {r : Bool} (H : impl_isNode.f l0_0 l0_1 l0_2 a1 = some r) : ACalls Try.prog 78 [.dat true [.sl none 6 (List.flatMap e77 l0_0), .sl none 4 (List.flatMap e106 l0_1), .sl none 4 (List.flatMap e103 l0_2)], .dat false [.sc (.int .i64 a1)]] [(false, [.sc (.bool r)])] [.dat true [.sl none 6 (List.flatMap e77 l0_0), .sl none 4 (List.flatMap e106 l0_1), .sl none 4 (List.flatMap e103 l0_2)], .dat false [.sc (.int .i64 a1)]] := by
 refine ACalls.en Try.func78 Try.ntmps78 .go .go .go .go ?_
 intro C F hC hP hF hn (hx : C.fx = [])
 have kp : KL [0, 1, 2, 4] := ⟨⟩
 have kr : KR #[.tmp 4] := ⟨⟩
 have c0 := Hold.mk @impl_within.link
 simp only [impl_isNode.f] at H
 apply BZ.out
 exact BZ.go
end Go.Proofs.Ytmbkcbgbienjoaa.PFnExactShared
