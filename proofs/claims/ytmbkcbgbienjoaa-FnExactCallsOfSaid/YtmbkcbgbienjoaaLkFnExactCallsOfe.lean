/- Functions' walks: each computes what its plain form says. No condition. -/
import Derived.Test.YtmbkcbgbienjoaaLkFnExactCallsOfh
import Derived.Test.YtmbkcbgbienjoaaLkFnExactCallsOfb
import Derived.Test.YtmbkcbgbienjoaaLkFnExactCallsOfd
open Go Go.Proofs Go.Proofs.Ytmbkcbgbienjoaa.Abs
namespace Go.Proofs.Ytmbkcbgbienjoaa.PFnExactCallsOf
open Go.RowKit Go.Proofs.YtmbkcbgbienjoaaW.PrintWords Go.Proofs.YtmbkcbgbienjoaaW.PrintLast Go.Proofs.YtmbkcbgbienjoaaW.PrintMore
set_option linter.unusedVariables false
set_option linter.unusedSimpArgs false
set_option maxRecDepth 100000
attribute [local irreducible] evK evQ evM evF evW evH goE goK goKD goQ goQD goD Ok ACalls
set_option maxHeartbeats 8000000 in
theorem spec_l05Deeps.link {k : Nat} {l0_0 : List (S77)} {l0_1 : List (S106)} {l0_2 : List (S103)} {r : List Int} (H : spec_l05Deeps.f k l0_0 l0_1 l0_2 = some r) : ACalls Try.prog 83 [.dat true [.sl none 6 (List.flatMap e77 l0_0), .sl none 4 (List.flatMap e106 l0_1), .sl none 4 (List.flatMap e103 l0_2)]] [(false, [.sl (some 0) 1 (List.flatMap eI r)])] [.dat true [.sl none 6 (List.flatMap e77 l0_0), .sl none 4 (List.flatMap e106 l0_1), .sl none 4 (List.flatMap e103 l0_2)]] := by
 refine ACalls.en Try.func83 Try.ntmps83 .go .go .go .go ?_
 intro C F hC hP hF hn (hx : C.fx = [])
 have kp : KL [0, 1, 2, 3, 4, 5, 6, 12, 17, 26, 43, 70] := ⟨⟩
 have kr : KR #[.tmp 2] := ⟨⟩
 have c0 := Hold.mk @spec_NodeOk.link
 simp only [spec_l05Deeps.f] at H
 have w0 : LJ [1, 3, 4] (fun q X => ∃ x3, ∃ x4, ∃ x327000, ∃ x327001, ∃ x327002, X = ⟨[(1, .pl 0 none 0), (3, .bor 1 none 0 1 false), (4, .dat false [.sc (.int .i64 x4)])], [(0, .mem [.sl none 6 (List.flatMap e77 x327000), .sl none 4 (List.flatMap e106 x327001), .sl none 4 (List.flatMap e103 x327002)]), (1, .vir [.sl (some 0) 1 (List.flatMap eI x3)])]⟩ ∧ q ≤ k ∧ spec_l05Deeps.l0 q x3 x4 x327000 x327001 x327002 = some r) := ⟨⟩
 apply late
 · intro lp0
   apply BZa.out
   exact BZa.go
 · intro q1 X hJ ih0
   clear H
   obtain ⟨x3, x4, x327000, x327001, x327002, rfl, hq, H⟩ := hJ
   cases q1 with
   | zero => (simp only [spec_l05Deeps.l0] at H; cases H)
   | succ kq1 =>
    simp only [spec_l05Deeps.l0] at H
    have w1 : LJ [1, 3, 4, 5, 6] (fun q X => ∃ x3, ∃ x4, ∃ x5, ∃ x6, ∃ x327000, ∃ x327001, ∃ x327002, X = ⟨[(1, .pl 0 none 0), (3, .bor 1 none 0 1 false), (4, .dat false [.sc (.int .i64 x4)]), (5, .dat false [.sc (.int .i64 x5)]), (6, .dat false [.sc (.int .i64 x6)])], [(0, .mem [.sl none 6 (List.flatMap e77 x327000), .sl none 4 (List.flatMap e106 x327001), .sl none 4 (List.flatMap e103 x327002)]), (1, .vir [.sl (some 0) 1 (List.flatMap eI x3)])]⟩ ∧ q ≤ kq1 ∧ spec_l05Deeps.l1 q x3 x4 x5 x6 x327000 x327001 x327002 = some r) := ⟨⟩
    apply late
    · intro lp1
      apply BZna.out
      exact BZna.go
    · intro q2 X hJ ih1
      clear H
      obtain ⟨x3, x4, x5, x6, x327000, x327001, x327002, rfl, hq, H⟩ := hJ
      cases q2 with
      | zero => (simp only [spec_l05Deeps.l1] at H; cases H)
      | succ kq2 =>
       simp only [spec_l05Deeps.l1] at H
       apply BZna.out
       exact BZna.go
set_option maxHeartbeats 8000000 in
theorem spec_DeepOf.link {k : Nat} {l0_0 : List (S77)} {l0_1 : List (S106)} {l0_2 : List (S103)} {a1 : Int} {r : Int} (H : spec_DeepOf.f k l0_0 l0_1 l0_2 a1 = some r) : ACalls Try.prog 37 [.dat true [.sl none 6 (List.flatMap e77 l0_0), .sl none 4 (List.flatMap e106 l0_1), .sl none 4 (List.flatMap e103 l0_2)], .dat false [.sc (.int .i64 a1)]] [(false, [.sc (.int .i64 r)])] [.dat true [.sl none 6 (List.flatMap e77 l0_0), .sl none 4 (List.flatMap e106 l0_1), .sl none 4 (List.flatMap e103 l0_2)], .dat false [.sc (.int .i64 a1)]] := by
 refine ACalls.en Try.func37 Try.ntmps37 .go .go .go .go ?_
 intro C F hC hP hF hn (hx : C.fx = [])
 have kp : KL [0, 1, 2, 4, 11] := ⟨⟩
 have kr : KR #[.tmp 4] := ⟨⟩
 have c0 := Hold.mk @spec_l01In.link
 have c1 := Hold.mk @spec_l05Deeps.link
 simp only [spec_DeepOf.f] at H
 apply BZn.out
 exact BZn.go
attribute [-go_sem] eB_rep List.length_replicate in
attribute [local go_sem] eB_per in
set_option maxHeartbeats 8000000 in
theorem spec_l08Under.link {k : Nat} {l0_0 : List (S77)} {l0_1 : List (S106)} {l0_2 : List (S103)} {a1 : Int} {r : List Bool} (H : spec_l08Under.f k l0_0 l0_1 l0_2 a1 = some r) : ACalls Try.prog 85 [.dat true [.sl none 6 (List.flatMap e77 l0_0), .sl none 4 (List.flatMap e106 l0_1), .sl none 4 (List.flatMap e103 l0_2)], .dat false [.sc (.int .i64 a1)]] [(false, [.sl (some 0) 1 (List.flatMap eB r)])] [.dat true [.sl none 6 (List.flatMap e77 l0_0), .sl none 4 (List.flatMap e106 l0_1), .sl none 4 (List.flatMap e103 l0_2)], .dat false [.sc (.int .i64 a1)]] := by
 refine ACalls.en Try.func85 Try.ntmps85 .go .go .go .go ?_
 intro C F hC hP hF hn (hx : C.fx = [])
 have kp : KL [0, 1, 2, 4, 5, 6, 7, 17, 34] := ⟨⟩
 have kr : KR #[.tmp 4] := ⟨⟩
 simp only [spec_l08Under.f] at H
 have w0 : LJ [2, 5, 6] (fun q X => ∃ x5, ∃ x6, ∃ x371000, ∃ x371001, ∃ x371002, X = ⟨[(2, .pl 0 none 0), (5, .bor 1 none 0 1 false), (6, .dat false [.sc (.int .i64 x6)])], [(0, .mem [.sl none 6 (List.flatMap e77 x371000), .sl none 4 (List.flatMap e106 x371001), .sl none 4 (List.flatMap e103 x371002)]), (1, .vir [.sl (some 0) 1 (List.flatMap eB x5)])]⟩ ∧ q ≤ k ∧ spec_l08Under.l0 q x5 x6 x371000 x371001 x371002 = some r) := ⟨⟩
 apply late
 · intro lp0
   apply BZn.out
   exact BZn.go
 · intro q1 X hJ ih0
   clear H
   obtain ⟨x5, x6, x371000, x371001, x371002, rfl, hq, H⟩ := hJ
   cases q1 with
   | zero => (simp only [spec_l08Under.l0] at H; cases H)
   | succ kq1 =>
    simp only [spec_l08Under.l0] at H
    have w1 : LJ [2, 5, 6, 7] (fun q X => ∃ x5, ∃ x6, ∃ x7, ∃ x371000, ∃ x371001, ∃ x371002, X = ⟨[(2, .pl 0 none 0), (5, .bor 1 none 0 1 false), (6, .dat false [.sc (.int .i64 x6)]), (7, .dat false [.sc (.int .i64 x7)])], [(0, .mem [.sl none 6 (List.flatMap e77 x371000), .sl none 4 (List.flatMap e106 x371001), .sl none 4 (List.flatMap e103 x371002)]), (1, .vir [.sl (some 0) 1 (List.flatMap eB x5)])]⟩ ∧ q ≤ kq1 ∧ spec_l08Under.l1 q x5 x6 x7 x371000 x371001 x371002 = some r) := ⟨⟩
    apply late
    · intro lp1
      apply BZ.out
      exact BZ.go
    · intro q2 X hJ ih1
      clear H
      obtain ⟨x5, x6, x7, x371000, x371001, x371002, rfl, hq, H⟩ := hJ
      cases q2 with
      | zero => (simp only [spec_l08Under.l1] at H; cases H)
      | succ kq2 =>
       simp only [spec_l08Under.l1] at H
       apply BZn.out
       exact BZn.go
set_option maxHeartbeats 8000000 in
theorem spec_NodesUnder.link {k : Nat} {l0_0 : List (S77)} {l0_1 : List (S106)} {l0_2 : List (S103)} {a1 : Int} {r : List Int} (H : spec_NodesUnder.f k l0_0 l0_1 l0_2 a1 = some r) : ACalls Try.prog 41 [.dat true [.sl none 6 (List.flatMap e77 l0_0), .sl none 4 (List.flatMap e106 l0_1), .sl none 4 (List.flatMap e103 l0_2)], .dat false [.sc (.int .i64 a1)]] [(false, [.sl (some 0) 1 (List.flatMap eI r)])] [.dat true [.sl none 6 (List.flatMap e77 l0_0), .sl none 4 (List.flatMap e106 l0_1), .sl none 4 (List.flatMap e103 l0_2)], .dat false [.sc (.int .i64 a1)]] := by
 refine ACalls.en Try.func41 Try.ntmps41 .go .go .go .go ?_
 intro C F hC hP hF hn (hx : C.fx = [])
 have kp : KL [0, 1, 2, 4, 5, 6, 7, 12, 20, 26] := ⟨⟩
 have kr : KR #[.tmp 4] := ⟨⟩
 have c0 := Hold.mk @spec_DeepOf.link
 have c1 := Hold.mk @spec_l08Under.link
 simp only [spec_NodesUnder.f] at H
 have w0 : LJ [5, 6, 7] (fun q X => ∃ x5, ∃ x6, ∃ x7, X = ⟨[(5, .bor 0 none 0 1 false), (6, .bor 1 none 0 1 false), (7, .dat false [.sc (.int .i64 x7)])], [(0, .vir [.sl (some 0) 1 (List.flatMap eI x5)]), (1, .vir [.sl (some 0) 1 (List.flatMap eB x6)])]⟩ ∧ q ≤ k ∧ spec_NodesUnder.l0 q x5 x6 x7 = some r) := ⟨⟩
 apply late
 · intro lp0
   apply BZa.out
   exact BZa.go
 · intro q1 X hJ ih0
   clear H
   obtain ⟨x5, x6, x7, rfl, hq, H⟩ := hJ
   cases q1 with
   | zero => (simp only [spec_NodesUnder.l0] at H; cases H)
   | succ kq1 =>
    simp only [spec_NodesUnder.l0] at H
    apply BZna.out
    exact BZna.go
set_option maxHeartbeats 8000000 in
theorem spec_CallsOf.link {k : Nat} {l0_0 : List (S77)} {l0_1 : List (S106)} {l0_2 : List (S103)} {a1 : Int} {r : List Int} (H : spec_CallsOf.f k l0_0 l0_1 l0_2 a1 = some r) : ACalls Try.prog 45 [.dat true [.sl none 6 (List.flatMap e77 l0_0), .sl none 4 (List.flatMap e106 l0_1), .sl none 4 (List.flatMap e103 l0_2)], .dat false [.sc (.int .i64 a1)]] [(false, [.sl (some 0) 1 (List.flatMap eI r)])] [.dat true [.sl none 6 (List.flatMap e77 l0_0), .sl none 4 (List.flatMap e106 l0_1), .sl none 4 (List.flatMap e103 l0_2)], .dat false [.sc (.int .i64 a1)]] := by
 refine ACalls.en Try.func45 Try.ntmps45 .go .go .go .go ?_
 intro C F hC hP hF hn (hx : C.fx = [])
 have kp : KL [0, 1, 2, 4, 5, 6, 7, 8, 9, 10, 18, 32, 38, 66] := ⟨⟩
 have kr : KR #[.tmp 4] := ⟨⟩
 have kd0 : KD 4 (noneL [0, 1, 2, 3, 4, 5, 6] ++ ((7, some []) :: (noneL [8] ++ []))) := ⟨⟩
 have kd1 : KD 12 (noneL [0, 1, 2, 3, 4, 5, 6, 7] ++ ((8, some [7, 6, 5, 4, 3, 2, 1, 0]) :: ((9, some []) :: ([])))) := ⟨⟩
 have kd2 : KD 13 (noneL [0, 1, 2, 3, 4, 5, 6, 7, 8, 9, 10, 11, 12, 13, 14, 15, 16] ++ ((17, some []) :: ([]))) := ⟨⟩
 have c0 := Hold.mk @spec_l01In.link
 have c1 := Hold.mk @spec_NodesUnder.link
 simp only [spec_CallsOf.f] at H
 have w0 : LJ [2, 5, 6, 7] (fun q X => ∃ x5, ∃ x6, ∃ x7, ∃ x393000, ∃ x393001, ∃ x393002, X = ⟨[(2, .pl 0 none 0), (5, .bor 1 none 0 1 false), (6, .bor 2 none 0 1 false), (7, .dat false [.sc (.int .i64 x7)])], [(0, .mem [.sl none 6 (List.flatMap e77 x393000), .sl none 4 (List.flatMap e106 x393001), .sl none 4 (List.flatMap e103 x393002)]), (1, .vir [.sl (some 0) 1 (List.flatMap eI x5)]), (2, .vir [.sl (some 0) 1 (List.flatMap eI x6)])]⟩ ∧ q ≤ k ∧ spec_CallsOf.l0 q x5 x6 x7 x393000 x393001 x393002 = some r) := ⟨⟩
 apply late
 · intro lp0
   apply BZna.out
   exact BZna.go
 · intro q1 X hJ ih0
   clear H
   obtain ⟨x5, x6, x7, x393000, x393001, x393002, rfl, hq, H⟩ := hJ
   cases q1 with
   | zero => (simp only [spec_CallsOf.l0] at H; cases H)
   | succ kq1 =>
    simp only [spec_CallsOf.l0] at H
    have w1 : LJ [2, 5, 6, 7, 8, 9] (fun q X => ∃ x5, ∃ x6, ∃ x7, ∃ x8, ∃ x9, ∃ x393000, ∃ x393001, ∃ x393002, X = ⟨[(2, .pl 0 none 0), (5, .bor 1 none 0 1 false), (6, .bor 2 none 0 1 false), (7, .dat false [.sc (.int .i64 x7)]), (8, .dat false [.sc (.bool x8)]), (9, .dat false [.sc (.int .i64 x9)])], [(0, .mem [.sl none 6 (List.flatMap e77 x393000), .sl none 4 (List.flatMap e106 x393001), .sl none 4 (List.flatMap e103 x393002)]), (1, .vir [.sl (some 0) 1 (List.flatMap eI x5)]), (2, .vir [.sl (some 0) 1 (List.flatMap eI x6)])]⟩ ∧ q ≤ kq1 ∧ spec_CallsOf.l1 q x5 x6 x7 x8 x9 x393000 x393001 x393002 = some r) := ⟨⟩
    apply late
    · intro lp1
      apply BZa.out
      exact BZa.go
    · intro q2 X hJ ih1
      clear H
      obtain ⟨x5, x6, x7, x8, x9, x393000, x393001, x393002, rfl, hq, H⟩ := hJ
      cases q2 with
      | zero => (simp only [spec_CallsOf.l1] at H; cases H)
      | succ kq2 =>
       simp only [spec_CallsOf.l1] at H
       apply BZna.out
       exact BZna.go
set_option maxHeartbeats 8000000 in
theorem impl_within.link {a0 : Int} {a1 : Int} {a2 : Int} {r : Bool} (H : impl_within.f a0 a1 a2 = some r) : ACalls Try.prog 79 [.dat false [.sc (.int .i64 a0)], .dat false [.sc (.int .i64 a1)], .dat false [.sc (.int .i64 a2)]] [(false, [.sc (.bool r)])] [.dat false [.sc (.int .i64 a0)], .dat false [.sc (.int .i64 a1)], .dat false [.sc (.int .i64 a2)]] := by
 refine ACalls.en Try.func79 Try.ntmps79 .go .go .go .go ?_
 intro C F hC hP hF hn (hx : C.fx = [])
 have kp : KL [0, 1, 2, 6] := ⟨⟩
 have kr : KR #[.tmp 6] := ⟨⟩
 simp only [impl_within.f] at H
 apply BZ.out
 exact BZ.go
set_option maxHeartbeats 8000000 in
theorem impl_isNode.link {l0_0 : List (S77)} {l0_1 : List (S106)} {l0_2 : List (S103)} {a1 : Int} {r : Bool} (H : impl_isNode.f l0_0 l0_1 l0_2 a1 = some r) : ACalls Try.prog 78 [.dat true [.sl none 6 (List.flatMap e77 l0_0), .sl none 4 (List.flatMap e106 l0_1), .sl none 4 (List.flatMap e103 l0_2)], .dat false [.sc (.int .i64 a1)]] [(false, [.sc (.bool r)])] [.dat true [.sl none 6 (List.flatMap e77 l0_0), .sl none 4 (List.flatMap e106 l0_1), .sl none 4 (List.flatMap e103 l0_2)], .dat false [.sc (.int .i64 a1)]] := by
 refine ACalls.en Try.func78 Try.ntmps78 .go .go .go .go ?_
 intro C F hC hP hF hn (hx : C.fx = [])
 have kp : KL [0, 1, 2, 4] := ⟨⟩
 have kr : KR #[.tmp 4] := ⟨⟩
 have c0 := Hold.mk @impl_within.link
 simp only [impl_isNode.f] at H
 apply BZ.out
 exact BZ.go
set_option maxHeartbeats 8000000 in
theorem slices_Index_int_int.link {k : Nat} {l0 : List Int} {a1 : Int} {r : Int} (H : slices_Index_int_int.f k l0 a1 = some r) : ACalls Try.prog 127 [.dat false [.sl none 1 (List.flatMap eI l0)], .dat false [.sc (.int .i64 a1)]] [(false, [.sc (.int .i64 r)])] [.dat false [.sl none 1 (List.flatMap eI l0)], .dat false [.sc (.int .i64 a1)]] := by
 refine ACalls.en Try.func127 Try.ntmps127 .go .go .go .go ?_
 intro C F hC hP hF hn (hx : C.fx = [])
 have kp : KL [0, 1, 4, 5, 7, 8, 9, 16] := ⟨⟩
 have kr : KR #[.tmp 4] := ⟨⟩
 simp only [slices_Index_int_int.f] at H
 have w0 : LJ [0, 1, 7, 8] (fun q X => ∃ x0, ∃ x1, ∃ x7, ∃ x8, X = ⟨[(0, .dat false [.sl none 1 (List.flatMap eI x0)]), (1, .dat false [.sc (.int .i64 x1)]), (7, .dat false [.sc (.int .i64 x7)]), (8, .dat false [.sc (.int .i64 x8)])], []⟩ ∧ q ≤ k ∧ slices_Index_int_int.l0 q x0 x1 x7 x8 = some r) := ⟨⟩
 apply late
 · intro lp0
   apply BZ.out
   exact BZ.go
 · intro q1 X hJ ih0
   clear H
   obtain ⟨x0, x1, x7, x8, rfl, hq, H⟩ := hJ
   cases q1 with
   | zero => (simp only [slices_Index_int_int.l0] at H; cases H)
   | succ kq1 =>
    simp only [slices_Index_int_int.l0] at H
    apply BZn.out
    exact BZn.go
set_option maxHeartbeats 8000000 in
theorem slices_Contains_int_int.link {k : Nat} {l0 : List Int} {a1 : Int} {r : Bool} (H : slices_Contains_int_int.f k l0 a1 = some r) : ACalls Try.prog 80 [.dat false [.sl none 1 (List.flatMap eI l0)], .dat false [.sc (.int .i64 a1)]] [(false, [.sc (.bool r)])] [.dat false [.sl none 1 (List.flatMap eI l0)], .dat false [.sc (.int .i64 a1)]] := by
 refine ACalls.en Try.func80 Try.ntmps80 .go .go .go .go ?_
 intro C F hC hP hF hn (hx : C.fx = [])
 have kp : KL [0, 1, 4] := ⟨⟩
 have kr : KR #[.tmp 4] := ⟨⟩
 have c0 := Hold.mk @slices_Index_int_int.link
 simp only [slices_Contains_int_int.f] at H
 apply BZ.out
 exact BZ.go
set_option maxHeartbeats 8000000 in
theorem impl_isBlock.link {l0_0 : List (S77)} {l0_1 : List (S106)} {l0_2 : List (S103)} {a1 : Int} {r : Bool} (H : impl_isBlock.f l0_0 l0_1 l0_2 a1 = some r) : ACalls Try.prog 96 [.dat true [.sl none 6 (List.flatMap e77 l0_0), .sl none 4 (List.flatMap e106 l0_1), .sl none 4 (List.flatMap e103 l0_2)], .dat false [.sc (.int .i64 a1)]] [(false, [.sc (.bool r)])] [.dat true [.sl none 6 (List.flatMap e77 l0_0), .sl none 4 (List.flatMap e106 l0_1), .sl none 4 (List.flatMap e103 l0_2)], .dat false [.sc (.int .i64 a1)]] := by
 refine ACalls.en Try.func96 Try.ntmps96 .go .go .go .go ?_
 intro C F hC hP hF hn (hx : C.fx = [])
 have kp : KL [0, 1, 2, 4] := ⟨⟩
 have kr : KR #[.tmp 4] := ⟨⟩
 have c0 := Hold.mk @impl_isNode.link
 simp only [impl_isBlock.f] at H
 apply BZn.out
 exact BZn.go
set_option maxHeartbeats 8000000 in
theorem impl_isValue.link {l0_0 : List (S77)} {l0_1 : List (S106)} {l0_2 : List (S103)} {a1 : Int} {r : Bool} (H : impl_isValue.f l0_0 l0_1 l0_2 a1 = some r) : ACalls Try.prog 102 [.dat true [.sl none 6 (List.flatMap e77 l0_0), .sl none 4 (List.flatMap e106 l0_1), .sl none 4 (List.flatMap e103 l0_2)], .dat false [.sc (.int .i64 a1)]] [(false, [.sc (.bool r)])] [.dat true [.sl none 6 (List.flatMap e77 l0_0), .sl none 4 (List.flatMap e106 l0_1), .sl none 4 (List.flatMap e103 l0_2)], .dat false [.sc (.int .i64 a1)]] := by
 refine ACalls.en Try.func102 Try.ntmps102 .go .go .go .go ?_
 intro C F hC hP hF hn (hx : C.fx = [])
 have kp : KL [0, 1, 2, 4] := ⟨⟩
 have kr : KR #[.tmp 4] := ⟨⟩
 have c0 := Hold.mk @impl_within.link
 have c1 := Hold.mk @impl_isNode.link
 simp only [impl_isValue.f] at H
 apply BZn.out
 exact BZn.go
set_option maxHeartbeats 8000000 in
theorem impl_isStatement.link {l0_0 : List (S77)} {l0_1 : List (S106)} {l0_2 : List (S103)} {a1 : Int} {r : Bool} (H : impl_isStatement.f l0_0 l0_1 l0_2 a1 = some r) : ACalls Try.prog 128 [.dat true [.sl none 6 (List.flatMap e77 l0_0), .sl none 4 (List.flatMap e106 l0_1), .sl none 4 (List.flatMap e103 l0_2)], .dat false [.sc (.int .i64 a1)]] [(false, [.sc (.bool r)])] [.dat true [.sl none 6 (List.flatMap e77 l0_0), .sl none 4 (List.flatMap e106 l0_1), .sl none 4 (List.flatMap e103 l0_2)], .dat false [.sc (.int .i64 a1)]] := by
 refine ACalls.en Try.func128 Try.ntmps128 .go .go .go .go ?_
 intro C F hC hP hF hn (hx : C.fx = [])
 have kp : KL [0, 1, 2, 4] := ⟨⟩
 have kr : KR #[.tmp 4] := ⟨⟩
 have c0 := Hold.mk @impl_within.link
 have c1 := Hold.mk @impl_isNode.link
 simp only [impl_isStatement.f] at H
 apply BZn.out
 exact BZn.go
attribute [-go_sem] o77_set o77_st in
attribute [local go_sem] o77_fold o77_fold2 o77_ats o77_rows o77_get o77_rd List.set_set List.length_set in
set_option maxHeartbeats 8000000 in
theorem laws_markNodeS.link {k : Nat} {l0 : List (S77)} {a1 : Int} {r : Int × (List (S77))} (H : laws_markNodeS.f k l0 a1 = some r) : MCalls Try.prog 67 false [.sl (some 0) 6 (List.flatMap o77 l0)] [.int .i64 a1] (some (.int .i64 r.1)) [.sl (some 0) 6 (List.flatMap o77 r.2)] := by
 refine MCalls.en Try.func67 Try.ntmps67 .go .go .go .go .go ?_
 intro C F hC hP hF hn (hx : C.fx = [])
 have kp : KL [0, 1, 4, 5, 9] := ⟨⟩
 have kr : KR #[.tmp 4] := ⟨⟩
 have c0 := Hold.mk @laws_markText.link
 have d0 := Hold.mk @laws_markIntS.link
 simp only [laws_markNodeS.f] at H
 have w0 : LJ [0, 1, 5] (fun q X => ∃ x0, ∃ x1, ∃ x5, X = ⟨[(0, .bor 0 none 0 1 false), (1, .dat false [.sc (.int .i64 x1)]), (5, .dat false [.sc (.int .i64 x5)])], [(0, .vir [.sl (some 1) 6 (List.flatMap o77 x0)])]⟩ ∧ q ≤ k ∧ laws_markNodeS.l0 q x0 x1 x5 = some r) := ⟨⟩
 apply late
 · intro lp0
   apply BZnm.out
   exact BZnm.go
 · intro q1 X hJ ih0
   clear H
   obtain ⟨x0, x1, x5, rfl, hq, H⟩ := hJ
   cases q1 with
   | zero => (simp only [laws_markNodeS.l0] at H; cases H)
   | succ kq1 =>
    simp only [laws_markNodeS.l0] at H
    apply BZnm.out
    exact BZnm.go

attribute [-go_sem] o106_set o106_st in
attribute [local go_sem] o106_fold o106_fold2 o106_ats o106_rows o106_get o106_rd List.set_set List.length_set in
set_option maxHeartbeats 8000000 in
theorem laws_markMonitorS.link {k : Nat} {l0 : List (S106)} {a1 : Int} {r : Int × (List (S106))} (H : laws_markMonitorS.f k l0 a1 = some r) : MCalls Try.prog 68 false [.sl (some 0) 4 (List.flatMap o106 l0)] [.int .i64 a1] (some (.int .i64 r.1)) [.sl (some 0) 4 (List.flatMap o106 r.2)] := by
 refine MCalls.en Try.func68 Try.ntmps68 .go .go .go .go .go ?_
 intro C F hC hP hF hn (hx : C.fx = [])
 have kp : KL [0, 1, 4, 5, 9] := ⟨⟩
 have kr : KR #[.tmp 4] := ⟨⟩
 have c0 := Hold.mk @laws_markText.link
 have d0 := Hold.mk @laws_markStringS.link
 have d1 := Hold.mk @laws_markEntryS.link
 simp only [laws_markMonitorS.f] at H
 have w0 : LJ [0, 1, 5] (fun q X => ∃ x0, ∃ x1, ∃ x5, X = ⟨[(0, .bor 0 none 0 1 false), (1, .dat false [.sc (.int .i64 x1)]), (5, .dat false [.sc (.int .i64 x5)])], [(0, .vir [.sl (some 1) 4 (List.flatMap o106 x0)])]⟩ ∧ q ≤ k ∧ laws_markMonitorS.l0 q x0 x1 x5 = some r) := ⟨⟩
 apply late
 · intro lp0
   apply BZnm.out
   exact BZnm.go
 · intro q1 X hJ ih0
   clear H
   obtain ⟨x0, x1, x5, rfl, hq, H⟩ := hJ
   cases q1 with
   | zero => (simp only [laws_markMonitorS.l0] at H; cases H)
   | succ kq1 =>
    simp only [laws_markMonitorS.l0] at H
    apply BZnm.out
    exact BZnm.go

end Go.Proofs.Ytmbkcbgbienjoaa.PFnExactCallsOf
