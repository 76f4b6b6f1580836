/- Functions' walks: each computes what its plain form says. No condition. -/
import Derived.Test.YtmbkcbgbienjoaaLkFnExactSharedh
import Derived.Test.YtmbkcbgbienjoaaLkFnExactSharedb
open Go Go.Proofs Go.Proofs.Ytmbkcbgbienjoaa.Abs
namespace Go.Proofs.Ytmbkcbgbienjoaa.PFnExactShared
open Go.RowKit Go.Proofs.YtmbkcbgbienjoaaW.PrintWords Go.Proofs.YtmbkcbgbienjoaaW.PrintLast Go.Proofs.YtmbkcbgbienjoaaW.PrintMore
set_option linter.unusedVariables false
set_option linter.unusedSimpArgs false
set_option maxRecDepth 100000
attribute [local irreducible] evK evQ evM evF evW evH goE goK goKD goQ goQD goD Ok ACalls
set_option maxHeartbeats 8000000 in
theorem laws_eqMonitorS.link {k : Nat} {l0 : List (S106)} {l1 : List (S106)} {r : Bool} (H : laws_eqMonitorS.f k l0 l1 = some r) : ACalls Try.prog 63 [.dat false [.sl none 4 (List.flatMap e106 l0)], .dat false [.sl none 4 (List.flatMap e106 l1)]] [(false, [.sc (.bool r)])] [.dat false [.sl none 4 (List.flatMap e106 l0)], .dat false [.sl none 4 (List.flatMap e106 l1)]] := by
 refine ACalls.en Try.func63 Try.ntmps63 .go .go .go .go ?_
 intro C F hC hP hF hn (hx : C.fx = [])
 have kp : KL [0, 1, 4, 5, 10, 14, 26] := ⟨⟩
 have kr : KR #[.tmp 4] := ⟨⟩
 have kd0 : KD 6 (noneL [0, 1, 2, 3, 4, 5, 6, 7] ++ ((8, some []) :: (noneL [9] ++ []))) := ⟨⟩
 have c0 := Hold.mk @laws_eqMonitor.link
 simp only [laws_eqMonitorS.f] at H
 have w0 : LJ [0, 1, 5] (fun q X => ∃ x0, ∃ x1, ∃ x5, X = ⟨[(0, .dat false [.sl none 4 (List.flatMap e106 x0)]), (1, .dat false [.sl none 4 (List.flatMap e106 x1)]), (5, .dat false [.sc (.int .i64 x5)])], []⟩ ∧ q ≤ k ∧ laws_eqMonitorS.l0 q x0 x1 x5 = some r) := ⟨⟩
 apply late
 · intro lp0
   apply BZ.out
   exact BZ.go
 · intro q1 X hJ ih0
   clear H
   obtain ⟨x0, x1, x5, rfl, hq, H⟩ := hJ
   cases q1 with
   | zero => (simp only [laws_eqMonitorS.l0] at H; cases H)
   | succ kq1 =>
    simp only [laws_eqMonitorS.l0] at H
    apply BZn.out
    exact BZn.go
set_option maxHeartbeats 8000000 in
theorem laws_eqProcess.link {k : Nat} {a0_0 : ByteArray} {l0_1 : List ByteArray} {l0_2 : List ByteArray} {a0_3 : Int} {a1_0 : ByteArray} {l1_1 : List ByteArray} {l1_2 : List ByteArray} {a1_3 : Int} {r : Bool} (H : laws_eqProcess.f k a0_0 l0_1 l0_2 a0_3 a1_0 l1_1 l1_2 a1_3 = some r) : ACalls Try.prog 117 [.dat true [.sc (.string a0_0), .sl none 1 (List.flatMap eS l0_1), .sl none 1 (List.flatMap eS l0_2), .sc (.int .i64 a0_3)], .dat true [.sc (.string a1_0), .sl none 1 (List.flatMap eS l1_1), .sl none 1 (List.flatMap eS l1_2), .sc (.int .i64 a1_3)]] [(false, [.sc (.bool r)])] [.dat true [.sc (.string a0_0), .sl none 1 (List.flatMap eS l0_1), .sl none 1 (List.flatMap eS l0_2), .sc (.int .i64 a0_3)], .dat true [.sc (.string a1_0), .sl none 1 (List.flatMap eS l1_1), .sl none 1 (List.flatMap eS l1_2), .sc (.int .i64 a1_3)]] := by
 refine ACalls.en Try.func117 Try.ntmps117 .go .go .go .go ?_
 intro C F hC hP hF hn (hx : C.fx = [])
 have kp : KL [0, 1, 2, 3, 4, 9, 15, 21, 26] := ⟨⟩
 have kr : KR #[.tmp 4] := ⟨⟩
 have c0 := Hold.mk @laws_eqStringS.link
 simp only [laws_eqProcess.f] at H
 apply BZ.out
 exact BZ.go
set_option maxHeartbeats 8000000 in
theorem laws_eqProcessS.link {k : Nat} {l0 : List (S103)} {l1 : List (S103)} {r : Bool} (H : laws_eqProcessS.f k l0 l1 = some r) : ACalls Try.prog 64 [.dat false [.sl none 4 (List.flatMap e103 l0)], .dat false [.sl none 4 (List.flatMap e103 l1)]] [(false, [.sc (.bool r)])] [.dat false [.sl none 4 (List.flatMap e103 l0)], .dat false [.sl none 4 (List.flatMap e103 l1)]] := by
 refine ACalls.en Try.func64 Try.ntmps64 .go .go .go .go ?_
 intro C F hC hP hF hn (hx : C.fx = [])
 have kp : KL [0, 1, 4, 5, 10, 14, 26] := ⟨⟩
 have kr : KR #[.tmp 4] := ⟨⟩
 have kd0 : KD 6 (noneL [0, 1, 2, 3, 4, 5, 6, 7] ++ ((8, some []) :: (noneL [9] ++ []))) := ⟨⟩
 have c0 := Hold.mk @laws_eqProcess.link
 simp only [laws_eqProcessS.f] at H
 have w0 : LJ [0, 1, 5] (fun q X => ∃ x0, ∃ x1, ∃ x5, X = ⟨[(0, .dat false [.sl none 4 (List.flatMap e103 x0)]), (1, .dat false [.sl none 4 (List.flatMap e103 x1)]), (5, .dat false [.sc (.int .i64 x5)])], []⟩ ∧ q ≤ k ∧ laws_eqProcessS.l0 q x0 x1 x5 = some r) := ⟨⟩
 apply late
 · intro lp0
   apply BZ.out
   exact BZ.go
 · intro q1 X hJ ih0
   clear H
   obtain ⟨x0, x1, x5, rfl, hq, H⟩ := hJ
   cases q1 with
   | zero => (simp only [laws_eqProcessS.l0] at H; cases H)
   | succ kq1 =>
    simp only [laws_eqProcessS.l0] at H
    apply BZn.out
    exact BZn.go
set_option maxHeartbeats 8000000 in
theorem laws_eqProgram.link {k : Nat} {l0_0 : List (S77)} {l0_1 : List (S106)} {l0_2 : List (S103)} {l1_0 : List (S77)} {l1_1 : List (S106)} {l1_2 : List (S103)} {r : Bool} (H : laws_eqProgram.f k l0_0 l0_1 l0_2 l1_0 l1_1 l1_2 = some r) : ACalls Try.prog 19 [.dat true [.sl none 6 (List.flatMap e77 l0_0), .sl none 4 (List.flatMap e106 l0_1), .sl none 4 (List.flatMap e103 l0_2)], .dat true [.sl none 6 (List.flatMap e77 l1_0), .sl none 4 (List.flatMap e106 l1_1), .sl none 4 (List.flatMap e103 l1_2)]] [(false, [.sc (.bool r)])] [.dat true [.sl none 6 (List.flatMap e77 l0_0), .sl none 4 (List.flatMap e106 l0_1), .sl none 4 (List.flatMap e103 l0_2)], .dat true [.sl none 6 (List.flatMap e77 l1_0), .sl none 4 (List.flatMap e106 l1_1), .sl none 4 (List.flatMap e103 l1_2)]] := by
 refine ACalls.en Try.func19 Try.ntmps19 .go .go .go .go ?_
 intro C F hC hP hF hn (hx : C.fx = [])
 have kp : KL [0, 1, 2, 3, 4, 10, 16, 22] := ⟨⟩
 have kr : KR #[.tmp 4] := ⟨⟩
 have c0 := Hold.mk @laws_eqNodeS.link
 have c1 := Hold.mk @laws_eqMonitorS.link
 have c2 := Hold.mk @laws_eqProcessS.link
 simp only [laws_eqProgram.f] at H
 apply BZ.out
 exact BZ.go
set_option maxHeartbeats 8000000 in
theorem spec_l01In.link {a0 : Int} {a1 : Int} {a2 : Int} {r : Bool} (H : spec_l01In.f a0 a1 a2 = some r) : ACalls Try.prog 73 [.dat false [.sc (.int .i64 a0)], .dat false [.sc (.int .i64 a1)], .dat false [.sc (.int .i64 a2)]] [(false, [.sc (.bool r)])] [.dat false [.sc (.int .i64 a0)], .dat false [.sc (.int .i64 a1)], .dat false [.sc (.int .i64 a2)]] := by
 refine ACalls.en Try.func73 Try.ntmps73 .go .go .go .go ?_
 intro C F hC hP hF hn (hx : C.fx = [])
 have kp : KL [0, 1, 2, 6] := ⟨⟩
 have kr : KR #[.tmp 6] := ⟨⟩
 simp only [spec_l01In.f] at H
 apply BZ.out
 exact BZ.go
set_option maxHeartbeats 8000000 in
theorem spec_l05Value.link {a0 : Int} {r : Bool} (H : spec_l05Value.f a0 = some r) : ACalls Try.prog 74 [.dat false [.sc (.int .i64 a0)]] [(false, [.sc (.bool r)])] [.dat false [.sc (.int .i64 a0)]] := by
 refine ACalls.en Try.func74 Try.ntmps74 .go .go .go .go ?_
 intro C F hC hP hF hn (hx : C.fx = [])
 have kp : KL [0, 2] := ⟨⟩
 have kr : KR #[.tmp 2] := ⟨⟩
 have c0 := Hold.mk @spec_l01In.link
 simp only [spec_l05Value.f] at H
 apply BZ.out
 exact BZ.go
set_option maxHeartbeats 8000000 in
theorem spec_l05Statement.link {a0 : Int} {r : Bool} (H : spec_l05Statement.f a0 = some r) : ACalls Try.prog 75 [.dat false [.sc (.int .i64 a0)]] [(false, [.sc (.bool r)])] [.dat false [.sc (.int .i64 a0)]] := by
 refine ACalls.en Try.func75 Try.ntmps75 .go .go .go .go ?_
 intro C F hC hP hF hn (hx : C.fx = [])
 have kp : KL [0, 2] := ⟨⟩
 have kr : KR #[.tmp 2] := ⟨⟩
 have c0 := Hold.mk @spec_l01In.link
 simp only [spec_l05Statement.f] at H
 apply BZ.out
 exact BZ.go
set_option maxHeartbeats 8000000 in
theorem spec_l05Kid.link {l0_0 : List (S77)} {l0_1 : List (S106)} {l0_2 : List (S103)} {a1 : Int} {a2 : Int} {r : Int} (H : spec_l05Kid.f l0_0 l0_1 l0_2 a1 a2 = some r) : ACalls Try.prog 125 [.dat true [.sl none 6 (List.flatMap e77 l0_0), .sl none 4 (List.flatMap e106 l0_1), .sl none 4 (List.flatMap e103 l0_2)], .dat false [.sc (.int .i64 a1)], .dat false [.sc (.int .i64 a2)]] [(false, [.sc (.int .i64 r)])] [.dat true [.sl none 6 (List.flatMap e77 l0_0), .sl none 4 (List.flatMap e106 l0_1), .sl none 4 (List.flatMap e103 l0_2)], .dat false [.sc (.int .i64 a1)], .dat false [.sc (.int .i64 a2)]] := by
 refine ACalls.en Try.func125 Try.ntmps125 .go .go .go .go ?_
 intro C F hC hP hF hn (hx : C.fx = [])
 have kp : KL [0, 1, 2, 3, 6, 7, 21] := ⟨⟩
 have kr : KR #[.tmp 6] := ⟨⟩
 have c0 := Hold.mk @spec_l01In.link
 simp only [spec_l05Kid.f] at H
 apply BZn.out
 exact BZn.go
set_option maxHeartbeats 8000000 in
theorem spec_l05Values.link {k : Nat} {l0_0 : List (S77)} {l0_1 : List (S106)} {l0_2 : List (S103)} {a1 : Int} {a2 : Int} {r : Bool} (H : spec_l05Values.f k l0_0 l0_1 l0_2 a1 a2 = some r) : ACalls Try.prog 123 [.dat true [.sl none 6 (List.flatMap e77 l0_0), .sl none 4 (List.flatMap e106 l0_1), .sl none 4 (List.flatMap e103 l0_2)], .dat false [.sc (.int .i64 a1)], .dat false [.sc (.int .i64 a2)]] [(false, [.sc (.bool r)])] [.dat true [.sl none 6 (List.flatMap e77 l0_0), .sl none 4 (List.flatMap e106 l0_1), .sl none 4 (List.flatMap e103 l0_2)], .dat false [.sc (.int .i64 a1)], .dat false [.sc (.int .i64 a2)]] := by
 refine ACalls.en Try.func123 Try.ntmps123 .go .go .go .go ?_
 intro C F hC hP hF hn (hx : C.fx = [])
 have kp : KL [0, 1, 2, 3, 6, 7, 10, 18] := ⟨⟩
 have kr : KR #[.tmp 6] := ⟨⟩
 have c0 := Hold.mk @spec_l05Value.link
 have c1 := Hold.mk @spec_l05Kid.link
 simp only [spec_l05Values.f] at H
 have w0 : LJ [1, 2, 3, 7] (fun q X => ∃ x1, ∃ x2, ∃ x7, ∃ x268000, ∃ x268001, ∃ x268002, X = ⟨[(1, .dat false [.sc (.int .i64 x1)]), (2, .dat false [.sc (.int .i64 x2)]), (3, .pl 0 none 0), (7, .dat false [.sc (.int .i64 x7)])], [(0, .mem [.sl none 6 (List.flatMap e77 x268000), .sl none 4 (List.flatMap e106 x268001), .sl none 4 (List.flatMap e103 x268002)])]⟩ ∧ q ≤ k ∧ spec_l05Values.l0 q x1 x2 x7 x268000 x268001 x268002 = some r) := ⟨⟩
 apply late
 · intro lp0
   apply BZ.out
   exact BZ.go
 · intro q1 X hJ ih0
   clear H
   obtain ⟨x1, x2, x7, x268000, x268001, x268002, rfl, hq, H⟩ := hJ
   cases q1 with
   | zero => (simp only [spec_l05Values.l0] at H; cases H)
   | succ kq1 =>
    simp only [spec_l05Values.l0] at H
    apply BZ.out
    exact BZ.go
set_option maxHeartbeats 8000000 in
theorem spec_l05Blocks.link {k : Nat} {l0_0 : List (S77)} {l0_1 : List (S106)} {l0_2 : List (S103)} {a1 : Int} {a2 : Int} {r : Bool} (H : spec_l05Blocks.f k l0_0 l0_1 l0_2 a1 a2 = some r) : ACalls Try.prog 124 [.dat true [.sl none 6 (List.flatMap e77 l0_0), .sl none 4 (List.flatMap e106 l0_1), .sl none 4 (List.flatMap e103 l0_2)], .dat false [.sc (.int .i64 a1)], .dat false [.sc (.int .i64 a2)]] [(false, [.sc (.bool r)])] [.dat true [.sl none 6 (List.flatMap e77 l0_0), .sl none 4 (List.flatMap e106 l0_1), .sl none 4 (List.flatMap e103 l0_2)], .dat false [.sc (.int .i64 a1)], .dat false [.sc (.int .i64 a2)]] := by
 refine ACalls.en Try.func124 Try.ntmps124 .go .go .go .go ?_
 intro C F hC hP hF hn (hx : C.fx = [])
 have kp : KL [0, 1, 2, 3, 6, 7, 17, 24] := ⟨⟩
 have kr : KR #[.tmp 6] := ⟨⟩
 have c0 := Hold.mk @spec_l05Kid.link
 simp only [spec_l05Blocks.f] at H
 have w0 : LJ [1, 3, 7] (fun q X => ∃ x1, ∃ x7, ∃ x271000, ∃ x271001, ∃ x271002, X = ⟨[(1, .dat false [.sc (.int .i64 x1)]), (3, .pl 0 none 0), (7, .dat false [.sc (.int .i64 x7)])], [(0, .mem [.sl none 6 (List.flatMap e77 x271000), .sl none 4 (List.flatMap e106 x271001), .sl none 4 (List.flatMap e103 x271002)])]⟩ ∧ q ≤ k ∧ spec_l05Blocks.l0 q x1 x7 x271000 x271001 x271002 = some r) := ⟨⟩
 apply late
 · intro lp0
   apply BZ.out
   exact BZ.go
 · intro q1 X hJ ih0
   clear H
   obtain ⟨x1, x7, x271000, x271001, x271002, rfl, hq, H⟩ := hJ
   cases q1 with
   | zero => (simp only [spec_l05Blocks.l0] at H; cases H)
   | succ kq1 =>
    simp only [spec_l05Blocks.l0] at H
    apply BZn.out
    exact BZn.go
end Go.Proofs.Ytmbkcbgbienjoaa.PFnExactShared
