/- Functions' walks: each computes what its plain form says. No condition. -/
import Derived.Test.YtmbkcbgbienjoaaLkFnExactThreadNewh
import Derived.Test.YtmbkcbgbienjoaaLkFnExactThreadNewa
open Go Go.Proofs Go.Proofs.Ytmbkcbgbienjoaa.Abs
namespace Go.Proofs.Ytmbkcbgbienjoaa.PFnExactThreadNew
open Go.RowKit Go.Proofs.YtmbkcbgbienjoaaW.PrintWords Go.Proofs.YtmbkcbgbienjoaaW.PrintLast Go.Proofs.YtmbkcbgbienjoaaW.PrintMore
set_option linter.unusedVariables false
set_option linter.unusedSimpArgs false
set_option maxRecDepth 100000
attribute [local irreducible] evK evQ evM evF evW evH goE goK goKD goQ goQD goD Ok ACalls
set_option maxHeartbeats 8000000 in
theorem laws_toEntry.link {a0_0 : ByteArray} {a0_1 : ByteArray} {a0_2 : Int} {r : ByteArray × ByteArray × Int} (H : laws_toEntry.f a0_0 a0_1 a0_2 = some r) : ACalls Try.prog 149 [.dat true [.sc (.string a0_0), .sc (.string a0_1), .sc (.int .i64 a0_2)]] [(true, [.sc (.string r.1), .sc (.string r.2.1), .sc (.int .i64 r.2.2)])] [.dat true [.sc (.string a0_0), .sc (.string a0_1), .sc (.int .i64 a0_2)]] := by
 refine ACalls.en Try.func149 Try.ntmps149 .go .go .go .go ?_
 intro C F hC hP hF hn (hx : C.fx = [])
 have kp : KL [0, 1, 2, 3] := ⟨⟩
 have kr : KR #[.cell 2 131] := ⟨⟩
 simp only [laws_toEntry.f] at H
 apply BZ.out
 exact BZ.go
set_option maxHeartbeats 8000000 in
theorem laws_toEntryS.link {k : Nat} {l0 : List (S143)} {r : (List (S131))} (H : laws_toEntryS.f k l0 = some r) : ACalls Try.prog 142 [.dat false [.sl none 3 (List.flatMap e143 l0)]] [(false, [.sl (some 0) 3 (List.flatMap e131 r)])] [.dat false [.sl none 3 (List.flatMap e143 l0)]] := by
 refine ACalls.en Try.func142 Try.ntmps142 .go .go .go .go ?_
 intro C F hC hP hF hn (hx : C.fx = [])
 have kp : KL [0, 2, 3, 4, 11] := ⟨⟩
 have kr : KR #[.tmp 2] := ⟨⟩
 have c0 := Hold.mk @laws_toEntry.link
 simp only [laws_toEntryS.f] at H
 have w0 : LJ [0, 3, 4] (fun q X => ∃ x0, ∃ x3, ∃ x4, X = ⟨[(0, .dat false [.sl none 3 (List.flatMap e143 x0)]), (3, .bor 0 none 0 1 false), (4, .dat false [.sc (.int .i64 x4)])], [(0, .vir [.sl (some 0) 3 (List.flatMap e131 x3)])]⟩ ∧ q ≤ k ∧ laws_toEntryS.l0 q x0 x3 x4 = some r) := ⟨⟩
 apply late
 · intro lp0
   apply BZn.out
   exact BZn.go
 · intro q1 X hJ ih0
   clear H
   obtain ⟨x0, x3, x4, rfl, hq, H⟩ := hJ
   cases q1 with
   | zero => (simp only [laws_toEntryS.l0] at H; cases H)
   | succ kq1 =>
    simp only [laws_toEntryS.l0] at H
    apply BZn.out
    exact BZn.go
set_option maxHeartbeats 8000000 in
theorem laws_toMonitor.link {k : Nat} {a0_0 : ByteArray} {l0_1 : List ByteArray} {l0_2 : List ByteArray} {l0_3 : List (S143)} {r : ByteArray × List ByteArray × List ByteArray × (List (S131))} (H : laws_toMonitor.f k a0_0 l0_1 l0_2 l0_3 = some r) : ACalls Try.prog 113 [.dat true [.sc (.string a0_0), .sl none 1 (List.flatMap eS l0_1), .sl none 1 (List.flatMap eS l0_2), .sl none 3 (List.flatMap e143 l0_3)]] [(true, [.sc (.string r.1), .sl (some 0) 1 (List.flatMap eS r.2.1), .sl (some 0) 1 (List.flatMap eS r.2.2.1), .sl (some 0) 3 (List.flatMap e131 r.2.2.2)])] [.dat true [.sc (.string a0_0), .sl none 1 (List.flatMap eS l0_1), .sl none 1 (List.flatMap eS l0_2), .sl none 3 (List.flatMap e143 l0_3)]] := by
 refine ACalls.en Try.func113 Try.ntmps113 .go .go .go .go ?_
 intro C F hC hP hF hn (hx : C.fx = [])
 have kp : KL [0, 1, 2, 3] := ⟨⟩
 have kr : KR #[.cell 2 106] := ⟨⟩
 have c0 := Hold.mk @laws_toStringS.link
 have c1 := Hold.mk @laws_toEntryS.link
 simp only [laws_toMonitor.f] at H
 apply BZ.out
 exact BZ.go
set_option maxHeartbeats 8000000 in
theorem laws_toMonitorS.link {k : Nat} {l0 : List (S117)} {r : (List (S106))} (H : laws_toMonitorS.f k l0 = some r) : ACalls Try.prog 58 [.dat false [.sl none 4 (List.flatMap e117 l0)]] [(false, [.sl (some 0) 4 (List.flatMap o106 r)])] [.dat false [.sl none 4 (List.flatMap e117 l0)]] := by
 refine ACalls.en Try.func58 Try.ntmps58 .go .go .go .go ?_
 intro C F hC hP hF hn (hx : C.fx = [])
 have kp : KL [0, 2, 3, 4, 11] := ⟨⟩
 have kr : KR #[.tmp 2] := ⟨⟩
 have c0 := Hold.mk @laws_toMonitor.link
 simp only [laws_toMonitorS.f] at H
 have w0 : LJ [0, 3, 4] (fun q X => ∃ x0, ∃ x3, ∃ x4, X = ⟨[(0, .dat false [.sl none 4 (List.flatMap e117 x0)]), (3, .bor 0 none 0 1 false), (4, .dat false [.sc (.int .i64 x4)])], [(0, .vir [.sl (some 0) 4 (List.flatMap o106 x3)])]⟩ ∧ q ≤ k ∧ laws_toMonitorS.l0 q x0 x3 x4 = some r) := ⟨⟩
 apply late
 · intro lp0
   apply BZn.out
   exact BZn.go
 · intro q1 X hJ ih0
   clear H
   obtain ⟨x0, x3, x4, rfl, hq, H⟩ := hJ
   cases q1 with
   | zero => (simp only [laws_toMonitorS.l0] at H; cases H)
   | succ kq1 =>
    simp only [laws_toMonitorS.l0] at H
    apply BZn.out
    exact BZn.go
set_option maxHeartbeats 8000000 in
theorem laws_toProcess.link {k : Nat} {a0_0 : ByteArray} {l0_1 : List ByteArray} {l0_2 : List ByteArray} {a0_3 : Int} {r : ByteArray × List ByteArray × List ByteArray × Int} (H : laws_toProcess.f k a0_0 l0_1 l0_2 a0_3 = some r) : ACalls Try.prog 114 [.dat true [.sc (.string a0_0), .sl none 1 (List.flatMap eS l0_1), .sl none 1 (List.flatMap eS l0_2), .sc (.int .i64 a0_3)]] [(true, [.sc (.string r.1), .sl (some 0) 1 (List.flatMap eS r.2.1), .sl (some 0) 1 (List.flatMap eS r.2.2.1), .sc (.int .i64 r.2.2.2)])] [.dat true [.sc (.string a0_0), .sl none 1 (List.flatMap eS l0_1), .sl none 1 (List.flatMap eS l0_2), .sc (.int .i64 a0_3)]] := by
 refine ACalls.en Try.func114 Try.ntmps114 .go .go .go .go ?_
 intro C F hC hP hF hn (hx : C.fx = [])
 have kp : KL [0, 1, 2, 3] := ⟨⟩
 have kr : KR #[.cell 2 103] := ⟨⟩
 have c0 := Hold.mk @laws_toStringS.link
 simp only [laws_toProcess.f] at H
 apply BZ.out
 exact BZ.go
set_option maxHeartbeats 8000000 in
theorem laws_toProcessS.link {k : Nat} {l0 : List (S119)} {r : (List (S103))} (H : laws_toProcessS.f k l0 = some r) : ACalls Try.prog 59 [.dat false [.sl none 4 (List.flatMap e119 l0)]] [(false, [.sl (some 0) 4 (List.flatMap o103 r)])] [.dat false [.sl none 4 (List.flatMap e119 l0)]] := by
 refine ACalls.en Try.func59 Try.ntmps59 .go .go .go .go ?_
 intro C F hC hP hF hn (hx : C.fx = [])
 have kp : KL [0, 2, 3, 4, 11] := ⟨⟩
 have kr : KR #[.tmp 2] := ⟨⟩
 have c0 := Hold.mk @laws_toProcess.link
 simp only [laws_toProcessS.f] at H
 have w0 : LJ [0, 3, 4] (fun q X => ∃ x0, ∃ x3, ∃ x4, X = ⟨[(0, .dat false [.sl none 4 (List.flatMap e119 x0)]), (3, .bor 0 none 0 1 false), (4, .dat false [.sc (.int .i64 x4)])], [(0, .vir [.sl (some 0) 4 (List.flatMap o103 x3)])]⟩ ∧ q ≤ k ∧ laws_toProcessS.l0 q x0 x3 x4 = some r) := ⟨⟩
 apply late
 · intro lp0
   apply BZn.out
   exact BZn.go
 · intro q1 X hJ ih0
   clear H
   obtain ⟨x0, x3, x4, rfl, hq, H⟩ := hJ
   cases q1 with
   | zero => (simp only [laws_toProcessS.l0] at H; cases H)
   | succ kq1 =>
    simp only [laws_toProcessS.l0] at H
    apply BZn.out
    exact BZn.go
set_option maxHeartbeats 8000000 in
theorem laws_toProgram.link {k : Nat} {l0_0 : List (S113)} {l0_1 : List (S117)} {l0_2 : List (S119)} {r : (List (S77)) × (List (S106)) × (List (S103))} (H : laws_toProgram.f k l0_0 l0_1 l0_2 = some r) : ACalls Try.prog 16 [.dat true [.sl none 6 (List.flatMap e113 l0_0), .sl none 4 (List.flatMap e117 l0_1), .sl none 4 (List.flatMap e119 l0_2)]] [(true, [.sl (some 0) 6 (List.flatMap o77 r.1), .sl (some 0) 4 (List.flatMap o106 r.2.1), .sl (some 0) 4 (List.flatMap o103 r.2.2)])] [.dat true [.sl none 6 (List.flatMap e113 l0_0), .sl none 4 (List.flatMap e117 l0_1), .sl none 4 (List.flatMap e119 l0_2)]] := by
 refine ACalls.en Try.func16 Try.ntmps16 .go .go .go .go ?_
 intro C F hC hP hF hn (hx : C.fx = [])
 have kp : KL [0, 1, 2, 3] := ⟨⟩
 have kr : KR #[.cell 2 40] := ⟨⟩
 have c0 := Hold.mk @laws_toNodeS.link
 have c1 := Hold.mk @laws_toMonitorS.link
 have c2 := Hold.mk @laws_toProcessS.link
 simp only [laws_toProgram.f] at H
 apply BZ.out
 exact BZ.go
set_option maxHeartbeats 8000000 in
theorem laws_eqIntS.link {k : Nat} {l0 : List Int} {l1 : List Int} {r : Bool} (H : laws_eqIntS.f k l0 l1 = some r) : ACalls Try.prog 23 [.dat false [.sl none 1 (List.flatMap eI l0)], .dat false [.sl none 1 (List.flatMap eI l1)]] [(false, [.sc (.bool r)])] [.dat false [.sl none 1 (List.flatMap eI l0)], .dat false [.sl none 1 (List.flatMap eI l1)]] := by
 refine ACalls.en Try.func23 Try.ntmps23 .go .go .go .go ?_
 intro C F hC hP hF hn (hx : C.fx = [])
 have kp : KL [0, 1, 4, 5, 10, 14, 25] := ⟨⟩
 have kr : KR #[.tmp 4] := ⟨⟩
 simp only [laws_eqIntS.f] at H
 have w0 : LJ [0, 1, 5] (fun q X => ∃ x0, ∃ x1, ∃ x5, X = ⟨[(0, .dat false [.sl none 1 (List.flatMap eI x0)]), (1, .dat false [.sl none 1 (List.flatMap eI x1)]), (5, .dat false [.sc (.int .i64 x5)])], []⟩ ∧ q ≤ k ∧ laws_eqIntS.l0 q x0 x1 x5 = some r) := ⟨⟩
 apply late
 · intro lp0
   apply BZ.out
   exact BZ.go
 · intro q1 X hJ ih0
   clear H
   obtain ⟨x0, x1, x5, rfl, hq, H⟩ := hJ
   cases q1 with
   | zero => (simp only [laws_eqIntS.l0] at H; cases H)
   | succ kq1 =>
    simp only [laws_eqIntS.l0] at H
    apply BZn.out
    exact BZn.go
set_option maxHeartbeats 8000000 in
theorem laws_eqNode.link {k : Nat} {a0_0 : Int} {a0_1 : Int} {a0_2 : ByteArray} {a0_3 : ByteArray} {a0_4 : ByteArray} {l0_5 : List Int} {a1_0 : Int} {a1_1 : Int} {a1_2 : ByteArray} {a1_3 : ByteArray} {a1_4 : ByteArray} {l1_5 : List Int} {r : Bool} (H : laws_eqNode.f k a0_0 a0_1 a0_2 a0_3 a0_4 l0_5 a1_0 a1_1 a1_2 a1_3 a1_4 l1_5 = some r) : ACalls Try.prog 115 [.dat true [.sc (.int .i64 a0_0), .sc (.int .i64 a0_1), .sc (.string a0_2), .sc (.string a0_3), .sc (.string a0_4), .sl none 1 (List.flatMap eI l0_5)], .dat true [.sc (.int .i64 a1_0), .sc (.int .i64 a1_1), .sc (.string a1_2), .sc (.string a1_3), .sc (.string a1_4), .sl none 1 (List.flatMap eI l1_5)]] [(false, [.sc (.bool r)])] [.dat true [.sc (.int .i64 a0_0), .sc (.int .i64 a0_1), .sc (.string a0_2), .sc (.string a0_3), .sc (.string a0_4), .sl none 1 (List.flatMap eI l0_5)], .dat true [.sc (.int .i64 a1_0), .sc (.int .i64 a1_1), .sc (.string a1_2), .sc (.string a1_3), .sc (.string a1_4), .sl none 1 (List.flatMap eI l1_5)]] := by
 refine ACalls.en Try.func115 Try.ntmps115 .go .go .go .go ?_
 intro C F hC hP hF hn (hx : C.fx = [])
 have kp : KL [0, 1, 2, 3, 4, 9, 14, 19, 24, 29, 35] := ⟨⟩
 have kr : KR #[.tmp 4] := ⟨⟩
 have c0 := Hold.mk @laws_eqIntS.link
 simp only [laws_eqNode.f] at H
 apply BZ.out
 exact BZ.go
set_option maxHeartbeats 8000000 in
theorem laws_eqNodeS.link {k : Nat} {l0 : List (S77)} {l1 : List (S77)} {r : Bool} (H : laws_eqNodeS.f k l0 l1 = some r) : ACalls Try.prog 62 [.dat false [.sl none 6 (List.flatMap e77 l0)], .dat false [.sl none 6 (List.flatMap e77 l1)]] [(false, [.sc (.bool r)])] [.dat false [.sl none 6 (List.flatMap e77 l0)], .dat false [.sl none 6 (List.flatMap e77 l1)]] := by
 refine ACalls.en Try.func62 Try.ntmps62 .go .go .go .go ?_
 intro C F hC hP hF hn (hx : C.fx = [])
 have kp : KL [0, 1, 4, 5, 10, 14, 26] := ⟨⟩
 have kr : KR #[.tmp 4] := ⟨⟩
 have kd0 : KD 6 (noneL [0, 1, 2, 3, 4, 5, 6, 7] ++ ((8, some []) :: (noneL [9] ++ []))) := ⟨⟩
 have c0 := Hold.mk @laws_eqNode.link
 simp only [laws_eqNodeS.f] at H
 have w0 : LJ [0, 1, 5] (fun q X => ∃ x0, ∃ x1, ∃ x5, X = ⟨[(0, .dat false [.sl none 6 (List.flatMap e77 x0)]), (1, .dat false [.sl none 6 (List.flatMap e77 x1)]), (5, .dat false [.sc (.int .i64 x5)])], []⟩ ∧ q ≤ k ∧ laws_eqNodeS.l0 q x0 x1 x5 = some r) := ⟨⟩
 apply late
 · intro lp0
   apply BZ.out
   exact BZ.go
 · intro q1 X hJ ih0
   clear H
   obtain ⟨x0, x1, x5, rfl, hq, H⟩ := hJ
   cases q1 with
   | zero => (simp only [laws_eqNodeS.l0] at H; cases H)
   | succ kq1 =>
    simp only [laws_eqNodeS.l0] at H
    apply BZn.out
    exact BZn.go
set_option maxHeartbeats 8000000 in
theorem laws_eqStringS.link {k : Nat} {l0 : List ByteArray} {l1 : List ByteArray} {r : Bool} (H : laws_eqStringS.f k l0 l1 = some r) : ACalls Try.prog 31 [.dat false [.sl none 1 (List.flatMap eS l0)], .dat false [.sl none 1 (List.flatMap eS l1)]] [(false, [.sc (.bool r)])] [.dat false [.sl none 1 (List.flatMap eS l0)], .dat false [.sl none 1 (List.flatMap eS l1)]] := by
 refine ACalls.en Try.func31 Try.ntmps31 .go .go .go .go ?_
 intro C F hC hP hF hn (hx : C.fx = [])
 have kp : KL [0, 1, 4, 5, 10, 14, 25] := ⟨⟩
 have kr : KR #[.tmp 4] := ⟨⟩
 simp only [laws_eqStringS.f] at H
 have w0 : LJ [0, 1, 5] (fun q X => ∃ x0, ∃ x1, ∃ x5, X = ⟨[(0, .dat false [.sl none 1 (List.flatMap eS x0)]), (1, .dat false [.sl none 1 (List.flatMap eS x1)]), (5, .dat false [.sc (.int .i64 x5)])], []⟩ ∧ q ≤ k ∧ laws_eqStringS.l0 q x0 x1 x5 = some r) := ⟨⟩
 apply late
 · intro lp0
   apply BZ.out
   exact BZ.go
 · intro q1 X hJ ih0
   clear H
   obtain ⟨x0, x1, x5, rfl, hq, H⟩ := hJ
   cases q1 with
   | zero => (simp only [laws_eqStringS.l0] at H; cases H)
   | succ kq1 =>
    simp only [laws_eqStringS.l0] at H
    apply BZn.out
    exact BZn.go
set_option maxHeartbeats 8000000 in
theorem laws_eqEntry.link {a0_0 : ByteArray} {a0_1 : ByteArray} {a0_2 : Int} {a1_0 : ByteArray} {a1_1 : ByteArray} {a1_2 : Int} {r : Bool} (H : laws_eqEntry.f a0_0 a0_1 a0_2 a1_0 a1_1 a1_2 = some r) : ACalls Try.prog 150 [.dat true [.sc (.string a0_0), .sc (.string a0_1), .sc (.int .i64 a0_2)], .dat true [.sc (.string a1_0), .sc (.string a1_1), .sc (.int .i64 a1_2)]] [(false, [.sc (.bool r)])] [.dat true [.sc (.string a0_0), .sc (.string a0_1), .sc (.int .i64 a0_2)], .dat true [.sc (.string a1_0), .sc (.string a1_1), .sc (.int .i64 a1_2)]] := by
 refine ACalls.en Try.func150 Try.ntmps150 .go .go .go .go ?_
 intro C F hC hP hF hn (hx : C.fx = [])
 have kp : KL [0, 1, 2, 3, 4, 9, 14, 19] := ⟨⟩
 have kr : KR #[.tmp 4] := ⟨⟩
 simp only [laws_eqEntry.f] at H
 apply BZ.out
 exact BZ.go
set_option maxHeartbeats 8000000 in
theorem laws_eqEntryS.link {k : Nat} {l0 : List (S131)} {l1 : List (S131)} {r : Bool} (H : laws_eqEntryS.f k l0 l1 = some r) : ACalls Try.prog 143 [.dat false [.sl none 3 (List.flatMap e131 l0)], .dat false [.sl none 3 (List.flatMap e131 l1)]] [(false, [.sc (.bool r)])] [.dat false [.sl none 3 (List.flatMap e131 l0)], .dat false [.sl none 3 (List.flatMap e131 l1)]] := by
 refine ACalls.en Try.func143 Try.ntmps143 .go .go .go .go ?_
 intro C F hC hP hF hn (hx : C.fx = [])
 have kp : KL [0, 1, 4, 5, 10, 14, 26] := ⟨⟩
 have kr : KR #[.tmp 4] := ⟨⟩
 have kd0 : KD 6 (noneL [0, 1, 2, 3, 4, 5, 6, 7] ++ ((8, some []) :: (noneL [9] ++ []))) := ⟨⟩
 have c0 := Hold.mk @laws_eqEntry.link
 simp only [laws_eqEntryS.f] at H
 have w0 : LJ [0, 1, 5] (fun q X => ∃ x0, ∃ x1, ∃ x5, X = ⟨[(0, .dat false [.sl none 3 (List.flatMap e131 x0)]), (1, .dat false [.sl none 3 (List.flatMap e131 x1)]), (5, .dat false [.sc (.int .i64 x5)])], []⟩ ∧ q ≤ k ∧ laws_eqEntryS.l0 q x0 x1 x5 = some r) := ⟨⟩
 apply late
 · intro lp0
   apply BZ.out
   exact BZ.go
 · intro q1 X hJ ih0
   clear H
   obtain ⟨x0, x1, x5, rfl, hq, H⟩ := hJ
   cases q1 with
   | zero => (simp only [laws_eqEntryS.l0] at H; cases H)
   | succ kq1 =>
    simp only [laws_eqEntryS.l0] at H
    apply BZn.out
    exact BZn.go
set_option maxHeartbeats 8000000 in
theorem laws_eqMonitor.link {k : Nat} {a0_0 : ByteArray} {l0_1 : List ByteArray} {l0_2 : List ByteArray} {l0_3 : List (S131)} {a1_0 : ByteArray} {l1_1 : List ByteArray} {l1_2 : List ByteArray} {l1_3 : List (S131)} {r : Bool} (H : laws_eqMonitor.f k a0_0 l0_1 l0_2 l0_3 a1_0 l1_1 l1_2 l1_3 = some r) : ACalls Try.prog 116 [.dat true [.sc (.string a0_0), .sl none 1 (List.flatMap eS l0_1), .sl none 1 (List.flatMap eS l0_2), .sl none 3 (List.flatMap e131 l0_3)], .dat true [.sc (.string a1_0), .sl none 1 (List.flatMap eS l1_1), .sl none 1 (List.flatMap eS l1_2), .sl none 3 (List.flatMap e131 l1_3)]] [(false, [.sc (.bool r)])] [.dat true [.sc (.string a0_0), .sl none 1 (List.flatMap eS l0_1), .sl none 1 (List.flatMap eS l0_2), .sl none 3 (List.flatMap e131 l0_3)], .dat true [.sc (.string a1_0), .sl none 1 (List.flatMap eS l1_1), .sl none 1 (List.flatMap eS l1_2), .sl none 3 (List.flatMap e131 l1_3)]] := by
 refine ACalls.en Try.func116 Try.ntmps116 .go .go .go .go ?_
 intro C F hC hP hF hn (hx : C.fx = [])
 have kp : KL [0, 1, 2, 3, 4, 9, 15, 21, 27] := ⟨⟩
 have kr : KR #[.tmp 4] := ⟨⟩
 have c0 := Hold.mk @laws_eqStringS.link
 have c1 := Hold.mk @laws_eqEntryS.link
 simp only [laws_eqMonitor.f] at H
 apply BZ.out
 exact BZ.go
end Go.Proofs.Ytmbkcbgbienjoaa.PFnExactThreadNew
