/- Functions' walks: each computes what its plain form says. No condition. -/
import Derived.Test.YtjjhknklnclokaaGreatLkFnExactStepThreadh
open Go Go.Proofs Go.Proofs.YtjjhknklnclokaaGreat.Abs
namespace Go.Proofs.YtjjhknklnclokaaGreat.PFnExactStepThread
open Go.RowKit Go.Proofs.YtjjhknklnclokaaGreatW.PrintWords Go.Proofs.YtjjhknklnclokaaGreatW.PrintLast Go.Proofs.YtjjhknklnclokaaGreatW.PrintMore
set_option linter.unusedVariables false
set_option linter.unusedSimpArgs false
set_option maxRecDepth 100000
attribute [local irreducible] evK evQ evM evF evW evH goE goK goKD goQ goQD goD Ok ACalls
set_option maxHeartbeats 8000000 in
theorem laws_szIntS.link {l0 : List Int} {a1 : Int} {r : Int} (H : laws_szIntS.f l0 a1 = some r) : ACalls Tryz.prog 45 [.dat false [.sl none 1 (List.flatMap eI l0)], .dat false [.sc (.int .i64 a1)]] [(false, [.sc (.int .i64 r)])] [.dat false [.sl none 1 (List.flatMap eI l0)], .dat false [.sc (.int .i64 a1)]] := by
 refine ACalls.en Tryz.func45 Tryz.ntmps45 .go .go .go .go ?_
 intro C F hC hP hF hn (hx : C.fx = [])
 have kp : KL [0, 1, 4, 10] := ⟨⟩
 have kr : KR #[.tmp 4] := ⟨⟩
 simp only [laws_szIntS.f] at H
 apply BZ.out
 exact BZ.go
set_option maxHeartbeats 8000000 in
theorem laws_szNode.link {a0_0 : Int} {a0_1 : Int} {a0_2 : ByteArray} {a0_3 : ByteArray} {a0_4 : ByteArray} {l0_5 : List Int} {a1 : Int} {r : Int} (H : laws_szNode.f a0_0 a0_1 a0_2 a0_3 a0_4 l0_5 a1 = some r) : ACalls Tryz.prog 68 [.dat true [.sc (.int .i64 a0_0), .sc (.int .i64 a0_1), .sc (.string a0_2), .sc (.string a0_3), .sc (.string a0_4), .sl none 1 (List.flatMap eI l0_5)], .dat false [.sc (.int .i64 a1)]] [(false, [.sc (.int .i64 r)])] [.dat true [.sc (.int .i64 a0_0), .sc (.int .i64 a0_1), .sc (.string a0_2), .sc (.string a0_3), .sc (.string a0_4), .sl none 1 (List.flatMap eI l0_5)], .dat false [.sc (.int .i64 a1)]] := by
 refine ACalls.en Tryz.func68 Tryz.ntmps68 .go .go .go .go ?_
 intro C F hC hP hF hn (hx : C.fx = [])
 have kp : KL [0, 1, 2, 4, 11, 18, 25, 31] := ⟨⟩
 have kr : KR #[.tmp 4] := ⟨⟩
 have c0 := Hold.mk @laws_szIntS.link
 simp only [laws_szNode.f] at H
 apply BZn.out
 exact BZn.go
set_option maxHeartbeats 8000000 in
theorem laws_szNodeS.link {k : Nat} {l0 : List (S99)} {a1 : Int} {r : Int} (H : laws_szNodeS.f k l0 a1 = some r) : ACalls Tryz.prog 24 [.dat false [.sl none 6 (List.flatMap e99 l0)], .dat false [.sc (.int .i64 a1)]] [(false, [.sc (.int .i64 r)])] [.dat false [.sl none 6 (List.flatMap e99 l0)], .dat false [.sc (.int .i64 a1)]] := by
 refine ACalls.en Tryz.func24 Tryz.ntmps24 .go .go .go .go ?_
 intro C F hC hP hF hn (hx : C.fx = [])
 have kp : KL [0, 1, 4, 5, 11, 15, 25] := ⟨⟩
 have kr : KR #[.tmp 4] := ⟨⟩
 have c0 := Hold.mk @laws_szNode.link
 simp only [laws_szNodeS.f] at H
 have w0 : LJ [0, 1, 5] (fun q X => ∃ x0, ∃ x1, ∃ x5, X = ⟨[(0, .dat false [.sl none 6 (List.flatMap e99 x0)]), (1, .dat false [.sc (.int .i64 x1)]), (5, .dat false [.sc (.int .i64 x5)])], []⟩ ∧ q ≤ k ∧ laws_szNodeS.l0 q x0 x1 x5 = some r) := ⟨⟩
 apply late
 · intro lp0
   apply BZ.out
   exact BZ.go
 · intro q1 X hJ ih0
   clear H
   obtain ⟨x0, x1, x5, rfl, hq, H⟩ := hJ
   cases q1 with
   | zero => (simp only [laws_szNodeS.l0] at H; cases H)
   | succ kq1 =>
    simp only [laws_szNodeS.l0] at H
    apply BZn.out
    exact BZn.go
set_option maxHeartbeats 8000000 in
theorem laws_szStringS.link {k : Nat} {l0 : List ByteArray} {a1 : Int} {r : Int} (H : laws_szStringS.f k l0 a1 = some r) : ACalls Tryz.prog 110 [.dat false [.sl none 1 (List.flatMap eS l0)], .dat false [.sc (.int .i64 a1)]] [(false, [.sc (.int .i64 r)])] [.dat false [.sl none 1 (List.flatMap eS l0)], .dat false [.sc (.int .i64 a1)]] := by
 refine ACalls.en Tryz.func110 Tryz.ntmps110 .go .go .go .go ?_
 intro C F hC hP hF hn (hx : C.fx = [])
 have kp : KL [0, 1, 4, 5, 11, 15, 26] := ⟨⟩
 have kr : KR #[.tmp 4] := ⟨⟩
 simp only [laws_szStringS.f] at H
 have w0 : LJ [0, 1, 5] (fun q X => ∃ x0, ∃ x1, ∃ x5, X = ⟨[(0, .dat false [.sl none 1 (List.flatMap eS x0)]), (1, .dat false [.sc (.int .i64 x1)]), (5, .dat false [.sc (.int .i64 x5)])], []⟩ ∧ q ≤ k ∧ laws_szStringS.l0 q x0 x1 x5 = some r) := ⟨⟩
 apply late
 · intro lp0
   apply BZ.out
   exact BZ.go
 · intro q1 X hJ ih0
   clear H
   obtain ⟨x0, x1, x5, rfl, hq, H⟩ := hJ
   cases q1 with
   | zero => (simp only [laws_szStringS.l0] at H; cases H)
   | succ kq1 =>
    simp only [laws_szStringS.l0] at H
    apply BZn.out
    exact BZn.go
set_option maxHeartbeats 8000000 in
theorem laws_szEntry.link {a0_0 : ByteArray} {a0_1 : ByteArray} {a0_2 : Int} {a1 : Int} {r : Int} (H : laws_szEntry.f a0_0 a0_1 a0_2 a1 = some r) : ACalls Tryz.prog 162 [.dat true [.sc (.string a0_0), .sc (.string a0_1), .sc (.int .i64 a0_2)], .dat false [.sc (.int .i64 a1)]] [(false, [.sc (.int .i64 r)])] [.dat true [.sc (.string a0_0), .sc (.string a0_1), .sc (.int .i64 a0_2)], .dat false [.sc (.int .i64 a1)]] := by
 refine ACalls.en Tryz.func162 Tryz.ntmps162 .go .go .go .go ?_
 intro C F hC hP hF hn (hx : C.fx = [])
 have kp : KL [0, 1, 2, 4, 11, 18] := ⟨⟩
 have kr : KR #[.tmp 4] := ⟨⟩
 simp only [laws_szEntry.f] at H
 apply BZn.out
 exact BZn.go
set_option maxHeartbeats 8000000 in
theorem laws_szEntryS.link {k : Nat} {l0 : List (S171)} {a1 : Int} {r : Int} (H : laws_szEntryS.f k l0 a1 = some r) : ACalls Tryz.prog 136 [.dat false [.sl none 3 (List.flatMap e171 l0)], .dat false [.sc (.int .i64 a1)]] [(false, [.sc (.int .i64 r)])] [.dat false [.sl none 3 (List.flatMap e171 l0)], .dat false [.sc (.int .i64 a1)]] := by
 refine ACalls.en Tryz.func136 Tryz.ntmps136 .go .go .go .go ?_
 intro C F hC hP hF hn (hx : C.fx = [])
 have kp : KL [0, 1, 4, 5, 11, 15, 25] := ⟨⟩
 have kr : KR #[.tmp 4] := ⟨⟩
 have c0 := Hold.mk @laws_szEntry.link
 simp only [laws_szEntryS.f] at H
 have w0 : LJ [0, 1, 5] (fun q X => ∃ x0, ∃ x1, ∃ x5, X = ⟨[(0, .dat false [.sl none 3 (List.flatMap e171 x0)]), (1, .dat false [.sc (.int .i64 x1)]), (5, .dat false [.sc (.int .i64 x5)])], []⟩ ∧ q ≤ k ∧ laws_szEntryS.l0 q x0 x1 x5 = some r) := ⟨⟩
 apply late
 · intro lp0
   apply BZ.out
   exact BZ.go
 · intro q1 X hJ ih0
   clear H
   obtain ⟨x0, x1, x5, rfl, hq, H⟩ := hJ
   cases q1 with
   | zero => (simp only [laws_szEntryS.l0] at H; cases H)
   | succ kq1 =>
    simp only [laws_szEntryS.l0] at H
    apply BZn.out
    exact BZn.go
set_option maxHeartbeats 8000000 in
theorem laws_szMonitor.link {k : Nat} {a0_0 : ByteArray} {l0_1 : List ByteArray} {l0_2 : List ByteArray} {l0_3 : List (S171)} {a1 : Int} {r : Int} (H : laws_szMonitor.f k a0_0 l0_1 l0_2 l0_3 a1 = some r) : ACalls Tryz.prog 69 [.dat true [.sc (.string a0_0), .sl none 1 (List.flatMap eS l0_1), .sl none 1 (List.flatMap eS l0_2), .sl none 3 (List.flatMap e171 l0_3)], .dat false [.sc (.int .i64 a1)]] [(false, [.sc (.int .i64 r)])] [.dat true [.sc (.string a0_0), .sl none 1 (List.flatMap eS l0_1), .sl none 1 (List.flatMap eS l0_2), .sl none 3 (List.flatMap e171 l0_3)], .dat false [.sc (.int .i64 a1)]] := by
 refine ACalls.en Tryz.func69 Tryz.ntmps69 .go .go .go .go ?_
 intro C F hC hP hF hn (hx : C.fx = [])
 have kp : KL [0, 1, 2, 4, 11, 17, 23, 29] := ⟨⟩
 have kr : KR #[.tmp 4] := ⟨⟩
 have c0 := Hold.mk @laws_szStringS.link
 have c1 := Hold.mk @laws_szEntryS.link
 simp only [laws_szMonitor.f] at H
 apply BZn.out
 exact BZn.go
set_option maxHeartbeats 8000000 in
theorem laws_szMonitorS.link {k : Nat} {l0 : List (S103)} {a1 : Int} {r : Int} (H : laws_szMonitorS.f k l0 a1 = some r) : ACalls Tryz.prog 25 [.dat false [.sl none 4 (List.flatMap e103 l0)], .dat false [.sc (.int .i64 a1)]] [(false, [.sc (.int .i64 r)])] [.dat false [.sl none 4 (List.flatMap e103 l0)], .dat false [.sc (.int .i64 a1)]] := by
 refine ACalls.en Tryz.func25 Tryz.ntmps25 .go .go .go .go ?_
 intro C F hC hP hF hn (hx : C.fx = [])
 have kp : KL [0, 1, 4, 5, 11, 15, 25] := ⟨⟩
 have kr : KR #[.tmp 4] := ⟨⟩
 have c0 := Hold.mk @laws_szMonitor.link
 simp only [laws_szMonitorS.f] at H
 have w0 : LJ [0, 1, 5] (fun q X => ∃ x0, ∃ x1, ∃ x5, X = ⟨[(0, .dat false [.sl none 4 (List.flatMap e103 x0)]), (1, .dat false [.sc (.int .i64 x1)]), (5, .dat false [.sc (.int .i64 x5)])], []⟩ ∧ q ≤ k ∧ laws_szMonitorS.l0 q x0 x1 x5 = some r) := ⟨⟩
 apply late
 · intro lp0
   apply BZ.out
   exact BZ.go
 · intro q1 X hJ ih0
   clear H
   obtain ⟨x0, x1, x5, rfl, hq, H⟩ := hJ
   cases q1 with
   | zero => (simp only [laws_szMonitorS.l0] at H; cases H)
   | succ kq1 =>
    simp only [laws_szMonitorS.l0] at H
    apply BZn.out
    exact BZn.go
set_option maxHeartbeats 8000000 in
theorem laws_szProcess.link {k : Nat} {a0_0 : ByteArray} {l0_1 : List ByteArray} {l0_2 : List ByteArray} {a0_3 : Int} {a1 : Int} {r : Int} (H : laws_szProcess.f k a0_0 l0_1 l0_2 a0_3 a1 = some r) : ACalls Tryz.prog 70 [.dat true [.sc (.string a0_0), .sl none 1 (List.flatMap eS l0_1), .sl none 1 (List.flatMap eS l0_2), .sc (.int .i64 a0_3)], .dat false [.sc (.int .i64 a1)]] [(false, [.sc (.int .i64 r)])] [.dat true [.sc (.string a0_0), .sl none 1 (List.flatMap eS l0_1), .sl none 1 (List.flatMap eS l0_2), .sc (.int .i64 a0_3)], .dat false [.sc (.int .i64 a1)]] := by
 refine ACalls.en Tryz.func70 Tryz.ntmps70 .go .go .go .go ?_
 intro C F hC hP hF hn (hx : C.fx = [])
 have kp : KL [0, 1, 2, 4, 11, 17, 23] := ⟨⟩
 have kr : KR #[.tmp 4] := ⟨⟩
 have c0 := Hold.mk @laws_szStringS.link
 simp only [laws_szProcess.f] at H
 apply BZn.out
 exact BZn.go
set_option maxHeartbeats 8000000 in
theorem laws_szProcessS.link {k : Nat} {l0 : List (S106)} {a1 : Int} {r : Int} (H : laws_szProcessS.f k l0 a1 = some r) : ACalls Tryz.prog 26 [.dat false [.sl none 4 (List.flatMap e106 l0)], .dat false [.sc (.int .i64 a1)]] [(false, [.sc (.int .i64 r)])] [.dat false [.sl none 4 (List.flatMap e106 l0)], .dat false [.sc (.int .i64 a1)]] := by
 refine ACalls.en Tryz.func26 Tryz.ntmps26 .go .go .go .go ?_
 intro C F hC hP hF hn (hx : C.fx = [])
 have kp : KL [0, 1, 4, 5, 11, 15, 25] := ⟨⟩
 have kr : KR #[.tmp 4] := ⟨⟩
 have c0 := Hold.mk @laws_szProcess.link
 simp only [laws_szProcessS.f] at H
 have w0 : LJ [0, 1, 5] (fun q X => ∃ x0, ∃ x1, ∃ x5, X = ⟨[(0, .dat false [.sl none 4 (List.flatMap e106 x0)]), (1, .dat false [.sc (.int .i64 x1)]), (5, .dat false [.sc (.int .i64 x5)])], []⟩ ∧ q ≤ k ∧ laws_szProcessS.l0 q x0 x1 x5 = some r) := ⟨⟩
 apply late
 · intro lp0
   apply BZ.out
   exact BZ.go
 · intro q1 X hJ ih0
   clear H
   obtain ⟨x0, x1, x5, rfl, hq, H⟩ := hJ
   cases q1 with
   | zero => (simp only [laws_szProcessS.l0] at H; cases H)
   | succ kq1 =>
    simp only [laws_szProcessS.l0] at H
    apply BZn.out
    exact BZn.go
set_option maxHeartbeats 8000000 in
theorem laws_szProgram.link {k : Nat} {l0_0 : List (S99)} {l0_1 : List (S103)} {l0_2 : List (S106)} {a1 : Int} {r : Int} (H : laws_szProgram.f k l0_0 l0_1 l0_2 a1 = some r) : ACalls Tryz.prog 7 [.dat true [.sl none 6 (List.flatMap e99 l0_0), .sl none 4 (List.flatMap e103 l0_1), .sl none 4 (List.flatMap e106 l0_2)], .dat false [.sc (.int .i64 a1)]] [(false, [.sc (.int .i64 r)])] [.dat true [.sl none 6 (List.flatMap e99 l0_0), .sl none 4 (List.flatMap e103 l0_1), .sl none 4 (List.flatMap e106 l0_2)], .dat false [.sc (.int .i64 a1)]] := by
 refine ACalls.en Tryz.func7 Tryz.ntmps7 .go .go .go .go ?_
 intro C F hC hP hF hn (hx : C.fx = [])
 have kp : KL [0, 1, 2, 4, 10, 16, 22] := ⟨⟩
 have kr : KR #[.tmp 4] := ⟨⟩
 have c0 := Hold.mk @laws_szNodeS.link
 have c1 := Hold.mk @laws_szMonitorS.link
 have c2 := Hold.mk @laws_szProcessS.link
 simp only [laws_szProgram.f] at H
 apply BZn.out
 exact BZn.go
set_option maxHeartbeats 8000000 in
theorem laws_toIntS.link {k : Nat} {l0 : List Int} {r : List Int} (H : laws_toIntS.f k l0 = some r) : ACalls Tryz.prog 49 [.dat false [.sl none 1 (List.flatMap eI l0)]] [(false, [.sl (some 0) 1 (List.flatMap eI r)])] [.dat false [.sl none 1 (List.flatMap eI l0)]] := by
 refine ACalls.en Tryz.func49 Tryz.ntmps49 .go .go .go .go ?_
 intro C F hC hP hF hn (hx : C.fx = [])
 have kp : KL [0, 2, 3, 4, 11] := ⟨⟩
 have kr : KR #[.tmp 2] := ⟨⟩
 simp only [laws_toIntS.f] at H
 have w0 : LJ [0, 3, 4] (fun q X => ∃ x0, ∃ x3, ∃ x4, X = ⟨[(0, .dat false [.sl none 1 (List.flatMap eI x0)]), (3, .bor 0 none 0 1 false), (4, .dat false [.sc (.int .i64 x4)])], [(0, .vir [.sl (some 0) 1 (List.flatMap eI x3)])]⟩ ∧ q ≤ k ∧ laws_toIntS.l0 q x0 x3 x4 = some r) := ⟨⟩
 apply late
 · intro lp0
   apply BZn.out
   exact BZn.go
 · intro q1 X hJ ih0
   clear H
   obtain ⟨x0, x3, x4, rfl, hq, H⟩ := hJ
   cases q1 with
   | zero => (simp only [laws_toIntS.l0] at H; cases H)
   | succ kq1 =>
    simp only [laws_toIntS.l0] at H
    apply BZn.out
    exact BZn.go
set_option maxHeartbeats 8000000 in
theorem laws_toNode.link {k : Nat} {a0_0 : Int} {a0_1 : Int} {a0_2 : ByteArray} {a0_3 : ByteArray} {a0_4 : ByteArray} {l0_5 : List Int} {r : Int × Int × ByteArray × ByteArray × ByteArray × List Int} (H : laws_toNode.f k a0_0 a0_1 a0_2 a0_3 a0_4 l0_5 = some r) : ACalls Tryz.prog 82 [.dat true [.sc (.int .i64 a0_0), .sc (.int .i64 a0_1), .sc (.string a0_2), .sc (.string a0_3), .sc (.string a0_4), .sl none 1 (List.flatMap eI l0_5)]] [(true, [.sc (.int .i64 r.1), .sc (.int .i64 r.2.1), .sc (.string r.2.2.1), .sc (.string r.2.2.2.1), .sc (.string r.2.2.2.2.1), .sl (some 0) 1 (List.flatMap eI r.2.2.2.2.2)])] [.dat true [.sc (.int .i64 a0_0), .sc (.int .i64 a0_1), .sc (.string a0_2), .sc (.string a0_3), .sc (.string a0_4), .sl none 1 (List.flatMap eI l0_5)]] := by
 refine ACalls.en Tryz.func82 Tryz.ntmps82 .go .go .go .go ?_
 intro C F hC hP hF hn (hx : C.fx = [])
 have kp : KL [0, 1, 2, 3] := ⟨⟩
 have kr : KR #[.cell 2 71] := ⟨⟩
 have c0 := Hold.mk @laws_toIntS.link
 simp only [laws_toNode.f] at H
 apply BZ.out
 exact BZ.go
set_option maxHeartbeats 8000000 in
theorem laws_toNodeS.link {k : Nat} {l0 : List (S99)} {r : (List (S71))} (H : laws_toNodeS.f k l0 = some r) : ACalls Tryz.prog 31 [.dat false [.sl none 6 (List.flatMap e99 l0)]] [(false, [.sl (some 0) 6 (List.flatMap o71 r)])] [.dat false [.sl none 6 (List.flatMap e99 l0)]] := by
 refine ACalls.en Tryz.func31 Tryz.ntmps31 .go .go .go .go ?_
 intro C F hC hP hF hn (hx : C.fx = [])
 have kp : KL [0, 2, 3, 4, 11] := ⟨⟩
 have kr : KR #[.tmp 2] := ⟨⟩
 have c0 := Hold.mk @laws_toNode.link
 simp only [laws_toNodeS.f] at H
 have w0 : LJ [0, 3, 4] (fun q X => ∃ x0, ∃ x3, ∃ x4, X = ⟨[(0, .dat false [.sl none 6 (List.flatMap e99 x0)]), (3, .bor 0 none 0 1 false), (4, .dat false [.sc (.int .i64 x4)])], [(0, .vir [.sl (some 0) 6 (List.flatMap o71 x3)])]⟩ ∧ q ≤ k ∧ laws_toNodeS.l0 q x0 x3 x4 = some r) := ⟨⟩
 apply late
 · intro lp0
   apply BZn.out
   exact BZn.go
 · intro q1 X hJ ih0
   clear H
   obtain ⟨x0, x3, x4, rfl, hq, H⟩ := hJ
   cases q1 with
   | zero => (simp only [laws_toNodeS.l0] at H; cases H)
   | succ kq1 =>
    simp only [laws_toNodeS.l0] at H
    apply BZn.out
    exact BZn.go
set_option maxHeartbeats 8000000 in
theorem laws_toStringS.link {k : Nat} {l0 : List ByteArray} {r : List ByteArray} (H : laws_toStringS.f k l0 = some r) : ACalls Tryz.prog 115 [.dat false [.sl none 1 (List.flatMap eS l0)]] [(false, [.sl (some 0) 1 (List.flatMap eS r)])] [.dat false [.sl none 1 (List.flatMap eS l0)]] := by
 refine ACalls.en Tryz.func115 Tryz.ntmps115 .go .go .go .go ?_
 intro C F hC hP hF hn (hx : C.fx = [])
 have kp : KL [0, 2, 3, 4, 11] := ⟨⟩
 have kr : KR #[.tmp 2] := ⟨⟩
 simp only [laws_toStringS.f] at H
 have w0 : LJ [0, 3, 4] (fun q X => ∃ x0, ∃ x3, ∃ x4, X = ⟨[(0, .dat false [.sl none 1 (List.flatMap eS x0)]), (3, .bor 0 none 0 1 false), (4, .dat false [.sc (.int .i64 x4)])], [(0, .vir [.sl (some 0) 1 (List.flatMap eS x3)])]⟩ ∧ q ≤ k ∧ laws_toStringS.l0 q x0 x3 x4 = some r) := ⟨⟩
 apply late
 · intro lp0
   apply BZn.out
   exact BZn.go
 · intro q1 X hJ ih0
   clear H
   obtain ⟨x0, x3, x4, rfl, hq, H⟩ := hJ
   cases q1 with
   | zero => (simp only [laws_toStringS.l0] at H; cases H)
   | succ kq1 =>
    simp only [laws_toStringS.l0] at H
    apply BZn.out
    exact BZn.go
set_option maxHeartbeats 8000000 in
theorem laws_toEntry.link {a0_0 : ByteArray} {a0_1 : ByteArray} {a0_2 : Int} {r : ByteArray × ByteArray × Int} (H : laws_toEntry.f a0_0 a0_1 a0_2 = some r) : ACalls Tryz.prog 164 [.dat true [.sc (.string a0_0), .sc (.string a0_1), .sc (.int .i64 a0_2)]] [(true, [.sc (.string r.1), .sc (.string r.2.1), .sc (.int .i64 r.2.2)])] [.dat true [.sc (.string a0_0), .sc (.string a0_1), .sc (.int .i64 a0_2)]] := by
 refine ACalls.en Tryz.func164 Tryz.ntmps164 .go .go .go .go ?_
 intro C F hC hP hF hn (hx : C.fx = [])
 have kp : KL [0, 1, 2, 3] := ⟨⟩
 have kr : KR #[.cell 2 113] := ⟨⟩
 simp only [laws_toEntry.f] at H
 apply BZ.out
 exact BZ.go
set_option maxHeartbeats 8000000 in
theorem laws_toEntryS.link {k : Nat} {l0 : List (S171)} {r : (List (S113))} (H : laws_toEntryS.f k l0 = some r) : ACalls Tryz.prog 139 [.dat false [.sl none 3 (List.flatMap e171 l0)]] [(false, [.sl (some 0) 3 (List.flatMap e113 r)])] [.dat false [.sl none 3 (List.flatMap e171 l0)]] := by
 refine ACalls.en Tryz.func139 Tryz.ntmps139 .go .go .go .go ?_
 intro C F hC hP hF hn (hx : C.fx = [])
 have kp : KL [0, 2, 3, 4, 11] := ⟨⟩
 have kr : KR #[.tmp 2] := ⟨⟩
 have c0 := Hold.mk @laws_toEntry.link
 simp only [laws_toEntryS.f] at H
 have w0 : LJ [0, 3, 4] (fun q X => ∃ x0, ∃ x3, ∃ x4, X = ⟨[(0, .dat false [.sl none 3 (List.flatMap e171 x0)]), (3, .bor 0 none 0 1 false), (4, .dat false [.sc (.int .i64 x4)])], [(0, .vir [.sl (some 0) 3 (List.flatMap e113 x3)])]⟩ ∧ q ≤ k ∧ laws_toEntryS.l0 q x0 x3 x4 = some r) := ⟨⟩
 apply late
 · intro lp0
   apply BZn.out
   exact BZn.go
 · intro q1 X hJ ih0
   clear H
   obtain ⟨x0, x3, x4, rfl, hq, H⟩ := hJ
   cases q1 with
   | zero => (simp only [laws_toEntryS.l0] at H; cases H)
   | succ kq1 =>
    simp only [laws_toEntryS.l0] at H
    apply BZn.out
    exact BZn.go
set_option maxHeartbeats 8000000 in
theorem laws_toMonitor.link {k : Nat} {a0_0 : ByteArray} {l0_1 : List ByteArray} {l0_2 : List ByteArray} {l0_3 : List (S171)} {r : ByteArray × List ByteArray × List ByteArray × (List (S113))} (H : laws_toMonitor.f k a0_0 l0_1 l0_2 l0_3 = some r) : ACalls Tryz.prog 83 [.dat true [.sc (.string a0_0), .sl none 1 (List.flatMap eS l0_1), .sl none 1 (List.flatMap eS l0_2), .sl none 3 (List.flatMap e171 l0_3)]] [(true, [.sc (.string r.1), .sl (some 0) 1 (List.flatMap eS r.2.1), .sl (some 0) 1 (List.flatMap eS r.2.2.1), .sl (some 0) 3 (List.flatMap e113 r.2.2.2)])] [.dat true [.sc (.string a0_0), .sl none 1 (List.flatMap eS l0_1), .sl none 1 (List.flatMap eS l0_2), .sl none 3 (List.flatMap e171 l0_3)]] := by
 refine ACalls.en Tryz.func83 Tryz.ntmps83 .go .go .go .go ?_
 intro C F hC hP hF hn (hx : C.fx = [])
 have kp : KL [0, 1, 2, 3] := ⟨⟩
 have kr : KR #[.cell 2 111] := ⟨⟩
 have c0 := Hold.mk @laws_toStringS.link
 have c1 := Hold.mk @laws_toEntryS.link
 simp only [laws_toMonitor.f] at H
 apply BZ.out
 exact BZ.go
set_option maxHeartbeats 8000000 in
theorem laws_toMonitorS.link {k : Nat} {l0 : List (S103)} {r : (List (S111))} (H : laws_toMonitorS.f k l0 = some r) : ACalls Tryz.prog 32 [.dat false [.sl none 4 (List.flatMap e103 l0)]] [(false, [.sl (some 0) 4 (List.flatMap o111 r)])] [.dat false [.sl none 4 (List.flatMap e103 l0)]] := by
 refine ACalls.en Tryz.func32 Tryz.ntmps32 .go .go .go .go ?_
 intro C F hC hP hF hn (hx : C.fx = [])
 have kp : KL [0, 2, 3, 4, 11] := ⟨⟩
 have kr : KR #[.tmp 2] := ⟨⟩
 have c0 := Hold.mk @laws_toMonitor.link
 simp only [laws_toMonitorS.f] at H
 have w0 : LJ [0, 3, 4] (fun q X => ∃ x0, ∃ x3, ∃ x4, X = ⟨[(0, .dat false [.sl none 4 (List.flatMap e103 x0)]), (3, .bor 0 none 0 1 false), (4, .dat false [.sc (.int .i64 x4)])], [(0, .vir [.sl (some 0) 4 (List.flatMap o111 x3)])]⟩ ∧ q ≤ k ∧ laws_toMonitorS.l0 q x0 x3 x4 = some r) := ⟨⟩
 apply late
 · intro lp0
   apply BZn.out
   exact BZn.go
 · intro q1 X hJ ih0
   clear H
   obtain ⟨x0, x3, x4, rfl, hq, H⟩ := hJ
   cases q1 with
   | zero => (simp only [laws_toMonitorS.l0] at H; cases H)
   | succ kq1 =>
    simp only [laws_toMonitorS.l0] at H
    apply BZn.out
    exact BZn.go
set_option maxHeartbeats 8000000 in
theorem laws_toProcess.link {k : Nat} {a0_0 : ByteArray} {l0_1 : List ByteArray} {l0_2 : List ByteArray} {a0_3 : Int} {r : ByteArray × List ByteArray × List ByteArray × Int} (H : laws_toProcess.f k a0_0 l0_1 l0_2 a0_3 = some r) : ACalls Tryz.prog 84 [.dat true [.sc (.string a0_0), .sl none 1 (List.flatMap eS l0_1), .sl none 1 (List.flatMap eS l0_2), .sc (.int .i64 a0_3)]] [(true, [.sc (.string r.1), .sl (some 0) 1 (List.flatMap eS r.2.1), .sl (some 0) 1 (List.flatMap eS r.2.2.1), .sc (.int .i64 r.2.2.2)])] [.dat true [.sc (.string a0_0), .sl none 1 (List.flatMap eS l0_1), .sl none 1 (List.flatMap eS l0_2), .sc (.int .i64 a0_3)]] := by
 refine ACalls.en Tryz.func84 Tryz.ntmps84 .go .go .go .go ?_
 intro C F hC hP hF hn (hx : C.fx = [])
 have kp : KL [0, 1, 2, 3] := ⟨⟩
 have kr : KR #[.cell 2 115] := ⟨⟩
 have c0 := Hold.mk @laws_toStringS.link
 simp only [laws_toProcess.f] at H
 apply BZ.out
 exact BZ.go
set_option maxHeartbeats 8000000 in
theorem laws_toProcessS.link {k : Nat} {l0 : List (S106)} {r : (List (S115))} (H : laws_toProcessS.f k l0 = some r) : ACalls Tryz.prog 33 [.dat false [.sl none 4 (List.flatMap e106 l0)]] [(false, [.sl (some 0) 4 (List.flatMap o115 r)])] [.dat false [.sl none 4 (List.flatMap e106 l0)]] := by
 refine ACalls.en Tryz.func33 Tryz.ntmps33 .go .go .go .go ?_
 intro C F hC hP hF hn (hx : C.fx = [])
 have kp : KL [0, 2, 3, 4, 11] := ⟨⟩
 have kr : KR #[.tmp 2] := ⟨⟩
 have c0 := Hold.mk @laws_toProcess.link
 simp only [laws_toProcessS.f] at H
 have w0 : LJ [0, 3, 4] (fun q X => ∃ x0, ∃ x3, ∃ x4, X = ⟨[(0, .dat false [.sl none 4 (List.flatMap e106 x0)]), (3, .bor 0 none 0 1 false), (4, .dat false [.sc (.int .i64 x4)])], [(0, .vir [.sl (some 0) 4 (List.flatMap o115 x3)])]⟩ ∧ q ≤ k ∧ laws_toProcessS.l0 q x0 x3 x4 = some r) := ⟨⟩
 apply late
 · intro lp0
   apply BZn.out
   exact BZn.go
 · intro q1 X hJ ih0
   clear H
   obtain ⟨x0, x3, x4, rfl, hq, H⟩ := hJ
   cases q1 with
   | zero => (simp only [laws_toProcessS.l0] at H; cases H)
   | succ kq1 =>
    simp only [laws_toProcessS.l0] at H
    apply BZn.out
    exact BZn.go
set_option maxHeartbeats 8000000 in
theorem laws_toProgram.link {k : Nat} {l0_0 : List (S99)} {l0_1 : List (S103)} {l0_2 : List (S106)} {r : (List (S71)) × (List (S111)) × (List (S115))} (H : laws_toProgram.f k l0_0 l0_1 l0_2 = some r) : ACalls Tryz.prog 9 [.dat true [.sl none 6 (List.flatMap e99 l0_0), .sl none 4 (List.flatMap e103 l0_1), .sl none 4 (List.flatMap e106 l0_2)]] [(true, [.sl (some 0) 6 (List.flatMap o71 r.1), .sl (some 0) 4 (List.flatMap o111 r.2.1), .sl (some 0) 4 (List.flatMap o115 r.2.2)])] [.dat true [.sl none 6 (List.flatMap e99 l0_0), .sl none 4 (List.flatMap e103 l0_1), .sl none 4 (List.flatMap e106 l0_2)]] := by
 refine ACalls.en Tryz.func9 Tryz.ntmps9 .go .go .go .go ?_
 intro C F hC hP hF hn (hx : C.fx = [])
 have kp : KL [0, 1, 2, 3] := ⟨⟩
 have kr : KR #[.cell 2 33] := ⟨⟩
 have c0 := Hold.mk @laws_toNodeS.link
 have c1 := Hold.mk @laws_toMonitorS.link
 have c2 := Hold.mk @laws_toProcessS.link
 simp only [laws_toProgram.f] at H
 apply BZ.out
 exact BZ.go
set_option maxHeartbeats 8000000 in
theorem laws_eqIntS.link {k : Nat} {l0 : List Int} {l1 : List Int} {r : Bool} (H : laws_eqIntS.f k l0 l1 = some r) : ACalls Tryz.prog 58 [.dat false [.sl none 1 (List.flatMap eI l0)], .dat false [.sl none 1 (List.flatMap eI l1)]] [(false, [.sc (.bool r)])] [.dat false [.sl none 1 (List.flatMap eI l0)], .dat false [.sl none 1 (List.flatMap eI l1)]] := by
 refine ACalls.en Tryz.func58 Tryz.ntmps58 .go .go .go .go ?_
 intro C F hC hP hF hn (hx : C.fx = [])
 have kp : KL [0, 1, 4, 5, 10, 14, 25] := ⟨⟩
 have kr : KR #[.tmp 4] := ⟨⟩
 simp only [laws_eqIntS.f] at H
 have w0 : LJ [0, 1, 5] (fun q X => ∃ x0, ∃ x1, ∃ x5, X = ⟨[(0, .dat false [.sl none 1 (List.flatMap eI x0)]), (1, .dat false [.sl none 1 (List.flatMap eI x1)]), (5, .dat false [.sc (.int .i64 x5)])], []⟩ ∧ q ≤ k ∧ laws_eqIntS.l0 q x0 x1 x5 = some r) := ⟨⟩
 apply late
 · intro lp0
   apply BZ.out
   exact BZ.go
 · intro q1 X hJ ih0
   clear H
   obtain ⟨x0, x1, x5, rfl, hq, H⟩ := hJ
   cases q1 with
   | zero => (simp only [laws_eqIntS.l0] at H; cases H)
   | succ kq1 =>
    simp only [laws_eqIntS.l0] at H
    apply BZn.out
    exact BZn.go
set_option maxHeartbeats 8000000 in
theorem laws_eqNode.link {k : Nat} {a0_0 : Int} {a0_1 : Int} {a0_2 : ByteArray} {a0_3 : ByteArray} {a0_4 : ByteArray} {l0_5 : List Int} {a1_0 : Int} {a1_1 : Int} {a1_2 : ByteArray} {a1_3 : ByteArray} {a1_4 : ByteArray} {l1_5 : List Int} {r : Bool} (H : laws_eqNode.f k a0_0 a0_1 a0_2 a0_3 a0_4 l0_5 a1_0 a1_1 a1_2 a1_3 a1_4 l1_5 = some r) : ACalls Tryz.prog 103 [.dat true [.sc (.int .i64 a0_0), .sc (.int .i64 a0_1), .sc (.string a0_2), .sc (.string a0_3), .sc (.string a0_4), .sl none 1 (List.flatMap eI l0_5)], .dat true [.sc (.int .i64 a1_0), .sc (.int .i64 a1_1), .sc (.string a1_2), .sc (.string a1_3), .sc (.string a1_4), .sl none 1 (List.flatMap eI l1_5)]] [(false, [.sc (.bool r)])] [.dat true [.sc (.int .i64 a0_0), .sc (.int .i64 a0_1), .sc (.string a0_2), .sc (.string a0_3), .sc (.string a0_4), .sl none 1 (List.flatMap eI l0_5)], .dat true [.sc (.int .i64 a1_0), .sc (.int .i64 a1_1), .sc (.string a1_2), .sc (.string a1_3), .sc (.string a1_4), .sl none 1 (List.flatMap eI l1_5)]] := by
 refine ACalls.en Tryz.func103 Tryz.ntmps103 .go .go .go .go ?_
 intro C F hC hP hF hn (hx : C.fx = [])
 have kp : KL [0, 1, 2, 3, 4, 9, 14, 19, 24, 29, 35] := ⟨⟩
 have kr : KR #[.tmp 4] := ⟨⟩
 have c0 := Hold.mk @laws_eqIntS.link
 simp only [laws_eqNode.f] at H
 apply BZ.out
 exact BZ.go
set_option maxHeartbeats 8000000 in
theorem laws_eqNodeS.link {k : Nat} {l0 : List (S71)} {l1 : List (S71)} {r : Bool} (H : laws_eqNodeS.f k l0 l1 = some r) : ACalls Tryz.prog 38 [.dat false [.sl none 6 (List.flatMap e71 l0)], .dat false [.sl none 6 (List.flatMap e71 l1)]] [(false, [.sc (.bool r)])] [.dat false [.sl none 6 (List.flatMap e71 l0)], .dat false [.sl none 6 (List.flatMap e71 l1)]] := by
 refine ACalls.en Tryz.func38 Tryz.ntmps38 .go .go .go .go ?_
 intro C F hC hP hF hn (hx : C.fx = [])
 have kp : KL [0, 1, 4, 5, 10, 14, 26] := ⟨⟩
 have kr : KR #[.tmp 4] := ⟨⟩
 have kd0 : KD 6 (noneL [0, 1, 2, 3, 4, 5, 6, 7] ++ ((8, some []) :: (noneL [9] ++ []))) := ⟨⟩
 have c0 := Hold.mk @laws_eqNode.link
 simp only [laws_eqNodeS.f] at H
 have w0 : LJ [0, 1, 5] (fun q X => ∃ x0, ∃ x1, ∃ x5, X = ⟨[(0, .dat false [.sl none 6 (List.flatMap e71 x0)]), (1, .dat false [.sl none 6 (List.flatMap e71 x1)]), (5, .dat false [.sc (.int .i64 x5)])], []⟩ ∧ q ≤ k ∧ laws_eqNodeS.l0 q x0 x1 x5 = some r) := ⟨⟩
 apply late
 · intro lp0
   apply BZ.out
   exact BZ.go
 · intro q1 X hJ ih0
   clear H
   obtain ⟨x0, x1, x5, rfl, hq, H⟩ := hJ
   cases q1 with
   | zero => (simp only [laws_eqNodeS.l0] at H; cases H)
   | succ kq1 =>
    simp only [laws_eqNodeS.l0] at H
    apply BZn.out
    exact BZn.go
set_option maxHeartbeats 8000000 in
theorem laws_eqStringS.link {k : Nat} {l0 : List ByteArray} {l1 : List ByteArray} {r : Bool} (H : laws_eqStringS.f k l0 l1 = some r) : ACalls Tryz.prog 130 [.dat false [.sl none 1 (List.flatMap eS l0)], .dat false [.sl none 1 (List.flatMap eS l1)]] [(false, [.sc (.bool r)])] [.dat false [.sl none 1 (List.flatMap eS l0)], .dat false [.sl none 1 (List.flatMap eS l1)]] := by
 refine ACalls.en Tryz.func130 Tryz.ntmps130 .go .go .go .go ?_
 intro C F hC hP hF hn (hx : C.fx = [])
 have kp : KL [0, 1, 4, 5, 10, 14, 25] := ⟨⟩
 have kr : KR #[.tmp 4] := ⟨⟩
 simp only [laws_eqStringS.f] at H
 have w0 : LJ [0, 1, 5] (fun q X => ∃ x0, ∃ x1, ∃ x5, X = ⟨[(0, .dat false [.sl none 1 (List.flatMap eS x0)]), (1, .dat false [.sl none 1 (List.flatMap eS x1)]), (5, .dat false [.sc (.int .i64 x5)])], []⟩ ∧ q ≤ k ∧ laws_eqStringS.l0 q x0 x1 x5 = some r) := ⟨⟩
 apply late
 · intro lp0
   apply BZ.out
   exact BZ.go
 · intro q1 X hJ ih0
   clear H
   obtain ⟨x0, x1, x5, rfl, hq, H⟩ := hJ
   cases q1 with
   | zero => (simp only [laws_eqStringS.l0] at H; cases H)
   | succ kq1 =>
    simp only [laws_eqStringS.l0] at H
    apply BZn.out
    exact BZn.go
set_option maxHeartbeats 8000000 in
theorem laws_eqEntry.link {a0_0 : ByteArray} {a0_1 : ByteArray} {a0_2 : Int} {a1_0 : ByteArray} {a1_1 : ByteArray} {a1_2 : Int} {r : Bool} (H : laws_eqEntry.f a0_0 a0_1 a0_2 a1_0 a1_1 a1_2 = some r) : ACalls Tryz.prog 165 [.dat true [.sc (.string a0_0), .sc (.string a0_1), .sc (.int .i64 a0_2)], .dat true [.sc (.string a1_0), .sc (.string a1_1), .sc (.int .i64 a1_2)]] [(false, [.sc (.bool r)])] [.dat true [.sc (.string a0_0), .sc (.string a0_1), .sc (.int .i64 a0_2)], .dat true [.sc (.string a1_0), .sc (.string a1_1), .sc (.int .i64 a1_2)]] := by
 refine ACalls.en Tryz.func165 Tryz.ntmps165 .go .go .go .go ?_
 intro C F hC hP hF hn (hx : C.fx = [])
 have kp : KL [0, 1, 2, 3, 4, 9, 14, 19] := ⟨⟩
 have kr : KR #[.tmp 4] := ⟨⟩
 simp only [laws_eqEntry.f] at H
 apply BZ.out
 exact BZ.go
set_option maxHeartbeats 8000000 in
theorem laws_eqEntryS.link {k : Nat} {l0 : List (S113)} {l1 : List (S113)} {r : Bool} (H : laws_eqEntryS.f k l0 l1 = some r) : ACalls Tryz.prog 153 [.dat false [.sl none 3 (List.flatMap e113 l0)], .dat false [.sl none 3 (List.flatMap e113 l1)]] [(false, [.sc (.bool r)])] [.dat false [.sl none 3 (List.flatMap e113 l0)], .dat false [.sl none 3 (List.flatMap e113 l1)]] := by
 refine ACalls.en Tryz.func153 Tryz.ntmps153 .go .go .go .go ?_
 intro C F hC hP hF hn (hx : C.fx = [])
 have kp : KL [0, 1, 4, 5, 10, 14, 26] := ⟨⟩
 have kr : KR #[.tmp 4] := ⟨⟩
 have kd0 : KD 6 (noneL [0, 1, 2, 3, 4, 5, 6, 7] ++ ((8, some []) :: (noneL [9] ++ []))) := ⟨⟩
 have c0 := Hold.mk @laws_eqEntry.link
 simp only [laws_eqEntryS.f] at H
 have w0 : LJ [0, 1, 5] (fun q X => ∃ x0, ∃ x1, ∃ x5, X = ⟨[(0, .dat false [.sl none 3 (List.flatMap e113 x0)]), (1, .dat false [.sl none 3 (List.flatMap e113 x1)]), (5, .dat false [.sc (.int .i64 x5)])], []⟩ ∧ q ≤ k ∧ laws_eqEntryS.l0 q x0 x1 x5 = some r) := ⟨⟩
 apply late
 · intro lp0
   apply BZ.out
   exact BZ.go
 · intro q1 X hJ ih0
   clear H
   obtain ⟨x0, x1, x5, rfl, hq, H⟩ := hJ
   cases q1 with
   | zero => (simp only [laws_eqEntryS.l0] at H; cases H)
   | succ kq1 =>
    simp only [laws_eqEntryS.l0] at H
    apply BZn.out
    exact BZn.go
set_option maxHeartbeats 8000000 in
theorem laws_eqMonitor.link {k : Nat} {a0_0 : ByteArray} {l0_1 : List ByteArray} {l0_2 : List ByteArray} {l0_3 : List (S113)} {a1_0 : ByteArray} {l1_1 : List ByteArray} {l1_2 : List ByteArray} {l1_3 : List (S113)} {r : Bool} (H : laws_eqMonitor.f k a0_0 l0_1 l0_2 l0_3 a1_0 l1_1 l1_2 l1_3 = some r) : ACalls Tryz.prog 104 [.dat true [.sc (.string a0_0), .sl none 1 (List.flatMap eS l0_1), .sl none 1 (List.flatMap eS l0_2), .sl none 3 (List.flatMap e113 l0_3)], .dat true [.sc (.string a1_0), .sl none 1 (List.flatMap eS l1_1), .sl none 1 (List.flatMap eS l1_2), .sl none 3 (List.flatMap e113 l1_3)]] [(false, [.sc (.bool r)])] [.dat true [.sc (.string a0_0), .sl none 1 (List.flatMap eS l0_1), .sl none 1 (List.flatMap eS l0_2), .sl none 3 (List.flatMap e113 l0_3)], .dat true [.sc (.string a1_0), .sl none 1 (List.flatMap eS l1_1), .sl none 1 (List.flatMap eS l1_2), .sl none 3 (List.flatMap e113 l1_3)]] := by
 refine ACalls.en Tryz.func104 Tryz.ntmps104 .go .go .go .go ?_
 intro C F hC hP hF hn (hx : C.fx = [])
 have kp : KL [0, 1, 2, 3, 4, 9, 15, 21, 27] := ⟨⟩
 have kr : KR #[.tmp 4] := ⟨⟩
 have c0 := Hold.mk @laws_eqStringS.link
 have c1 := Hold.mk @laws_eqEntryS.link
 simp only [laws_eqMonitor.f] at H
 apply BZ.out
 exact BZ.go
set_option maxHeartbeats 8000000 in
theorem laws_eqMonitorS.link {k : Nat} {l0 : List (S111)} {l1 : List (S111)} {r : Bool} (H : laws_eqMonitorS.f k l0 l1 = some r) : ACalls Tryz.prog 39 [.dat false [.sl none 4 (List.flatMap e111 l0)], .dat false [.sl none 4 (List.flatMap e111 l1)]] [(false, [.sc (.bool r)])] [.dat false [.sl none 4 (List.flatMap e111 l0)], .dat false [.sl none 4 (List.flatMap e111 l1)]] := by
 refine ACalls.en Tryz.func39 Tryz.ntmps39 .go .go .go .go ?_
 intro C F hC hP hF hn (hx : C.fx = [])
 have kp : KL [0, 1, 4, 5, 10, 14, 26] := ⟨⟩
 have kr : KR #[.tmp 4] := ⟨⟩
 have kd0 : KD 6 (noneL [0, 1, 2, 3, 4, 5, 6, 7] ++ ((8, some []) :: (noneL [9] ++ []))) := ⟨⟩
 have c0 := Hold.mk @laws_eqMonitor.link
 simp only [laws_eqMonitorS.f] at H
 have w0 : LJ [0, 1, 5] (fun q X => ∃ x0, ∃ x1, ∃ x5, X = ⟨[(0, .dat false [.sl none 4 (List.flatMap e111 x0)]), (1, .dat false [.sl none 4 (List.flatMap e111 x1)]), (5, .dat false [.sc (.int .i64 x5)])], []⟩ ∧ q ≤ k ∧ laws_eqMonitorS.l0 q x0 x1 x5 = some r) := ⟨⟩
 apply late
 · intro lp0
   apply BZ.out
   exact BZ.go
 · intro q1 X hJ ih0
   clear H
   obtain ⟨x0, x1, x5, rfl, hq, H⟩ := hJ
   cases q1 with
   | zero => (simp only [laws_eqMonitorS.l0] at H; cases H)
   | succ kq1 =>
    simp only [laws_eqMonitorS.l0] at H
    apply BZn.out
    exact BZn.go
set_option maxHeartbeats 8000000 in
theorem laws_eqProcess.link {k : Nat} {a0_0 : ByteArray} {l0_1 : List ByteArray} {l0_2 : List ByteArray} {a0_3 : Int} {a1_0 : ByteArray} {l1_1 : List ByteArray} {l1_2 : List ByteArray} {a1_3 : Int} {r : Bool} (H : laws_eqProcess.f k a0_0 l0_1 l0_2 a0_3 a1_0 l1_1 l1_2 a1_3 = some r) : ACalls Tryz.prog 105 [.dat true [.sc (.string a0_0), .sl none 1 (List.flatMap eS l0_1), .sl none 1 (List.flatMap eS l0_2), .sc (.int .i64 a0_3)], .dat true [.sc (.string a1_0), .sl none 1 (List.flatMap eS l1_1), .sl none 1 (List.flatMap eS l1_2), .sc (.int .i64 a1_3)]] [(false, [.sc (.bool r)])] [.dat true [.sc (.string a0_0), .sl none 1 (List.flatMap eS l0_1), .sl none 1 (List.flatMap eS l0_2), .sc (.int .i64 a0_3)], .dat true [.sc (.string a1_0), .sl none 1 (List.flatMap eS l1_1), .sl none 1 (List.flatMap eS l1_2), .sc (.int .i64 a1_3)]] := by
 refine ACalls.en Tryz.func105 Tryz.ntmps105 .go .go .go .go ?_
 intro C F hC hP hF hn (hx : C.fx = [])
 have kp : KL [0, 1, 2, 3, 4, 9, 15, 21, 26] := ⟨⟩
 have kr : KR #[.tmp 4] := ⟨⟩
 have c0 := Hold.mk @laws_eqStringS.link
 simp only [laws_eqProcess.f] at H
 apply BZ.out
 exact BZ.go
set_option maxHeartbeats 8000000 in
theorem laws_eqProcessS.link {k : Nat} {l0 : List (S115)} {l1 : List (S115)} {r : Bool} (H : laws_eqProcessS.f k l0 l1 = some r) : ACalls Tryz.prog 40 [.dat false [.sl none 4 (List.flatMap e115 l0)], .dat false [.sl none 4 (List.flatMap e115 l1)]] [(false, [.sc (.bool r)])] [.dat false [.sl none 4 (List.flatMap e115 l0)], .dat false [.sl none 4 (List.flatMap e115 l1)]] := by
 refine ACalls.en Tryz.func40 Tryz.ntmps40 .go .go .go .go ?_
 intro C F hC hP hF hn (hx : C.fx = [])
 have kp : KL [0, 1, 4, 5, 10, 14, 26] := ⟨⟩
 have kr : KR #[.tmp 4] := ⟨⟩
 have kd0 : KD 6 (noneL [0, 1, 2, 3, 4, 5, 6, 7] ++ ((8, some []) :: (noneL [9] ++ []))) := ⟨⟩
 have c0 := Hold.mk @laws_eqProcess.link
 simp only [laws_eqProcessS.f] at H
 have w0 : LJ [0, 1, 5] (fun q X => ∃ x0, ∃ x1, ∃ x5, X = ⟨[(0, .dat false [.sl none 4 (List.flatMap e115 x0)]), (1, .dat false [.sl none 4 (List.flatMap e115 x1)]), (5, .dat false [.sc (.int .i64 x5)])], []⟩ ∧ q ≤ k ∧ laws_eqProcessS.l0 q x0 x1 x5 = some r) := ⟨⟩
 apply late
 · intro lp0
   apply BZ.out
   exact BZ.go
 · intro q1 X hJ ih0
   clear H
   obtain ⟨x0, x1, x5, rfl, hq, H⟩ := hJ
   cases q1 with
   | zero => (simp only [laws_eqProcessS.l0] at H; cases H)
   | succ kq1 =>
    simp only [laws_eqProcessS.l0] at H
    apply BZn.out
    exact BZn.go
set_option maxHeartbeats 8000000 in
theorem laws_eqProgram.link {k : Nat} {l0_0 : List (S71)} {l0_1 : List (S111)} {l0_2 : List (S115)} {l1_0 : List (S71)} {l1_1 : List (S111)} {l1_2 : List (S115)} {r : Bool} (H : laws_eqProgram.f k l0_0 l0_1 l0_2 l1_0 l1_1 l1_2 = some r) : ACalls Tryz.prog 11 [.dat true [.sl none 6 (List.flatMap e71 l0_0), .sl none 4 (List.flatMap e111 l0_1), .sl none 4 (List.flatMap e115 l0_2)], .dat true [.sl none 6 (List.flatMap e71 l1_0), .sl none 4 (List.flatMap e111 l1_1), .sl none 4 (List.flatMap e115 l1_2)]] [(false, [.sc (.bool r)])] [.dat true [.sl none 6 (List.flatMap e71 l0_0), .sl none 4 (List.flatMap e111 l0_1), .sl none 4 (List.flatMap e115 l0_2)], .dat true [.sl none 6 (List.flatMap e71 l1_0), .sl none 4 (List.flatMap e111 l1_1), .sl none 4 (List.flatMap e115 l1_2)]] := by
 refine ACalls.en Tryz.func11 Tryz.ntmps11 .go .go .go .go ?_
 intro C F hC hP hF hn (hx : C.fx = [])
 have kp : KL [0, 1, 2, 3, 4, 10, 16, 22] := ⟨⟩
 have kr : KR #[.tmp 4] := ⟨⟩
 have c0 := Hold.mk @laws_eqNodeS.link
 have c1 := Hold.mk @laws_eqMonitorS.link
 have c2 := Hold.mk @laws_eqProcessS.link
 simp only [laws_eqProgram.f] at H
 apply BZ.out
 exact BZ.go
set_option maxHeartbeats 8000000 in
theorem laws_szEnv.link {k : Nat} {l0_0 : List ByteArray} {l0_1 : List Int} {a1 : Int} {r : Int} (H : laws_szEnv.f k l0_0 l0_1 a1 = some r) : ACalls Tryz.prog 46 [.dat true [.sl none 1 (List.flatMap eS l0_0), .sl none 1 (List.flatMap eI l0_1)], .dat false [.sc (.int .i64 a1)]] [(false, [.sc (.int .i64 r)])] [.dat true [.sl none 1 (List.flatMap eS l0_0), .sl none 1 (List.flatMap eI l0_1)], .dat false [.sc (.int .i64 a1)]] := by
 refine ACalls.en Tryz.func46 Tryz.ntmps46 .go .go .go .go ?_
 intro C F hC hP hF hn (hx : C.fx = [])
 have kp : KL [0, 1, 2, 4, 10, 16] := ⟨⟩
 have kr : KR #[.tmp 4] := ⟨⟩
 have c0 := Hold.mk @laws_szIntS.link
 have c1 := Hold.mk @laws_szStringS.link
 simp only [laws_szEnv.f] at H
 apply BZn.out
 exact BZn.go
set_option maxHeartbeats 8000000 in
theorem laws_szThread.link {k : Nat} {l0_0 : List Int} {l0_1 : List ByteArray} {l0_2 : List Int} {a0_3 : Int} {a1 : Int} {r : Int} (H : laws_szThread.f k l0_0 l0_1 l0_2 a0_3 a1 = some r) : ACalls Tryz.prog 14 [.dat true [.sl none 1 (List.flatMap eI l0_0), .sl none 1 (List.flatMap eS l0_1), .sl none 1 (List.flatMap eI l0_2), .sc (.int .i64 a0_3)], .dat false [.sc (.int .i64 a1)]] [(false, [.sc (.int .i64 r)])] [.dat true [.sl none 1 (List.flatMap eI l0_0), .sl none 1 (List.flatMap eS l0_1), .sl none 1 (List.flatMap eI l0_2), .sc (.int .i64 a0_3)], .dat false [.sc (.int .i64 a1)]] := by
 refine ACalls.en Tryz.func14 Tryz.ntmps14 .go .go .go .go ?_
 intro C F hC hP hF hn (hx : C.fx = [])
 have kp : KL [0, 1, 2, 4, 10, 16] := ⟨⟩
 have kr : KR #[.tmp 4] := ⟨⟩
 have c0 := Hold.mk @laws_szIntS.link
 have c1 := Hold.mk @laws_szEnv.link
 simp only [laws_szThread.f] at H
 apply BZn.out
 exact BZn.go
set_option maxHeartbeats 8000000 in
theorem spec_l10Copy.link {l0_0 : List ByteArray} {l0_1 : List Int} {r : List ByteArray × List Int} (H : spec_l10Copy.f l0_0 l0_1 = some r) : ACalls Tryz.prog 111 [.dat true [.sl none 1 (List.flatMap eS l0_0), .sl none 1 (List.flatMap eI l0_1)]] [(true, [.sl (some 0) 1 (List.flatMap eS r.1), .sl (some 0) 1 (List.flatMap eI r.2)])] [.dat true [.sl none 1 (List.flatMap eS l0_0), .sl none 1 (List.flatMap eI l0_1)]] := by
 refine ACalls.en Tryz.func111 Tryz.ntmps111 .go .go .go .go ?_
 intro C F hC hP hF hn (hx : C.fx = [])
 have kp : KL [0, 1, 2] := ⟨⟩
 have kr : KR #[.cell 2 45] := ⟨⟩
 have kt0 : KT 1 [1, 2, 5, 6] [0, 1, 2, 3, 4, 5, 6, 7, 8, 9] (.e 1 (.e 2 (.e 5 (.e 6 (.m 0 [6, 5, 2, 1] (.m 3 [6, 5] (.m 4 [6, 5] (.m 7 [] (.m 8 [] (.m 9 [] .z .x) .x) .x) .x) (.m 4 [6, 5, 2, 1] (.m 3 [6, 5] (.m 7 [] (.m 8 [] (.m 9 [] .z .x) .x) .x) .x) .x)) (.m 4 [6, 5, 2, 1] (.m 0 [6, 5, 2, 1] (.m 3 [6, 5] (.m 7 [] (.m 8 [] (.m 9 [] .z .x) .x) .x) .x) .x) .x)))))) := ⟨⟩
 simp only [spec_l10Copy.f] at H
 apply BZna.out
 exact BZna.go
attribute [local go_sem] inLine Option.map_some contig List.take_succ_cons List.take_zero List.drop_succ_cons List.drop_zero List.drop_nil List.take_nil List.length_cons List.length_nil List.append_nil List.cons_append List.nil_append Nat.zero_add Nat.reduceAdd Nat.reduceEqDiff Nat.reduceLeDiff Nat.le_refl in
attribute [-go_sem] eI_rep List.length_replicate in
attribute [local go_sem] eI_per in
set_option maxHeartbeats 8000000 in
theorem spec_l11Copy.link {l0_0 : List Int} {l0_1 : List ByteArray} {l0_2 : List Int} {a0_3 : Int} {r : List Int × List ByteArray × List Int × Int} (H : spec_l11Copy.f l0_0 l0_1 l0_2 a0_3 = some r) : ACalls Tryz.prog 47 [.dat true [.sl none 1 (List.flatMap eI l0_0), .sl none 1 (List.flatMap eS l0_1), .sl none 1 (List.flatMap eI l0_2), .sc (.int .i64 a0_3)]] [(true, [.sl (some 0) 1 (List.flatMap eI r.1), .sl (some 0) 1 (List.flatMap eS r.2.1), .sl (some 0) 1 (List.flatMap eI r.2.2.1), .sc (.int .i64 r.2.2.2)])] [.dat true [.sl none 1 (List.flatMap eI l0_0), .sl none 1 (List.flatMap eS l0_1), .sl none 1 (List.flatMap eI l0_2), .sc (.int .i64 a0_3)]] := by
 refine ACalls.en Tryz.func47 Tryz.ntmps47 .go .go .go .go ?_
 intro C F hC hP hF hn (hx : C.fx = [])
 have kp : KL [0, 1, 2] := ⟨⟩
 have kr : KR #[.cell 2 47] := ⟨⟩
 have kd0 : KD 1 (noneL [1, 2, 4, 5, 7, 8] ++ ((0, some [8, 7, 5, 4, 2, 1]) :: ((3, some [8, 7, 5, 4]) :: ((6, some [8, 7]) :: ((9, some []) :: ((10, some []) :: ([]))))))) := ⟨⟩
 have c0 := Hold.mk @spec_l10Copy.link
 simp only [spec_l11Copy.f] at H
 apply BZa.out
 exact BZa.go
set_option maxHeartbeats 8000000 in
theorem spec_l01In.link {a0 : Int} {a1 : Int} {a2 : Int} {r : Bool} (H : spec_l01In.f a0 a1 a2 = some r) : ACalls Tryz.prog 73 [.dat false [.sc (.int .i64 a0)], .dat false [.sc (.int .i64 a1)], .dat false [.sc (.int .i64 a2)]] [(false, [.sc (.bool r)])] [.dat false [.sc (.int .i64 a0)], .dat false [.sc (.int .i64 a1)], .dat false [.sc (.int .i64 a2)]] := by
 refine ACalls.en Tryz.func73 Tryz.ntmps73 .go .go .go .go ?_
 intro C F hC hP hF hn (hx : C.fx = [])
 have kp : KL [0, 1, 2, 6] := ⟨⟩
 have kr : KR #[.tmp 6] := ⟨⟩
 simp only [spec_l01In.f] at H
 apply BZ.out
 exact BZ.go
set_option maxHeartbeats 8000000 in
theorem spec_l11Kind.link {l0_0 : List (S71)} {l0_1 : List (S111)} {l0_2 : List (S115)} {l1_0 : List Int} {l1_1 : List ByteArray} {l1_2 : List Int} {a1_3 : Int} {r : Int} (H : spec_l11Kind.f l0_0 l0_1 l0_2 l1_0 l1_1 l1_2 a1_3 = some r) : ACalls Tryz.prog 135 [.dat true [.sl none 6 (List.flatMap e71 l0_0), .sl none 4 (List.flatMap e111 l0_1), .sl none 4 (List.flatMap e115 l0_2)], .dat true [.sl none 1 (List.flatMap eI l1_0), .sl none 1 (List.flatMap eS l1_1), .sl none 1 (List.flatMap eI l1_2), .sc (.int .i64 a1_3)]] [(false, [.sc (.int .i64 r)])] [.dat true [.sl none 6 (List.flatMap e71 l0_0), .sl none 4 (List.flatMap e111 l0_1), .sl none 4 (List.flatMap e115 l0_2)], .dat true [.sl none 1 (List.flatMap eI l1_0), .sl none 1 (List.flatMap eS l1_1), .sl none 1 (List.flatMap eI l1_2), .sc (.int .i64 a1_3)]] := by
 refine ACalls.en Tryz.func135 Tryz.ntmps135 .go .go .go .go ?_
 intro C F hC hP hF hn (hx : C.fx = [])
 have kp : KL [0, 1, 2, 3, 4, 5, 9, 24] := ⟨⟩
 have kr : KR #[.tmp 4] := ⟨⟩
 have c0 := Hold.mk @spec_l01In.link
 simp only [spec_l11Kind.f] at H
 apply BZn.out
 exact BZn.go
set_option maxHeartbeats 8000000 in
theorem spec_GetIn.link {k : Nat} {l0_0 : List ByteArray} {l0_1 : List Int} {a1 : ByteArray} {r : Int} (H : spec_GetIn.f k l0_0 l0_1 a1 = some r) : ACalls Tryz.prog 172 [.dat true [.sl none 1 (List.flatMap eS l0_0), .sl none 1 (List.flatMap eI l0_1)], .dat false [.sc (.string a1)]] [(false, [.sc (.int .i64 r)])] [.dat true [.sl none 1 (List.flatMap eS l0_0), .sl none 1 (List.flatMap eI l0_1)], .dat false [.sc (.string a1)]] := by
 refine ACalls.en Tryz.func172 Tryz.ntmps172 .go .go .go .go ?_
 intro C F hC hP hF hn (hx : C.fx = [])
 have kp : KL [0, 1, 2, 4, 5, 17, 26] := ⟨⟩
 have kr : KR #[.tmp 4] := ⟨⟩
 simp only [spec_GetIn.f] at H
 have w0 : LJ [1, 2, 5] (fun q X => ∃ x1, ∃ x5, ∃ x399000, ∃ x399001, X = ⟨[(1, .dat false [.sc (.string x1)]), (2, .pl 0 none 0), (5, .dat false [.sc (.int .i64 x5)])], [(0, .mem [.sl none 1 (List.flatMap eS x399000), .sl none 1 (List.flatMap eI x399001)])]⟩ ∧ q ≤ k ∧ spec_GetIn.l0 q x1 x5 x399000 x399001 = some r) := ⟨⟩
 apply late
 · intro lp0
   apply BZ.out
   exact BZ.go
 · intro q1 X hJ ih0
   clear H
   obtain ⟨x1, x5, x399000, x399001, rfl, hq, H⟩ := hJ
   cases q1 with
   | zero => (simp only [spec_GetIn.l0] at H; cases H)
   | succ kq1 =>
    simp only [spec_GetIn.l0] at H
    replace H := Hold.mk H
    have m0 : LM 2 2 [1, 2, 5, 17] (fun X => ∃ x1, ∃ x5, ∃ x17, ∃ x399000, ∃ x399001, ∃ q, X = ⟨[(1, .dat false [.sc (.string x1)]), (2, .pl 0 none 0), (5, .dat false [.sc (.int .i64 x5)]), (17, .dat false [.sc (.bool x17)])], [(0, .mem [.sl none 1 (List.flatMap eS x399000), .sl none 1 (List.flatMap eI x399001)])]⟩ ∧ q ≤ kq1 ∧ spec_GetIn.j1 q x1 x5 x17 x399000 x399001 = some r) := ⟨⟩
    apply late
    · intro pa0
      apply late
      · intro pb0
        apply BZc.out
        exact BZc.go
      · clear H
        intro X hJ
        obtain ⟨x1, x5, x17, x399000, x399001, q2, rfl, hq, H⟩ := hJ
        cases q2 with
        | zero => (simp only [spec_GetIn.j1] at H; cases H)
        | succ kq2 =>
         simp only [spec_GetIn.j1] at H
         apply BZn.out
         exact BZn.go
    · intro hj0
      replace H := H.out
      apply BZ.out
      exact BZ.go
set_option maxHeartbeats 8000000 in
theorem spec_ValOk.link {a0 : Int} {r : Bool} (H : spec_ValOk.f a0 = some r) : ACalls Tryz.prog 170 [.dat false [.sc (.int .i64 a0)]] [(false, [.sc (.bool r)])] [.dat false [.sc (.int .i64 a0)]] := by
 refine ACalls.en Tryz.func170 Tryz.ntmps170 .go .go .go .go ?_
 intro C F hC hP hF hn (hx : C.fx = [])
 have kp : KL [0, 2] := ⟨⟩
 have kr : KR #[.tmp 2] := ⟨⟩
 have c0 := Hold.mk @spec_l01In.link
 simp only [spec_ValOk.f] at H
 apply BZ.out
 exact BZ.go
attribute [local go_sem] Int.zero_sub in
set_option maxHeartbeats 8000000 in
theorem spec_Negated.link {a0 : Int} {r : Int × Int} (H : spec_Negated.f a0 = some r) : ACalls Tryz.prog 174 [.dat false [.sc (.int .i64 a0)]] [(false, [.sc (.int .i64 r.1)]), (false, [.sc (.int .i64 r.2)])] [.dat false [.sc (.int .i64 a0)]] := by
 refine ACalls.en Tryz.func174 Tryz.ntmps174 .go .go .go .go ?_
 intro C F hC hP hF hn (hx : C.fx = [])
 have kp : KL [0, 2, 3, 6] := ⟨⟩
 have kr : KR #[.tmp 2, .tmp 3] := ⟨⟩
 have c0 := Hold.mk @spec_ValOk.link
 simp only [spec_Negated.f] at H
 apply BZ.out
 exact BZ.go
end Go.Proofs.YtjjhknklnclokaaGreat.PFnExactStepThread
