/- Functions' walks: each computes what its plain form says. No condition. -/
import Derived.Test.YtjjhknklnclokaaLkFnExactValueAth
import Derived.Test.YtjjhknklnclokaaLkFnExactValueAta
import Derived.Test.YtjjhknklnclokaaLkFnExactValueAtc
open Go Go.Proofs Go.Proofs.Ytjjhknklnclokaa.Abs
namespace Go.Proofs.Ytjjhknklnclokaa.PFnExactValueAt
open Go.RowKit Go.Proofs.YtjjhknklnclokaaW.PrintWords Go.Proofs.YtjjhknklnclokaaW.PrintLast Go.Proofs.YtjjhknklnclokaaW.PrintMore
set_option linter.unusedVariables false
set_option linter.unusedSimpArgs false
set_option maxRecDepth 100000
attribute [local irreducible] evK evQ evM evF evW evH goE goK goKD goQ goQD goD Ok ACalls
set_option maxHeartbeats 8000000 in
theorem spec_l10Value.link {k : Nat} {l0_0 : List (S57)} {l0_1 : List (S86)} {l0_2 : List (S88)} {a1 : Int} {l2_0 : List ByteArray} {l2_1 : List Int} {r : Int × Int} (H : spec_l10Value.f k l0_0 l0_1 l0_2 a1 l2_0 l2_1 = some r) : ACalls Try.prog 37 [.dat true [.sl none 6 (List.flatMap e57 l0_0), .sl none 4 (List.flatMap e86 l0_1), .sl none 4 (List.flatMap e88 l0_2)], .dat false [.sc (.int .i64 a1)], .dat true [.sl none 1 (List.flatMap eS l2_0), .sl none 1 (List.flatMap eI l2_1)]] [(false, [.sc (.int .i64 r.1)]), (false, [.sc (.int .i64 r.2)])] [.dat true [.sl none 6 (List.flatMap e57 l0_0), .sl none 4 (List.flatMap e86 l0_1), .sl none 4 (List.flatMap e88 l0_2)], .dat false [.sc (.int .i64 a1)], .dat true [.sl none 1 (List.flatMap eS l2_0), .sl none 1 (List.flatMap eI l2_1)]] := by
 induction k using Nat.strongRecOn generalizing l0_0 l0_1 l0_2 a1 l2_0 l2_1 r with
 | _ k ih =>
 have e0 : Hold (∀ {m : Nat} {l0_0 : List (S57)} {l0_1 : List (S86)} {l0_2 : List (S88)} {a1 : Int} {l2_0 : List ByteArray} {l2_1 : List Int} {r : Int × Int}, spec_l10Value.f m l0_0 l0_1 l0_2 a1 l2_0 l2_1 = some r → m < k → ACalls Try.prog 37 [.dat true [.sl none 6 (List.flatMap e57 l0_0), .sl none 4 (List.flatMap e86 l0_1), .sl none 4 (List.flatMap e88 l0_2)], .dat false [.sc (.int .i64 a1)], .dat true [.sl none 1 (List.flatMap eS l2_0), .sl none 1 (List.flatMap eI l2_1)]] [(false, [.sc (.int .i64 r.1)]), (false, [.sc (.int .i64 r.2)])] [.dat true [.sl none 6 (List.flatMap e57 l0_0), .sl none 4 (List.flatMap e86 l0_1), .sl none 4 (List.flatMap e88 l0_2)], .dat false [.sc (.int .i64 a1)], .dat true [.sl none 1 (List.flatMap eS l2_0), .sl none 1 (List.flatMap eI l2_1)]]) := ⟨fun H h => ih _ h H⟩
 refine ACalls.en Try.func37 Try.ntmps37 .go .go .go .go ?_
 intro C F hC hP hF hn (hx : C.fx = [])
 have kp : KL [0, 1, 2, 3, 5, 6, 7, 8, 9, 10, 11, 12, 20, 25, 41, 44, 45, 49, 66] := ⟨⟩
 have kr : KR #[.tmp 6, .tmp 7] := ⟨⟩
 have kd0 : KD 6 (noneL [0, 1, 2, 3, 4, 5] ++ ((6, some []) :: (noneL [7, 8, 9, 10, 11] ++ []))) := ⟨⟩
 have kd1 : KD 14 (noneL [0, 1, 2, 3, 4, 5] ++ ((6, some []) :: (noneL [7, 8, 9, 10, 11] ++ []))) := ⟨⟩
 have c0 := Hold.mk @spec_GetIn.link
 have c1 := Hold.mk @spec_Denied.link
 have c2 := Hold.mk @spec_Negated.link
 have c3 := Hold.mk @spec_Calc.link
 cases k with
 | zero => (simp only [spec_l10Value.f] at H; cases H)
 | succ k =>
   simp only [spec_l10Value.f] at H
   apply BZn.out
   exact BZn.go
set_option maxHeartbeats 8000000 in
theorem spec_ValueOf.link {k : Nat} {l0_0 : List (S57)} {l0_1 : List (S86)} {l0_2 : List (S88)} {a1 : Int} {l2_0 : List ByteArray} {l2_1 : List Int} {r : Int × Int} (H : spec_ValueOf.f k l0_0 l0_1 l0_2 a1 l2_0 l2_1 = some r) : ACalls Try.prog 18 [.dat true [.sl none 6 (List.flatMap e57 l0_0), .sl none 4 (List.flatMap e86 l0_1), .sl none 4 (List.flatMap e88 l0_2)], .dat false [.sc (.int .i64 a1)], .dat true [.sl none 1 (List.flatMap eS l2_0), .sl none 1 (List.flatMap eI l2_1)]] [(false, [.sc (.int .i64 r.1)]), (false, [.sc (.int .i64 r.2)])] [.dat true [.sl none 6 (List.flatMap e57 l0_0), .sl none 4 (List.flatMap e86 l0_1), .sl none 4 (List.flatMap e88 l0_2)], .dat false [.sc (.int .i64 a1)], .dat true [.sl none 1 (List.flatMap eS l2_0), .sl none 1 (List.flatMap eI l2_1)]] := by
 refine ACalls.en Try.func18 Try.ntmps18 .go .go .go .go ?_
 intro C F hC hP hF hn (hx : C.fx = [])
 have kp : KL [0, 1, 2, 3, 5, 6, 7, 21] := ⟨⟩
 have kr : KR #[.tmp 6, .tmp 7] := ⟨⟩
 have c0 := Hold.mk @spec_l05Value.link
 have c1 := Hold.mk @spec_DeepOf.link
 have c2 := Hold.mk @spec_l10Value.link
 simp only [spec_ValueOf.f] at H
 apply BZn.out
 exact BZn.go
set_option maxHeartbeats 8000000 in
theorem spec_ValueAt.link {k : Nat} {l0_0 : List (S57)} {l0_1 : List (S86)} {l0_2 : List (S88)} {l1_0 : List Int} {l1_1 : List ByteArray} {l1_2 : List Int} {a1_3 : Int} {r : Int × Int} (H : spec_ValueAt.f k l0_0 l0_1 l0_2 l1_0 l1_1 l1_2 a1_3 = some r) : ACalls Try.prog 6 [.dat true [.sl none 6 (List.flatMap e57 l0_0), .sl none 4 (List.flatMap e86 l0_1), .sl none 4 (List.flatMap e88 l0_2)], .dat true [.sl none 1 (List.flatMap eI l1_0), .sl none 1 (List.flatMap eS l1_1), .sl none 1 (List.flatMap eI l1_2), .sc (.int .i64 a1_3)]] [(false, [.sc (.int .i64 r.1)]), (false, [.sc (.int .i64 r.2)])] [.dat true [.sl none 6 (List.flatMap e57 l0_0), .sl none 4 (List.flatMap e86 l0_1), .sl none 4 (List.flatMap e88 l0_2)], .dat true [.sl none 1 (List.flatMap eI l1_0), .sl none 1 (List.flatMap eS l1_1), .sl none 1 (List.flatMap eI l1_2), .sc (.int .i64 a1_3)]] := by
 refine ACalls.en Try.func6 Try.ntmps6 .go .go .go .go ?_
 intro C F hC hP hF hn (hx : C.fx = [])
 have kp : KL [0, 1, 2, 3, 4, 5, 6, 10, 35] := ⟨⟩
 have kr : KR #[.tmp 4, .tmp 5] := ⟨⟩
 have kd0 : KD 6 (noneL [0, 1, 2, 3, 4, 5, 6, 7, 8, 9, 10] ++ ((11, some []) :: (noneL [12, 13, 14, 15] ++ []))) := ⟨⟩
 have c0 := Hold.mk @spec_l01In.link
 have c1 := Hold.mk @spec_ValueOf.link
 simp only [spec_ValueAt.f] at H
 apply BZn.out
 exact BZn.go
set_option maxHeartbeats 8000000 in
theorem laws_toIntS.link {k : Nat} {l0 : List Int} {r : List Int} (H : laws_toIntS.f k l0 = some r) : ACalls Try.prog 22 [.dat false [.sl none 1 (List.flatMap eI l0)]] [(false, [.sl (some 0) 1 (List.flatMap eI r)])] [.dat false [.sl none 1 (List.flatMap eI l0)]] := by
 refine ACalls.en Try.func22 Try.ntmps22 .go .go .go .go ?_
 intro C F hC hP hF hn (hx : C.fx = [])
 have kp : KL [0, 2, 3, 4, 11] := ⟨⟩
 have kr : KR #[.tmp 2] := ⟨⟩
 simp only [laws_toIntS.f] at H
 have w0 : LJ [0, 3, 4] (fun q X => ∃ x0, ∃ x3, ∃ x4, X = ⟨[(0, .dat false [.sl none 1 (List.flatMap eI x0)]), (3, .bor 0 none 0 1 false), (4, .dat false [.sc (.int .i64 x4)])], [(0, .vir [.sl (some 0) 1 (List.flatMap eI x3)])]⟩ ∧ q ≤ k ∧ laws_toIntS.l0 q x0 x3 x4 = some r) := ⟨⟩
 apply late
 · intro lp0
   apply BZn.out
   exact BZn.go
 · intro q1 X hJ ih0
   clear H
   obtain ⟨x0, x3, x4, rfl, hq, H⟩ := hJ
   cases q1 with
   | zero => (simp only [laws_toIntS.l0] at H; cases H)
   | succ kq1 =>
    simp only [laws_toIntS.l0] at H
    apply BZn.out
    exact BZn.go
set_option maxHeartbeats 8000000 in
theorem laws_toNode.link {k : Nat} {a0_0 : Int} {a0_1 : Int} {a0_2 : ByteArray} {a0_3 : ByteArray} {a0_4 : ByteArray} {l0_5 : List Int} {r : Int × Int × ByteArray × ByteArray × ByteArray × List Int} (H : laws_toNode.f k a0_0 a0_1 a0_2 a0_3 a0_4 l0_5 = some r) : ACalls Try.prog 38 [.dat true [.sc (.int .i64 a0_0), .sc (.int .i64 a0_1), .sc (.string a0_2), .sc (.string a0_3), .sc (.string a0_4), .sl none 1 (List.flatMap eI l0_5)]] [(true, [.sc (.int .i64 r.1), .sc (.int .i64 r.2.1), .sc (.string r.2.2.1), .sc (.string r.2.2.2.1), .sc (.string r.2.2.2.2.1), .sl (some 0) 1 (List.flatMap eI r.2.2.2.2.2)])] [.dat true [.sc (.int .i64 a0_0), .sc (.int .i64 a0_1), .sc (.string a0_2), .sc (.string a0_3), .sc (.string a0_4), .sl none 1 (List.flatMap eI l0_5)]] := by
 refine ACalls.en Try.func38 Try.ntmps38 .go .go .go .go ?_
 intro C F hC hP hF hn (hx : C.fx = [])
 have kp : KL [0, 1, 2, 3] := ⟨⟩
 have kr : KR #[.cell 2 57] := ⟨⟩
 have c0 := Hold.mk @laws_toIntS.link
 simp only [laws_toNode.f] at H
 apply BZ.out
 exact BZ.go
set_option maxHeartbeats 8000000 in
theorem laws_toNodeS.link {k : Nat} {l0 : List (S72)} {r : (List (S57))} (H : laws_toNodeS.f k l0 = some r) : ACalls Try.prog 19 [.dat false [.sl none 6 (List.flatMap e72 l0)]] [(false, [.sl (some 0) 6 (List.flatMap o57 r)])] [.dat false [.sl none 6 (List.flatMap e72 l0)]] := by
 refine ACalls.en Try.func19 Try.ntmps19 .go .go .go .go ?_
 intro C F hC hP hF hn (hx : C.fx = [])
 have kp : KL [0, 2, 3, 4, 11] := ⟨⟩
 have kr : KR #[.tmp 2] := ⟨⟩
 have c0 := Hold.mk @laws_toNode.link
 simp only [laws_toNodeS.f] at H
 have w0 : LJ [0, 3, 4] (fun q X => ∃ x0, ∃ x3, ∃ x4, X = ⟨[(0, .dat false [.sl none 6 (List.flatMap e72 x0)]), (3, .bor 0 none 0 1 false), (4, .dat false [.sc (.int .i64 x4)])], [(0, .vir [.sl (some 0) 6 (List.flatMap o57 x3)])]⟩ ∧ q ≤ k ∧ laws_toNodeS.l0 q x0 x3 x4 = some r) := ⟨⟩
 apply late
 · intro lp0
   apply BZn.out
   exact BZn.go
 · intro q1 X hJ ih0
   clear H
   obtain ⟨x0, x3, x4, rfl, hq, H⟩ := hJ
   cases q1 with
   | zero => (simp only [laws_toNodeS.l0] at H; cases H)
   | succ kq1 =>
    simp only [laws_toNodeS.l0] at H
    apply BZn.out
    exact BZn.go
set_option maxHeartbeats 8000000 in
theorem laws_toStringS.link {k : Nat} {l0 : List ByteArray} {r : List ByteArray} (H : laws_toStringS.f k l0 = some r) : ACalls Try.prog 41 [.dat false [.sl none 1 (List.flatMap eS l0)]] [(false, [.sl (some 0) 1 (List.flatMap eS r)])] [.dat false [.sl none 1 (List.flatMap eS l0)]] := by
 refine ACalls.en Try.func41 Try.ntmps41 .go .go .go .go ?_
 intro C F hC hP hF hn (hx : C.fx = [])
 have kp : KL [0, 2, 3, 4, 11] := ⟨⟩
 have kr : KR #[.tmp 2] := ⟨⟩
 simp only [laws_toStringS.f] at H
 have w0 : LJ [0, 3, 4] (fun q X => ∃ x0, ∃ x3, ∃ x4, X = ⟨[(0, .dat false [.sl none 1 (List.flatMap eS x0)]), (3, .bor 0 none 0 1 false), (4, .dat false [.sc (.int .i64 x4)])], [(0, .vir [.sl (some 0) 1 (List.flatMap eS x3)])]⟩ ∧ q ≤ k ∧ laws_toStringS.l0 q x0 x3 x4 = some r) := ⟨⟩
 apply late
 · intro lp0
   apply BZn.out
   exact BZn.go
 · intro q1 X hJ ih0
   clear H
   obtain ⟨x0, x3, x4, rfl, hq, H⟩ := hJ
   cases q1 with
   | zero => (simp only [laws_toStringS.l0] at H; cases H)
   | succ kq1 =>
    simp only [laws_toStringS.l0] at H
    apply BZn.out
    exact BZn.go
set_option maxHeartbeats 8000000 in
theorem laws_toEntry.link {a0_0 : ByteArray} {a0_1 : ByteArray} {a0_2 : Int} {r : ByteArray × ByteArray × Int} (H : laws_toEntry.f a0_0 a0_1 a0_2 = some r) : ACalls Try.prog 71 [.dat true [.sc (.string a0_0), .sc (.string a0_1), .sc (.int .i64 a0_2)]] [(true, [.sc (.string r.1), .sc (.string r.2.1), .sc (.int .i64 r.2.2)])] [.dat true [.sc (.string a0_0), .sc (.string a0_1), .sc (.int .i64 a0_2)]] := by
 refine ACalls.en Try.func71 Try.ntmps71 .go .go .go .go ?_
 intro C F hC hP hF hn (hx : C.fx = [])
 have kp : KL [0, 1, 2, 3] := ⟨⟩
 have kr : KR #[.cell 2 110] := ⟨⟩
 simp only [laws_toEntry.f] at H
 apply BZ.out
 exact BZ.go
set_option maxHeartbeats 8000000 in
theorem laws_toEntryS.link {k : Nat} {l0 : List (S109)} {r : (List (S110))} (H : laws_toEntryS.f k l0 = some r) : ACalls Try.prog 61 [.dat false [.sl none 3 (List.flatMap e109 l0)]] [(false, [.sl (some 0) 3 (List.flatMap e110 r)])] [.dat false [.sl none 3 (List.flatMap e109 l0)]] := by
 refine ACalls.en Try.func61 Try.ntmps61 .go .go .go .go ?_
 intro C F hC hP hF hn (hx : C.fx = [])
 have kp : KL [0, 2, 3, 4, 11] := ⟨⟩
 have kr : KR #[.tmp 2] := ⟨⟩
 have c0 := Hold.mk @laws_toEntry.link
 simp only [laws_toEntryS.f] at H
 have w0 : LJ [0, 3, 4] (fun q X => ∃ x0, ∃ x3, ∃ x4, X = ⟨[(0, .dat false [.sl none 3 (List.flatMap e109 x0)]), (3, .bor 0 none 0 1 false), (4, .dat false [.sc (.int .i64 x4)])], [(0, .vir [.sl (some 0) 3 (List.flatMap e110 x3)])]⟩ ∧ q ≤ k ∧ laws_toEntryS.l0 q x0 x3 x4 = some r) := ⟨⟩
 apply late
 · intro lp0
   apply BZn.out
   exact BZn.go
 · intro q1 X hJ ih0
   clear H
   obtain ⟨x0, x3, x4, rfl, hq, H⟩ := hJ
   cases q1 with
   | zero => (simp only [laws_toEntryS.l0] at H; cases H)
   | succ kq1 =>
    simp only [laws_toEntryS.l0] at H
    apply BZn.out
    exact BZn.go
set_option maxHeartbeats 8000000 in
theorem laws_toMonitor.link {k : Nat} {a0_0 : ByteArray} {l0_1 : List ByteArray} {l0_2 : List ByteArray} {l0_3 : List (S109)} {r : ByteArray × List ByteArray × List ByteArray × (List (S110))} (H : laws_toMonitor.f k a0_0 l0_1 l0_2 l0_3 = some r) : ACalls Try.prog 39 [.dat true [.sc (.string a0_0), .sl none 1 (List.flatMap eS l0_1), .sl none 1 (List.flatMap eS l0_2), .sl none 3 (List.flatMap e109 l0_3)]] [(true, [.sc (.string r.1), .sl (some 0) 1 (List.flatMap eS r.2.1), .sl (some 0) 1 (List.flatMap eS r.2.2.1), .sl (some 0) 3 (List.flatMap e110 r.2.2.2)])] [.dat true [.sc (.string a0_0), .sl none 1 (List.flatMap eS l0_1), .sl none 1 (List.flatMap eS l0_2), .sl none 3 (List.flatMap e109 l0_3)]] := by
 refine ACalls.en Try.func39 Try.ntmps39 .go .go .go .go ?_
 intro C F hC hP hF hn (hx : C.fx = [])
 have kp : KL [0, 1, 2, 3] := ⟨⟩
 have kr : KR #[.cell 2 86] := ⟨⟩
 have c0 := Hold.mk @laws_toStringS.link
 have c1 := Hold.mk @laws_toEntryS.link
 simp only [laws_toMonitor.f] at H
 apply BZ.out
 exact BZ.go
set_option maxHeartbeats 8000000 in
theorem laws_toMonitorS.link {k : Nat} {l0 : List (S76)} {r : (List (S86))} (H : laws_toMonitorS.f k l0 = some r) : ACalls Try.prog 20 [.dat false [.sl none 4 (List.flatMap e76 l0)]] [(false, [.sl (some 0) 4 (List.flatMap o86 r)])] [.dat false [.sl none 4 (List.flatMap e76 l0)]] := by
 refine ACalls.en Try.func20 Try.ntmps20 .go .go .go .go ?_
 intro C F hC hP hF hn (hx : C.fx = [])
 have kp : KL [0, 2, 3, 4, 11] := ⟨⟩
 have kr : KR #[.tmp 2] := ⟨⟩
 have c0 := Hold.mk @laws_toMonitor.link
 simp only [laws_toMonitorS.f] at H
 have w0 : LJ [0, 3, 4] (fun q X => ∃ x0, ∃ x3, ∃ x4, X = ⟨[(0, .dat false [.sl none 4 (List.flatMap e76 x0)]), (3, .bor 0 none 0 1 false), (4, .dat false [.sc (.int .i64 x4)])], [(0, .vir [.sl (some 0) 4 (List.flatMap o86 x3)])]⟩ ∧ q ≤ k ∧ laws_toMonitorS.l0 q x0 x3 x4 = some r) := ⟨⟩
 apply late
 · intro lp0
   apply BZn.out
   exact BZn.go
 · intro q1 X hJ ih0
   clear H
   obtain ⟨x0, x3, x4, rfl, hq, H⟩ := hJ
   cases q1 with
   | zero => (simp only [laws_toMonitorS.l0] at H; cases H)
   | succ kq1 =>
    simp only [laws_toMonitorS.l0] at H
    apply BZn.out
    exact BZn.go
set_option maxHeartbeats 8000000 in
theorem laws_toProcess.link {k : Nat} {a0_0 : ByteArray} {l0_1 : List ByteArray} {l0_2 : List ByteArray} {a0_3 : Int} {r : ByteArray × List ByteArray × List ByteArray × Int} (H : laws_toProcess.f k a0_0 l0_1 l0_2 a0_3 = some r) : ACalls Try.prog 40 [.dat true [.sc (.string a0_0), .sl none 1 (List.flatMap eS l0_1), .sl none 1 (List.flatMap eS l0_2), .sc (.int .i64 a0_3)]] [(true, [.sc (.string r.1), .sl (some 0) 1 (List.flatMap eS r.2.1), .sl (some 0) 1 (List.flatMap eS r.2.2.1), .sc (.int .i64 r.2.2.2)])] [.dat true [.sc (.string a0_0), .sl none 1 (List.flatMap eS l0_1), .sl none 1 (List.flatMap eS l0_2), .sc (.int .i64 a0_3)]] := by
 refine ACalls.en Try.func40 Try.ntmps40 .go .go .go .go ?_
 intro C F hC hP hF hn (hx : C.fx = [])
 have kp : KL [0, 1, 2, 3] := ⟨⟩
 have kr : KR #[.cell 2 88] := ⟨⟩
 have c0 := Hold.mk @laws_toStringS.link
 simp only [laws_toProcess.f] at H
 apply BZ.out
 exact BZ.go
set_option maxHeartbeats 8000000 in
theorem laws_toProcessS.link {k : Nat} {l0 : List (S79)} {r : (List (S88))} (H : laws_toProcessS.f k l0 = some r) : ACalls Try.prog 21 [.dat false [.sl none 4 (List.flatMap e79 l0)]] [(false, [.sl (some 0) 4 (List.flatMap o88 r)])] [.dat false [.sl none 4 (List.flatMap e79 l0)]] := by
 refine ACalls.en Try.func21 Try.ntmps21 .go .go .go .go ?_
 intro C F hC hP hF hn (hx : C.fx = [])
 have kp : KL [0, 2, 3, 4, 11] := ⟨⟩
 have kr : KR #[.tmp 2] := ⟨⟩
 have c0 := Hold.mk @laws_toProcess.link
 simp only [laws_toProcessS.f] at H
 have w0 : LJ [0, 3, 4] (fun q X => ∃ x0, ∃ x3, ∃ x4, X = ⟨[(0, .dat false [.sl none 4 (List.flatMap e79 x0)]), (3, .bor 0 none 0 1 false), (4, .dat false [.sc (.int .i64 x4)])], [(0, .vir [.sl (some 0) 4 (List.flatMap o88 x3)])]⟩ ∧ q ≤ k ∧ laws_toProcessS.l0 q x0 x3 x4 = some r) := ⟨⟩
 apply late
 · intro lp0
   apply BZn.out
   exact BZn.go
 · intro q1 X hJ ih0
   clear H
   obtain ⟨x0, x3, x4, rfl, hq, H⟩ := hJ
   cases q1 with
   | zero => (simp only [laws_toProcessS.l0] at H; cases H)
   | succ kq1 =>
    simp only [laws_toProcessS.l0] at H
    apply BZn.out
    exact BZn.go
set_option maxHeartbeats 8000000 in
theorem laws_toProgram.link {k : Nat} {l0_0 : List (S72)} {l0_1 : List (S76)} {l0_2 : List (S79)} {r : (List (S57)) × (List (S86)) × (List (S88))} (H : laws_toProgram.f k l0_0 l0_1 l0_2 = some r) : ACalls Try.prog 7 [.dat true [.sl none 6 (List.flatMap e72 l0_0), .sl none 4 (List.flatMap e76 l0_1), .sl none 4 (List.flatMap e79 l0_2)]] [(true, [.sl (some 0) 6 (List.flatMap o57 r.1), .sl (some 0) 4 (List.flatMap o86 r.2.1), .sl (some 0) 4 (List.flatMap o88 r.2.2)])] [.dat true [.sl none 6 (List.flatMap e72 l0_0), .sl none 4 (List.flatMap e76 l0_1), .sl none 4 (List.flatMap e79 l0_2)]] := by
 refine ACalls.en Try.func7 Try.ntmps7 .go .go .go .go ?_
 intro C F hC hP hF hn (hx : C.fx = [])
 have kp : KL [0, 1, 2, 3] := ⟨⟩
 have kr : KR #[.cell 2 41] := ⟨⟩
 have c0 := Hold.mk @laws_toNodeS.link
 have c1 := Hold.mk @laws_toMonitorS.link
 have c2 := Hold.mk @laws_toProcessS.link
 simp only [laws_toProgram.f] at H
 apply BZ.out
 exact BZ.go
set_option maxHeartbeats 8000000 in
theorem laws_toEnv.link {k : Nat} {l0_0 : List ByteArray} {l0_1 : List Int} {r : List ByteArray × List Int} (H : laws_toEnv.f k l0_0 l0_1 = some r) : ACalls Try.prog 23 [.dat true [.sl none 1 (List.flatMap eS l0_0), .sl none 1 (List.flatMap eI l0_1)]] [(true, [.sl (some 0) 1 (List.flatMap eS r.1), .sl (some 0) 1 (List.flatMap eI r.2)])] [.dat true [.sl none 1 (List.flatMap eS l0_0), .sl none 1 (List.flatMap eI l0_1)]] := by
 refine ACalls.en Try.func23 Try.ntmps23 .go .go .go .go ?_
 intro C F hC hP hF hn (hx : C.fx = [])
 have kp : KL [0, 1, 2, 3] := ⟨⟩
 have kr : KR #[.cell 2 43] := ⟨⟩
 have c0 := Hold.mk @laws_toIntS.link
 have c1 := Hold.mk @laws_toStringS.link
 simp only [laws_toEnv.f] at H
 apply BZ.out
 exact BZ.go
set_option maxHeartbeats 8000000 in
theorem laws_toThread.link {k : Nat} {l0_0 : List Int} {l0_1 : List ByteArray} {l0_2 : List Int} {a0_3 : Int} {r : List Int × List ByteArray × List Int × Int} (H : laws_toThread.f k l0_0 l0_1 l0_2 a0_3 = some r) : ACalls Try.prog 8 [.dat true [.sl none 1 (List.flatMap eI l0_0), .sl none 1 (List.flatMap eS l0_1), .sl none 1 (List.flatMap eI l0_2), .sc (.int .i64 a0_3)]] [(true, [.sl (some 0) 1 (List.flatMap eI r.1), .sl (some 0) 1 (List.flatMap eS r.2.1), .sl (some 0) 1 (List.flatMap eI r.2.2.1), .sc (.int .i64 r.2.2.2)])] [.dat true [.sl none 1 (List.flatMap eI l0_0), .sl none 1 (List.flatMap eS l0_1), .sl none 1 (List.flatMap eI l0_2), .sc (.int .i64 a0_3)]] := by
 refine ACalls.en Try.func8 Try.ntmps8 .go .go .go .go ?_
 intro C F hC hP hF hn (hx : C.fx = [])
 have kp : KL [0, 1, 2, 3] := ⟨⟩
 have kr : KR #[.cell 2 45] := ⟨⟩
 have c0 := Hold.mk @laws_toIntS.link
 have c1 := Hold.mk @laws_toEnv.link
 simp only [laws_toThread.f] at H
 apply BZ.out
 exact BZ.go
set_option maxHeartbeats 8000000 in
theorem impl_within.link {a0 : Int} {a1 : Int} {a2 : Int} {r : Bool} (H : impl_within.f a0 a1 a2 = some r) : ACalls Try.prog 62 [.dat false [.sc (.int .i64 a0)], .dat false [.sc (.int .i64 a1)], .dat false [.sc (.int .i64 a2)]] [(false, [.sc (.bool r)])] [.dat false [.sc (.int .i64 a0)], .dat false [.sc (.int .i64 a1)], .dat false [.sc (.int .i64 a2)]] := by
 refine ACalls.en Try.func62 Try.ntmps62 .go .go .go .go ?_
 intro C F hC hP hF hn (hx : C.fx = [])
 have kp : KL [0, 1, 2, 6] := ⟨⟩
 have kr : KR #[.tmp 6] := ⟨⟩
 simp only [impl_within.f] at H
 apply BZ.out
 exact BZ.go
set_option maxHeartbeats 8000000 in
theorem impl_isNode.link {l0_0 : List (S57)} {l0_1 : List (S86)} {l0_2 : List (S88)} {a1 : Int} {r : Bool} (H : impl_isNode.f l0_0 l0_1 l0_2 a1 = some r) : ACalls Try.prog 42 [.dat true [.sl none 6 (List.flatMap e57 l0_0), .sl none 4 (List.flatMap e86 l0_1), .sl none 4 (List.flatMap e88 l0_2)], .dat false [.sc (.int .i64 a1)]] [(false, [.sc (.bool r)])] [.dat true [.sl none 6 (List.flatMap e57 l0_0), .sl none 4 (List.flatMap e86 l0_1), .sl none 4 (List.flatMap e88 l0_2)], .dat false [.sc (.int .i64 a1)]] := by
 refine ACalls.en Try.func42 Try.ntmps42 .go .go .go .go ?_
 intro C F hC hP hF hn (hx : C.fx = [])
 have kp : KL [0, 1, 2, 4] := ⟨⟩
 have kr : KR #[.tmp 4] := ⟨⟩
 have c0 := Hold.mk @impl_within.link
 simp only [impl_isNode.f] at H
 apply BZ.out
 exact BZ.go
set_option maxHeartbeats 8000000 in
theorem impl_comesNext.link {l0_0 : List (S57)} {l0_1 : List (S86)} {l0_2 : List (S88)} {l1_0 : List Int} {l1_1 : List ByteArray} {l1_2 : List Int} {a1_3 : Int} {r : Int × Int × ByteArray × ByteArray × ByteArray × List Int × Bool} (H : impl_comesNext.f l0_0 l0_1 l0_2 l1_0 l1_1 l1_2 a1_3 = some r) : ACalls Try.prog 24 [.dat true [.sl none 6 (List.flatMap e57 l0_0), .sl none 4 (List.flatMap e86 l0_1), .sl none 4 (List.flatMap e88 l0_2)], .dat true [.sl none 1 (List.flatMap eI l1_0), .sl none 1 (List.flatMap eS l1_1), .sl none 1 (List.flatMap eI l1_2), .sc (.int .i64 a1_3)]] [(true, [.sc (.int .i64 r.1), .sc (.int .i64 r.2.1), .sc (.string r.2.2.1), .sc (.string r.2.2.2.1), .sc (.string r.2.2.2.2.1), .sl none 1 (List.flatMap eI r.2.2.2.2.2.1)]), (false, [.sc (.bool r.2.2.2.2.2.2)])] [.dat true [.sl none 6 (List.flatMap e57 l0_0), .sl none 4 (List.flatMap e86 l0_1), .sl none 4 (List.flatMap e88 l0_2)], .dat true [.sl none 1 (List.flatMap eI l1_0), .sl none 1 (List.flatMap eS l1_1), .sl none 1 (List.flatMap eI l1_2), .sc (.int .i64 a1_3)]] := by
 refine ACalls.en Try.func24 Try.ntmps24 .go .go .go .go ?_
 intro C F hC hP hF hn (hx : C.fx = [])
 have kp : KL [0, 1, 2, 3, 4, 5, 22] := ⟨⟩
 have kr : KR #[.cell 4 57, .tmp 5] := ⟨⟩
 have kd0 : KD 1 (noneL [0, 1, 2, 3, 4, 5, 6, 7, 8, 9, 10, 11, 12, 13] ++ ((14, some []) :: (noneL [15, 16] ++ []))) := ⟨⟩
 have kd1 : KD 3 (noneL [0, 1, 2, 3, 4, 5, 6, 7, 8, 9, 10, 11] ++ ((12, some []) :: (noneL [13] ++ []))) := ⟨⟩
 have c0 := Hold.mk @impl_isNode.link
 simp only [impl_comesNext.f] at H
 apply BZn.out
 exact BZn.go
set_option maxHeartbeats 8000000 in
theorem impl_isValue.link {l0_0 : List (S57)} {l0_1 : List (S86)} {l0_2 : List (S88)} {a1 : Int} {r : Bool} (H : impl_isValue.f l0_0 l0_1 l0_2 a1 = some r) : ACalls Try.prog 43 [.dat true [.sl none 6 (List.flatMap e57 l0_0), .sl none 4 (List.flatMap e86 l0_1), .sl none 4 (List.flatMap e88 l0_2)], .dat false [.sc (.int .i64 a1)]] [(false, [.sc (.bool r)])] [.dat true [.sl none 6 (List.flatMap e57 l0_0), .sl none 4 (List.flatMap e86 l0_1), .sl none 4 (List.flatMap e88 l0_2)], .dat false [.sc (.int .i64 a1)]] := by
 refine ACalls.en Try.func43 Try.ntmps43 .go .go .go .go ?_
 intro C F hC hP hF hn (hx : C.fx = [])
 have kp : KL [0, 1, 2, 4] := ⟨⟩
 have kr : KR #[.tmp 4] := ⟨⟩
 have c0 := Hold.mk @impl_within.link
 have c1 := Hold.mk @impl_isNode.link
 simp only [impl_isValue.f] at H
 apply BZn.out
 exact BZn.go
set_option maxHeartbeats 8000000 in
theorem slices_Index_int_int.link {k : Nat} {l0 : List Int} {a1 : Int} {r : Int} (H : slices_Index_int_int.f k l0 a1 = some r) : ACalls Try.prog 85 [.dat false [.sl none 1 (List.flatMap eI l0)], .dat false [.sc (.int .i64 a1)]] [(false, [.sc (.int .i64 r)])] [.dat false [.sl none 1 (List.flatMap eI l0)], .dat false [.sc (.int .i64 a1)]] := by
 refine ACalls.en Try.func85 Try.ntmps85 .go .go .go .go ?_
 intro C F hC hP hF hn (hx : C.fx = [])
 have kp : KL [0, 1, 4, 5, 7, 8, 9, 16] := ⟨⟩
 have kr : KR #[.tmp 4] := ⟨⟩
 simp only [slices_Index_int_int.f] at H
 have w0 : LJ [0, 1, 7, 8] (fun q X => ∃ x0, ∃ x1, ∃ x7, ∃ x8, X = ⟨[(0, .dat false [.sl none 1 (List.flatMap eI x0)]), (1, .dat false [.sc (.int .i64 x1)]), (7, .dat false [.sc (.int .i64 x7)]), (8, .dat false [.sc (.int .i64 x8)])], []⟩ ∧ q ≤ k ∧ slices_Index_int_int.l0 q x0 x1 x7 x8 = some r) := ⟨⟩
 apply late
 · intro lp0
   apply BZ.out
   exact BZ.go
 · intro q1 X hJ ih0
   clear H
   obtain ⟨x0, x1, x7, x8, rfl, hq, H⟩ := hJ
   cases q1 with
   | zero => (simp only [slices_Index_int_int.l0] at H; cases H)
   | succ kq1 =>
    simp only [slices_Index_int_int.l0] at H
    apply BZn.out
    exact BZn.go
set_option maxHeartbeats 8000000 in
theorem slices_Contains_int_int.link {k : Nat} {l0 : List Int} {a1 : Int} {r : Bool} (H : slices_Contains_int_int.f k l0 a1 = some r) : ACalls Try.prog 78 [.dat false [.sl none 1 (List.flatMap eI l0)], .dat false [.sc (.int .i64 a1)]] [(false, [.sc (.bool r)])] [.dat false [.sl none 1 (List.flatMap eI l0)], .dat false [.sc (.int .i64 a1)]] := by
 refine ACalls.en Try.func78 Try.ntmps78 .go .go .go .go ?_
 intro C F hC hP hF hn (hx : C.fx = [])
 have kp : KL [0, 1, 4] := ⟨⟩
 have kr : KR #[.tmp 4] := ⟨⟩
 have c0 := Hold.mk @slices_Index_int_int.link
 simp only [slices_Contains_int_int.f] at H
 apply BZ.out
 exact BZ.go
set_option maxHeartbeats 8000000 in
theorem impl_isStatement.link {l0_0 : List (S57)} {l0_1 : List (S86)} {l0_2 : List (S88)} {a1 : Int} {r : Bool} (H : impl_isStatement.f l0_0 l0_1 l0_2 a1 = some r) : ACalls Try.prog 86 [.dat true [.sl none 6 (List.flatMap e57 l0_0), .sl none 4 (List.flatMap e86 l0_1), .sl none 4 (List.flatMap e88 l0_2)], .dat false [.sc (.int .i64 a1)]] [(false, [.sc (.bool r)])] [.dat true [.sl none 6 (List.flatMap e57 l0_0), .sl none 4 (List.flatMap e86 l0_1), .sl none 4 (List.flatMap e88 l0_2)], .dat false [.sc (.int .i64 a1)]] := by
 refine ACalls.en Try.func86 Try.ntmps86 .go .go .go .go ?_
 intro C F hC hP hF hn (hx : C.fx = [])
 have kp : KL [0, 1, 2, 4] := ⟨⟩
 have kr : KR #[.tmp 4] := ⟨⟩
 have c0 := Hold.mk @impl_within.link
 have c1 := Hold.mk @impl_isNode.link
 simp only [impl_isStatement.f] at H
 apply BZn.out
 exact BZn.go
set_option maxHeartbeats 8000000 in
theorem impl_isBlock.link {l0_0 : List (S57)} {l0_1 : List (S86)} {l0_2 : List (S88)} {a1 : Int} {r : Bool} (H : impl_isBlock.f l0_0 l0_1 l0_2 a1 = some r) : ACalls Try.prog 87 [.dat true [.sl none 6 (List.flatMap e57 l0_0), .sl none 4 (List.flatMap e86 l0_1), .sl none 4 (List.flatMap e88 l0_2)], .dat false [.sc (.int .i64 a1)]] [(false, [.sc (.bool r)])] [.dat true [.sl none 6 (List.flatMap e57 l0_0), .sl none 4 (List.flatMap e86 l0_1), .sl none 4 (List.flatMap e88 l0_2)], .dat false [.sc (.int .i64 a1)]] := by
 refine ACalls.en Try.func87 Try.ntmps87 .go .go .go .go ?_
 intro C F hC hP hF hn (hx : C.fx = [])
 have kp : KL [0, 1, 2, 4] := ⟨⟩
 have kr : KR #[.tmp 4] := ⟨⟩
 have c0 := Hold.mk @impl_isNode.link
 simp only [impl_isBlock.f] at H
 apply BZn.out
 exact BZn.go
end Go.Proofs.Ytjjhknklnclokaa.PFnExactValueAt
