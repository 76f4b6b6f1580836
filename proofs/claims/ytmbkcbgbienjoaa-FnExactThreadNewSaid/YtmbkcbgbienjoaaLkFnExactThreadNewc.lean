/- Functions' walks: each computes what its plain form says. No condition. -/
import Derived.Test.YtmbkcbgbienjoaaLkFnExactThreadNewh
import Derived.Test.YtmbkcbgbienjoaaLkFnExactThreadNewb
open Go Go.Proofs Go.Proofs.Ytmbkcbgbienjoaa.Abs
namespace Go.Proofs.Ytmbkcbgbienjoaa.PFnExactThreadNew
open Go.RowKit Go.Proofs.YtmbkcbgbienjoaaW.PrintWords Go.Proofs.YtmbkcbgbienjoaaW.PrintLast Go.Proofs.YtmbkcbgbienjoaaW.PrintMore
set_option linter.unusedVariables false
set_option linter.unusedSimpArgs false
set_option maxRecDepth 100000
attribute [local irreducible] evK evQ evM evF evW evH goE goK goKD goQ goQD goD Ok ACalls
set_option maxHeartbeats 8000000 in
theorem laws_eqMonitorS.link {k : Nat} {l0 : List (S106)} {l1 : List (S106)} {r : Bool} (H : laws_eqMonitorS.f k l0 l1 = some r) : ACalls Try.prog 63 [.dat false [.sl none 4 (List.flatMap e106 l0)], .dat false [.sl none 4 (List.flatMap e106 l1)]] [(false, [.sc (.bool r)])] [.dat false [.sl none 4 (List.flatMap e106 l0)], .dat false [.sl none 4 (List.flatMap e106 l1)]] := by
 refine ACalls.en Try.func63 Try.ntmps63 .go .go .go .go ?_
 intro C F hC hP hF hn (hx : C.fx = [])
 have kp : KL [0, 1, 4, 5, 10, 14, 26] := ⟨⟩
 have kr : KR #[.tmp 4] := ⟨⟩
 have kd0 : KD 6 (noneL [0, 1, 2, 3, 4, 5, 6, 7] ++ ((8, some []) :: (noneL [9] ++ []))) := ⟨⟩
 have c0 := Hold.mk @laws_eqMonitor.link
 simp only [laws_eqMonitorS.f] at H
 have w0 : LJ [0, 1, 5] (fun q X => ∃ x0, ∃ x1, ∃ x5, X = ⟨[(0, .dat false [.sl none 4 (List.flatMap e106 x0)]), (1, .dat false [.sl none 4 (List.flatMap e106 x1)]), (5, .dat false [.sc (.int .i64 x5)])], []⟩ ∧ q ≤ k ∧ laws_eqMonitorS.l0 q x0 x1 x5 = some r) := ⟨⟩
 apply late
 · intro lp0
   apply BZ.out
   exact BZ.go
 · intro q1 X hJ ih0
   clear H
   obtain ⟨x0, x1, x5, rfl, hq, H⟩ := hJ
   cases q1 with
   | zero => (simp only [laws_eqMonitorS.l0] at H; cases H)
   | succ kq1 =>
    simp only [laws_eqMonitorS.l0] at H
    apply BZn.out
    exact BZn.go
set_option maxHeartbeats 8000000 in
theorem laws_eqProcess.link {k : Nat} {a0_0 : ByteArray} {l0_1 : List ByteArray} {l0_2 : List ByteArray} {a0_3 : Int} {a1_0 : ByteArray} {l1_1 : List ByteArray} {l1_2 : List ByteArray} {a1_3 : Int} {r : Bool} (H : laws_eqProcess.f k a0_0 l0_1 l0_2 a0_3 a1_0 l1_1 l1_2 a1_3 = some r) : ACalls Try.prog 117 [.dat true [.sc (.string a0_0), .sl none 1 (List.flatMap eS l0_1), .sl none 1 (List.flatMap eS l0_2), .sc (.int .i64 a0_3)], .dat true [.sc (.string a1_0), .sl none 1 (List.flatMap eS l1_1), .sl none 1 (List.flatMap eS l1_2), .sc (.int .i64 a1_3)]] [(false, [.sc (.bool r)])] [.dat true [.sc (.string a0_0), .sl none 1 (List.flatMap eS l0_1), .sl none 1 (List.flatMap eS l0_2), .sc (.int .i64 a0_3)], .dat true [.sc (.string a1_0), .sl none 1 (List.flatMap eS l1_1), .sl none 1 (List.flatMap eS l1_2), .sc (.int .i64 a1_3)]] := by
 refine ACalls.en Try.func117 Try.ntmps117 .go .go .go .go ?_
 intro C F hC hP hF hn (hx : C.fx = [])
 have kp : KL [0, 1, 2, 3, 4, 9, 15, 21, 26] := ⟨⟩
 have kr : KR #[.tmp 4] := ⟨⟩
 have c0 := Hold.mk @laws_eqStringS.link
 simp only [laws_eqProcess.f] at H
 apply BZ.out
 exact BZ.go
set_option maxHeartbeats 8000000 in
theorem laws_eqProcessS.link {k : Nat} {l0 : List (S103)} {l1 : List (S103)} {r : Bool} (H : laws_eqProcessS.f k l0 l1 = some r) : ACalls Try.prog 64 [.dat false [.sl none 4 (List.flatMap e103 l0)], .dat false [.sl none 4 (List.flatMap e103 l1)]] [(false, [.sc (.bool r)])] [.dat false [.sl none 4 (List.flatMap e103 l0)], .dat false [.sl none 4 (List.flatMap e103 l1)]] := by
 refine ACalls.en Try.func64 Try.ntmps64 .go .go .go .go ?_
 intro C F hC hP hF hn (hx : C.fx = [])
 have kp : KL [0, 1, 4, 5, 10, 14, 26] := ⟨⟩
 have kr : KR #[.tmp 4] := ⟨⟩
 have kd0 : KD 6 (noneL [0, 1, 2, 3, 4, 5, 6, 7] ++ ((8, some []) :: (noneL [9] ++ []))) := ⟨⟩
 have c0 := Hold.mk @laws_eqProcess.link
 simp only [laws_eqProcessS.f] at H
 have w0 : LJ [0, 1, 5] (fun q X => ∃ x0, ∃ x1, ∃ x5, X = ⟨[(0, .dat false [.sl none 4 (List.flatMap e103 x0)]), (1, .dat false [.sl none 4 (List.flatMap e103 x1)]), (5, .dat false [.sc (.int .i64 x5)])], []⟩ ∧ q ≤ k ∧ laws_eqProcessS.l0 q x0 x1 x5 = some r) := ⟨⟩
 apply late
 · intro lp0
   apply BZ.out
   exact BZ.go
 · intro q1 X hJ ih0
   clear H
   obtain ⟨x0, x1, x5, rfl, hq, H⟩ := hJ
   cases q1 with
   | zero => (simp only [laws_eqProcessS.l0] at H; cases H)
   | succ kq1 =>
    simp only [laws_eqProcessS.l0] at H
    apply BZn.out
    exact BZn.go
set_option maxHeartbeats 8000000 in
theorem laws_eqProgram.link {k : Nat} {l0_0 : List (S77)} {l0_1 : List (S106)} {l0_2 : List (S103)} {l1_0 : List (S77)} {l1_1 : List (S106)} {l1_2 : List (S103)} {r : Bool} (H : laws_eqProgram.f k l0_0 l0_1 l0_2 l1_0 l1_1 l1_2 = some r) : ACalls Try.prog 19 [.dat true [.sl none 6 (List.flatMap e77 l0_0), .sl none 4 (List.flatMap e106 l0_1), .sl none 4 (List.flatMap e103 l0_2)], .dat true [.sl none 6 (List.flatMap e77 l1_0), .sl none 4 (List.flatMap e106 l1_1), .sl none 4 (List.flatMap e103 l1_2)]] [(false, [.sc (.bool r)])] [.dat true [.sl none 6 (List.flatMap e77 l0_0), .sl none 4 (List.flatMap e106 l0_1), .sl none 4 (List.flatMap e103 l0_2)], .dat true [.sl none 6 (List.flatMap e77 l1_0), .sl none 4 (List.flatMap e106 l1_1), .sl none 4 (List.flatMap e103 l1_2)]] := by
 refine ACalls.en Try.func19 Try.ntmps19 .go .go .go .go ?_
 intro C F hC hP hF hn (hx : C.fx = [])
 have kp : KL [0, 1, 2, 3, 4, 10, 16, 22] := ⟨⟩
 have kr : KR #[.tmp 4] := ⟨⟩
 have c0 := Hold.mk @laws_eqNodeS.link
 have c1 := Hold.mk @laws_eqMonitorS.link
 have c2 := Hold.mk @laws_eqProcessS.link
 simp only [laws_eqProgram.f] at H
 apply BZ.out
 exact BZ.go
set_option maxHeartbeats 8000000 in
theorem laws_eqEnv.link {k : Nat} {l0_0 : List ByteArray} {l0_1 : List Int} {l1_0 : List ByteArray} {l1_1 : List Int} {r : Bool} (H : laws_eqEnv.f k l0_0 l0_1 l1_0 l1_1 = some r) : ACalls Try.prog 51 [.dat true [.sl none 1 (List.flatMap eS l0_0), .sl none 1 (List.flatMap eI l0_1)], .dat true [.sl none 1 (List.flatMap eS l1_0), .sl none 1 (List.flatMap eI l1_1)]] [(false, [.sc (.bool r)])] [.dat true [.sl none 1 (List.flatMap eS l0_0), .sl none 1 (List.flatMap eI l0_1)], .dat true [.sl none 1 (List.flatMap eS l1_0), .sl none 1 (List.flatMap eI l1_1)]] := by
 refine ACalls.en Try.func51 Try.ntmps51 .go .go .go .go ?_
 intro C F hC hP hF hn (hx : C.fx = [])
 have kp : KL [0, 1, 2, 3, 4, 10, 16] := ⟨⟩
 have kr : KR #[.tmp 4] := ⟨⟩
 have c0 := Hold.mk @laws_eqIntS.link
 have c1 := Hold.mk @laws_eqStringS.link
 simp only [laws_eqEnv.f] at H
 apply BZ.out
 exact BZ.go
set_option maxHeartbeats 8000000 in
theorem laws_eqThread.link {k : Nat} {l0_0 : List Int} {l0_1 : List ByteArray} {l0_2 : List Int} {a0_3 : Int} {l1_0 : List Int} {l1_1 : List ByteArray} {l1_2 : List Int} {a1_3 : Int} {r : Bool} (H : laws_eqThread.f k l0_0 l0_1 l0_2 a0_3 l1_0 l1_1 l1_2 a1_3 = some r) : ACalls Try.prog 20 [.dat true [.sl none 1 (List.flatMap eI l0_0), .sl none 1 (List.flatMap eS l0_1), .sl none 1 (List.flatMap eI l0_2), .sc (.int .i64 a0_3)], .dat true [.sl none 1 (List.flatMap eI l1_0), .sl none 1 (List.flatMap eS l1_1), .sl none 1 (List.flatMap eI l1_2), .sc (.int .i64 a1_3)]] [(false, [.sc (.bool r)])] [.dat true [.sl none 1 (List.flatMap eI l0_0), .sl none 1 (List.flatMap eS l0_1), .sl none 1 (List.flatMap eI l0_2), .sc (.int .i64 a0_3)], .dat true [.sl none 1 (List.flatMap eI l1_0), .sl none 1 (List.flatMap eS l1_1), .sl none 1 (List.flatMap eI l1_2), .sc (.int .i64 a1_3)]] := by
 refine ACalls.en Try.func20 Try.ntmps20 .go .go .go .go ?_
 intro C F hC hP hF hn (hx : C.fx = [])
 have kp : KL [0, 1, 2, 3, 4, 10, 16, 21] := ⟨⟩
 have kr : KR #[.tmp 4] := ⟨⟩
 have c0 := Hold.mk @laws_eqIntS.link
 have c1 := Hold.mk @laws_eqEnv.link
 simp only [laws_eqThread.f] at H
 apply BZ.out
 exact BZ.go
set_option maxHeartbeats 8000000 in
theorem laws_markIntS.link {k : Nat} {l0 : List Int} {a1 : Int} {r : Int × List Int} (H : laws_markIntS.f k l0 a1 = some r) : MCalls Try.prog 25 false [.sl (some 0) 1 (List.flatMap eI l0)] [.int .i64 a1] (some (.int .i64 r.1)) [.sl (some 0) 1 (List.flatMap eI r.2)] := by
 refine MCalls.en Try.func25 Try.ntmps25 .go .go .go .go .go ?_
 intro C F hC hP hF hn (hx : C.fx = [])
 have kp : KL [0, 1, 4, 5, 9] := ⟨⟩
 have kr : KR #[.tmp 4] := ⟨⟩
 simp only [laws_markIntS.f] at H
 have w0 : LJ [0, 1, 5] (fun q X => ∃ x0, ∃ x1, ∃ x5, X = ⟨[(0, .bor 0 none 0 1 false), (1, .dat false [.sc (.int .i64 x1)]), (5, .dat false [.sc (.int .i64 x5)])], [(0, .vir [.sl (some 1) 1 (List.flatMap eI x0)])]⟩ ∧ q ≤ k ∧ laws_markIntS.l0 q x0 x1 x5 = some r) := ⟨⟩
 apply late
 · intro lp0
   apply BZnm.out
   exact BZnm.go
 · intro q1 X hJ ih0
   clear H
   obtain ⟨x0, x1, x5, rfl, hq, H⟩ := hJ
   cases q1 with
   | zero => (simp only [laws_markIntS.l0] at H; cases H)
   | succ kq1 =>
    simp only [laws_markIntS.l0] at H
    apply BZnm.out
    exact BZnm.go

set_option maxHeartbeats 8000000 in
theorem laws_markText.link {k : Nat} {a0 : Int} {r : ByteArray} (H : laws_markText.f k a0 = some r) : ACalls Try.prog 70 [.dat false [.sc (.int .i64 a0)]] [(false, [.sc (.string r)])] [.dat false [.sc (.int .i64 a0)]] := by
 refine ACalls.en Try.func70 Try.ntmps70 .go .go .go .go ?_
 intro C F hC hP hF hn (hx : C.fx = [])
 have kp : KL [0, 2, 3, 5, 7] := ⟨⟩
 have kr : KR #[.tmp 2] := ⟨⟩
 simp only [laws_markText.f] at H
 have w0 : LJ [0, 3] (fun q X => ∃ x0, ∃ x3, X = ⟨[(0, .dat false [.sc (.int .i64 x0)]), (3, .dat false [.sc (.string x3)])], []⟩ ∧ q ≤ k ∧ laws_markText.l0 q x0 x3 = some r) := ⟨⟩
 apply late
 · intro lp0
   apply BZ.out
   exact BZ.go
 · intro q1 X hJ ih0
   clear H
   obtain ⟨x0, x3, rfl, hq, H⟩ := hJ
   cases q1 with
   | zero => (simp only [laws_markText.l0] at H; cases H)
   | succ kq1 =>
    simp only [laws_markText.l0] at H
    apply BZn.out
    exact BZn.go
set_option maxHeartbeats 8000000 in
theorem laws_markStringS.link {k : Nat} {l0 : List ByteArray} {a1 : Int} {r : Int × List ByteArray} (H : laws_markStringS.f k l0 a1 = some r) : MCalls Try.prog 32 false [.sl (some 0) 1 (List.flatMap eS l0)] [.int .i64 a1] (some (.int .i64 r.1)) [.sl (some 0) 1 (List.flatMap eS r.2)] := by
 refine MCalls.en Try.func32 Try.ntmps32 .go .go .go .go .go ?_
 intro C F hC hP hF hn (hx : C.fx = [])
 have kp : KL [0, 1, 4, 5, 9] := ⟨⟩
 have kr : KR #[.tmp 4] := ⟨⟩
 have c0 := Hold.mk @laws_markText.link
 simp only [laws_markStringS.f] at H
 have w0 : LJ [0, 1, 5] (fun q X => ∃ x0, ∃ x1, ∃ x5, X = ⟨[(0, .bor 0 none 0 1 false), (1, .dat false [.sc (.int .i64 x1)]), (5, .dat false [.sc (.int .i64 x5)])], [(0, .vir [.sl (some 1) 1 (List.flatMap eS x0)])]⟩ ∧ q ≤ k ∧ laws_markStringS.l0 q x0 x1 x5 = some r) := ⟨⟩
 apply late
 · intro lp0
   apply BZnm.out
   exact BZnm.go
 · intro q1 X hJ ih0
   clear H
   obtain ⟨x0, x1, x5, rfl, hq, H⟩ := hJ
   cases q1 with
   | zero => (simp only [laws_markStringS.l0] at H; cases H)
   | succ kq1 =>
    simp only [laws_markStringS.l0] at H
    apply BZnm.out
    exact BZnm.go

attribute [-go_sem] e131_set e131_st in
attribute [local go_sem] e131_fold e131_fold2 e131_ats e131_rows e131_get e131_rd List.set_set List.length_set in
set_option maxHeartbeats 8000000 in
theorem laws_markEntryS.link {k : Nat} {l0 : List (S131)} {a1 : Int} {r : Int × (List (S131))} (H : laws_markEntryS.f k l0 a1 = some r) : MCalls Try.prog 121 false [.sl (some 0) 3 (List.flatMap e131 l0)] [.int .i64 a1] (some (.int .i64 r.1)) [.sl (some 0) 3 (List.flatMap e131 r.2)] := by
 refine MCalls.en Try.func121 Try.ntmps121 .go .go .go .go .go ?_
 intro C F hC hP hF hn (hx : C.fx = [])
 have kp : KL [0, 1, 4, 5, 9] := ⟨⟩
 have kr : KR #[.tmp 4] := ⟨⟩
 have c0 := Hold.mk @laws_markText.link
 simp only [laws_markEntryS.f] at H
 have w0 : LJ [0, 1, 5] (fun q X => ∃ x0, ∃ x1, ∃ x5, X = ⟨[(0, .bor 0 none 0 1 false), (1, .dat false [.sc (.int .i64 x1)]), (5, .dat false [.sc (.int .i64 x5)])], [(0, .vir [.sl (some 1) 3 (List.flatMap e131 x0)])]⟩ ∧ q ≤ k ∧ laws_markEntryS.l0 q x0 x1 x5 = some r) := ⟨⟩
 apply late
 · intro lp0
   apply BZnm.out
   exact BZnm.go
 · intro q1 X hJ ih0
   clear H
   obtain ⟨x0, x1, x5, rfl, hq, H⟩ := hJ
   cases q1 with
   | zero => (simp only [laws_markEntryS.l0] at H; cases H)
   | succ kq1 =>
    simp only [laws_markEntryS.l0] at H
    apply BZnm.out
    exact BZnm.go

attribute [local go_sem] inLine Option.map_some contig List.take_succ_cons List.take_zero List.drop_succ_cons List.drop_zero List.drop_nil List.take_nil List.length_cons List.length_nil List.append_nil List.cons_append List.nil_append Nat.zero_add Nat.reduceAdd Nat.reduceEqDiff Nat.reduceLeDiff Nat.le_refl in
attribute [-go_sem] eI_rep List.length_replicate in
attribute [local go_sem] eI_per in
set_option maxHeartbeats 8000000 in
theorem spec_ThreadNew.link {k : Nat} {l0_0 : List (S77)} {l0_1 : List (S106)} {l0_2 : List (S103)} {a1 : Int} {l2 : List ByteArray} {r : List Int × List ByteArray × List Int × Int} (H : spec_ThreadNew.f k l0_0 l0_1 l0_2 a1 l2 = some r) : ACalls Try.prog 28 [.dat true [.sl none 6 (List.flatMap e77 l0_0), .sl none 4 (List.flatMap e106 l0_1), .sl none 4 (List.flatMap e103 l0_2)], .dat false [.sc (.int .i64 a1)], .dat false [.sl none 1 (List.flatMap eS l2)]] [(true, [.sl (some 0) 1 (List.flatMap eI r.1), .sl (some 0) 1 (List.flatMap eS r.2.1), .sl (some 0) 1 (List.flatMap eI r.2.2.1), .sc (.int .i64 r.2.2.2)])] [.dat true [.sl none 6 (List.flatMap e77 l0_0), .sl none 4 (List.flatMap e106 l0_1), .sl none 4 (List.flatMap e103 l0_2)], .dat false [.sc (.int .i64 a1)], .dat false [.sl none 1 (List.flatMap eS l2)]] := by
 refine ACalls.en Try.func28 Try.ntmps28 .go .go .go .go ?_
 intro C F hC hP hF hn (hx : C.fx = [])
 have kp : KL [0, 1, 2, 6, 7, 8, 15] := ⟨⟩
 have kr : KR #[.cell 6 44] := ⟨⟩
 have kd0 : KD 5 (noneL [0, 1, 2, 3, 4, 5, 6] ++ ((7, some [2, 1, 0]) :: ((8, some []) :: (noneL [9, 10] ++ ((11, some []) :: ([])))))) := ⟨⟩
 simp only [spec_ThreadNew.f] at H
 have w0 : LJ [2, 6, 7, 8] (fun q X => ∃ x2, ∃ x8, ∃ x287000, ∃ x287001, ∃ x287002, ∃ x287003, X = ⟨[(2, .dat false [.sl none 1 (List.flatMap eS x2)]), (6, .pl 0 none 0), (7, .pl 1 none 0), (8, .dat false [.sc (.int .i64 x8)])], [(0, .mem [.sl (some 0) 1 [], .sl (some 0) 1 [], .sl (some 0) 1 [], .sc (.int .i64 0)]), (1, .mem [.sl (some 0) 1 (List.flatMap eI x287000), .sl (some 0) 1 (List.flatMap eS x287001), .sl (some 0) 1 (List.flatMap eI x287002), .sc (.int .i64 x287003)])]⟩ ∧ q ≤ k ∧ spec_ThreadNew.l0 q x2 x8 x287000 x287001 x287002 x287003 = some r) := ⟨⟩
 apply late
 · intro lp0
   apply BZa.out
   exact BZa.go
 · intro q1 X hJ ih0
   clear H
   obtain ⟨x2, x8, x287000, x287001, x287002, x287003, rfl, hq, H⟩ := hJ
   cases q1 with
   | zero => (simp only [spec_ThreadNew.l0] at H; cases H)
   | succ kq1 =>
    simp only [spec_ThreadNew.l0] at H
    apply BZna.out
    exact BZna.go
set_option maxHeartbeats 8000000 in
theorem laws_markEnv.link {k : Nat} {l0_0 : List ByteArray} {l0_1 : List Int} {a1 : Int} {r : Int × List ByteArray × List Int} (H : laws_markEnv.f k l0_0 l0_1 a1 = some r) : MCalls Try.prog 71 true [.sl (some 0) 1 (List.flatMap eS l0_0), .sl (some 0) 1 (List.flatMap eI l0_1)] [.int .i64 a1] (some (.int .i64 r.1)) [.sl (some 0) 1 (List.flatMap eS r.2.1), .sl (some 0) 1 (List.flatMap eI r.2.2)] := by
 refine MCalls.en Try.func71 Try.ntmps71 .go .go .go .go .go ?_
 intro C F hC hP hF hn (hx : C.fx = [])
 have kp : KL [0, 1, 2, 4] := ⟨⟩
 have kr : KR #[.tmp 4] := ⟨⟩
 have d0 := Hold.mk @laws_markIntS.link
 have d1 := Hold.mk @laws_markStringS.link
 simp only [laws_markEnv.f] at H
 apply BZm.out
 exact BZm.go

end Go.Proofs.Ytmbkcbgbienjoaa.PFnExactThreadNew
