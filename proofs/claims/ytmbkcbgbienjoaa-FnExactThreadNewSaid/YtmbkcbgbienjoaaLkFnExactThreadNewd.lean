/- Functions' walks: each computes what its plain form says. No condition. -/
import Derived.Test.YtmbkcbgbienjoaaLkFnExactThreadNewh
import Derived.Test.YtmbkcbgbienjoaaLkFnExactThreadNewc
open Go Go.Proofs Go.Proofs.Ytmbkcbgbienjoaa.Abs
namespace Go.Proofs.Ytmbkcbgbienjoaa.PFnExactThreadNew
open Go.RowKit Go.Proofs.YtmbkcbgbienjoaaW.PrintWords Go.Proofs.YtmbkcbgbienjoaaW.PrintLast Go.Proofs.YtmbkcbgbienjoaaW.PrintMore
set_option linter.unusedVariables false
set_option linter.unusedSimpArgs false
set_option maxRecDepth 100000
attribute [local irreducible] evK evQ evM evF evW evH goE goK goKD goQ goQD goD Ok ACalls
attribute [local go_sem] inLine Option.map_some contig List.take_succ_cons List.take_zero List.drop_succ_cons List.drop_zero List.drop_nil List.take_nil List.length_cons List.length_nil List.append_nil List.cons_append List.nil_append Nat.zero_add Nat.reduceAdd Nat.reduceEqDiff Nat.reduceLeDiff Nat.le_refl in
attribute [-go_sem] eI_rep List.length_replicate in
attribute [local go_sem] eI_per in
set_option maxHeartbeats 8000000 in
theorem impl_ThreadNew.link {l0_0 : List (S77)} {l0_1 : List (S106)} {l0_2 : List (S103)} {a1 : Int} {l2 : List ByteArray} {r : List Int × List ByteArray × List Int × Int} (H : impl_ThreadNew.f l0_0 l0_1 l0_2 a1 l2 = some r) : ACalls Try.prog 30 [.dat true [.sl none 6 (List.flatMap e77 l0_0), .sl none 4 (List.flatMap e106 l0_1), .sl none 4 (List.flatMap e103 l0_2)], .dat false [.sc (.int .i64 a1)], .dat false [.sl none 1 (List.flatMap eS l2)]] [(true, [.sl (some 0) 1 (List.flatMap eI r.1), .sl (some 0) 1 (List.flatMap eS r.2.1), .sl (some 0) 1 (List.flatMap eI r.2.2.1), .sc (.int .i64 r.2.2.2)])] [.dat true [.sl none 6 (List.flatMap e77 l0_0), .sl none 4 (List.flatMap e106 l0_1), .sl none 4 (List.flatMap e103 l0_2)], .dat false [.sc (.int .i64 a1)], .dat false [.sl none 1 (List.flatMap eS l2)]] := by
 refine ACalls.en Try.func30 Try.ntmps30 .go .go .go .go ?_
 intro C F hC hP hF hn (hx : C.fx = [])
 have kp : KL [0, 1, 2, 6] := ⟨⟩
 have kr : KR #[.cell 6 44] := ⟨⟩
 have kt0 : KT 1 [0, 2, 4, 5] [0, 1, 2, 3, 4, 5, 6, 7, 8, 9] (.e 0 (.e 2 (.e 4 (.e 5 (.m 1 [5, 4, 2] (.m 3 [5, 4] (.m 6 [] (.m 7 [] (.m 8 [] (.m 9 [] .z .x) .x) .x) .x) (.m 6 [2] (.m 3 [] (.m 7 [] (.m 8 [] (.m 9 [] .z .x) .x) .x) .x) .x)) (.m 3 [5, 4, 0] (.m 1 [5, 4] (.m 6 [] (.m 7 [] (.m 8 [] (.m 9 [] .z .x) .x) .x) .x) (.m 6 [0] (.m 1 [] (.m 7 [] (.m 8 [] (.m 9 [] .z .x) .x) .x) (.m 7 [0] (.m 1 [] (.m 8 [] (.m 9 [] .z .x) .x) .x) .x)) .x)) (.m 6 [2, 0] (.m 1 [2] (.m 3 [] (.m 7 [] (.m 8 [] (.m 9 [] .z .x) .x) .x) .x) (.m 3 [0] (.m 1 [] (.m 7 [] (.m 8 [] (.m 9 [] .z .x) .x) .x) (.m 7 [0] (.m 1 [] (.m 8 [] (.m 9 [] .z .x) .x) .x) .x)) .x)) .x))))))) := ⟨⟩
 simp only [impl_ThreadNew.f] at H
 apply BZna.out
 exact BZna.go
set_option maxHeartbeats 8000000 in
theorem laws_markThread.link {k : Nat} {l0_0 : List Int} {l0_1 : List ByteArray} {l0_2 : List Int} {a0_3 : Int} {a1 : Int} {r : Int × List Int × List ByteArray × List Int} (H : laws_markThread.f k l0_0 l0_1 l0_2 a0_3 a1 = some r) : MCalls Try.prog 33 true [.sl (some 0) 1 (List.flatMap eI l0_0), .sl (some 0) 1 (List.flatMap eS l0_1), .sl (some 0) 1 (List.flatMap eI l0_2), .sc (.int .i64 a0_3)] [.int .i64 a1] (some (.int .i64 r.1)) [.sl (some 0) 1 (List.flatMap eI r.2.1), .sl (some 0) 1 (List.flatMap eS r.2.2.1), .sl (some 0) 1 (List.flatMap eI r.2.2.2), .sc (.int .i64 a0_3)] := by
 refine MCalls.en Try.func33 Try.ntmps33 .go .go .go .go .go ?_
 intro C F hC hP hF hn (hx : C.fx = [])
 have kp : KL [0, 1, 2, 4] := ⟨⟩
 have kr : KR #[.tmp 4] := ⟨⟩
 have d0 := Hold.mk @laws_markIntS.link
 have d1 := Hold.mk @laws_markEnv.link
 simp only [laws_markThread.f] at H
 apply BZm.out
 exact BZm.go

set_option maxHeartbeats 8000000 in
theorem laws_heldIntS.link {k : Nat} {l0 : List Int} {a1 : Int} {r : Int} (H : laws_heldIntS.f k l0 a1 = some r) : ACalls Try.prog 26 [.dat false [.sl none 1 (List.flatMap eI l0)], .dat false [.sc (.int .i64 a1)]] [(false, [.sc (.int .i64 r)])] [.dat false [.sl none 1 (List.flatMap eI l0)], .dat false [.sc (.int .i64 a1)]] := by
 refine ACalls.en Try.func26 Try.ntmps26 .go .go .go .go ?_
 intro C F hC hP hF hn (hx : C.fx = [])
 have kp : KL [0, 1, 4, 5, 9, 17] := ⟨⟩
 have kr : KR #[.tmp 4] := ⟨⟩
 simp only [laws_heldIntS.f] at H
 have w0 : LJ [0, 1, 5] (fun q X => ∃ x0, ∃ x1, ∃ x5, X = ⟨[(0, .dat false [.sl none 1 (List.flatMap eI x0)]), (1, .dat false [.sc (.int .i64 x1)]), (5, .dat false [.sc (.int .i64 x5)])], []⟩ ∧ q ≤ k ∧ laws_heldIntS.l0 q x0 x1 x5 = some r) := ⟨⟩
 apply late
 · intro lp0
   apply BZ.out
   exact BZ.go
 · intro q1 X hJ ih0
   clear H
   obtain ⟨x0, x1, x5, rfl, hq, H⟩ := hJ
   cases q1 with
   | zero => (simp only [laws_heldIntS.l0] at H; cases H)
   | succ kq1 =>
    simp only [laws_heldIntS.l0] at H
    apply BZn.out
    exact BZn.go
set_option maxHeartbeats 8000000 in
theorem laws_heldStringS.link {k : Nat} {l0 : List ByteArray} {a1 : Int} {r : Int} (H : laws_heldStringS.f k l0 a1 = some r) : ACalls Try.prog 122 [.dat false [.sl none 1 (List.flatMap eS l0)], .dat false [.sc (.int .i64 a1)]] [(false, [.sc (.int .i64 r)])] [.dat false [.sl none 1 (List.flatMap eS l0)], .dat false [.sc (.int .i64 a1)]] := by
 refine ACalls.en Try.func122 Try.ntmps122 .go .go .go .go ?_
 intro C F hC hP hF hn (hx : C.fx = [])
 have kp : KL [0, 1, 4, 5, 9, 18] := ⟨⟩
 have kr : KR #[.tmp 4] := ⟨⟩
 have kd0 : KD 4 (noneL [0, 1, 2, 3, 4] ++ ((5, some [3, 2, 1, 0]) :: (noneL [6] ++ []))) := ⟨⟩
 have c0 := Hold.mk @laws_markText.link
 simp only [laws_heldStringS.f] at H
 have w0 : LJ [0, 1, 5] (fun q X => ∃ x0, ∃ x1, ∃ x5, X = ⟨[(0, .dat false [.sl none 1 (List.flatMap eS x0)]), (1, .dat false [.sc (.int .i64 x1)]), (5, .dat false [.sc (.int .i64 x5)])], []⟩ ∧ q ≤ k ∧ laws_heldStringS.l0 q x0 x1 x5 = some r) := ⟨⟩
 apply late
 · intro lp0
   apply BZ.out
   exact BZ.go
 · intro q1 X hJ ih0
   clear H
   obtain ⟨x0, x1, x5, rfl, hq, H⟩ := hJ
   cases q1 with
   | zero => (simp only [laws_heldStringS.l0] at H; cases H)
   | succ kq1 =>
    simp only [laws_heldStringS.l0] at H
    apply BZn.out
    exact BZn.go
set_option maxHeartbeats 8000000 in
theorem laws_heldEnv.link {k : Nat} {l0_0 : List ByteArray} {l0_1 : List Int} {a1 : Int} {r : Int} (H : laws_heldEnv.f k l0_0 l0_1 a1 = some r) : ACalls Try.prog 72 [.dat true [.sl none 1 (List.flatMap eS l0_0), .sl none 1 (List.flatMap eI l0_1)], .dat false [.sc (.int .i64 a1)]] [(false, [.sc (.int .i64 r)])] [.dat true [.sl none 1 (List.flatMap eS l0_0), .sl none 1 (List.flatMap eI l0_1)], .dat false [.sc (.int .i64 a1)]] := by
 refine ACalls.en Try.func72 Try.ntmps72 .go .go .go .go ?_
 intro C F hC hP hF hn (hx : C.fx = [])
 have kp : KL [0, 1, 2, 4, 10, 16] := ⟨⟩
 have kr : KR #[.tmp 4] := ⟨⟩
 have c0 := Hold.mk @laws_heldIntS.link
 have c1 := Hold.mk @laws_heldStringS.link
 simp only [laws_heldEnv.f] at H
 apply BZn.out
 exact BZn.go
set_option maxHeartbeats 8000000 in
theorem laws_heldThread.link {k : Nat} {l0_0 : List Int} {l0_1 : List ByteArray} {l0_2 : List Int} {a0_3 : Int} {a1 : Int} {r : Int} (H : laws_heldThread.f k l0_0 l0_1 l0_2 a0_3 a1 = some r) : ACalls Try.prog 34 [.dat true [.sl none 1 (List.flatMap eI l0_0), .sl none 1 (List.flatMap eS l0_1), .sl none 1 (List.flatMap eI l0_2), .sc (.int .i64 a0_3)], .dat false [.sc (.int .i64 a1)]] [(false, [.sc (.int .i64 r)])] [.dat true [.sl none 1 (List.flatMap eI l0_0), .sl none 1 (List.flatMap eS l0_1), .sl none 1 (List.flatMap eI l0_2), .sc (.int .i64 a0_3)], .dat false [.sc (.int .i64 a1)]] := by
 refine ACalls.en Try.func34 Try.ntmps34 .go .go .go .go ?_
 intro C F hC hP hF hn (hx : C.fx = [])
 have kp : KL [0, 1, 2, 4, 10, 16] := ⟨⟩
 have kr : KR #[.tmp 4] := ⟨⟩
 have c0 := Hold.mk @laws_heldIntS.link
 have c1 := Hold.mk @laws_heldEnv.link
 simp only [laws_heldThread.f] at H
 apply BZn.out
 exact BZn.go
attribute [-go_sem] o77_set o77_st in
attribute [local go_sem] o77_fold o77_fold2 o77_ats o77_rows o77_get o77_rd List.set_set List.length_set in
set_option maxHeartbeats 8000000 in
theorem laws_markNodeS.link {k : Nat} {l0 : List (S77)} {a1 : Int} {r : Int × (List (S77))} (H : laws_markNodeS.f k l0 a1 = some r) : MCalls Try.prog 67 false [.sl (some 0) 6 (List.flatMap o77 l0)] [.int .i64 a1] (some (.int .i64 r.1)) [.sl (some 0) 6 (List.flatMap o77 r.2)] := by
 refine MCalls.en Try.func67 Try.ntmps67 .go .go .go .go .go ?_
 intro C F hC hP hF hn (hx : C.fx = [])
 have kp : KL [0, 1, 4, 5, 9] := ⟨⟩
 have kr : KR #[.tmp 4] := ⟨⟩
 have c0 := Hold.mk @laws_markText.link
 have d0 := Hold.mk @laws_markIntS.link
 simp only [laws_markNodeS.f] at H
 have w0 : LJ [0, 1, 5] (fun q X => ∃ x0, ∃ x1, ∃ x5, X = ⟨[(0, .bor 0 none 0 1 false), (1, .dat false [.sc (.int .i64 x1)]), (5, .dat false [.sc (.int .i64 x5)])], [(0, .vir [.sl (some 1) 6 (List.flatMap o77 x0)])]⟩ ∧ q ≤ k ∧ laws_markNodeS.l0 q x0 x1 x5 = some r) := ⟨⟩
 apply late
 · intro lp0
   apply BZnm.out
   exact BZnm.go
 · intro q1 X hJ ih0
   clear H
   obtain ⟨x0, x1, x5, rfl, hq, H⟩ := hJ
   cases q1 with
   | zero => (simp only [laws_markNodeS.l0] at H; cases H)
   | succ kq1 =>
    simp only [laws_markNodeS.l0] at H
    apply BZnm.out
    exact BZnm.go

attribute [-go_sem] o106_set o106_st in
attribute [local go_sem] o106_fold o106_fold2 o106_ats o106_rows o106_get o106_rd List.set_set List.length_set in
set_option maxHeartbeats 8000000 in
theorem laws_markMonitorS.link {k : Nat} {l0 : List (S106)} {a1 : Int} {r : Int × (List (S106))} (H : laws_markMonitorS.f k l0 a1 = some r) : MCalls Try.prog 68 false [.sl (some 0) 4 (List.flatMap o106 l0)] [.int .i64 a1] (some (.int .i64 r.1)) [.sl (some 0) 4 (List.flatMap o106 r.2)] := by
 refine MCalls.en Try.func68 Try.ntmps68 .go .go .go .go .go ?_
 intro C F hC hP hF hn (hx : C.fx = [])
 have kp : KL [0, 1, 4, 5, 9] := ⟨⟩
 have kr : KR #[.tmp 4] := ⟨⟩
 have c0 := Hold.mk @laws_markText.link
 have d0 := Hold.mk @laws_markStringS.link
 have d1 := Hold.mk @laws_markEntryS.link
 simp only [laws_markMonitorS.f] at H
 have w0 : LJ [0, 1, 5] (fun q X => ∃ x0, ∃ x1, ∃ x5, X = ⟨[(0, .bor 0 none 0 1 false), (1, .dat false [.sc (.int .i64 x1)]), (5, .dat false [.sc (.int .i64 x5)])], [(0, .vir [.sl (some 1) 4 (List.flatMap o106 x0)])]⟩ ∧ q ≤ k ∧ laws_markMonitorS.l0 q x0 x1 x5 = some r) := ⟨⟩
 apply late
 · intro lp0
   apply BZnm.out
   exact BZnm.go
 · intro q1 X hJ ih0
   clear H
   obtain ⟨x0, x1, x5, rfl, hq, H⟩ := hJ
   cases q1 with
   | zero => (simp only [laws_markMonitorS.l0] at H; cases H)
   | succ kq1 =>
    simp only [laws_markMonitorS.l0] at H
    apply BZnm.out
    exact BZnm.go

attribute [-go_sem] o103_set o103_st in
attribute [local go_sem] o103_fold o103_fold2 o103_ats o103_rows o103_get o103_rd List.set_set List.length_set in
set_option maxHeartbeats 8000000 in
theorem laws_markProcessS.link {k : Nat} {l0 : List (S103)} {a1 : Int} {r : Int × (List (S103))} (H : laws_markProcessS.f k l0 a1 = some r) : MCalls Try.prog 69 false [.sl (some 0) 4 (List.flatMap o103 l0)] [.int .i64 a1] (some (.int .i64 r.1)) [.sl (some 0) 4 (List.flatMap o103 r.2)] := by
 refine MCalls.en Try.func69 Try.ntmps69 .go .go .go .go .go ?_
 intro C F hC hP hF hn (hx : C.fx = [])
 have kp : KL [0, 1, 4, 5, 9] := ⟨⟩
 have kr : KR #[.tmp 4] := ⟨⟩
 have c0 := Hold.mk @laws_markText.link
 have d0 := Hold.mk @laws_markStringS.link
 simp only [laws_markProcessS.f] at H
 have w0 : LJ [0, 1, 5] (fun q X => ∃ x0, ∃ x1, ∃ x5, X = ⟨[(0, .bor 0 none 0 1 false), (1, .dat false [.sc (.int .i64 x1)]), (5, .dat false [.sc (.int .i64 x5)])], [(0, .vir [.sl (some 1) 4 (List.flatMap o103 x0)])]⟩ ∧ q ≤ k ∧ laws_markProcessS.l0 q x0 x1 x5 = some r) := ⟨⟩
 apply late
 · intro lp0
   apply BZnm.out
   exact BZnm.go
 · intro q1 X hJ ih0
   clear H
   obtain ⟨x0, x1, x5, rfl, hq, H⟩ := hJ
   cases q1 with
   | zero => (simp only [laws_markProcessS.l0] at H; cases H)
   | succ kq1 =>
    simp only [laws_markProcessS.l0] at H
    apply BZnm.out
    exact BZnm.go

set_option maxHeartbeats 8000000 in
theorem laws_markProgramG.link {k : Nat} {l0_0 : List S77} {l0_1 : List S106} {l0_2 : List S103} {a1 : Int} {r : Int × List S77 × List S106 × List S103} (H : laws_markProgram.g k l0_0 l0_1 l0_2 a1 = some r) : MCalls Try.prog 24 true [.sl (some 0) 6 (List.flatMap o77 l0_0), .sl (some 0) 4 (List.flatMap o106 l0_1), .sl (some 0) 4 (List.flatMap o103 l0_2)] [.int .i64 a1] (some (.int .i64 r.1)) [.sl (some 0) 6 (List.flatMap o77 r.2.1), .sl (some 0) 4 (List.flatMap o106 r.2.2.1), .sl (some 0) 4 (List.flatMap o103 r.2.2.2)] := by
 refine MCalls.en Try.func24 Try.ntmps24 .go .go .go .go .go ?_
 intro C F hC hP hF hn (hx : C.fx = [])
 have kp : KL [0, 1, 2, 4] := ⟨⟩
 have kr : KR #[.tmp 4] := ⟨⟩
 have d0 := Hold.mk @laws_markNodeS.link
 have d1 := Hold.mk @laws_markMonitorS.link
 have d2 := Hold.mk @laws_markProcessS.link
 simp only [laws_markProgram.g] at H
 apply BZm.out
 exact BZm.go
def laws_markProgram.n (k : Nat) (l0_0 : List S77) (l0_1 : List S106) (l0_2 : List S103) (a1 : Int) : Int × List S77 × List S106 × List S103 := (laws_markProgram.g k l0_0 l0_1 l0_2 a1).getD (0, [], [], [])
theorem laws_markProgram.link {k : Nat} {l0_0 : List S77} {l0_1 : List S106} {l0_2 : List S103} {a1 r : Int} (H : laws_markProgram.f k l0_0 l0_1 l0_2 a1 = some r) : MCalls Try.prog 24 true [.sl (some 0) 6 (List.flatMap o77 l0_0), .sl (some 0) 4 (List.flatMap o106 l0_1), .sl (some 0) 4 (List.flatMap o103 l0_2)] [.int .i64 a1] (some (.int .i64 r)) [.sl (some 0) 6 (List.flatMap o77 (laws_markProgram.n k l0_0 l0_1 l0_2 a1).2.1), .sl (some 0) 4 (List.flatMap o106 (laws_markProgram.n k l0_0 l0_1 l0_2 a1).2.2.1), .sl (some 0) 4 (List.flatMap o103 (laws_markProgram.n k l0_0 l0_1 l0_2 a1).2.2.2)] := by
 unfold laws_markProgram.f at H
 cases hg : laws_markProgram.g k l0_0 l0_1 l0_2 a1 with
 | none => rw [hg] at H; cases H
 | some p =>
  rw [hg] at H
  cases H
  have := (@laws_markProgramG.link) hg
  unfold laws_markProgram.n
  rw [hg]
  exact this

end Go.Proofs.Ytmbkcbgbienjoaa.PFnExactThreadNew
