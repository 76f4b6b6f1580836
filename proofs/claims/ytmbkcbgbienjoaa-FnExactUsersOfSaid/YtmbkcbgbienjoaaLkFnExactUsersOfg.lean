/- Functions' walks: each computes what its plain form says. No condition. -/
import Derived.Test.YtmbkcbgbienjoaaLkFnExactUsersOfh
import Derived.Test.YtmbkcbgbienjoaaLkFnExactUsersOfd
open Go Go.Proofs Go.Proofs.Ytmbkcbgbienjoaa.Abs
namespace Go.Proofs.Ytmbkcbgbienjoaa.PFnExactUsersOf
open Go.RowKit Go.Proofs.YtmbkcbgbienjoaaW.PrintWords Go.Proofs.YtmbkcbgbienjoaaW.PrintLast Go.Proofs.YtmbkcbgbienjoaaW.PrintMore
set_option linter.unusedVariables false
set_option linter.unusedSimpArgs false
set_option maxRecDepth 100000
attribute [local irreducible] evK evQ evM evF evW evH goE goK goKD goQ goQD goD Ok ACalls
set_option maxHeartbeats 8000000 in
theorem laws_markStringS.link {k : Nat} {l0 : List ByteArray} {a1 : Int} {r : Int × List ByteArray} (H : laws_markStringS.f k l0 a1 = some r) : MCalls Try.prog 32 false [.sl (some 0) 1 (List.flatMap eS l0)] (.int .i64 a1) (.int .i64 r.1) [.sl (some 0) 1 (List.flatMap eS r.2)] := by
 refine MCalls.en Try.func32 Try.ntmps32 .go .go .go .go .go ?_
 intro C F hC hP hF hn (hx : C.fx = [])
 have kp : KL [0, 1, 4, 5, 9] := ⟨⟩
 have kr : KR #[.tmp 4] := ⟨⟩
 have c0 := Hold.mk @laws_markText.link
 simp only [laws_markStringS.f] at H
 have w0 : LJ [0, 1, 5] (fun q X => ∃ x0, ∃ x1, ∃ x5, X = ⟨[(0, .bor 0 none 0 1 false), (1, .dat false [.sc (.int .i64 x1)]), (5, .dat false [.sc (.int .i64 x5)])], [(0, .vir [.sl (some 1) 1 (List.flatMap eS x0)])]⟩ ∧ q ≤ k ∧ laws_markStringS.l0 q x0 x1 x5 = some r) := ⟨⟩
 apply late
 · intro lp0
   apply BZnm.out
   exact BZnm.go
 · intro q1 X hJ ih0
   clear H
   obtain ⟨x0, x1, x5, rfl, hq, H⟩ := hJ
   cases q1 with
   | zero => (simp only [laws_markStringS.l0] at H; cases H)
   | succ kq1 =>
    simp only [laws_markStringS.l0] at H
    apply BZnm.out
    exact BZnm.go

attribute [-go_sem] e131_set e131_st in
attribute [local go_sem] e131_fold e131_fold2 e131_ats e131_rows e131_get e131_rd List.set_set List.length_set in
set_option maxHeartbeats 8000000 in
theorem laws_markEntryS.link {k : Nat} {l0 : List S131} {a1 : Int} {r : Int × (List (S131))} (H : laws_markEntryS.f k l0 a1 = some r) : MCalls Try.prog 121 false [.sl (some 0) 3 (List.flatMap e131 l0)] (.int .i64 a1) (.int .i64 r.1) [.sl (some 0) 3 (List.flatMap e131 r.2)] := by
 refine MCalls.en Try.func121 Try.ntmps121 .go .go .go .go .go ?_
 intro C F hC hP hF hn (hx : C.fx = [])
 have kp : KL [0, 1, 4, 5, 9] := ⟨⟩
 have kr : KR #[.tmp 4] := ⟨⟩
 have c0 := Hold.mk @laws_markText.link
 simp only [laws_markEntryS.f] at H
 have w0 : LJ [0, 1, 5] (fun q X => ∃ x0, ∃ x1, ∃ x5, X = ⟨[(0, .bor 0 none 0 1 false), (1, .dat false [.sc (.int .i64 x1)]), (5, .dat false [.sc (.int .i64 x5)])], [(0, .vir [.sl (some 1) 3 (List.flatMap e131 x0)])]⟩ ∧ q ≤ k ∧ laws_markEntryS.l0 q x0 x1 x5 = some r) := ⟨⟩
 apply late
 · intro lp0
   apply BZnm.out
   exact BZnm.go
 · intro q1 X hJ ih0
   clear H
   obtain ⟨x0, x1, x5, rfl, hq, H⟩ := hJ
   cases q1 with
   | zero => (simp only [laws_markEntryS.l0] at H; cases H)
   | succ kq1 =>
    simp only [laws_markEntryS.l0] at H
    apply BZnm.out
    exact BZnm.go

set_option maxHeartbeats 8000000 in
theorem laws_heldIntS.link {k : Nat} {l0 : List Int} {a1 : Int} {r : Int} (H : laws_heldIntS.f k l0 a1 = some r) : ACalls Try.prog 26 [.dat false [.sl none 1 (List.flatMap eI l0)], .dat false [.sc (.int .i64 a1)]] [(false, [.sc (.int .i64 r)])] [.dat false [.sl none 1 (List.flatMap eI l0)], .dat false [.sc (.int .i64 a1)]] := by
 refine ACalls.en Try.func26 Try.ntmps26 .go .go .go .go ?_
 intro C F hC hP hF hn (hx : C.fx = [])
 have kp : KL [0, 1, 4, 5, 9, 17] := ⟨⟩
 have kr : KR #[.tmp 4] := ⟨⟩
 simp only [laws_heldIntS.f] at H
 have w0 : LJ [0, 1, 5] (fun q X => ∃ x0, ∃ x1, ∃ x5, X = ⟨[(0, .dat false [.sl none 1 (List.flatMap eI x0)]), (1, .dat false [.sc (.int .i64 x1)]), (5, .dat false [.sc (.int .i64 x5)])], []⟩ ∧ q ≤ k ∧ laws_heldIntS.l0 q x0 x1 x5 = some r) := ⟨⟩
 apply late
 · intro lp0
   apply BZ.out
   exact BZ.go
 · intro q1 X hJ ih0
   clear H
   obtain ⟨x0, x1, x5, rfl, hq, H⟩ := hJ
   cases q1 with
   | zero => (simp only [laws_heldIntS.l0] at H; cases H)
   | succ kq1 =>
    simp only [laws_heldIntS.l0] at H
    apply BZn.out
    exact BZn.go
attribute [-go_sem] o77_set o77_st in
attribute [local go_sem] o77_fold o77_fold2 o77_ats o77_rows o77_get o77_rd List.set_set List.length_set in
set_option maxHeartbeats 8000000 in
theorem laws_markNodeS.link {k : Nat} {l0 : List S77} {a1 : Int} {r : Int × (List (S77))} (H : laws_markNodeS.f k l0 a1 = some r) : MCalls Try.prog 67 false [.sl (some 0) 6 (List.flatMap o77 l0)] (.int .i64 a1) (.int .i64 r.1) [.sl (some 0) 6 (List.flatMap o77 r.2)] := by
 refine MCalls.en Try.func67 Try.ntmps67 .go .go .go .go .go ?_
 intro C F hC hP hF hn (hx : C.fx = [])
 have kp : KL [0, 1, 4, 5, 9] := ⟨⟩
 have kr : KR #[.tmp 4] := ⟨⟩
 have c0 := Hold.mk @laws_markText.link
 have d0 := Hold.mk @laws_markIntS.link
 simp only [laws_markNodeS.f] at H
 have w0 : LJ [0, 1, 5] (fun q X => ∃ x0, ∃ x1, ∃ x5, X = ⟨[(0, .bor 0 none 0 1 false), (1, .dat false [.sc (.int .i64 x1)]), (5, .dat false [.sc (.int .i64 x5)])], [(0, .vir [.sl (some 1) 6 (List.flatMap o77 x0)])]⟩ ∧ q ≤ k ∧ laws_markNodeS.l0 q x0 x1 x5 = some r) := ⟨⟩
 apply late
 · intro lp0
   apply BZnm.out
   exact BZnm.go
 · intro q1 X hJ ih0
   clear H
   obtain ⟨x0, x1, x5, rfl, hq, H⟩ := hJ
   cases q1 with
   | zero => (simp only [laws_markNodeS.l0] at H; cases H)
   | succ kq1 =>
    simp only [laws_markNodeS.l0] at H
    apply BZnm.out
    exact BZnm.go

attribute [-go_sem] o106_set o106_st in
attribute [local go_sem] o106_fold o106_fold2 o106_ats o106_rows o106_get o106_rd List.set_set List.length_set in
set_option maxHeartbeats 8000000 in
theorem laws_markMonitorS.link {k : Nat} {l0 : List S106} {a1 : Int} {r : Int × (List (S106))} (H : laws_markMonitorS.f k l0 a1 = some r) : MCalls Try.prog 68 false [.sl (some 0) 4 (List.flatMap o106 l0)] (.int .i64 a1) (.int .i64 r.1) [.sl (some 0) 4 (List.flatMap o106 r.2)] := by
 refine MCalls.en Try.func68 Try.ntmps68 .go .go .go .go .go ?_
 intro C F hC hP hF hn (hx : C.fx = [])
 have kp : KL [0, 1, 4, 5, 9] := ⟨⟩
 have kr : KR #[.tmp 4] := ⟨⟩
 have c0 := Hold.mk @laws_markText.link
 have d0 := Hold.mk @laws_markStringS.link
 have d1 := Hold.mk @laws_markEntryS.link
 simp only [laws_markMonitorS.f] at H
 have w0 : LJ [0, 1, 5] (fun q X => ∃ x0, ∃ x1, ∃ x5, X = ⟨[(0, .bor 0 none 0 1 false), (1, .dat false [.sc (.int .i64 x1)]), (5, .dat false [.sc (.int .i64 x5)])], [(0, .vir [.sl (some 1) 4 (List.flatMap o106 x0)])]⟩ ∧ q ≤ k ∧ laws_markMonitorS.l0 q x0 x1 x5 = some r) := ⟨⟩
 apply late
 · intro lp0
   apply BZnm.out
   exact BZnm.go
 · intro q1 X hJ ih0
   clear H
   obtain ⟨x0, x1, x5, rfl, hq, H⟩ := hJ
   cases q1 with
   | zero => (simp only [laws_markMonitorS.l0] at H; cases H)
   | succ kq1 =>
    simp only [laws_markMonitorS.l0] at H
    apply BZnm.out
    exact BZnm.go

attribute [-go_sem] o103_set o103_st in
attribute [local go_sem] o103_fold o103_fold2 o103_ats o103_rows o103_get o103_rd List.set_set List.length_set in
set_option maxHeartbeats 8000000 in
theorem laws_markProcessS.link {k : Nat} {l0 : List S103} {a1 : Int} {r : Int × (List (S103))} (H : laws_markProcessS.f k l0 a1 = some r) : MCalls Try.prog 69 false [.sl (some 0) 4 (List.flatMap o103 l0)] (.int .i64 a1) (.int .i64 r.1) [.sl (some 0) 4 (List.flatMap o103 r.2)] := by
 refine MCalls.en Try.func69 Try.ntmps69 .go .go .go .go .go ?_
 intro C F hC hP hF hn (hx : C.fx = [])
 have kp : KL [0, 1, 4, 5, 9] := ⟨⟩
 have kr : KR #[.tmp 4] := ⟨⟩
 have c0 := Hold.mk @laws_markText.link
 have d0 := Hold.mk @laws_markStringS.link
 simp only [laws_markProcessS.f] at H
 have w0 : LJ [0, 1, 5] (fun q X => ∃ x0, ∃ x1, ∃ x5, X = ⟨[(0, .bor 0 none 0 1 false), (1, .dat false [.sc (.int .i64 x1)]), (5, .dat false [.sc (.int .i64 x5)])], [(0, .vir [.sl (some 1) 4 (List.flatMap o103 x0)])]⟩ ∧ q ≤ k ∧ laws_markProcessS.l0 q x0 x1 x5 = some r) := ⟨⟩
 apply late
 · intro lp0
   apply BZnm.out
   exact BZnm.go
 · intro q1 X hJ ih0
   clear H
   obtain ⟨x0, x1, x5, rfl, hq, H⟩ := hJ
   cases q1 with
   | zero => (simp only [laws_markProcessS.l0] at H; cases H)
   | succ kq1 =>
    simp only [laws_markProcessS.l0] at H
    apply BZnm.out
    exact BZnm.go

set_option maxHeartbeats 8000000 in
theorem laws_markProgramG.link {k : Nat} {l0_0 : List S77} {l0_1 : List S106} {l0_2 : List S103} {a1 : Int} {r : Int × List S77 × List S106 × List S103} (H : laws_markProgram.g k l0_0 l0_1 l0_2 a1 = some r) : MCalls Try.prog 24 true [.sl (some 0) 6 (List.flatMap o77 l0_0), .sl (some 0) 4 (List.flatMap o106 l0_1), .sl (some 0) 4 (List.flatMap o103 l0_2)] (.int .i64 a1) (.int .i64 r.1) [.sl (some 0) 6 (List.flatMap o77 r.2.1), .sl (some 0) 4 (List.flatMap o106 r.2.2.1), .sl (some 0) 4 (List.flatMap o103 r.2.2.2)] := by
 refine MCalls.en Try.func24 Try.ntmps24 .go .go .go .go .go ?_
 intro C F hC hP hF hn (hx : C.fx = [])
 have kp : KL [0, 1, 2, 4] := ⟨⟩
 have kr : KR #[.tmp 4] := ⟨⟩
 have d0 := Hold.mk @laws_markNodeS.link
 have d1 := Hold.mk @laws_markMonitorS.link
 have d2 := Hold.mk @laws_markProcessS.link
 simp only [laws_markProgram.g] at H
 apply BZm.out
 exact BZm.go
def laws_markProgram.n (k : Nat) (l0_0 : List S77) (l0_1 : List S106) (l0_2 : List S103) (a1 : Int) : Int × List S77 × List S106 × List S103 := (laws_markProgram.g k l0_0 l0_1 l0_2 a1).getD (0, [], [], [])
theorem laws_markProgram.link {k : Nat} {l0_0 : List S77} {l0_1 : List S106} {l0_2 : List S103} {a1 r : Int} (H : laws_markProgram.f k l0_0 l0_1 l0_2 a1 = some r) : MCalls Try.prog 24 true [.sl (some 0) 6 (List.flatMap o77 l0_0), .sl (some 0) 4 (List.flatMap o106 l0_1), .sl (some 0) 4 (List.flatMap o103 l0_2)] (.int .i64 a1) (.int .i64 r) [.sl (some 0) 6 (List.flatMap o77 (laws_markProgram.n k l0_0 l0_1 l0_2 a1).2.1), .sl (some 0) 4 (List.flatMap o106 (laws_markProgram.n k l0_0 l0_1 l0_2 a1).2.2.1), .sl (some 0) 4 (List.flatMap o103 (laws_markProgram.n k l0_0 l0_1 l0_2 a1).2.2.2)] := by
 unfold laws_markProgram.f at H
 cases hg : laws_markProgram.g k l0_0 l0_1 l0_2 a1 with
 | none => rw [hg] at H; cases H
 | some p =>
  rw [hg] at H
  cases H
  have := (@laws_markProgramG.link) hg
  unfold laws_markProgram.n
  rw [hg]
  exact this

end Go.Proofs.Ytmbkcbgbienjoaa.PFnExactUsersOf
