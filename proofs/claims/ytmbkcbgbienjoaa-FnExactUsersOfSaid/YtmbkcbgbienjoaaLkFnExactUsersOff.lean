/- Functions' walks: each computes what its plain form says. No condition. -/
import Derived.Test.YtmbkcbgbienjoaaLkFnExactUsersOfh
import Derived.Test.YtmbkcbgbienjoaaLkFnExactUsersOfe
open Go Go.Proofs Go.Proofs.Ytmbkcbgbienjoaa.Abs
namespace Go.Proofs.Ytmbkcbgbienjoaa.PFnExactUsersOf
open Go.RowKit Go.Proofs.YtmbkcbgbienjoaaW.PrintWords Go.Proofs.YtmbkcbgbienjoaaW.PrintLast Go.Proofs.YtmbkcbgbienjoaaW.PrintMore
set_option linter.unusedVariables false
set_option linter.unusedSimpArgs false
set_option maxRecDepth 100000
attribute [local irreducible] evK evQ evM evF evW evH goE goK goKD goQ goQD goD Ok ACalls
set_option maxHeartbeats 8000000 in
theorem spec_Uses.link {k : Nat} {l0_0 : List (S77)} {l0_1 : List (S106)} {l0_2 : List (S103)} {a1 : Int} {a2 : Int} {r : Bool} (H : spec_Uses.f k l0_0 l0_1 l0_2 a1 a2 = some r) : ACalls Try.prog 65 [.dat true [.sl none 6 (List.flatMap e77 l0_0), .sl none 4 (List.flatMap e106 l0_1), .sl none 4 (List.flatMap e103 l0_2)], .dat false [.sc (.int .i64 a1)], .dat false [.sc (.int .i64 a2)]] [(false, [.sc (.bool r)])] [.dat true [.sl none 6 (List.flatMap e77 l0_0), .sl none 4 (List.flatMap e106 l0_1), .sl none 4 (List.flatMap e103 l0_2)], .dat false [.sc (.int .i64 a1)], .dat false [.sc (.int .i64 a2)]] := by
 refine ACalls.en Try.func65 Try.ntmps65 .go .go .go .go ?_
 intro C F hC hP hF hn (hx : C.fx = [])
 have kp : KL [0, 1, 2, 3, 6] := ⟨⟩
 have kr : KR #[.tmp 6] := ⟨⟩
 have kd0 : KD 1 (noneL [0, 1, 2, 3, 4] ++ ((5, some []) :: (noneL [6, 7, 8, 9, 10, 11] ++ ((12, some []) :: (noneL [13, 14, 15, 16, 17, 18, 19, 20, 21, 22, 23, 24, 25, 26] ++ ((27, some []) :: (noneL [28, 29] ++ []))))))) := ⟨⟩
 have c0 := Hold.mk @spec_l01In.link
 have c1 := Hold.mk @spec_l08In.link
 simp only [spec_Uses.f] at H
 apply BZn.out
 exact BZn.go
set_option maxHeartbeats 8000000 in
theorem spec_UsersOf.link {k : Nat} {l0_0 : List (S77)} {l0_1 : List (S106)} {l0_2 : List (S103)} {a1 : Int} {r : List Int} (H : spec_UsersOf.f k l0_0 l0_1 l0_2 a1 = some r) : ACalls Try.prog 21 [.dat true [.sl none 6 (List.flatMap e77 l0_0), .sl none 4 (List.flatMap e106 l0_1), .sl none 4 (List.flatMap e103 l0_2)], .dat false [.sc (.int .i64 a1)]] [(false, [.sl (some 0) 1 (List.flatMap eI r)])] [.dat true [.sl none 6 (List.flatMap e77 l0_0), .sl none 4 (List.flatMap e106 l0_1), .sl none 4 (List.flatMap e103 l0_2)], .dat false [.sc (.int .i64 a1)]] := by
 refine ACalls.en Try.func21 Try.ntmps21 .go .go .go .go ?_
 intro C F hC hP hF hn (hx : C.fx = [])
 have kp : KL [0, 1, 2, 4, 5, 6, 12, 18] := ⟨⟩
 have kr : KR #[.tmp 4] := ⟨⟩
 have c0 := Hold.mk @spec_Uses.link
 simp only [spec_UsersOf.f] at H
 have w0 : LJ [1, 2, 5, 6] (fun q X => ∃ x1, ∃ x5, ∃ x6, ∃ x268000, ∃ x268001, ∃ x268002, X = ⟨[(1, .dat false [.sc (.int .i64 x1)]), (2, .pl 0 none 0), (5, .bor 1 none 0 1 false), (6, .dat false [.sc (.int .i64 x6)])], [(0, .mem [.sl none 6 (List.flatMap e77 x268000), .sl none 4 (List.flatMap e106 x268001), .sl none 4 (List.flatMap e103 x268002)]), (1, .vir [.sl (some 0) 1 (List.flatMap eI x5)])]⟩ ∧ q ≤ k ∧ spec_UsersOf.l0 q x1 x5 x6 x268000 x268001 x268002 = some r) := ⟨⟩
 apply late
 · intro lp0
   apply BZa.out
   exact BZa.go
 · intro q1 X hJ ih0
   clear H
   obtain ⟨x1, x5, x6, x268000, x268001, x268002, rfl, hq, H⟩ := hJ
   cases q1 with
   | zero => (simp only [spec_UsersOf.l0] at H; cases H)
   | succ kq1 =>
    simp only [spec_UsersOf.l0] at H
    apply BZna.out
    exact BZna.go
set_option maxHeartbeats 8000000 in
theorem impl_within.link {a0 : Int} {a1 : Int} {a2 : Int} {r : Bool} (H : impl_within.f a0 a1 a2 = some r) : ACalls Try.prog 79 [.dat false [.sc (.int .i64 a0)], .dat false [.sc (.int .i64 a1)], .dat false [.sc (.int .i64 a2)]] [(false, [.sc (.bool r)])] [.dat false [.sc (.int .i64 a0)], .dat false [.sc (.int .i64 a1)], .dat false [.sc (.int .i64 a2)]] := by
 refine ACalls.en Try.func79 Try.ntmps79 .go .go .go .go ?_
 intro C F hC hP hF hn (hx : C.fx = [])
 have kp : KL [0, 1, 2, 6] := ⟨⟩
 have kr : KR #[.tmp 6] := ⟨⟩
 simp only [impl_within.f] at H
 apply BZ.out
 exact BZ.go
set_option maxHeartbeats 8000000 in
theorem impl_isProcess.link {l0_0 : List (S77)} {l0_1 : List (S106)} {l0_2 : List (S103)} {a1 : Int} {r : Bool} (H : impl_isProcess.f l0_0 l0_1 l0_2 a1 = some r) : ACalls Try.prog 99 [.dat true [.sl none 6 (List.flatMap e77 l0_0), .sl none 4 (List.flatMap e106 l0_1), .sl none 4 (List.flatMap e103 l0_2)], .dat false [.sc (.int .i64 a1)]] [(false, [.sc (.bool r)])] [.dat true [.sl none 6 (List.flatMap e77 l0_0), .sl none 4 (List.flatMap e106 l0_1), .sl none 4 (List.flatMap e103 l0_2)], .dat false [.sc (.int .i64 a1)]] := by
 refine ACalls.en Try.func99 Try.ntmps99 .go .go .go .go ?_
 intro C F hC hP hF hn (hx : C.fx = [])
 have kp : KL [0, 1, 2, 4] := ⟨⟩
 have kr : KR #[.tmp 4] := ⟨⟩
 have c0 := Hold.mk @impl_within.link
 simp only [impl_isProcess.f] at H
 apply BZ.out
 exact BZ.go
set_option maxHeartbeats 8000000 in
theorem impl_isMonitor.link {l0_0 : List (S77)} {l0_1 : List (S106)} {l0_2 : List (S103)} {a1 : Int} {r : Bool} (H : impl_isMonitor.f l0_0 l0_1 l0_2 a1 = some r) : ACalls Try.prog 119 [.dat true [.sl none 6 (List.flatMap e77 l0_0), .sl none 4 (List.flatMap e106 l0_1), .sl none 4 (List.flatMap e103 l0_2)], .dat false [.sc (.int .i64 a1)]] [(false, [.sc (.bool r)])] [.dat true [.sl none 6 (List.flatMap e77 l0_0), .sl none 4 (List.flatMap e106 l0_1), .sl none 4 (List.flatMap e103 l0_2)], .dat false [.sc (.int .i64 a1)]] := by
 refine ACalls.en Try.func119 Try.ntmps119 .go .go .go .go ?_
 intro C F hC hP hF hn (hx : C.fx = [])
 have kp : KL [0, 1, 2, 4] := ⟨⟩
 have kr : KR #[.tmp 4] := ⟨⟩
 have c0 := Hold.mk @impl_within.link
 simp only [impl_isMonitor.f] at H
 apply BZ.out
 exact BZ.go
set_option maxHeartbeats 8000000 in
theorem slices_Index_string_string.link {k : Nat} {l0 : List ByteArray} {a1 : ByteArray} {r : Int} (H : slices_Index_string_string.f k l0 a1 = some r) : ACalls Try.prog 144 [.dat false [.sl none 1 (List.flatMap eS l0)], .dat false [.sc (.string a1)]] [(false, [.sc (.int .i64 r)])] [.dat false [.sl none 1 (List.flatMap eS l0)], .dat false [.sc (.string a1)]] := by
 refine ACalls.en Try.func144 Try.ntmps144 .go .go .go .go ?_
 intro C F hC hP hF hn (hx : C.fx = [])
 have kp : KL [0, 1, 4, 5, 7, 8, 9, 16] := ⟨⟩
 have kr : KR #[.tmp 4] := ⟨⟩
 simp only [slices_Index_string_string.f] at H
 have w0 : LJ [0, 1, 7, 8] (fun q X => ∃ x0, ∃ x1, ∃ x7, ∃ x8, X = ⟨[(0, .dat false [.sl none 1 (List.flatMap eS x0)]), (1, .dat false [.sc (.string x1)]), (7, .dat false [.sc (.int .i64 x7)]), (8, .dat false [.sc (.int .i64 x8)])], []⟩ ∧ q ≤ k ∧ slices_Index_string_string.l0 q x0 x1 x7 x8 = some r) := ⟨⟩
 apply late
 · intro lp0
   apply BZ.out
   exact BZ.go
 · intro q1 X hJ ih0
   clear H
   obtain ⟨x0, x1, x7, x8, rfl, hq, H⟩ := hJ
   cases q1 with
   | zero => (simp only [slices_Index_string_string.l0] at H; cases H)
   | succ kq1 =>
    simp only [slices_Index_string_string.l0] at H
    apply BZn.out
    exact BZn.go
set_option maxHeartbeats 8000000 in
theorem slices_Contains_string_string.link {k : Nat} {l0 : List ByteArray} {a1 : ByteArray} {r : Bool} (H : slices_Contains_string_string.f k l0 a1 = some r) : ACalls Try.prog 120 [.dat false [.sl none 1 (List.flatMap eS l0)], .dat false [.sc (.string a1)]] [(false, [.sc (.bool r)])] [.dat false [.sl none 1 (List.flatMap eS l0)], .dat false [.sc (.string a1)]] := by
 refine ACalls.en Try.func120 Try.ntmps120 .go .go .go .go ?_
 intro C F hC hP hF hn (hx : C.fx = [])
 have kp : KL [0, 1, 4] := ⟨⟩
 have kr : KR #[.tmp 4] := ⟨⟩
 have c0 := Hold.mk @slices_Index_string_string.link
 simp only [slices_Contains_string_string.f] at H
 apply BZ.out
 exact BZ.go
set_option maxHeartbeats 8000000 in
theorem impl_Uses.link {k : Nat} {l0_0 : List (S77)} {l0_1 : List (S106)} {l0_2 : List (S103)} {a1 : Int} {a2 : Int} {r : Bool} (H : impl_Uses.f k l0_0 l0_1 l0_2 a1 a2 = some r) : ACalls Try.prog 66 [.dat true [.sl none 6 (List.flatMap e77 l0_0), .sl none 4 (List.flatMap e106 l0_1), .sl none 4 (List.flatMap e103 l0_2)], .dat false [.sc (.int .i64 a1)], .dat false [.sc (.int .i64 a2)]] [(false, [.sc (.bool r)])] [.dat true [.sl none 6 (List.flatMap e77 l0_0), .sl none 4 (List.flatMap e106 l0_1), .sl none 4 (List.flatMap e103 l0_2)], .dat false [.sc (.int .i64 a1)], .dat false [.sc (.int .i64 a2)]] := by
 refine ACalls.en Try.func66 Try.ntmps66 .go .go .go .go ?_
 intro C F hC hP hF hn (hx : C.fx = [])
 have kp : KL [0, 1, 2, 3, 6] := ⟨⟩
 have kr : KR #[.tmp 6] := ⟨⟩
 have kd0 : KD 1 (noneL [0, 1] ++ ((2, some []) :: (noneL [3, 4, 5] ++ ((6, some []) :: (noneL [7, 8, 9, 10, 11, 12, 13, 14, 15, 16, 17, 18, 19, 20] ++ ((21, some []) :: (noneL [22, 23] ++ []))))))) := ⟨⟩
 have c0 := Hold.mk @impl_isProcess.link
 have c1 := Hold.mk @impl_isMonitor.link
 have c2 := Hold.mk @slices_Contains_string_string.link
 simp only [impl_Uses.f] at H
 apply BZn.out
 exact BZn.go
set_option maxHeartbeats 8000000 in
theorem impl_UsersOf.link {k : Nat} {l0_0 : List (S77)} {l0_1 : List (S106)} {l0_2 : List (S103)} {a1 : Int} {r : List Int} (H : impl_UsersOf.f k l0_0 l0_1 l0_2 a1 = some r) : ACalls Try.prog 22 [.dat true [.sl none 6 (List.flatMap e77 l0_0), .sl none 4 (List.flatMap e106 l0_1), .sl none 4 (List.flatMap e103 l0_2)], .dat false [.sc (.int .i64 a1)]] [(false, [.sl (some 0) 1 (List.flatMap eI r)])] [.dat true [.sl none 6 (List.flatMap e77 l0_0), .sl none 4 (List.flatMap e106 l0_1), .sl none 4 (List.flatMap e103 l0_2)], .dat false [.sc (.int .i64 a1)]] := by
 refine ACalls.en Try.func22 Try.ntmps22 .go .go .go .go ?_
 intro C F hC hP hF hn (hx : C.fx = [])
 have kp : KL [0, 1, 2, 4, 5, 6, 9, 10, 11, 16] := ⟨⟩
 have kr : KR #[.tmp 4] := ⟨⟩
 have c0 := Hold.mk @impl_Uses.link
 simp only [impl_UsersOf.f] at H
 have w0 : LJ [1, 2, 5, 9, 10] (fun q X => ∃ x1, ∃ x5, ∃ x9, ∃ x10, ∃ x288000, ∃ x288001, ∃ x288002, X = ⟨[(1, .dat false [.sc (.int .i64 x1)]), (2, .pl 0 none 0), (5, .bor 1 none 0 1 false), (9, .dat false [.sc (.int .i64 x9)]), (10, .dat false [.sc (.int .i64 x10)])], [(0, .mem [.sl none 6 (List.flatMap e77 x288000), .sl none 4 (List.flatMap e106 x288001), .sl none 4 (List.flatMap e103 x288002)]), (1, .vir [.sl (some 0) 1 (List.flatMap eI x5)])]⟩ ∧ q ≤ k ∧ impl_UsersOf.l0 q x1 x5 x9 x10 x288000 x288001 x288002 = some r) := ⟨⟩
 apply late
 · intro lp0
   apply BZa.out
   exact BZa.go
 · intro q1 X hJ ih0
   clear H
   obtain ⟨x1, x5, x9, x10, x288000, x288001, x288002, rfl, hq, H⟩ := hJ
   cases q1 with
   | zero => (simp only [impl_UsersOf.l0] at H; cases H)
   | succ kq1 =>
    simp only [impl_UsersOf.l0] at H
    apply BZna.out
    exact BZna.go
end Go.Proofs.Ytmbkcbgbienjoaa.PFnExactUsersOf
