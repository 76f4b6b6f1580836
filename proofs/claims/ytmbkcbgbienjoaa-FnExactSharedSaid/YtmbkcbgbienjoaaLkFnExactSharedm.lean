/- Functions' walks: each computes what its plain form says. No condition. -/
import Derived.Test.YtmbkcbgbienjoaaLkFnExactSharedh
import Derived.Test.YtmbkcbgbienjoaaLkFnExactShareda
import Derived.Test.YtmbkcbgbienjoaaLkFnExactSharedb
import Derived.Test.YtmbkcbgbienjoaaLkFnExactSharedc
import Derived.Test.YtmbkcbgbienjoaaLkFnExactSharede
import Derived.Test.YtmbkcbgbienjoaaLkFnExactSharedg
import Derived.Test.YtmbkcbgbienjoaaLkFnExactSharedl
open Go Go.Proofs Go.Proofs.Ytmbkcbgbienjoaa.Abs
namespace Go.Proofs.Ytmbkcbgbienjoaa.PFnExactShared
open Go.RowKit Go.Proofs.YtmbkcbgbienjoaaW.PrintWords Go.Proofs.YtmbkcbgbienjoaaW.PrintLast Go.Proofs.YtmbkcbgbienjoaaW.PrintMore
set_option linter.unusedVariables false
set_option linter.unusedSimpArgs false
set_option maxRecDepth 100000
attribute [local irreducible] evK evQ evM evF evW evH goE goK goKD goQ goQD goD Ok ACalls
set_option maxHeartbeats 8000000 in
theorem slices_IndexFunc_int_int_impl_CallsOf_1.link {k : Nat} {l0 : List Int} {p0 : List S77} {p1 : List S106} {p2 : List S103} {m0 : ByteArray} {m1 : List ByteArray} {m2 : List ByteArray} {m3 : List S131} {r : Int} (H : slices_IndexFunc_int_int_impl_CallsOf_1.f k l0 p0 p1 p2 m0 m1 m2 m3 = some r) : ACalls Try.prog 134 [.dat false [.sl none 1 (List.flatMap eI l0)], .clo 100 [.ro [.sl none 6 (List.flatMap e77 p0), .sl none 4 (List.flatMap e106 p1), .sl none 4 (List.flatMap e103 p2)], .ro [.sc (.string m0), .sl none 1 (List.flatMap eS m1), .sl none 1 (List.flatMap eS m2), .sl none 3 (List.flatMap e131 m3)]]] [(false, [.sc (.int .i64 r)])] [.dat false [.sl none 1 (List.flatMap eI l0)], .clo 100 [.ro [.sl none 6 (List.flatMap e77 p0), .sl none 4 (List.flatMap e106 p1), .sl none 4 (List.flatMap e103 p2)], .ro [.sc (.string m0), .sl none 1 (List.flatMap eS m1), .sl none 1 (List.flatMap eS m2), .sl none 3 (List.flatMap e131 m3)]]] := by
 refine ACalls.en Try.func134 Try.ntmps134 .go .go .go .go ?_
 intro C F hC hP hF hn (hx : C.fx = [1])
 have kp : KL [0, 1, 4, 5, 7, 8, 9, 16] := ⟨⟩
 have kr : KR #[.tmp 4] := ⟨⟩
 have c0 := Hold.mk @impl_CallsOf_1.link
 simp only [slices_IndexFunc_int_int_impl_CallsOf_1.f] at H
 have w0 : LJ [0, 1, 7, 8] (fun q X => ∃ x0, ∃ x7, ∃ x8, X = ⟨[(0, .dat false [.sl none 1 (List.flatMap eI x0)]), (1, .clo 100 [.ro [.sl none 6 (List.flatMap e77 p0), .sl none 4 (List.flatMap e106 p1), .sl none 4 (List.flatMap e103 p2)], .ro [.sc (.string m0), .sl none 1 (List.flatMap eS m1), .sl none 1 (List.flatMap eS m2), .sl none 3 (List.flatMap e131 m3)]]), (7, .dat false [.sc (.int .i64 x7)]), (8, .dat false [.sc (.int .i64 x8)])], []⟩ ∧ q ≤ k ∧ slices_IndexFunc_int_int_impl_CallsOf_1.l0 q p0 p1 p2 m0 m1 m2 m3 x0 x7 x8 = some r) := ⟨⟩
 apply late
 · intro lp0
   apply BZ.out
   exact BZ.go
 · intro q1 X hJ ih0
   clear H
   obtain ⟨x0, x7, x8, rfl, hq, H⟩ := hJ
   cases q1 with
   | zero => (simp only [slices_IndexFunc_int_int_impl_CallsOf_1.l0] at H; cases H)
   | succ kq1 =>
    simp only [slices_IndexFunc_int_int_impl_CallsOf_1.l0] at H
    apply BZn.out
    exact BZn.go
set_option maxHeartbeats 8000000 in
theorem slices_ContainsFunc_int_int_impl_CallsOf_1.link {k : Nat} {l0 : List Int} {p0 : List S77} {p1 : List S106} {p2 : List S103} {m0 : ByteArray} {m1 : List ByteArray} {m2 : List ByteArray} {m3 : List S131} {r : Bool} (H : slices_ContainsFunc_int_int_impl_CallsOf_1.f k l0 p0 p1 p2 m0 m1 m2 m3 = some r) : ACalls Try.prog 97 [.dat false [.sl none 1 (List.flatMap eI l0)], .clo 100 [.ro [.sl none 6 (List.flatMap e77 p0), .sl none 4 (List.flatMap e106 p1), .sl none 4 (List.flatMap e103 p2)], .ro [.sc (.string m0), .sl none 1 (List.flatMap eS m1), .sl none 1 (List.flatMap eS m2), .sl none 3 (List.flatMap e131 m3)]]] [(false, [.sc (.bool r)])] [.dat false [.sl none 1 (List.flatMap eI l0)], .clo 100 [.ro [.sl none 6 (List.flatMap e77 p0), .sl none 4 (List.flatMap e106 p1), .sl none 4 (List.flatMap e103 p2)], .ro [.sc (.string m0), .sl none 1 (List.flatMap eS m1), .sl none 1 (List.flatMap eS m2), .sl none 3 (List.flatMap e131 m3)]]] := by
 refine ACalls.en Try.func97 Try.ntmps97 .go .go .go .go ?_
 intro C F hC hP hF hn (hx : C.fx = [1])
 have kp : KL [0, 1, 4] := ⟨⟩
 have kr : KR #[.tmp 4] := ⟨⟩
 have c0 := Hold.mk @slices_IndexFunc_int_int_impl_CallsOf_1.link
 simp only [slices_ContainsFunc_int_int_impl_CallsOf_1.f] at H
 apply BZ.out
 exact BZ.go
set_option maxHeartbeats 8000000 in
theorem impl_CallsOf.link {k : Nat} {l0_0 : List S77} {l0_1 : List S106} {l0_2 : List S103} {a1 : Int} {r : List Int} (H : impl_CallsOf.f k l0_0 l0_1 l0_2 a1 = some r) : ACalls Try.prog 46 [.dat true [.sl none 6 (List.flatMap e77 l0_0), .sl none 4 (List.flatMap e106 l0_1), .sl none 4 (List.flatMap e103 l0_2)], .dat false [.sc (.int .i64 a1)]] [(false, [.sl (some 0) 1 (List.flatMap eI r)])] [.dat true [.sl none 6 (List.flatMap e77 l0_0), .sl none 4 (List.flatMap e106 l0_1), .sl none 4 (List.flatMap e103 l0_2)], .dat false [.sc (.int .i64 a1)]] := by
 refine ACalls.en Try.func46 Try.ntmps46 .go .go .go .go ?_
 intro C F hC hP hF hn (hx : C.fx = [])
 have kp : KL [0, 1, 2, 4, 5, 6, 7, 8, 12, 22, 23, 24, 25, 31] := ⟨⟩
 have kr : KR #[.tmp 4] := ⟨⟩
 have kd0 : KD 4 (noneL [0, 1, 2, 3, 4, 5, 6] ++ ((7, some []) :: (noneL [8] ++ []))) := ⟨⟩
 have c0 := Hold.mk @impl_NodesUnder.link
 have c1 := Hold.mk @impl_isProcess.link
 have c2 := Hold.mk @slices_ContainsFunc_int_int_impl_CallsOf_1.link
 simp only [impl_CallsOf.f] at H
 have w0 : LJ [2, 5, 6, 22, 23, 24] (fun q X => ∃ x5, ∃ x6, ∃ x22, ∃ x23, ∃ x24, ∃ x901000, ∃ x901001, ∃ x901002, X = ⟨[(2, .pl 0 none 0), (5, .bor 1 none 0 1 false), (6, .bor 2 none 0 1 false), (22, .dat false [.sl none 4 (List.flatMap e106 x22)]), (23, .dat false [.sc (.int .i64 x23)]), (24, .dat false [.sc (.int .i64 x24)])], [(0, .mem [.sl none 6 (List.flatMap e77 x901000), .sl none 4 (List.flatMap e106 x901001), .sl none 4 (List.flatMap e103 x901002)]), (1, .vir [.sl (some 0) 1 (List.flatMap eI x5)]), (2, .vir [.sl (some 0) 1 (List.flatMap eI x6)])]⟩ ∧ q ≤ k ∧ impl_CallsOf.l0 q x5 x6 x22 x23 x24 x901000 x901001 x901002 = some r) := ⟨⟩
 apply late
 · intro lp0
   apply BZna.out
   exact BZna.go
 · intro q1 X hJ ih0
   clear H
   obtain ⟨x5, x6, x22, x23, x24, x901000, x901001, x901002, rfl, hq, H⟩ := hJ
   cases q1 with
   | zero => (simp only [impl_CallsOf.l0] at H; cases H)
   | succ kq1 =>
    simp only [impl_CallsOf.l0] at H
    apply BZna.out
    exact BZna.go
set_option maxHeartbeats 8000000 in
theorem impl_Shared.link {k : Nat} {l0_0 : List (S77)} {l0_1 : List (S106)} {l0_2 : List (S103)} {a1 : Int} {r : Bool} (H : impl_Shared.f k l0_0 l0_1 l0_2 a1 = some r) : ACalls Try.prog 40 [.dat true [.sl none 6 (List.flatMap e77 l0_0), .sl none 4 (List.flatMap e106 l0_1), .sl none 4 (List.flatMap e103 l0_2)], .dat false [.sc (.int .i64 a1)]] [(false, [.sc (.bool r)])] [.dat true [.sl none 6 (List.flatMap e77 l0_0), .sl none 4 (List.flatMap e106 l0_1), .sl none 4 (List.flatMap e103 l0_2)], .dat false [.sc (.int .i64 a1)]] := by
 refine ACalls.en Try.func40 Try.ntmps40 .go .go .go .go ?_
 intro C F hC hP hF hn (hx : C.fx = [])
 have kp : KL [0, 1, 2, 4, 5, 6, 9, 10, 11, 17] := ⟨⟩
 have kr : KR #[.tmp 4] := ⟨⟩
 have c0 := Hold.mk @slices_Contains_int_int.link
 have c1 := Hold.mk @impl_CallsOf.link
 simp only [impl_Shared.f] at H
 have w0 : LJ [1, 2, 5, 9, 10] (fun q X => ∃ x1, ∃ x5, ∃ x9, ∃ x10, ∃ x505000, ∃ x505001, ∃ x505002, X = ⟨[(1, .dat false [.sc (.int .i64 x1)]), (2, .pl 0 none 0), (5, .dat false [.sc (.int .i64 x5)]), (9, .dat false [.sc (.int .i64 x9)]), (10, .dat false [.sc (.int .i64 x10)])], [(0, .mem [.sl none 6 (List.flatMap e77 x505000), .sl none 4 (List.flatMap e106 x505001), .sl none 4 (List.flatMap e103 x505002)])]⟩ ∧ q ≤ k ∧ impl_Shared.l0 q x1 x5 x9 x10 x505000 x505001 x505002 = some r) := ⟨⟩
 apply late
 · intro lp0
   apply BZ.out
   exact BZ.go
 · intro q1 X hJ ih0
   clear H
   obtain ⟨x1, x5, x9, x10, x505000, x505001, x505002, rfl, hq, H⟩ := hJ
   cases q1 with
   | zero => (simp only [impl_Shared.l0] at H; cases H)
   | succ kq1 =>
    simp only [impl_Shared.l0] at H
    apply BZ.out
    exact BZ.go
set_option maxHeartbeats 8000000 in
theorem laws_FnExactShared.link {k : Nat} {l0_0 : List (S113)} {l0_1 : List (S117)} {l0_2 : List (S119)} {a1 : Int} {r : Bool} (H : laws_FnExactShared.f k l0_0 l0_1 l0_2 a1 = some r) : ACalls Try.prog 8 [.dat true [.sl none 6 (List.flatMap e113 l0_0), .sl none 4 (List.flatMap e117 l0_1), .sl none 4 (List.flatMap e119 l0_2)], .dat false [.sc (.int .i64 a1)]] [(false, [.sc (.bool r)])] [.dat true [.sl none 6 (List.flatMap e113 l0_0), .sl none 4 (List.flatMap e117 l0_1), .sl none 4 (List.flatMap e119 l0_2)], .dat false [.sc (.int .i64 a1)]] := by
 refine ACalls.en Try.func8 Try.ntmps8 .go .go .go .go ?_
 intro C F hC hP hF hn (hx : C.fx = [])
 have kp : KL [0, 1, 2, 4, 5, 6, 7, 8, 13, 25, 30] := ⟨⟩
 have kr : KR #[.tmp 4] := ⟨⟩
 have kd0 : KD 10 (noneL [0, 1] ++ ((2, some [0]) :: ((3, some []) :: (noneL [4] ++ [])))) := ⟨⟩
 have c0 := Hold.mk @laws_szProgram.link
 have c1 := Hold.mk @laws_toProgram.link
 have c2 := Hold.mk @laws_eqProgram.link
 have c3 := Hold.mk @spec_Shared.link
 have c4 := Hold.mk @impl_Shared.link
 simp only [laws_FnExactShared.f] at H
 apply BZ.out
 exact BZ.go
end Go.Proofs.Ytmbkcbgbienjoaa.PFnExactShared
