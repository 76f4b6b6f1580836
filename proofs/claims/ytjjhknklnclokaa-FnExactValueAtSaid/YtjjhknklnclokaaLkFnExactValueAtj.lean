/- Functions' walks: each computes what its plain form says. No condition. -/
import Derived.Test.YtjjhknklnclokaaLkFnExactValueAth
import Derived.Test.YtjjhknklnclokaaLkFnExactValueAtd
import Derived.Test.YtjjhknklnclokaaLkFnExactValueAtg
import Derived.Test.YtjjhknklnclokaaLkFnExactValueAti
open Go Go.Proofs Go.Proofs.Ytjjhknklnclokaa.Abs
namespace Go.Proofs.Ytjjhknklnclokaa.PFnExactValueAt
open Go.RowKit Go.Proofs.YtjjhknklnclokaaW.PrintWords Go.Proofs.YtjjhknklnclokaaW.PrintLast Go.Proofs.YtjjhknklnclokaaW.PrintMore
set_option linter.unusedVariables false
set_option linter.unusedSimpArgs false
set_option maxRecDepth 100000
attribute [local irreducible] evK evQ evM evF evW evH goE goK goKD goQ goQD goD Ok ACalls
set_option maxHeartbeats 8000000 in
theorem impl_ValueOf.link {k : Nat} {l0_0 : List (S57)} {l0_1 : List (S86)} {l0_2 : List (S88)} {a1 : Int} {l2_0 : List ByteArray} {l2_1 : List Int} {r : Int × Int} (H : impl_ValueOf.f k l0_0 l0_1 l0_2 a1 l2_0 l2_1 = some r) : ACalls Try.prog 25 [.dat true [.sl none 6 (List.flatMap e57 l0_0), .sl none 4 (List.flatMap e86 l0_1), .sl none 4 (List.flatMap e88 l0_2)], .dat false [.sc (.int .i64 a1)], .dat true [.sl none 1 (List.flatMap eS l2_0), .sl none 1 (List.flatMap eI l2_1)]] [(false, [.sc (.int .i64 r.1)]), (false, [.sc (.int .i64 r.2)])] [.dat true [.sl none 6 (List.flatMap e57 l0_0), .sl none 4 (List.flatMap e86 l0_1), .sl none 4 (List.flatMap e88 l0_2)], .dat false [.sc (.int .i64 a1)], .dat true [.sl none 1 (List.flatMap eS l2_0), .sl none 1 (List.flatMap eI l2_1)]] := by
 induction k using Nat.strongRecOn generalizing l0_0 l0_1 l0_2 a1 l2_0 l2_1 r with
 | _ k ih =>
 have e0 : Hold (∀ {m : Nat} {l0_0 : List (S57)} {l0_1 : List (S86)} {l0_2 : List (S88)} {a1 : Int} {l2_0 : List ByteArray} {l2_1 : List Int} {r : Int × Int}, impl_ValueOf.f m l0_0 l0_1 l0_2 a1 l2_0 l2_1 = some r → m < k → ACalls Try.prog 25 [.dat true [.sl none 6 (List.flatMap e57 l0_0), .sl none 4 (List.flatMap e86 l0_1), .sl none 4 (List.flatMap e88 l0_2)], .dat false [.sc (.int .i64 a1)], .dat true [.sl none 1 (List.flatMap eS l2_0), .sl none 1 (List.flatMap eI l2_1)]] [(false, [.sc (.int .i64 r.1)]), (false, [.sc (.int .i64 r.2)])] [.dat true [.sl none 6 (List.flatMap e57 l0_0), .sl none 4 (List.flatMap e86 l0_1), .sl none 4 (List.flatMap e88 l0_2)], .dat false [.sc (.int .i64 a1)], .dat true [.sl none 1 (List.flatMap eS l2_0), .sl none 1 (List.flatMap eI l2_1)]]) := ⟨fun H h => ih _ h H⟩
 refine ACalls.en Try.func25 Try.ntmps25 .go .go .go .go ?_
 intro C F hC hP hF hn (hx : C.fx = [])
 have kp : KL [0, 1, 2, 3, 5, 6, 7, 8, 9, 10, 11, 21, 28, 29, 34, 37, 53, 56, 57, 61, 77] := ⟨⟩
 have kr : KR #[.tmp 6, .tmp 7] := ⟨⟩
 have kd0 : KD 11 (noneL [0, 1, 2, 4] ++ ((3, some [4, 0]) :: ((5, some []) :: (noneL [6, 7, 8, 9, 10] ++ [])))) := ⟨⟩
 have kd1 : KD 19 (noneL [0, 1, 2, 4] ++ ((3, some [4, 0]) :: ((5, some []) :: (noneL [6, 7, 8, 9, 10] ++ [])))) := ⟨⟩
 have c0 := Hold.mk @impl_isValue.link
 have c1 := Hold.mk @impl_DeepOf.link
 have c2 := Hold.mk @impl_ValOk.link
 have c3 := Hold.mk @impl_GetIn.link
 have c4 := Hold.mk @impl_kidAt.link
 have c5 := Hold.mk @impl_Denied.link
 have c6 := Hold.mk @impl_Negated.link
 have c7 := Hold.mk @impl_Calc.link
 cases k with
 | zero => (simp only [impl_ValueOf.f] at H; cases H)
 | succ k =>
   simp only [impl_ValueOf.f] at H
   replace H := Hold.mk H
   have m0 : LM 2 1 [1, 3, 5, 21] (fun X => ∃ x1, ∃ x21, ∃ x534000, ∃ x534001, ∃ x534002, ∃ x535000, ∃ x535001, ∃ q, X = ⟨[(1, .dat false [.sc (.int .i64 x1)]), (3, .pl 0 none 0), (5, .pl 1 none 0), (21, .dat false [.sc (.bool x21)])], [(0, .mem [.sl none 6 (List.flatMap e57 x534000), .sl none 4 (List.flatMap e86 x534001), .sl none 4 (List.flatMap e88 x534002)]), (1, .mem [.sl none 1 (List.flatMap eS x535000), .sl none 1 (List.flatMap eI x535001)])]⟩ ∧ q ≤ k ∧ impl_ValueOf.j0 q x1 x21 x534000 x534001 x534002 x535000 x535001 = some r) := ⟨⟩
   apply late
   · intro pa0
     apply late
     · intro pb0
       apply BZc.out
       exact BZc.go
     · clear H
       intro X hJ
       obtain ⟨x1, x21, x534000, x534001, x534002, x535000, x535001, q1, rfl, hq, H⟩ := hJ
       cases q1 with
       | zero => (simp only [impl_ValueOf.j0] at H; cases H)
       | succ kq1 =>
        simp only [impl_ValueOf.j0] at H
        apply BZn.out
        exact BZn.go
   · intro hj0
     replace H := H.out
     apply BZ.out
     exact BZ.go
set_option maxHeartbeats 8000000 in
theorem impl_ValueAt.link {k : Nat} {l0_0 : List (S57)} {l0_1 : List (S86)} {l0_2 : List (S88)} {l1_0 : List Int} {l1_1 : List ByteArray} {l1_2 : List Int} {a1_3 : Int} {r : Int × Int} (H : impl_ValueAt.f k l0_0 l0_1 l0_2 l1_0 l1_1 l1_2 a1_3 = some r) : ACalls Try.prog 9 [.dat true [.sl none 6 (List.flatMap e57 l0_0), .sl none 4 (List.flatMap e86 l0_1), .sl none 4 (List.flatMap e88 l0_2)], .dat true [.sl none 1 (List.flatMap eI l1_0), .sl none 1 (List.flatMap eS l1_1), .sl none 1 (List.flatMap eI l1_2), .sc (.int .i64 a1_3)]] [(false, [.sc (.int .i64 r.1)]), (false, [.sc (.int .i64 r.2)])] [.dat true [.sl none 6 (List.flatMap e57 l0_0), .sl none 4 (List.flatMap e86 l0_1), .sl none 4 (List.flatMap e88 l0_2)], .dat true [.sl none 1 (List.flatMap eI l1_0), .sl none 1 (List.flatMap eS l1_1), .sl none 1 (List.flatMap eI l1_2), .sc (.int .i64 a1_3)]] := by
 refine ACalls.en Try.func9 Try.ntmps9 .go .go .go .go ?_
 intro C F hC hP hF hn (hx : C.fx = [])
 have kp : KL [0, 1, 2, 3, 4, 5, 6, 7, 21] := ⟨⟩
 have kr : KR #[.tmp 4, .tmp 5] := ⟨⟩
 have kd0 : KD 4 (noneL [0, 1, 2, 3, 4, 5, 6] ++ ((7, some []) :: (noneL [8, 9, 10, 11] ++ []))) := ⟨⟩
 have c0 := Hold.mk @impl_comesNext.link
 have c1 := Hold.mk @impl_ValueOf.link
 simp only [impl_ValueAt.f] at H
 apply BZ.out
 exact BZ.go
set_option maxHeartbeats 8000000 in
theorem laws_eqIntS.link {k : Nat} {l0 : List Int} {l1 : List Int} {r : Bool} (H : laws_eqIntS.f k l0 l1 = some r) : ACalls Try.prog 29 [.dat false [.sl none 1 (List.flatMap eI l0)], .dat false [.sl none 1 (List.flatMap eI l1)]] [(false, [.sc (.bool r)])] [.dat false [.sl none 1 (List.flatMap eI l0)], .dat false [.sl none 1 (List.flatMap eI l1)]] := by
 refine ACalls.en Try.func29 Try.ntmps29 .go .go .go .go ?_
 intro C F hC hP hF hn (hx : C.fx = [])
 have kp : KL [0, 1, 4, 5, 10, 14, 25] := ⟨⟩
 have kr : KR #[.tmp 4] := ⟨⟩
 simp only [laws_eqIntS.f] at H
 have w0 : LJ [0, 1, 5] (fun q X => ∃ x0, ∃ x1, ∃ x5, X = ⟨[(0, .dat false [.sl none 1 (List.flatMap eI x0)]), (1, .dat false [.sl none 1 (List.flatMap eI x1)]), (5, .dat false [.sc (.int .i64 x5)])], []⟩ ∧ q ≤ k ∧ laws_eqIntS.l0 q x0 x1 x5 = some r) := ⟨⟩
 apply late
 · intro lp0
   apply BZ.out
   exact BZ.go
 · intro q1 X hJ ih0
   clear H
   obtain ⟨x0, x1, x5, rfl, hq, H⟩ := hJ
   cases q1 with
   | zero => (simp only [laws_eqIntS.l0] at H; cases H)
   | succ kq1 =>
    simp only [laws_eqIntS.l0] at H
    apply BZn.out
    exact BZn.go
set_option maxHeartbeats 8000000 in
theorem laws_eqNode.link {k : Nat} {a0_0 : Int} {a0_1 : Int} {a0_2 : ByteArray} {a0_3 : ByteArray} {a0_4 : ByteArray} {l0_5 : List Int} {a1_0 : Int} {a1_1 : Int} {a1_2 : ByteArray} {a1_3 : ByteArray} {a1_4 : ByteArray} {l1_5 : List Int} {r : Bool} (H : laws_eqNode.f k a0_0 a0_1 a0_2 a0_3 a0_4 l0_5 a1_0 a1_1 a1_2 a1_3 a1_4 l1_5 = some r) : ACalls Try.prog 51 [.dat true [.sc (.int .i64 a0_0), .sc (.int .i64 a0_1), .sc (.string a0_2), .sc (.string a0_3), .sc (.string a0_4), .sl none 1 (List.flatMap eI l0_5)], .dat true [.sc (.int .i64 a1_0), .sc (.int .i64 a1_1), .sc (.string a1_2), .sc (.string a1_3), .sc (.string a1_4), .sl none 1 (List.flatMap eI l1_5)]] [(false, [.sc (.bool r)])] [.dat true [.sc (.int .i64 a0_0), .sc (.int .i64 a0_1), .sc (.string a0_2), .sc (.string a0_3), .sc (.string a0_4), .sl none 1 (List.flatMap eI l0_5)], .dat true [.sc (.int .i64 a1_0), .sc (.int .i64 a1_1), .sc (.string a1_2), .sc (.string a1_3), .sc (.string a1_4), .sl none 1 (List.flatMap eI l1_5)]] := by
 refine ACalls.en Try.func51 Try.ntmps51 .go .go .go .go ?_
 intro C F hC hP hF hn (hx : C.fx = [])
 have kp : KL [0, 1, 2, 3, 4, 9, 14, 19, 24, 29, 35] := ⟨⟩
 have kr : KR #[.tmp 4] := ⟨⟩
 have c0 := Hold.mk @laws_eqIntS.link
 simp only [laws_eqNode.f] at H
 apply BZ.out
 exact BZ.go
set_option maxHeartbeats 8000000 in
theorem laws_eqNodeS.link {k : Nat} {l0 : List (S57)} {l1 : List (S57)} {r : Bool} (H : laws_eqNodeS.f k l0 l1 = some r) : ACalls Try.prog 26 [.dat false [.sl none 6 (List.flatMap e57 l0)], .dat false [.sl none 6 (List.flatMap e57 l1)]] [(false, [.sc (.bool r)])] [.dat false [.sl none 6 (List.flatMap e57 l0)], .dat false [.sl none 6 (List.flatMap e57 l1)]] := by
 refine ACalls.en Try.func26 Try.ntmps26 .go .go .go .go ?_
 intro C F hC hP hF hn (hx : C.fx = [])
 have kp : KL [0, 1, 4, 5, 10, 14, 26] := ⟨⟩
 have kr : KR #[.tmp 4] := ⟨⟩
 have kd0 : KD 6 (noneL [0, 1, 2, 3, 4, 5, 6, 7] ++ ((8, some []) :: (noneL [9] ++ []))) := ⟨⟩
 have c0 := Hold.mk @laws_eqNode.link
 simp only [laws_eqNodeS.f] at H
 have w0 : LJ [0, 1, 5] (fun q X => ∃ x0, ∃ x1, ∃ x5, X = ⟨[(0, .dat false [.sl none 6 (List.flatMap e57 x0)]), (1, .dat false [.sl none 6 (List.flatMap e57 x1)]), (5, .dat false [.sc (.int .i64 x5)])], []⟩ ∧ q ≤ k ∧ laws_eqNodeS.l0 q x0 x1 x5 = some r) := ⟨⟩
 apply late
 · intro lp0
   apply BZ.out
   exact BZ.go
 · intro q1 X hJ ih0
   clear H
   obtain ⟨x0, x1, x5, rfl, hq, H⟩ := hJ
   cases q1 with
   | zero => (simp only [laws_eqNodeS.l0] at H; cases H)
   | succ kq1 =>
    simp only [laws_eqNodeS.l0] at H
    apply BZn.out
    exact BZn.go
set_option maxHeartbeats 8000000 in
theorem laws_eqStringS.link {k : Nat} {l0 : List ByteArray} {l1 : List ByteArray} {r : Bool} (H : laws_eqStringS.f k l0 l1 = some r) : ACalls Try.prog 54 [.dat false [.sl none 1 (List.flatMap eS l0)], .dat false [.sl none 1 (List.flatMap eS l1)]] [(false, [.sc (.bool r)])] [.dat false [.sl none 1 (List.flatMap eS l0)], .dat false [.sl none 1 (List.flatMap eS l1)]] := by
 refine ACalls.en Try.func54 Try.ntmps54 .go .go .go .go ?_
 intro C F hC hP hF hn (hx : C.fx = [])
 have kp : KL [0, 1, 4, 5, 10, 14, 25] := ⟨⟩
 have kr : KR #[.tmp 4] := ⟨⟩
 simp only [laws_eqStringS.f] at H
 have w0 : LJ [0, 1, 5] (fun q X => ∃ x0, ∃ x1, ∃ x5, X = ⟨[(0, .dat false [.sl none 1 (List.flatMap eS x0)]), (1, .dat false [.sl none 1 (List.flatMap eS x1)]), (5, .dat false [.sc (.int .i64 x5)])], []⟩ ∧ q ≤ k ∧ laws_eqStringS.l0 q x0 x1 x5 = some r) := ⟨⟩
 apply late
 · intro lp0
   apply BZ.out
   exact BZ.go
 · intro q1 X hJ ih0
   clear H
   obtain ⟨x0, x1, x5, rfl, hq, H⟩ := hJ
   cases q1 with
   | zero => (simp only [laws_eqStringS.l0] at H; cases H)
   | succ kq1 =>
    simp only [laws_eqStringS.l0] at H
    apply BZn.out
    exact BZn.go
set_option maxHeartbeats 8000000 in
theorem laws_eqEntry.link {a0_0 : ByteArray} {a0_1 : ByteArray} {a0_2 : Int} {a1_0 : ByteArray} {a1_1 : ByteArray} {a1_2 : Int} {r : Bool} (H : laws_eqEntry.f a0_0 a0_1 a0_2 a1_0 a1_1 a1_2 = some r) : ACalls Try.prog 74 [.dat true [.sc (.string a0_0), .sc (.string a0_1), .sc (.int .i64 a0_2)], .dat true [.sc (.string a1_0), .sc (.string a1_1), .sc (.int .i64 a1_2)]] [(false, [.sc (.bool r)])] [.dat true [.sc (.string a0_0), .sc (.string a0_1), .sc (.int .i64 a0_2)], .dat true [.sc (.string a1_0), .sc (.string a1_1), .sc (.int .i64 a1_2)]] := by
 refine ACalls.en Try.func74 Try.ntmps74 .go .go .go .go ?_
 intro C F hC hP hF hn (hx : C.fx = [])
 have kp : KL [0, 1, 2, 3, 4, 9, 14, 19] := ⟨⟩
 have kr : KR #[.tmp 4] := ⟨⟩
 simp only [laws_eqEntry.f] at H
 apply BZ.out
 exact BZ.go
set_option maxHeartbeats 8000000 in
theorem laws_eqEntryS.link {k : Nat} {l0 : List (S110)} {l1 : List (S110)} {r : Bool} (H : laws_eqEntryS.f k l0 l1 = some r) : ACalls Try.prog 66 [.dat false [.sl none 3 (List.flatMap e110 l0)], .dat false [.sl none 3 (List.flatMap e110 l1)]] [(false, [.sc (.bool r)])] [.dat false [.sl none 3 (List.flatMap e110 l0)], .dat false [.sl none 3 (List.flatMap e110 l1)]] := by
 refine ACalls.en Try.func66 Try.ntmps66 .go .go .go .go ?_
 intro C F hC hP hF hn (hx : C.fx = [])
 have kp : KL [0, 1, 4, 5, 10, 14, 26] := ⟨⟩
 have kr : KR #[.tmp 4] := ⟨⟩
 have kd0 : KD 6 (noneL [0, 1, 2, 3, 4, 5, 6, 7] ++ ((8, some []) :: (noneL [9] ++ []))) := ⟨⟩
 have c0 := Hold.mk @laws_eqEntry.link
 simp only [laws_eqEntryS.f] at H
 have w0 : LJ [0, 1, 5] (fun q X => ∃ x0, ∃ x1, ∃ x5, X = ⟨[(0, .dat false [.sl none 3 (List.flatMap e110 x0)]), (1, .dat false [.sl none 3 (List.flatMap e110 x1)]), (5, .dat false [.sc (.int .i64 x5)])], []⟩ ∧ q ≤ k ∧ laws_eqEntryS.l0 q x0 x1 x5 = some r) := ⟨⟩
 apply late
 · intro lp0
   apply BZ.out
   exact BZ.go
 · intro q1 X hJ ih0
   clear H
   obtain ⟨x0, x1, x5, rfl, hq, H⟩ := hJ
   cases q1 with
   | zero => (simp only [laws_eqEntryS.l0] at H; cases H)
   | succ kq1 =>
    simp only [laws_eqEntryS.l0] at H
    apply BZn.out
    exact BZn.go
set_option maxHeartbeats 8000000 in
theorem laws_eqMonitor.link {k : Nat} {a0_0 : ByteArray} {l0_1 : List ByteArray} {l0_2 : List ByteArray} {l0_3 : List (S110)} {a1_0 : ByteArray} {l1_1 : List ByteArray} {l1_2 : List ByteArray} {l1_3 : List (S110)} {r : Bool} (H : laws_eqMonitor.f k a0_0 l0_1 l0_2 l0_3 a1_0 l1_1 l1_2 l1_3 = some r) : ACalls Try.prog 52 [.dat true [.sc (.string a0_0), .sl none 1 (List.flatMap eS l0_1), .sl none 1 (List.flatMap eS l0_2), .sl none 3 (List.flatMap e110 l0_3)], .dat true [.sc (.string a1_0), .sl none 1 (List.flatMap eS l1_1), .sl none 1 (List.flatMap eS l1_2), .sl none 3 (List.flatMap e110 l1_3)]] [(false, [.sc (.bool r)])] [.dat true [.sc (.string a0_0), .sl none 1 (List.flatMap eS l0_1), .sl none 1 (List.flatMap eS l0_2), .sl none 3 (List.flatMap e110 l0_3)], .dat true [.sc (.string a1_0), .sl none 1 (List.flatMap eS l1_1), .sl none 1 (List.flatMap eS l1_2), .sl none 3 (List.flatMap e110 l1_3)]] := by
 refine ACalls.en Try.func52 Try.ntmps52 .go .go .go .go ?_
 intro C F hC hP hF hn (hx : C.fx = [])
 have kp : KL [0, 1, 2, 3, 4, 9, 15, 21, 27] := ⟨⟩
 have kr : KR #[.tmp 4] := ⟨⟩
 have c0 := Hold.mk @laws_eqStringS.link
 have c1 := Hold.mk @laws_eqEntryS.link
 simp only [laws_eqMonitor.f] at H
 apply BZ.out
 exact BZ.go
set_option maxHeartbeats 8000000 in
theorem laws_eqMonitorS.link {k : Nat} {l0 : List (S86)} {l1 : List (S86)} {r : Bool} (H : laws_eqMonitorS.f k l0 l1 = some r) : ACalls Try.prog 27 [.dat false [.sl none 4 (List.flatMap e86 l0)], .dat false [.sl none 4 (List.flatMap e86 l1)]] [(false, [.sc (.bool r)])] [.dat false [.sl none 4 (List.flatMap e86 l0)], .dat false [.sl none 4 (List.flatMap e86 l1)]] := by
 refine ACalls.en Try.func27 Try.ntmps27 .go .go .go .go ?_
 intro C F hC hP hF hn (hx : C.fx = [])
 have kp : KL [0, 1, 4, 5, 10, 14, 26] := ⟨⟩
 have kr : KR #[.tmp 4] := ⟨⟩
 have kd0 : KD 6 (noneL [0, 1, 2, 3, 4, 5, 6, 7] ++ ((8, some []) :: (noneL [9] ++ []))) := ⟨⟩
 have c0 := Hold.mk @laws_eqMonitor.link
 simp only [laws_eqMonitorS.f] at H
 have w0 : LJ [0, 1, 5] (fun q X => ∃ x0, ∃ x1, ∃ x5, X = ⟨[(0, .dat false [.sl none 4 (List.flatMap e86 x0)]), (1, .dat false [.sl none 4 (List.flatMap e86 x1)]), (5, .dat false [.sc (.int .i64 x5)])], []⟩ ∧ q ≤ k ∧ laws_eqMonitorS.l0 q x0 x1 x5 = some r) := ⟨⟩
 apply late
 · intro lp0
   apply BZ.out
   exact BZ.go
 · intro q1 X hJ ih0
   clear H
   obtain ⟨x0, x1, x5, rfl, hq, H⟩ := hJ
   cases q1 with
   | zero => (simp only [laws_eqMonitorS.l0] at H; cases H)
   | succ kq1 =>
    simp only [laws_eqMonitorS.l0] at H
    apply BZn.out
    exact BZn.go
set_option maxHeartbeats 8000000 in
theorem laws_eqProcess.link {k : Nat} {a0_0 : ByteArray} {l0_1 : List ByteArray} {l0_2 : List ByteArray} {a0_3 : Int} {a1_0 : ByteArray} {l1_1 : List ByteArray} {l1_2 : List ByteArray} {a1_3 : Int} {r : Bool} (H : laws_eqProcess.f k a0_0 l0_1 l0_2 a0_3 a1_0 l1_1 l1_2 a1_3 = some r) : ACalls Try.prog 53 [.dat true [.sc (.string a0_0), .sl none 1 (List.flatMap eS l0_1), .sl none 1 (List.flatMap eS l0_2), .sc (.int .i64 a0_3)], .dat true [.sc (.string a1_0), .sl none 1 (List.flatMap eS l1_1), .sl none 1 (List.flatMap eS l1_2), .sc (.int .i64 a1_3)]] [(false, [.sc (.bool r)])] [.dat true [.sc (.string a0_0), .sl none 1 (List.flatMap eS l0_1), .sl none 1 (List.flatMap eS l0_2), .sc (.int .i64 a0_3)], .dat true [.sc (.string a1_0), .sl none 1 (List.flatMap eS l1_1), .sl none 1 (List.flatMap eS l1_2), .sc (.int .i64 a1_3)]] := by
 refine ACalls.en Try.func53 Try.ntmps53 .go .go .go .go ?_
 intro C F hC hP hF hn (hx : C.fx = [])
 have kp : KL [0, 1, 2, 3, 4, 9, 15, 21, 26] := ⟨⟩
 have kr : KR #[.tmp 4] := ⟨⟩
 have c0 := Hold.mk @laws_eqStringS.link
 simp only [laws_eqProcess.f] at H
 apply BZ.out
 exact BZ.go
set_option maxHeartbeats 8000000 in
theorem laws_eqProcessS.link {k : Nat} {l0 : List (S88)} {l1 : List (S88)} {r : Bool} (H : laws_eqProcessS.f k l0 l1 = some r) : ACalls Try.prog 28 [.dat false [.sl none 4 (List.flatMap e88 l0)], .dat false [.sl none 4 (List.flatMap e88 l1)]] [(false, [.sc (.bool r)])] [.dat false [.sl none 4 (List.flatMap e88 l0)], .dat false [.sl none 4 (List.flatMap e88 l1)]] := by
 refine ACalls.en Try.func28 Try.ntmps28 .go .go .go .go ?_
 intro C F hC hP hF hn (hx : C.fx = [])
 have kp : KL [0, 1, 4, 5, 10, 14, 26] := ⟨⟩
 have kr : KR #[.tmp 4] := ⟨⟩
 have kd0 : KD 6 (noneL [0, 1, 2, 3, 4, 5, 6, 7] ++ ((8, some []) :: (noneL [9] ++ []))) := ⟨⟩
 have c0 := Hold.mk @laws_eqProcess.link
 simp only [laws_eqProcessS.f] at H
 have w0 : LJ [0, 1, 5] (fun q X => ∃ x0, ∃ x1, ∃ x5, X = ⟨[(0, .dat false [.sl none 4 (List.flatMap e88 x0)]), (1, .dat false [.sl none 4 (List.flatMap e88 x1)]), (5, .dat false [.sc (.int .i64 x5)])], []⟩ ∧ q ≤ k ∧ laws_eqProcessS.l0 q x0 x1 x5 = some r) := ⟨⟩
 apply late
 · intro lp0
   apply BZ.out
   exact BZ.go
 · intro q1 X hJ ih0
   clear H
   obtain ⟨x0, x1, x5, rfl, hq, H⟩ := hJ
   cases q1 with
   | zero => (simp only [laws_eqProcessS.l0] at H; cases H)
   | succ kq1 =>
    simp only [laws_eqProcessS.l0] at H
    apply BZn.out
    exact BZn.go
set_option maxHeartbeats 8000000 in
theorem laws_eqProgram.link {k : Nat} {l0_0 : List (S57)} {l0_1 : List (S86)} {l0_2 : List (S88)} {l1_0 : List (S57)} {l1_1 : List (S86)} {l1_2 : List (S88)} {r : Bool} (H : laws_eqProgram.f k l0_0 l0_1 l0_2 l1_0 l1_1 l1_2 = some r) : ACalls Try.prog 10 [.dat true [.sl none 6 (List.flatMap e57 l0_0), .sl none 4 (List.flatMap e86 l0_1), .sl none 4 (List.flatMap e88 l0_2)], .dat true [.sl none 6 (List.flatMap e57 l1_0), .sl none 4 (List.flatMap e86 l1_1), .sl none 4 (List.flatMap e88 l1_2)]] [(false, [.sc (.bool r)])] [.dat true [.sl none 6 (List.flatMap e57 l0_0), .sl none 4 (List.flatMap e86 l0_1), .sl none 4 (List.flatMap e88 l0_2)], .dat true [.sl none 6 (List.flatMap e57 l1_0), .sl none 4 (List.flatMap e86 l1_1), .sl none 4 (List.flatMap e88 l1_2)]] := by
 refine ACalls.en Try.func10 Try.ntmps10 .go .go .go .go ?_
 intro C F hC hP hF hn (hx : C.fx = [])
 have kp : KL [0, 1, 2, 3, 4, 10, 16, 22] := ⟨⟩
 have kr : KR #[.tmp 4] := ⟨⟩
 have c0 := Hold.mk @laws_eqNodeS.link
 have c1 := Hold.mk @laws_eqMonitorS.link
 have c2 := Hold.mk @laws_eqProcessS.link
 simp only [laws_eqProgram.f] at H
 apply BZ.out
 exact BZ.go
set_option maxHeartbeats 8000000 in
theorem laws_eqEnv.link {k : Nat} {l0_0 : List ByteArray} {l0_1 : List Int} {l1_0 : List ByteArray} {l1_1 : List Int} {r : Bool} (H : laws_eqEnv.f k l0_0 l0_1 l1_0 l1_1 = some r) : ACalls Try.prog 30 [.dat true [.sl none 1 (List.flatMap eS l0_0), .sl none 1 (List.flatMap eI l0_1)], .dat true [.sl none 1 (List.flatMap eS l1_0), .sl none 1 (List.flatMap eI l1_1)]] [(false, [.sc (.bool r)])] [.dat true [.sl none 1 (List.flatMap eS l0_0), .sl none 1 (List.flatMap eI l0_1)], .dat true [.sl none 1 (List.flatMap eS l1_0), .sl none 1 (List.flatMap eI l1_1)]] := by
 refine ACalls.en Try.func30 Try.ntmps30 .go .go .go .go ?_
 intro C F hC hP hF hn (hx : C.fx = [])
 have kp : KL [0, 1, 2, 3, 4, 10, 16] := ⟨⟩
 have kr : KR #[.tmp 4] := ⟨⟩
 have c0 := Hold.mk @laws_eqIntS.link
 have c1 := Hold.mk @laws_eqStringS.link
 simp only [laws_eqEnv.f] at H
 apply BZ.out
 exact BZ.go
end Go.Proofs.Ytjjhknklnclokaa.PFnExactValueAt
