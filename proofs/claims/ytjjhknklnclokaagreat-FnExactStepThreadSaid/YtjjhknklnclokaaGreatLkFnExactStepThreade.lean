/- Functions' walks: each computes what its plain form says. No condition. -/
import Derived.Test.YtjjhknklnclokaaGreatLkFnExactStepThreadh
import Derived.Test.YtjjhknklnclokaaGreatLkFnExactStepThreada
import Derived.Test.YtjjhknklnclokaaGreatLkFnExactStepThreadc
import Derived.Test.YtjjhknklnclokaaGreatLkFnExactStepThreadd
open Go Go.Proofs Go.Proofs.YtjjhknklnclokaaGreat.Abs
namespace Go.Proofs.YtjjhknklnclokaaGreat.PFnExactStepThread
open Go.RowKit Go.Proofs.YtjjhknklnclokaaGreatW.PrintWords Go.Proofs.YtjjhknklnclokaaGreatW.PrintLast Go.Proofs.YtjjhknklnclokaaGreatW.PrintMore
set_option linter.unusedVariables false
set_option linter.unusedSimpArgs false
set_option maxRecDepth 100000
attribute [local irreducible] evK evQ evM evF evW evH goE goK goKD goQ goQD goD Ok ACalls
set_option maxHeartbeats 8000000 in
theorem impl_ValueOf.link {k : Nat} {l0_0 : List (S71)} {l0_1 : List (S111)} {l0_2 : List (S115)} {a1 : Int} {l2_0 : List ByteArray} {l2_1 : List Int} {r : Int × Int} (H : impl_ValueOf.f k l0_0 l0_1 l0_2 a1 l2_0 l2_1 = some r) : ACalls Tryz.prog 55 [.dat true [.sl none 6 (List.flatMap e71 l0_0), .sl none 4 (List.flatMap e111 l0_1), .sl none 4 (List.flatMap e115 l0_2)], .dat false [.sc (.int .i64 a1)], .dat true [.sl none 1 (List.flatMap eS l2_0), .sl none 1 (List.flatMap eI l2_1)]] [(false, [.sc (.int .i64 r.1)]), (false, [.sc (.int .i64 r.2)])] [.dat true [.sl none 6 (List.flatMap e71 l0_0), .sl none 4 (List.flatMap e111 l0_1), .sl none 4 (List.flatMap e115 l0_2)], .dat false [.sc (.int .i64 a1)], .dat true [.sl none 1 (List.flatMap eS l2_0), .sl none 1 (List.flatMap eI l2_1)]] := by
 induction k using Nat.strongRecOn generalizing l0_0 l0_1 l0_2 a1 l2_0 l2_1 r with
 | _ k ih =>
 have e0 : Hold (∀ {m : Nat} {l0_0 : List (S71)} {l0_1 : List (S111)} {l0_2 : List (S115)} {a1 : Int} {l2_0 : List ByteArray} {l2_1 : List Int} {r : Int × Int}, impl_ValueOf.f m l0_0 l0_1 l0_2 a1 l2_0 l2_1 = some r → m < k → ACalls Tryz.prog 55 [.dat true [.sl none 6 (List.flatMap e71 l0_0), .sl none 4 (List.flatMap e111 l0_1), .sl none 4 (List.flatMap e115 l0_2)], .dat false [.sc (.int .i64 a1)], .dat true [.sl none 1 (List.flatMap eS l2_0), .sl none 1 (List.flatMap eI l2_1)]] [(false, [.sc (.int .i64 r.1)]), (false, [.sc (.int .i64 r.2)])] [.dat true [.sl none 6 (List.flatMap e71 l0_0), .sl none 4 (List.flatMap e111 l0_1), .sl none 4 (List.flatMap e115 l0_2)], .dat false [.sc (.int .i64 a1)], .dat true [.sl none 1 (List.flatMap eS l2_0), .sl none 1 (List.flatMap eI l2_1)]]) := ⟨fun H h => ih _ h H⟩
 refine ACalls.en Tryz.func55 Tryz.ntmps55 .go .go .go .go ?_
 intro C F hC hP hF hn (hx : C.fx = [])
 have kp : KL [0, 1, 2, 3, 5, 6, 7, 8, 9, 10, 11, 21, 28, 29, 34, 37, 53, 56, 57, 61, 77] := ⟨⟩
 have kr : KR #[.tmp 6, .tmp 7] := ⟨⟩
 have kd0 : KD 11 (noneL [0, 1, 2, 4] ++ ((3, some [4, 0]) :: ((5, some []) :: (noneL [6, 7, 8, 9, 10] ++ [])))) := ⟨⟩
 have kd1 : KD 19 (noneL [0, 1, 2, 4] ++ ((3, some [4, 0]) :: ((5, some []) :: (noneL [6, 7, 8, 9, 10] ++ [])))) := ⟨⟩
 have c0 := Hold.mk @impl_isValue.link
 have c1 := Hold.mk @impl_DeepOf.link
 have c2 := Hold.mk @impl_ValOk.link
 have c3 := Hold.mk @impl_GetIn.link
 have c4 := Hold.mk @impl_kidAt.link
 have c5 := Hold.mk @impl_Denied.link
 have c6 := Hold.mk @impl_Negated.link
 have c7 := Hold.mk @impl_Calc.link
 cases k with
 | zero => (simp only [impl_ValueOf.f] at H; cases H)
 | succ k =>
   simp only [impl_ValueOf.f] at H
   replace H := Hold.mk H
   have m0 : LM 2 1 [1, 3, 5, 21] (fun X => ∃ x1, ∃ x21, ∃ x649000, ∃ x649001, ∃ x649002, ∃ x650000, ∃ x650001, ∃ q, X = ⟨[(1, .dat false [.sc (.int .i64 x1)]), (3, .pl 0 none 0), (5, .pl 1 none 0), (21, .dat false [.sc (.bool x21)])], [(0, .mem [.sl none 6 (List.flatMap e71 x649000), .sl none 4 (List.flatMap e111 x649001), .sl none 4 (List.flatMap e115 x649002)]), (1, .mem [.sl none 1 (List.flatMap eS x650000), .sl none 1 (List.flatMap eI x650001)])]⟩ ∧ q ≤ k ∧ impl_ValueOf.j0 q x1 x21 x649000 x649001 x649002 x650000 x650001 = some r) := ⟨⟩
   apply late
   · intro pa0
     apply late
     · intro pb0
       apply BZc.out
       exact BZc.go
     · clear H
       intro X hJ
       obtain ⟨x1, x21, x649000, x649001, x649002, x650000, x650001, q1, rfl, hq, H⟩ := hJ
       cases q1 with
       | zero => (simp only [impl_ValueOf.j0] at H; cases H)
       | succ kq1 =>
        simp only [impl_ValueOf.j0] at H
        apply BZn.out
        exact BZn.go
   · intro hj0
     replace H := H.out
     apply BZ.out
     exact BZ.go
set_option maxHeartbeats 8000000 in
theorem impl_Past.link {l0_0 : List Int} {l0_1 : List ByteArray} {l0_2 : List Int} {a0_3 : Int} {r : List Int × List ByteArray × List Int × Int} (H : impl_Past.f l0_0 l0_1 l0_2 a0_3 = some r) : ACalls Tryz.prog 56 [.dat true [.sl none 1 (List.flatMap eI l0_0), .sl none 1 (List.flatMap eS l0_1), .sl none 1 (List.flatMap eI l0_2), .sc (.int .i64 a0_3)]] [(true, [.sl (some 0) 1 (List.flatMap eI r.1), .sl (some 0) 1 (List.flatMap eS r.2.1), .sl (some 0) 1 (List.flatMap eI r.2.2.1), .sc (.int .i64 r.2.2.2)])] [.dat true [.sl none 1 (List.flatMap eI l0_0), .sl none 1 (List.flatMap eS l0_1), .sl none 1 (List.flatMap eI l0_2), .sc (.int .i64 a0_3)]] := by
 refine ACalls.en Tryz.func56 Tryz.ntmps56 .go .go .go .go ?_
 intro C F hC hP hF hn (hx : C.fx = [])
 have kp : KL [0, 1, 2, 3, 4, 11] := ⟨⟩
 have kr : KR #[.cell 2 47] := ⟨⟩
 have c0 := Hold.mk @impl_copyThread.link
 simp only [impl_Past.f] at H
 apply BZn.out
 exact BZn.go
attribute [local go_sem] eI_setI noMutL_append noMutL_drop Bool.true_and Bool.and_true in
set_option maxHeartbeats 8000000 in
theorem impl_PutIn.link {k : Nat} {l0_0 : List ByteArray} {l0_1 : List Int} {a1 : ByteArray} {a2 : Int} {r : List ByteArray × List Int} (H : impl_PutIn.f k l0_0 l0_1 a1 a2 = some r) : ACalls Tryz.prog 57 [.dat true [.sl none 1 (List.flatMap eS l0_0), .sl none 1 (List.flatMap eI l0_1)], .dat false [.sc (.string a1)], .dat false [.sc (.int .i64 a2)]] [(true, [.sl (some 0) 1 (List.flatMap eS r.1), .sl (some 0) 1 (List.flatMap eI r.2)])] [.dat true [.sl none 1 (List.flatMap eS l0_0), .sl none 1 (List.flatMap eI l0_1)], .dat false [.sc (.string a1)], .dat false [.sc (.int .i64 a2)]] := by
 refine ACalls.en Tryz.func57 Tryz.ntmps57 .go .go .go .go ?_
 intro C F hC hP hF hn (hx : C.fx = [])
 have kp : KL [0, 1, 2, 3, 6, 7, 8, 19] := ⟨⟩
 have kr : KR #[.cell 6 45] := ⟨⟩
 have c0 := Hold.mk @impl_copyEnv.link
 have c1 := Hold.mk @impl_ValOk.link
 have c2 := Hold.mk @impl_valAt.link
 simp only [impl_PutIn.f] at H
 apply BZn.out
 exact BZn.go
set_option maxHeartbeats 8000000 in
theorem laws_eqEnv.link {k : Nat} {l0_0 : List ByteArray} {l0_1 : List Int} {l1_0 : List ByteArray} {l1_1 : List Int} {r : Bool} (H : laws_eqEnv.f k l0_0 l0_1 l1_0 l1_1 = some r) : ACalls Tryz.prog 59 [.dat true [.sl none 1 (List.flatMap eS l0_0), .sl none 1 (List.flatMap eI l0_1)], .dat true [.sl none 1 (List.flatMap eS l1_0), .sl none 1 (List.flatMap eI l1_1)]] [(false, [.sc (.bool r)])] [.dat true [.sl none 1 (List.flatMap eS l0_0), .sl none 1 (List.flatMap eI l0_1)], .dat true [.sl none 1 (List.flatMap eS l1_0), .sl none 1 (List.flatMap eI l1_1)]] := by
 refine ACalls.en Tryz.func59 Tryz.ntmps59 .go .go .go .go ?_
 intro C F hC hP hF hn (hx : C.fx = [])
 have kp : KL [0, 1, 2, 3, 4, 10, 16] := ⟨⟩
 have kr : KR #[.tmp 4] := ⟨⟩
 have c0 := Hold.mk @laws_eqIntS.link
 have c1 := Hold.mk @laws_eqStringS.link
 simp only [laws_eqEnv.f] at H
 apply BZ.out
 exact BZ.go
set_option maxHeartbeats 8000000 in
theorem laws_eqThread.link {k : Nat} {l0_0 : List Int} {l0_1 : List ByteArray} {l0_2 : List Int} {a0_3 : Int} {l1_0 : List Int} {l1_1 : List ByteArray} {l1_2 : List Int} {a1_3 : Int} {r : Bool} (H : laws_eqThread.f k l0_0 l0_1 l0_2 a0_3 l1_0 l1_1 l1_2 a1_3 = some r) : ACalls Tryz.prog 18 [.dat true [.sl none 1 (List.flatMap eI l0_0), .sl none 1 (List.flatMap eS l0_1), .sl none 1 (List.flatMap eI l0_2), .sc (.int .i64 a0_3)], .dat true [.sl none 1 (List.flatMap eI l1_0), .sl none 1 (List.flatMap eS l1_1), .sl none 1 (List.flatMap eI l1_2), .sc (.int .i64 a1_3)]] [(false, [.sc (.bool r)])] [.dat true [.sl none 1 (List.flatMap eI l0_0), .sl none 1 (List.flatMap eS l0_1), .sl none 1 (List.flatMap eI l0_2), .sc (.int .i64 a0_3)], .dat true [.sl none 1 (List.flatMap eI l1_0), .sl none 1 (List.flatMap eS l1_1), .sl none 1 (List.flatMap eI l1_2), .sc (.int .i64 a1_3)]] := by
 refine ACalls.en Tryz.func18 Tryz.ntmps18 .go .go .go .go ?_
 intro C F hC hP hF hn (hx : C.fx = [])
 have kp : KL [0, 1, 2, 3, 4, 10, 16, 21] := ⟨⟩
 have kr : KR #[.tmp 4] := ⟨⟩
 have c0 := Hold.mk @laws_eqIntS.link
 have c1 := Hold.mk @laws_eqEnv.link
 simp only [laws_eqThread.f] at H
 apply BZ.out
 exact BZ.go
set_option maxHeartbeats 8000000 in
theorem laws_markIntS.link {k : Nat} {l0 : List Int} {a1 : Int} {r : Int × List Int} (H : laws_markIntS.f k l0 a1 = some r) : MCalls Tryz.prog 63 false [.sl (some 0) 1 (List.flatMap eI l0)] [.int .i64 a1] (some (.int .i64 r.1)) [.sl (some 0) 1 (List.flatMap eI r.2)] := by
 refine MCalls.en Tryz.func63 Tryz.ntmps63 .go .go .go .go .go ?_
 intro C F hC hP hF hn (hx : C.fx = [])
 have kp : KL [0, 1, 4, 5, 9] := ⟨⟩
 have kr : KR #[.tmp 4] := ⟨⟩
 simp only [laws_markIntS.f] at H
 have w0 : LJ [0, 1, 5] (fun q X => ∃ x0, ∃ x1, ∃ x5, X = ⟨[(0, .bor 0 none 0 1 false), (1, .dat false [.sc (.int .i64 x1)]), (5, .dat false [.sc (.int .i64 x5)])], [(0, .vir [.sl (some 1) 1 (List.flatMap eI x0)])]⟩ ∧ q ≤ k ∧ laws_markIntS.l0 q x0 x1 x5 = some r) := ⟨⟩
 apply late
 · intro lp0
   apply BZnm.out
   exact BZnm.go
 · intro q1 X hJ ih0
   clear H
   obtain ⟨x0, x1, x5, rfl, hq, H⟩ := hJ
   cases q1 with
   | zero => (simp only [laws_markIntS.l0] at H; cases H)
   | succ kq1 =>
    simp only [laws_markIntS.l0] at H
    apply BZnm.out
    exact BZnm.go

set_option maxHeartbeats 8000000 in
theorem laws_markText.link {k : Nat} {a0 : Int} {r : ByteArray} (H : laws_markText.f k a0 = some r) : ACalls Tryz.prog 131 [.dat false [.sc (.int .i64 a0)]] [(false, [.sc (.string r)])] [.dat false [.sc (.int .i64 a0)]] := by
 refine ACalls.en Tryz.func131 Tryz.ntmps131 .go .go .go .go ?_
 intro C F hC hP hF hn (hx : C.fx = [])
 have kp : KL [0, 2, 3, 5, 7] := ⟨⟩
 have kr : KR #[.tmp 2] := ⟨⟩
 simp only [laws_markText.f] at H
 have w0 : LJ [0, 3] (fun q X => ∃ x0, ∃ x3, X = ⟨[(0, .dat false [.sc (.int .i64 x0)]), (3, .dat false [.sc (.string x3)])], []⟩ ∧ q ≤ k ∧ laws_markText.l0 q x0 x3 = some r) := ⟨⟩
 apply late
 · intro lp0
   apply BZ.out
   exact BZ.go
 · intro q1 X hJ ih0
   clear H
   obtain ⟨x0, x3, rfl, hq, H⟩ := hJ
   cases q1 with
   | zero => (simp only [laws_markText.l0] at H; cases H)
   | succ kq1 =>
    simp only [laws_markText.l0] at H
    apply BZn.out
    exact BZn.go
set_option maxHeartbeats 8000000 in
theorem laws_markStringS.link {k : Nat} {l0 : List ByteArray} {a1 : Int} {r : Int × List ByteArray} (H : laws_markStringS.f k l0 a1 = some r) : MCalls Tryz.prog 132 false [.sl (some 0) 1 (List.flatMap eS l0)] [.int .i64 a1] (some (.int .i64 r.1)) [.sl (some 0) 1 (List.flatMap eS r.2)] := by
 refine MCalls.en Tryz.func132 Tryz.ntmps132 .go .go .go .go .go ?_
 intro C F hC hP hF hn (hx : C.fx = [])
 have kp : KL [0, 1, 4, 5, 9] := ⟨⟩
 have kr : KR #[.tmp 4] := ⟨⟩
 have c0 := Hold.mk @laws_markText.link
 simp only [laws_markStringS.f] at H
 have w0 : LJ [0, 1, 5] (fun q X => ∃ x0, ∃ x1, ∃ x5, X = ⟨[(0, .bor 0 none 0 1 false), (1, .dat false [.sc (.int .i64 x1)]), (5, .dat false [.sc (.int .i64 x5)])], [(0, .vir [.sl (some 1) 1 (List.flatMap eS x0)])]⟩ ∧ q ≤ k ∧ laws_markStringS.l0 q x0 x1 x5 = some r) := ⟨⟩
 apply late
 · intro lp0
   apply BZnm.out
   exact BZnm.go
 · intro q1 X hJ ih0
   clear H
   obtain ⟨x0, x1, x5, rfl, hq, H⟩ := hJ
   cases q1 with
   | zero => (simp only [laws_markStringS.l0] at H; cases H)
   | succ kq1 =>
    simp only [laws_markStringS.l0] at H
    apply BZnm.out
    exact BZnm.go

attribute [-go_sem] e113_set e113_st in
attribute [local go_sem] e113_fold e113_fold2 e113_ats e113_rows e113_get e113_rd List.set_set List.length_set in
set_option maxHeartbeats 8000000 in
theorem laws_markEntryS.link {k : Nat} {l0 : List (S113)} {a1 : Int} {r : Int × (List (S113))} (H : laws_markEntryS.f k l0 a1 = some r) : MCalls Tryz.prog 133 false [.sl (some 0) 3 (List.flatMap e113 l0)] [.int .i64 a1] (some (.int .i64 r.1)) [.sl (some 0) 3 (List.flatMap e113 r.2)] := by
 refine MCalls.en Tryz.func133 Tryz.ntmps133 .go .go .go .go .go ?_
 intro C F hC hP hF hn (hx : C.fx = [])
 have kp : KL [0, 1, 4, 5, 9] := ⟨⟩
 have kr : KR #[.tmp 4] := ⟨⟩
 have c0 := Hold.mk @laws_markText.link
 simp only [laws_markEntryS.f] at H
 have w0 : LJ [0, 1, 5] (fun q X => ∃ x0, ∃ x1, ∃ x5, X = ⟨[(0, .bor 0 none 0 1 false), (1, .dat false [.sc (.int .i64 x1)]), (5, .dat false [.sc (.int .i64 x5)])], [(0, .vir [.sl (some 1) 3 (List.flatMap e113 x0)])]⟩ ∧ q ≤ k ∧ laws_markEntryS.l0 q x0 x1 x5 = some r) := ⟨⟩
 apply late
 · intro lp0
   apply BZnm.out
   exact BZnm.go
 · intro q1 X hJ ih0
   clear H
   obtain ⟨x0, x1, x5, rfl, hq, H⟩ := hJ
   cases q1 with
   | zero => (simp only [laws_markEntryS.l0] at H; cases H)
   | succ kq1 =>
    simp only [laws_markEntryS.l0] at H
    apply BZnm.out
    exact BZnm.go

set_option maxHeartbeats 8000000 in
theorem laws_markEnv.link {k : Nat} {l0_0 : List ByteArray} {l0_1 : List Int} {a1 : Int} {r : Int × List ByteArray × List Int} (H : laws_markEnv.f k l0_0 l0_1 a1 = some r) : MCalls Tryz.prog 64 true [.sl (some 0) 1 (List.flatMap eS l0_0), .sl (some 0) 1 (List.flatMap eI l0_1)] [.int .i64 a1] (some (.int .i64 r.1)) [.sl (some 0) 1 (List.flatMap eS r.2.1), .sl (some 0) 1 (List.flatMap eI r.2.2)] := by
 refine MCalls.en Tryz.func64 Tryz.ntmps64 .go .go .go .go .go ?_
 intro C F hC hP hF hn (hx : C.fx = [])
 have kp : KL [0, 1, 2, 4] := ⟨⟩
 have kr : KR #[.tmp 4] := ⟨⟩
 have d0 := Hold.mk @laws_markIntS.link
 have d1 := Hold.mk @laws_markStringS.link
 simp only [laws_markEnv.f] at H
 apply BZm.out
 exact BZm.go

set_option maxHeartbeats 8000000 in
theorem laws_markThread.link {k : Nat} {l0_0 : List Int} {l0_1 : List ByteArray} {l0_2 : List Int} {a0_3 : Int} {a1 : Int} {r : Int × List Int × List ByteArray × List Int} (H : laws_markThread.f k l0_0 l0_1 l0_2 a0_3 a1 = some r) : MCalls Tryz.prog 20 true [.sl (some 0) 1 (List.flatMap eI l0_0), .sl (some 0) 1 (List.flatMap eS l0_1), .sl (some 0) 1 (List.flatMap eI l0_2), .sc (.int .i64 a0_3)] [.int .i64 a1] (some (.int .i64 r.1)) [.sl (some 0) 1 (List.flatMap eI r.2.1), .sl (some 0) 1 (List.flatMap eS r.2.2.1), .sl (some 0) 1 (List.flatMap eI r.2.2.2), .sc (.int .i64 a0_3)] := by
 refine MCalls.en Tryz.func20 Tryz.ntmps20 .go .go .go .go .go ?_
 intro C F hC hP hF hn (hx : C.fx = [])
 have kp : KL [0, 1, 2, 4] := ⟨⟩
 have kr : KR #[.tmp 4] := ⟨⟩
 have d0 := Hold.mk @laws_markIntS.link
 have d1 := Hold.mk @laws_markEnv.link
 simp only [laws_markThread.f] at H
 apply BZm.out
 exact BZm.go

set_option maxHeartbeats 8000000 in
theorem laws_heldIntS.link {k : Nat} {l0 : List Int} {a1 : Int} {r : Int} (H : laws_heldIntS.f k l0 a1 = some r) : ACalls Tryz.prog 65 [.dat false [.sl none 1 (List.flatMap eI l0)], .dat false [.sc (.int .i64 a1)]] [(false, [.sc (.int .i64 r)])] [.dat false [.sl none 1 (List.flatMap eI l0)], .dat false [.sc (.int .i64 a1)]] := by
 refine ACalls.en Tryz.func65 Tryz.ntmps65 .go .go .go .go ?_
 intro C F hC hP hF hn (hx : C.fx = [])
 have kp : KL [0, 1, 4, 5, 9, 17] := ⟨⟩
 have kr : KR #[.tmp 4] := ⟨⟩
 simp only [laws_heldIntS.f] at H
 have w0 : LJ [0, 1, 5] (fun q X => ∃ x0, ∃ x1, ∃ x5, X = ⟨[(0, .dat false [.sl none 1 (List.flatMap eI x0)]), (1, .dat false [.sc (.int .i64 x1)]), (5, .dat false [.sc (.int .i64 x5)])], []⟩ ∧ q ≤ k ∧ laws_heldIntS.l0 q x0 x1 x5 = some r) := ⟨⟩
 apply late
 · intro lp0
   apply BZ.out
   exact BZ.go
 · intro q1 X hJ ih0
   clear H
   obtain ⟨x0, x1, x5, rfl, hq, H⟩ := hJ
   cases q1 with
   | zero => (simp only [laws_heldIntS.l0] at H; cases H)
   | succ kq1 =>
    simp only [laws_heldIntS.l0] at H
    apply BZn.out
    exact BZn.go
set_option maxHeartbeats 8000000 in
theorem laws_heldStringS.link {k : Nat} {l0 : List ByteArray} {a1 : Int} {r : Int} (H : laws_heldStringS.f k l0 a1 = some r) : ACalls Tryz.prog 134 [.dat false [.sl none 1 (List.flatMap eS l0)], .dat false [.sc (.int .i64 a1)]] [(false, [.sc (.int .i64 r)])] [.dat false [.sl none 1 (List.flatMap eS l0)], .dat false [.sc (.int .i64 a1)]] := by
 refine ACalls.en Tryz.func134 Tryz.ntmps134 .go .go .go .go ?_
 intro C F hC hP hF hn (hx : C.fx = [])
 have kp : KL [0, 1, 4, 5, 9, 18] := ⟨⟩
 have kr : KR #[.tmp 4] := ⟨⟩
 have kd0 : KD 4 (noneL [0, 1, 2, 3, 4] ++ ((5, some [3, 2, 1, 0]) :: (noneL [6] ++ []))) := ⟨⟩
 have c0 := Hold.mk @laws_markText.link
 simp only [laws_heldStringS.f] at H
 have w0 : LJ [0, 1, 5] (fun q X => ∃ x0, ∃ x1, ∃ x5, X = ⟨[(0, .dat false [.sl none 1 (List.flatMap eS x0)]), (1, .dat false [.sc (.int .i64 x1)]), (5, .dat false [.sc (.int .i64 x5)])], []⟩ ∧ q ≤ k ∧ laws_heldStringS.l0 q x0 x1 x5 = some r) := ⟨⟩
 apply late
 · intro lp0
   apply BZ.out
   exact BZ.go
 · intro q1 X hJ ih0
   clear H
   obtain ⟨x0, x1, x5, rfl, hq, H⟩ := hJ
   cases q1 with
   | zero => (simp only [laws_heldStringS.l0] at H; cases H)
   | succ kq1 =>
    simp only [laws_heldStringS.l0] at H
    apply BZn.out
    exact BZn.go
set_option maxHeartbeats 8000000 in
theorem laws_heldEnv.link {k : Nat} {l0_0 : List ByteArray} {l0_1 : List Int} {a1 : Int} {r : Int} (H : laws_heldEnv.f k l0_0 l0_1 a1 = some r) : ACalls Tryz.prog 66 [.dat true [.sl none 1 (List.flatMap eS l0_0), .sl none 1 (List.flatMap eI l0_1)], .dat false [.sc (.int .i64 a1)]] [(false, [.sc (.int .i64 r)])] [.dat true [.sl none 1 (List.flatMap eS l0_0), .sl none 1 (List.flatMap eI l0_1)], .dat false [.sc (.int .i64 a1)]] := by
 refine ACalls.en Tryz.func66 Tryz.ntmps66 .go .go .go .go ?_
 intro C F hC hP hF hn (hx : C.fx = [])
 have kp : KL [0, 1, 2, 4, 10, 16] := ⟨⟩
 have kr : KR #[.tmp 4] := ⟨⟩
 have c0 := Hold.mk @laws_heldIntS.link
 have c1 := Hold.mk @laws_heldStringS.link
 simp only [laws_heldEnv.f] at H
 apply BZn.out
 exact BZn.go
set_option maxHeartbeats 8000000 in
theorem laws_heldThread.link {k : Nat} {l0_0 : List Int} {l0_1 : List ByteArray} {l0_2 : List Int} {a0_3 : Int} {a1 : Int} {r : Int} (H : laws_heldThread.f k l0_0 l0_1 l0_2 a0_3 a1 = some r) : ACalls Tryz.prog 21 [.dat true [.sl none 1 (List.flatMap eI l0_0), .sl none 1 (List.flatMap eS l0_1), .sl none 1 (List.flatMap eI l0_2), .sc (.int .i64 a0_3)], .dat false [.sc (.int .i64 a1)]] [(false, [.sc (.int .i64 r)])] [.dat true [.sl none 1 (List.flatMap eI l0_0), .sl none 1 (List.flatMap eS l0_1), .sl none 1 (List.flatMap eI l0_2), .sc (.int .i64 a0_3)], .dat false [.sc (.int .i64 a1)]] := by
 refine ACalls.en Tryz.func21 Tryz.ntmps21 .go .go .go .go ?_
 intro C F hC hP hF hn (hx : C.fx = [])
 have kp : KL [0, 1, 2, 4, 10, 16] := ⟨⟩
 have kr : KR #[.tmp 4] := ⟨⟩
 have c0 := Hold.mk @laws_heldIntS.link
 have c1 := Hold.mk @laws_heldEnv.link
 simp only [laws_heldThread.f] at H
 apply BZn.out
 exact BZn.go
attribute [-go_sem] o71_set o71_st in
attribute [local go_sem] o71_fold o71_fold2 o71_ats o71_rows o71_get o71_rd List.set_set List.length_set in
set_option maxHeartbeats 8000000 in
theorem laws_markNodeS.link {k : Nat} {l0 : List (S71)} {a1 : Int} {r : Int × (List (S71))} (H : laws_markNodeS.f k l0 a1 = some r) : MCalls Tryz.prog 60 false [.sl (some 0) 6 (List.flatMap o71 l0)] [.int .i64 a1] (some (.int .i64 r.1)) [.sl (some 0) 6 (List.flatMap o71 r.2)] := by
 refine MCalls.en Tryz.func60 Tryz.ntmps60 .go .go .go .go .go ?_
 intro C F hC hP hF hn (hx : C.fx = [])
 have kp : KL [0, 1, 4, 5, 9] := ⟨⟩
 have kr : KR #[.tmp 4] := ⟨⟩
 have c0 := Hold.mk @laws_markText.link
 have d0 := Hold.mk @laws_markIntS.link
 simp only [laws_markNodeS.f] at H
 have w0 : LJ [0, 1, 5] (fun q X => ∃ x0, ∃ x1, ∃ x5, X = ⟨[(0, .bor 0 none 0 1 false), (1, .dat false [.sc (.int .i64 x1)]), (5, .dat false [.sc (.int .i64 x5)])], [(0, .vir [.sl (some 1) 6 (List.flatMap o71 x0)])]⟩ ∧ q ≤ k ∧ laws_markNodeS.l0 q x0 x1 x5 = some r) := ⟨⟩
 apply late
 · intro lp0
   apply BZnm.out
   exact BZnm.go
 · intro q1 X hJ ih0
   clear H
   obtain ⟨x0, x1, x5, rfl, hq, H⟩ := hJ
   cases q1 with
   | zero => (simp only [laws_markNodeS.l0] at H; cases H)
   | succ kq1 =>
    simp only [laws_markNodeS.l0] at H
    apply BZnm.out
    exact BZnm.go

attribute [-go_sem] o111_set o111_st in
attribute [local go_sem] o111_fold o111_fold2 o111_ats o111_rows o111_get o111_rd List.set_set List.length_set in
set_option maxHeartbeats 8000000 in
theorem laws_markMonitorS.link {k : Nat} {l0 : List (S111)} {a1 : Int} {r : Int × (List (S111))} (H : laws_markMonitorS.f k l0 a1 = some r) : MCalls Tryz.prog 61 false [.sl (some 0) 4 (List.flatMap o111 l0)] [.int .i64 a1] (some (.int .i64 r.1)) [.sl (some 0) 4 (List.flatMap o111 r.2)] := by
 refine MCalls.en Tryz.func61 Tryz.ntmps61 .go .go .go .go .go ?_
 intro C F hC hP hF hn (hx : C.fx = [])
 have kp : KL [0, 1, 4, 5, 9] := ⟨⟩
 have kr : KR #[.tmp 4] := ⟨⟩
 have c0 := Hold.mk @laws_markText.link
 have d0 := Hold.mk @laws_markStringS.link
 have d1 := Hold.mk @laws_markEntryS.link
 simp only [laws_markMonitorS.f] at H
 have w0 : LJ [0, 1, 5] (fun q X => ∃ x0, ∃ x1, ∃ x5, X = ⟨[(0, .bor 0 none 0 1 false), (1, .dat false [.sc (.int .i64 x1)]), (5, .dat false [.sc (.int .i64 x5)])], [(0, .vir [.sl (some 1) 4 (List.flatMap o111 x0)])]⟩ ∧ q ≤ k ∧ laws_markMonitorS.l0 q x0 x1 x5 = some r) := ⟨⟩
 apply late
 · intro lp0
   apply BZnm.out
   exact BZnm.go
 · intro q1 X hJ ih0
   clear H
   obtain ⟨x0, x1, x5, rfl, hq, H⟩ := hJ
   cases q1 with
   | zero => (simp only [laws_markMonitorS.l0] at H; cases H)
   | succ kq1 =>
    simp only [laws_markMonitorS.l0] at H
    apply BZnm.out
    exact BZnm.go

attribute [-go_sem] o115_set o115_st in
attribute [local go_sem] o115_fold o115_fold2 o115_ats o115_rows o115_get o115_rd List.set_set List.length_set in
set_option maxHeartbeats 8000000 in
theorem laws_markProcessS.link {k : Nat} {l0 : List (S115)} {a1 : Int} {r : Int × (List (S115))} (H : laws_markProcessS.f k l0 a1 = some r) : MCalls Tryz.prog 62 false [.sl (some 0) 4 (List.flatMap o115 l0)] [.int .i64 a1] (some (.int .i64 r.1)) [.sl (some 0) 4 (List.flatMap o115 r.2)] := by
 refine MCalls.en Tryz.func62 Tryz.ntmps62 .go .go .go .go .go ?_
 intro C F hC hP hF hn (hx : C.fx = [])
 have kp : KL [0, 1, 4, 5, 9] := ⟨⟩
 have kr : KR #[.tmp 4] := ⟨⟩
 have c0 := Hold.mk @laws_markText.link
 have d0 := Hold.mk @laws_markStringS.link
 simp only [laws_markProcessS.f] at H
 have w0 : LJ [0, 1, 5] (fun q X => ∃ x0, ∃ x1, ∃ x5, X = ⟨[(0, .bor 0 none 0 1 false), (1, .dat false [.sc (.int .i64 x1)]), (5, .dat false [.sc (.int .i64 x5)])], [(0, .vir [.sl (some 1) 4 (List.flatMap o115 x0)])]⟩ ∧ q ≤ k ∧ laws_markProcessS.l0 q x0 x1 x5 = some r) := ⟨⟩
 apply late
 · intro lp0
   apply BZnm.out
   exact BZnm.go
 · intro q1 X hJ ih0
   clear H
   obtain ⟨x0, x1, x5, rfl, hq, H⟩ := hJ
   cases q1 with
   | zero => (simp only [laws_markProcessS.l0] at H; cases H)
   | succ kq1 =>
    simp only [laws_markProcessS.l0] at H
    apply BZnm.out
    exact BZnm.go

set_option maxHeartbeats 8000000 in
theorem laws_markProgramG.link {k : Nat} {l0_0 : List S71} {l0_1 : List S111} {l0_2 : List S115} {a1 : Int} {r : Int × List S71 × List S111 × List S115} (H : laws_markProgram.g k l0_0 l0_1 l0_2 a1 = some r) : MCalls Tryz.prog 19 true [.sl (some 0) 6 (List.flatMap o71 l0_0), .sl (some 0) 4 (List.flatMap o111 l0_1), .sl (some 0) 4 (List.flatMap o115 l0_2)] [.int .i64 a1] (some (.int .i64 r.1)) [.sl (some 0) 6 (List.flatMap o71 r.2.1), .sl (some 0) 4 (List.flatMap o111 r.2.2.1), .sl (some 0) 4 (List.flatMap o115 r.2.2.2)] := by
 refine MCalls.en Tryz.func19 Tryz.ntmps19 .go .go .go .go .go ?_
 intro C F hC hP hF hn (hx : C.fx = [])
 have kp : KL [0, 1, 2, 4] := ⟨⟩
 have kr : KR #[.tmp 4] := ⟨⟩
 have d0 := Hold.mk @laws_markNodeS.link
 have d1 := Hold.mk @laws_markMonitorS.link
 have d2 := Hold.mk @laws_markProcessS.link
 simp only [laws_markProgram.g] at H
 apply BZm.out
 exact BZm.go
def laws_markProgram.n (k : Nat) (l0_0 : List S71) (l0_1 : List S111) (l0_2 : List S115) (a1 : Int) : Int × List S71 × List S111 × List S115 := (laws_markProgram.g k l0_0 l0_1 l0_2 a1).getD (0, [], [], [])
theorem laws_markProgram.link {k : Nat} {l0_0 : List S71} {l0_1 : List S111} {l0_2 : List S115} {a1 r : Int} (H : laws_markProgram.f k l0_0 l0_1 l0_2 a1 = some r) : MCalls Tryz.prog 19 true [.sl (some 0) 6 (List.flatMap o71 l0_0), .sl (some 0) 4 (List.flatMap o111 l0_1), .sl (some 0) 4 (List.flatMap o115 l0_2)] [.int .i64 a1] (some (.int .i64 r)) [.sl (some 0) 6 (List.flatMap o71 (laws_markProgram.n k l0_0 l0_1 l0_2 a1).2.1), .sl (some 0) 4 (List.flatMap o111 (laws_markProgram.n k l0_0 l0_1 l0_2 a1).2.2.1), .sl (some 0) 4 (List.flatMap o115 (laws_markProgram.n k l0_0 l0_1 l0_2 a1).2.2.2)] := by
 unfold laws_markProgram.f at H
 cases hg : laws_markProgram.g k l0_0 l0_1 l0_2 a1 with
 | none => rw [hg] at H; cases H
 | some p =>
  rw [hg] at H
  cases H
  have := (@laws_markProgramG.link) hg
  unfold laws_markProgram.n
  rw [hg]
  exact this

end Go.Proofs.YtjjhknklnclokaaGreat.PFnExactStepThread
