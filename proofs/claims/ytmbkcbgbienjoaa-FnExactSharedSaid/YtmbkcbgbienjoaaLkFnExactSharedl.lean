/- Functions' walks: each computes what its plain form says. No condition. -/
import Derived.Test.YtmbkcbgbienjoaaLkFnExactSharedh
import Derived.Test.YtmbkcbgbienjoaaLkFnExactSharedg
import Derived.Test.YtmbkcbgbienjoaaLkFnExactSharedk
open Go Go.Proofs Go.Proofs.Ytmbkcbgbienjoaa.Abs
namespace Go.Proofs.Ytmbkcbgbienjoaa.PFnExactShared
open Go.RowKit Go.Proofs.YtmbkcbgbienjoaaW.PrintWords Go.Proofs.YtmbkcbgbienjoaaW.PrintLast Go.Proofs.YtmbkcbgbienjoaaW.PrintMore
set_option linter.unusedVariables false
set_option linter.unusedSimpArgs false
set_option maxRecDepth 100000
attribute [local irreducible] evK evQ evM evF evW evH goE goK goKD goQ goQD goD Ok ACalls
set_option maxHeartbeats 8000000 in
theorem impl_deeps.link {k : Nat} {l0_0 : List (S77)} {l0_1 : List (S106)} {l0_2 : List (S103)} {a1 : Int} {r : List Int} (H : impl_deeps.f k l0_0 l0_1 l0_2 a1 = some r) : ACalls Try.prog 84 [.dat true [.sl none 6 (List.flatMap e77 l0_0), .sl none 4 (List.flatMap e106 l0_1), .sl none 4 (List.flatMap e103 l0_2)], .dat false [.sc (.int .i64 a1)]] [(false, [.sl (some 0) 1 (List.flatMap eI r)])] [.dat true [.sl none 6 (List.flatMap e77 l0_0), .sl none 4 (List.flatMap e106 l0_1), .sl none 4 (List.flatMap e103 l0_2)], .dat false [.sc (.int .i64 a1)]] := by
 refine ACalls.en Try.func84 Try.ntmps84 .go .go .go .go ?_
 intro C F hC hP hF hn (hx : C.fx = [])
 have kp : KL [0, 1, 2, 4, 5, 6, 7, 9, 14, 15, 16, 21, 27, 28, 29, 30, 44, 54] := ⟨⟩
 have kr : KR #[.tmp 4] := ⟨⟩
 have c0 := Hold.mk @impl_within.link
 have c1 := Hold.mk @impl_NodeOk.link
 simp only [impl_deeps.f] at H
 have w0 : LJ [2, 5, 14, 15] (fun q X => ∃ x5, ∃ x14, ∃ x15, ∃ x466000, ∃ x466001, ∃ x466002, X = ⟨[(2, .pl 0 none 0), (5, .bor 1 none 0 1 false), (14, .dat false [.sc (.int .i64 x14)]), (15, .dat false [.sc (.int .i64 x15)])], [(0, .mem [.sl none 6 (List.flatMap e77 x466000), .sl none 4 (List.flatMap e106 x466001), .sl none 4 (List.flatMap e103 x466002)]), (1, .vir [.sl (some 0) 1 (List.flatMap eI x5)])]⟩ ∧ q ≤ k ∧ impl_deeps.l0 q x5 x14 x15 x466000 x466001 x466002 = some r) := ⟨⟩
 apply late
 · intro lp0
   apply BZn.out
   exact BZn.go
 · intro q1 X hJ ih0
   clear H
   obtain ⟨x5, x14, x15, x466000, x466001, x466002, rfl, hq, H⟩ := hJ
   cases q1 with
   | zero => (simp only [impl_deeps.l0] at H; cases H)
   | succ kq1 =>
    simp only [impl_deeps.l0] at H
    replace H := Hold.mk H
    obtain ⟨H, H0⟩ | ⟨H, H0⟩ := sIteU H.out
    · (try simp only [List.length_append, List.length_cons, List.length_nil, Nat.zero_add, beq_dec, bne_dec, Bool.or_eq_true, Bool.and_eq_true, Bool.not_eq_true', decide_eq_true_eq, decide_eq_false_iff_not, ite_or', ite_and', ite_not', ge_iff_le, gt_iff_lt] at H)
      repeat' first
       | (with_reducible replace H := sBindA H (by assumption))
       | (with_reducible replace H := sBindS H)
       | (with_reducible replace H := sBind H); obtain ⟨t, hA, H⟩ := H
       | (with_reducible replace H := sBool H); obtain ⟨c, H⟩ | ⟨c, H⟩ := H
       | (with_reducible replace H := sEq H); obtain ⟨c, c', H⟩ | ⟨c, c', H⟩ := H
       | (with_reducible replace H := sEqL H); obtain ⟨c, H⟩ | ⟨c, H⟩ := H
       | (with_reducible replace H := sIte H); obtain ⟨c, H⟩ | ⟨c, H⟩ := H
       | (with_reducible replace H := sAnd H); obtain ⟨c, H⟩ | ⟨c, H⟩ := H
       | (with_reducible replace H := sOr H); obtain ⟨c, H⟩ | ⟨c, H⟩ := H
      all_goals cases H
      all_goals (replace H0 := Hold.mk H0; have H := H0; clear H0)
      all_goals (
       first
        | (with_reducible replace H := Hold.mk (sBindA H.out (by assumption)))
        | (have H1 := sBind H.out; clear H; obtain ⟨t, hA, H⟩ := H1; replace H := Hold.mk H)
       have m0 : LM 1 21 [2, 5, 6, 7, 14, 15] (fun X => ∃ x5, ∃ x6, ∃ x7, ∃ x14, ∃ x15, ∃ x466000, ∃ x466001, ∃ x466002, ∃ q, X = ⟨[(2, .pl 0 none 0), (5, .bor 1 none 0 1 false), (6, .dat false [.sc (.int .i64 x6)]), (7, .dat false [.sc (.int .i64 x7)]), (14, .dat false [.sc (.int .i64 x14)]), (15, .dat false [.sc (.int .i64 x15)])], [(0, .mem [.sl none 6 (List.flatMap e77 x466000), .sl none 4 (List.flatMap e106 x466001), .sl none 4 (List.flatMap e103 x466002)]), (1, .vir [.sl (some 0) 1 (List.flatMap eI x5)])]⟩ ∧ q ≤ kq1 ∧ impl_deeps.j1 q x5 x6 x7 x14 x15 x466000 x466001 x466002 = some r) := ⟨⟩
       apply late
       · intro pa0
         apply late
         · intro pb0
           apply BZc.out
           exact BZc.go
         · clear H
           intro X hJ
           obtain ⟨x5, x6, x7, x14, x15, x466000, x466001, x466002, q2, rfl, hq, H⟩ := hJ
           cases q2 with
           | zero => (simp only [impl_deeps.j1] at H; cases H)
           | succ kq2 =>
            simp only [impl_deeps.j1] at H
            have w1 : LJ [2, 5, 6, 7, 14, 15, 27, 28, 29] (fun q X => ∃ x5, ∃ x6, ∃ x7, ∃ x14, ∃ x15, ∃ x27, ∃ x28, ∃ x29, ∃ x466000, ∃ x466001, ∃ x466002, X = ⟨[(2, .pl 0 none 0), (5, .bor 1 none 0 1 false), (6, .dat false [.sc (.int .i64 x6)]), (7, .dat false [.sc (.int .i64 x7)]), (14, .dat false [.sc (.int .i64 x14)]), (15, .dat false [.sc (.int .i64 x15)]), (27, .dat false [.sl none 1 (List.flatMap eI x27)]), (28, .dat false [.sc (.int .i64 x28)]), (29, .dat false [.sc (.int .i64 x29)])], [(0, .mem [.sl none 6 (List.flatMap e77 x466000), .sl none 4 (List.flatMap e106 x466001), .sl none 4 (List.flatMap e103 x466002)]), (1, .vir [.sl (some 0) 1 (List.flatMap eI x5)])]⟩ ∧ q ≤ kq2 ∧ impl_deeps.l1 q x5 x6 x7 x14 x15 x27 x28 x29 x466000 x466001 x466002 = some r) := ⟨⟩
            apply late
            · intro lp1
              apply BZn.out
              exact BZn.go
            · intro q3 X hJ ih1
              clear H
              obtain ⟨x5, x6, x7, x14, x15, x27, x28, x29, x466000, x466001, x466002, rfl, hq, H⟩ := hJ
              cases q3 with
              | zero => (simp only [impl_deeps.l1] at H; cases H)
              | succ kq3 =>
               simp only [impl_deeps.l1] at H
               apply BZn.out
               exact BZn.go
       · intro hj0
         replace H := H.out
         apply BZ.out
         exact BZ.go)
    · (try simp only [List.length_append, List.length_cons, List.length_nil, Nat.zero_add, beq_dec, bne_dec, Bool.or_eq_true, Bool.and_eq_true, Bool.not_eq_true', decide_eq_true_eq, decide_eq_false_iff_not, ite_or', ite_and', ite_not', ge_iff_le, gt_iff_lt] at H)
      repeat' first
       | (with_reducible replace H := sBindA H (by assumption))
       | (with_reducible replace H := sBindS H)
       | (with_reducible replace H := sBind H); obtain ⟨t, hA, H⟩ := H
       | (with_reducible replace H := sBool H); obtain ⟨c, H⟩ | ⟨c, H⟩ := H
       | (with_reducible replace H := sEq H); obtain ⟨c, c', H⟩ | ⟨c, c', H⟩ := H
       | (with_reducible replace H := sEqL H); obtain ⟨c, H⟩ | ⟨c, H⟩ := H
       | (with_reducible replace H := sIte H); obtain ⟨c, H⟩ | ⟨c, H⟩ := H
       | (with_reducible replace H := sAnd H); obtain ⟨c, H⟩ | ⟨c, H⟩ := H
       | (with_reducible replace H := sOr H); obtain ⟨c, H⟩ | ⟨c, H⟩ := H
      all_goals cases H
      all_goals (replace H0 := Hold.mk H0; have H := H0; clear H0)
      all_goals (
       replace H := H.out
       apply BZ.out
       exact BZ.go)
set_option maxHeartbeats 8000000 in
theorem impl_DeepOf.link {k : Nat} {l0_0 : List (S77)} {l0_1 : List (S106)} {l0_2 : List (S103)} {a1 : Int} {r : Int} (H : impl_DeepOf.f k l0_0 l0_1 l0_2 a1 = some r) : ACalls Try.prog 38 [.dat true [.sl none 6 (List.flatMap e77 l0_0), .sl none 4 (List.flatMap e106 l0_1), .sl none 4 (List.flatMap e103 l0_2)], .dat false [.sc (.int .i64 a1)]] [(false, [.sc (.int .i64 r)])] [.dat true [.sl none 6 (List.flatMap e77 l0_0), .sl none 4 (List.flatMap e106 l0_1), .sl none 4 (List.flatMap e103 l0_2)], .dat false [.sc (.int .i64 a1)]] := by
 refine ACalls.en Try.func38 Try.ntmps38 .go .go .go .go ?_
 intro C F hC hP hF hn (hx : C.fx = [])
 have kp : KL [0, 1, 2, 4, 8] := ⟨⟩
 have kr : KR #[.tmp 4] := ⟨⟩
 have c0 := Hold.mk @impl_isNode.link
 have c1 := Hold.mk @impl_deeps.link
 simp only [impl_DeepOf.f] at H
 apply BZn.out
 exact BZn.go
attribute [-go_sem] eI_set eI_st in
attribute [local go_sem] eI_fold eI_fold3 eI_ats eI_ats3 List.length_set in
set_option maxHeartbeats 8000000 in
theorem slices_Reverse_int_int.link {k : Nat} {l0 : List Int} {r : List Int} (H : slices_Reverse_int_int.f k l0 = some r) : MCalls Try.prog 86 false [.sl (some 0) 1 (List.flatMap eI l0)] [] none [.sl (some 0) 1 (List.flatMap eI r)] := by
 refine MCalls.en Try.func86 Try.ntmps86 .go .go .go .go .go ?_
 intro C F hC hP hF hn (hx : C.fx = [])
 have kp : KL [0, 2, 3, 9] := ⟨⟩
 have kr : KR #[] := ⟨⟩
 have kd0 : KD 3 (noneL [0, 1, 2, 3, 4, 5, 6, 7, 8, 9, 10, 11, 12] ++ ((13, some [3, 2]) :: (noneL [14] ++ ((15, some []) :: ([]))))) := ⟨⟩
 simp only [slices_Reverse_int_int.f] at H
 have w0 : LJ [0, 2, 3] (fun q X => ∃ x0, ∃ x2, ∃ x3, X = ⟨[(0, .bor 0 none 0 1 false), (2, .dat false [.sc (.int .i64 x2)]), (3, .dat false [.sc (.int .i64 x3)])], [(0, .vir [.sl (some 1) 1 (List.flatMap eI x0)])]⟩ ∧ q ≤ k ∧ slices_Reverse_int_int.l0 q x0 x2 x3 = some r) := ⟨⟩
 apply late
 · intro lp0
   apply BZnm.out
   exact BZnm.go
 · intro q1 X hJ ih0
   clear H
   obtain ⟨x0, x2, x3, rfl, hq, H⟩ := hJ
   cases q1 with
   | zero => (simp only [slices_Reverse_int_int.l0] at H; cases H)
   | succ kq1 =>
    simp only [slices_Reverse_int_int.l0] at H
    apply BZnm.out
    exact BZnm.go

attribute [-go_sem] eB_rep List.length_replicate in
attribute [local go_sem] eB_per in
set_option maxHeartbeats 8000000 in
theorem impl_NodesUnder.link {k : Nat} {l0_0 : List (S77)} {l0_1 : List (S106)} {l0_2 : List (S103)} {a1 : Int} {r : List Int} (H : impl_NodesUnder.f k l0_0 l0_1 l0_2 a1 = some r) : ACalls Try.prog 42 [.dat true [.sl none 6 (List.flatMap e77 l0_0), .sl none 4 (List.flatMap e106 l0_1), .sl none 4 (List.flatMap e103 l0_2)], .dat false [.sc (.int .i64 a1)]] [(false, [.sl (some 0) 1 (List.flatMap eI r)])] [.dat true [.sl none 6 (List.flatMap e77 l0_0), .sl none 4 (List.flatMap e106 l0_1), .sl none 4 (List.flatMap e103 l0_2)], .dat false [.sc (.int .i64 a1)]] := by
 refine ACalls.en Try.func42 Try.ntmps42 .go .go .go .go ?_
 intro C F hC hP hF hn (hx : C.fx = [])
 have kp : KL [0, 1, 2, 4, 5, 6, 7, 9, 13, 22, 28, 38, 39, 40, 41] := ⟨⟩
 have kr : KR #[.tmp 4] := ⟨⟩
 have c0 := Hold.mk @impl_DeepOf.link
 have d0 := Hold.mk @slices_Reverse_int_int.link
 simp only [impl_NodesUnder.f] at H
 have w0 : LJ [2, 5, 6, 7] (fun q X => ∃ x5, ∃ x6, ∃ x7, ∃ x489000, ∃ x489001, ∃ x489002, X = ⟨[(2, .pl 0 none 0), (5, .bor 1 none 0 1 false), (6, .bor 2 none 0 1 false), (7, .dat false [.sc (.int .i64 x7)])], [(0, .mem [.sl none 6 (List.flatMap e77 x489000), .sl none 4 (List.flatMap e106 x489001), .sl none 4 (List.flatMap e103 x489002)]), (1, .vir [.sl (some 0) 1 (List.flatMap eB x5)]), (2, .vir [.sl (some 0) 1 (List.flatMap eI x6)])]⟩ ∧ q ≤ k ∧ impl_NodesUnder.l0 q x5 x6 x7 x489000 x489001 x489002 = some r) := ⟨⟩
 apply late
 · intro lp0
   apply BZnam.out
   exact BZnam.go
 · intro q1 X hJ ih0
   clear H
   obtain ⟨x5, x6, x7, x489000, x489001, x489002, rfl, hq, H⟩ := hJ
   cases q1 with
   | zero => (simp only [impl_NodesUnder.l0] at H; cases H)
   | succ kq1 =>
    simp only [impl_NodesUnder.l0] at H
    have w1 : LJ [2, 5, 6, 7, 38, 39, 40] (fun q X => ∃ x5, ∃ x6, ∃ x7, ∃ x38, ∃ x39, ∃ x40, ∃ x489000, ∃ x489001, ∃ x489002, X = ⟨[(2, .pl 0 none 0), (5, .bor 1 none 0 1 false), (6, .bor 2 none 0 1 false), (7, .dat false [.sc (.int .i64 x7)]), (38, .dat false [.sl none 1 (List.flatMap eI x38)]), (39, .dat false [.sc (.int .i64 x39)]), (40, .dat false [.sc (.int .i64 x40)])], [(0, .mem [.sl none 6 (List.flatMap e77 x489000), .sl none 4 (List.flatMap e106 x489001), .sl none 4 (List.flatMap e103 x489002)]), (1, .vir [.sl (some 0) 1 (List.flatMap eB x5)]), (2, .vir [.sl (some 0) 1 (List.flatMap eI x6)])]⟩ ∧ q ≤ kq1 ∧ impl_NodesUnder.l1 q x5 x6 x7 x38 x39 x40 x489000 x489001 x489002 = some r) := ⟨⟩
    apply late
    · intro lp1
      apply BZnam.out
      exact BZnam.go
    · intro q2 X hJ ih1
      clear H
      obtain ⟨x5, x6, x7, x38, x39, x40, x489000, x489001, x489002, rfl, hq, H⟩ := hJ
      cases q2 with
      | zero => (simp only [impl_NodesUnder.l1] at H; cases H)
      | succ kq2 =>
       simp only [impl_NodesUnder.l1] at H
       apply BZnam.out
       exact BZnam.go
set_option maxHeartbeats 8000000 in
theorem impl_isProcess.link {l0_0 : List (S77)} {l0_1 : List (S106)} {l0_2 : List (S103)} {a1 : Int} {r : Bool} (H : impl_isProcess.f l0_0 l0_1 l0_2 a1 = some r) : ACalls Try.prog 99 [.dat true [.sl none 6 (List.flatMap e77 l0_0), .sl none 4 (List.flatMap e106 l0_1), .sl none 4 (List.flatMap e103 l0_2)], .dat false [.sc (.int .i64 a1)]] [(false, [.sc (.bool r)])] [.dat true [.sl none 6 (List.flatMap e77 l0_0), .sl none 4 (List.flatMap e106 l0_1), .sl none 4 (List.flatMap e103 l0_2)], .dat false [.sc (.int .i64 a1)]] := by
 refine ACalls.en Try.func99 Try.ntmps99 .go .go .go .go ?_
 intro C F hC hP hF hn (hx : C.fx = [])
 have kp : KL [0, 1, 2, 4] := ⟨⟩
 have kr : KR #[.tmp 4] := ⟨⟩
 have c0 := Hold.mk @impl_within.link
 simp only [impl_isProcess.f] at H
 apply BZ.out
 exact BZ.go
set_option maxHeartbeats 8000000 in
theorem impl_CallsOf_1.link {a0 : Int} {p0 : List S77} {p1 : List S106} {p2 : List S103} {m0 : ByteArray} {m1 : List ByteArray} {m2 : List ByteArray} {m3 : List S131} {r : Bool} (H : impl_CallsOf_1.f a0 p0 p1 p2 m0 m1 m2 m3 = some r) : ACalls Try.prog 100 [.dat false [.sc (.int .i64 a0)], .ptr (.ro [.sl none 6 (List.flatMap e77 p0), .sl none 4 (List.flatMap e106 p1), .sl none 4 (List.flatMap e103 p2)]), .ptr (.ro [.sc (.string m0), .sl none 1 (List.flatMap eS m1), .sl none 1 (List.flatMap eS m2), .sl none 3 (List.flatMap e131 m3)])] [(false, [.sc (.bool r)])] [.dat false [.sc (.int .i64 a0)], .ptr (.ro [.sl none 6 (List.flatMap e77 p0), .sl none 4 (List.flatMap e106 p1), .sl none 4 (List.flatMap e103 p2)]), .ptr (.ro [.sc (.string m0), .sl none 1 (List.flatMap eS m1), .sl none 1 (List.flatMap eS m2), .sl none 3 (List.flatMap e131 m3)])] := by
 refine ACalls.en Try.func100 Try.ntmps100 .go .go .go .go ?_
 intro C F hC hP hF hn (hx : C.fx = [])
 have kp : KL [0, 1, 2, 4] := ⟨⟩
 have kr : KR #[.tmp 4] := ⟨⟩
 simp only [impl_CallsOf_1.f] at H
 apply BZn.out
 exact BZn.go
end Go.Proofs.Ytmbkcbgbienjoaa.PFnExactShared
