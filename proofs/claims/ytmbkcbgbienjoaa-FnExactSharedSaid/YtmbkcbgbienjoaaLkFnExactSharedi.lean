/- Functions' walks: each computes what its plain form says. No condition. -/
import Derived.Test.YtmbkcbgbienjoaaLkFnExactSharedh
import Derived.Test.YtmbkcbgbienjoaaLkFnExactSharedg
open Go Go.Proofs Go.Proofs.Ytmbkcbgbienjoaa.Abs
namespace Go.Proofs.Ytmbkcbgbienjoaa.PFnExactShared
open Go.RowKit Go.Proofs.YtmbkcbgbienjoaaW.PrintWords Go.Proofs.YtmbkcbgbienjoaaW.PrintLast Go.Proofs.YtmbkcbgbienjoaaW.PrintMore
set_option linter.unusedVariables false
set_option linter.unusedSimpArgs false
set_option maxRecDepth 100000
attribute [local irreducible] evK evQ evM evF evW evH goE goK goKD goQ goQD goD Ok ACalls
set_option maxHeartbeats 8000000 in
theorem impl_isBlock.link {l0_0 : List (S77)} {l0_1 : List (S106)} {l0_2 : List (S103)} {a1 : Int} {r : Bool} (H : impl_isBlock.f l0_0 l0_1 l0_2 a1 = some r) : ACalls Try.prog 96 [.dat true [.sl none 6 (List.flatMap e77 l0_0), .sl none 4 (List.flatMap e106 l0_1), .sl none 4 (List.flatMap e103 l0_2)], .dat false [.sc (.int .i64 a1)]] [(false, [.sc (.bool r)])] [.dat true [.sl none 6 (List.flatMap e77 l0_0), .sl none 4 (List.flatMap e106 l0_1), .sl none 4 (List.flatMap e103 l0_2)], .dat false [.sc (.int .i64 a1)]] := by
 refine ACalls.en Try.func96 Try.ntmps96 .go .go .go .go ?_
 intro C F hC hP hF hn (hx : C.fx = [])
 have kp : KL [0, 1, 2, 4] := ⟨⟩
 have kr : KR #[.tmp 4] := ⟨⟩
 have c0 := Hold.mk @impl_isNode.link
 simp only [impl_isBlock.f] at H
 apply BZn.out
 exact BZn.go
set_option maxHeartbeats 8000000 in
theorem impl_isValue.link {l0_0 : List (S77)} {l0_1 : List (S106)} {l0_2 : List (S103)} {a1 : Int} {r : Bool} (H : impl_isValue.f l0_0 l0_1 l0_2 a1 = some r) : ACalls Try.prog 102 [.dat true [.sl none 6 (List.flatMap e77 l0_0), .sl none 4 (List.flatMap e106 l0_1), .sl none 4 (List.flatMap e103 l0_2)], .dat false [.sc (.int .i64 a1)]] [(false, [.sc (.bool r)])] [.dat true [.sl none 6 (List.flatMap e77 l0_0), .sl none 4 (List.flatMap e106 l0_1), .sl none 4 (List.flatMap e103 l0_2)], .dat false [.sc (.int .i64 a1)]] := by
 refine ACalls.en Try.func102 Try.ntmps102 .go .go .go .go ?_
 intro C F hC hP hF hn (hx : C.fx = [])
 have kp : KL [0, 1, 2, 4] := ⟨⟩
 have kr : KR #[.tmp 4] := ⟨⟩
 have c0 := Hold.mk @impl_within.link
 have c1 := Hold.mk @impl_isNode.link
 simp only [impl_isValue.f] at H
 apply BZn.out
 exact BZn.go
set_option maxHeartbeats 8000000 in
theorem impl_isStatement.link {l0_0 : List (S77)} {l0_1 : List (S106)} {l0_2 : List (S103)} {a1 : Int} {r : Bool} (H : impl_isStatement.f l0_0 l0_1 l0_2 a1 = some r) : ACalls Try.prog 128 [.dat true [.sl none 6 (List.flatMap e77 l0_0), .sl none 4 (List.flatMap e106 l0_1), .sl none 4 (List.flatMap e103 l0_2)], .dat false [.sc (.int .i64 a1)]] [(false, [.sc (.bool r)])] [.dat true [.sl none 6 (List.flatMap e77 l0_0), .sl none 4 (List.flatMap e106 l0_1), .sl none 4 (List.flatMap e103 l0_2)], .dat false [.sc (.int .i64 a1)]] := by
 refine ACalls.en Try.func128 Try.ntmps128 .go .go .go .go ?_
 intro C F hC hP hF hn (hx : C.fx = [])
 have kp : KL [0, 1, 2, 4] := ⟨⟩
 have kr : KR #[.tmp 4] := ⟨⟩
 have c0 := Hold.mk @impl_within.link
 have c1 := Hold.mk @impl_isNode.link
 simp only [impl_isStatement.f] at H
 apply BZn.out
 exact BZn.go
set_option maxHeartbeats 8000000 in
theorem impl_kidsOk.link {k : Nat} {l0_0 : List (S77)} {l0_1 : List (S106)} {l0_2 : List (S103)} {a1_0 : Int} {a1_1 : Int} {a1_2 : ByteArray} {a1_3 : ByteArray} {a1_4 : ByteArray} {l1_5 : List Int} {r : Bool} (H : impl_kidsOk.f k l0_0 l0_1 l0_2 a1_0 a1_1 a1_2 a1_3 a1_4 l1_5 = some r) : ACalls Try.prog 81 [.dat true [.sl none 6 (List.flatMap e77 l0_0), .sl none 4 (List.flatMap e106 l0_1), .sl none 4 (List.flatMap e103 l0_2)], .dat true [.sc (.int .i64 a1_0), .sc (.int .i64 a1_1), .sc (.string a1_2), .sc (.string a1_3), .sc (.string a1_4), .sl none 1 (List.flatMap eI l1_5)]] [(false, [.sc (.bool r)])] [.dat true [.sl none 6 (List.flatMap e77 l0_0), .sl none 4 (List.flatMap e106 l0_1), .sl none 4 (List.flatMap e103 l0_2)], .dat true [.sc (.int .i64 a1_0), .sc (.int .i64 a1_1), .sc (.string a1_2), .sc (.string a1_3), .sc (.string a1_4), .sl none 1 (List.flatMap eI l1_5)]] := by
 refine ACalls.en Try.func81 Try.ntmps81 .go .go .go .go ?_
 intro C F hC hP hF hn (hx : C.fx = [])
 have kp : KL [0, 1, 2, 3, 4, 5, 6, 8, 9, 10, 12, 13, 15, 21, 29, 30, 32, 35, 36, 37, 38, 44, 56, 58, 59, 60, 61, 84] := ⟨⟩
 have kr : KR #[.tmp 4] := ⟨⟩
 have c0 := Hold.mk @impl_within.link
 have c1 := Hold.mk @impl_isBlock.link
 have c2 := Hold.mk @impl_isValue.link
 have c3 := Hold.mk @impl_isStatement.link
 simp only [impl_kidsOk.f] at H
 replace H := Hold.mk H
 have m0 : LM 0 0 [2, 3, 5, 6] (fun X => ∃ x5, ∃ x6, ∃ x415000, ∃ x415001, ∃ x415002, ∃ x416000, ∃ x416001, ∃ x416002, ∃ x416003, ∃ x416004, ∃ x416005, ∃ q, X = ⟨[(2, .pl 0 none 0), (3, .pl 1 none 0), (5, .dat false [.sc (.int .i64 x5)]), (6, .dat false [.sc (.int .i64 x6)])], [(0, .mem [.sl none 6 (List.flatMap e77 x415000), .sl none 4 (List.flatMap e106 x415001), .sl none 4 (List.flatMap e103 x415002)]), (1, .mem [.sc (.int .i64 x416000), .sc (.int .i64 x416001), .sc (.string x416002), .sc (.string x416003), .sc (.string x416004), .sl none 1 (List.flatMap eI x416005)])]⟩ ∧ q ≤ k ∧ impl_kidsOk.j2 q x5 x6 x415000 x415001 x415002 x416000 x416001 x416002 x416003 x416004 x416005 = some r) := ⟨⟩
 apply late
 · intro pa0
   apply late
   · intro pb0
     apply BZc.out
     exact BZc.go
   · clear H
     intro X hJ
     obtain ⟨x5, x6, x415000, x415001, x415002, x416000, x416001, x416002, x416003, x416004, x416005, q1, rfl, hq, H⟩ := hJ
     cases q1 with
     | zero => (simp only [impl_kidsOk.j2] at H; cases H)
     | succ kq1 =>
      simp only [impl_kidsOk.j2] at H
      have w0 : LJ [2, 5, 58, 59, 60] (fun q X => ∃ x5, ∃ x58, ∃ x59, ∃ x60, ∃ x415000, ∃ x415001, ∃ x415002, X = ⟨[(2, .pl 0 none 0), (5, .dat false [.sc (.int .i64 x5)]), (58, .dat false [.sl none 1 (List.flatMap eI x58)]), (59, .dat false [.sc (.int .i64 x59)]), (60, .dat false [.sc (.int .i64 x60)])], [(0, .mem [.sl none 6 (List.flatMap e77 x415000), .sl none 4 (List.flatMap e106 x415001), .sl none 4 (List.flatMap e103 x415002)])]⟩ ∧ q ≤ kq1 ∧ impl_kidsOk.l1 q x5 x58 x59 x60 x415000 x415001 x415002 = some r) := ⟨⟩
      apply late
      · intro lp0
        apply BZ.out
        exact BZ.go
      · intro q2 X hJ ih0
        clear H
        obtain ⟨x5, x58, x59, x60, x415000, x415001, x415002, rfl, hq, H⟩ := hJ
        cases q2 with
        | zero => (simp only [impl_kidsOk.l1] at H; cases H)
        | succ kq2 =>
         simp only [impl_kidsOk.l1] at H
         apply BZn.out
         exact BZn.go
 · intro hj0
   obtain ⟨H, H0⟩ | ⟨H, H0⟩ := sIteU H.out
   · (try simp only [List.length_append, List.length_cons, List.length_nil, Nat.zero_add, beq_dec, bne_dec, Bool.or_eq_true, Bool.and_eq_true, Bool.not_eq_true', decide_eq_true_eq, decide_eq_false_iff_not, ite_or', ite_and', ite_not', ge_iff_le, gt_iff_lt] at H)
     repeat' first
      | (with_reducible replace H := sBindA H (by assumption))
      | (with_reducible replace H := sBindS H)
      | (with_reducible replace H := sBind H); obtain ⟨t, hA, H⟩ := H
      | (with_reducible replace H := sBool H); obtain ⟨c, H⟩ | ⟨c, H⟩ := H
      | (with_reducible replace H := sEq H); obtain ⟨c, c', H⟩ | ⟨c, c', H⟩ := H
      | (with_reducible replace H := sEqL H); obtain ⟨c, H⟩ | ⟨c, H⟩ := H
      | (with_reducible replace H := sIte H); obtain ⟨c, H⟩ | ⟨c, H⟩ := H
      | (with_reducible replace H := sAnd H); obtain ⟨c, H⟩ | ⟨c, H⟩ := H
      | (with_reducible replace H := sOr H); obtain ⟨c, H⟩ | ⟨c, H⟩ := H
     all_goals cases H
     all_goals (replace H0 := Hold.mk H0; have H := H0; clear H0)
     all_goals (
      replace H := H.out
      apply BZ.out
      exact BZ.go)
   · (try simp only [List.length_append, List.length_cons, List.length_nil, Nat.zero_add, beq_dec, bne_dec, Bool.or_eq_true, Bool.and_eq_true, Bool.not_eq_true', decide_eq_true_eq, decide_eq_false_iff_not, ite_or', ite_and', ite_not', ge_iff_le, gt_iff_lt] at H)
     repeat' first
      | (with_reducible replace H := sBindA H (by assumption))
      | (with_reducible replace H := sBindS H)
      | (with_reducible replace H := sBind H); obtain ⟨t, hA, H⟩ := H
      | (with_reducible replace H := sBool H); obtain ⟨c, H⟩ | ⟨c, H⟩ := H
      | (with_reducible replace H := sEq H); obtain ⟨c, c', H⟩ | ⟨c, c', H⟩ := H
      | (with_reducible replace H := sEqL H); obtain ⟨c, H⟩ | ⟨c, H⟩ := H
      | (with_reducible replace H := sIte H); obtain ⟨c, H⟩ | ⟨c, H⟩ := H
      | (with_reducible replace H := sAnd H); obtain ⟨c, H⟩ | ⟨c, H⟩ := H
      | (with_reducible replace H := sOr H); obtain ⟨c, H⟩ | ⟨c, H⟩ := H
     all_goals cases H
     all_goals (replace H0 := Hold.mk H0; have H := H0; clear H0)
     all_goals (
      have m1 : LM 1 15 [2, 3, 5, 6, 12, 15] (fun X => ∃ x5, ∃ x6, ∃ x12, ∃ x15, ∃ x415000, ∃ x415001, ∃ x415002, ∃ x416000, ∃ x416001, ∃ x416002, ∃ x416003, ∃ x416004, ∃ x416005, ∃ q, X = ⟨[(2, .pl 0 none 0), (3, .pl 1 none 0), (5, .dat false [.sc (.int .i64 x5)]), (6, .dat false [.sc (.int .i64 x6)]), (12, .dat false [.sc (.int .i64 x12)]), (15, .dat false [.sc (.bool x15)])], [(0, .mem [.sl none 6 (List.flatMap e77 x415000), .sl none 4 (List.flatMap e106 x415001), .sl none 4 (List.flatMap e103 x415002)]), (1, .mem [.sc (.int .i64 x416000), .sc (.int .i64 x416001), .sc (.string x416002), .sc (.string x416003), .sc (.string x416004), .sl none 1 (List.flatMap eI x416005)])]⟩ ∧ q ≤ k ∧ impl_kidsOk.j0 q x5 x6 x12 x15 x415000 x415001 x415002 x416000 x416001 x416002 x416003 x416004 x416005 = some r) := ⟨⟩
      apply late
      · intro pa1
        apply late
        · intro pb1
          apply BZc.out
          exact BZc.go
        · clear H
          intro X hJ
          obtain ⟨x5, x6, x12, x15, x415000, x415001, x415002, x416000, x416001, x416002, x416003, x416004, x416005, q3, rfl, hq, H⟩ := hJ
          cases q3 with
          | zero => (simp only [impl_kidsOk.j0] at H; cases H)
          | succ kq3 =>
           simp only [impl_kidsOk.j0] at H
           have w0 : LJ [2, 3, 35, 36, 37] (fun q X => ∃ x35, ∃ x36, ∃ x37, ∃ x415000, ∃ x415001, ∃ x415002, ∃ x416000, ∃ x416001, ∃ x416002, ∃ x416003, ∃ x416004, ∃ x416005, X = ⟨[(2, .pl 0 none 0), (3, .pl 1 none 0), (35, .dat false [.sl none 1 (List.flatMap eI x35)]), (36, .dat false [.sc (.int .i64 x36)]), (37, .dat false [.sc (.int .i64 x37)])], [(0, .mem [.sl none 6 (List.flatMap e77 x415000), .sl none 4 (List.flatMap e106 x415001), .sl none 4 (List.flatMap e103 x415002)]), (1, .mem [.sc (.int .i64 x416000), .sc (.int .i64 x416001), .sc (.string x416002), .sc (.string x416003), .sc (.string x416004), .sl none 1 (List.flatMap eI x416005)])]⟩ ∧ q ≤ kq3 ∧ impl_kidsOk.l0 q x35 x36 x37 x415000 x415001 x415002 x416000 x416001 x416002 x416003 x416004 x416005 = some r) := ⟨⟩
           apply late
           · intro lp0
             apply BZ.out
             exact BZ.go
           · intro q4 X hJ ih0
             clear H
             obtain ⟨x35, x36, x37, x415000, x415001, x415002, x416000, x416001, x416002, x416003, x416004, x416005, rfl, hq, H⟩ := hJ
             cases q4 with
             | zero => (simp only [impl_kidsOk.l0] at H; cases H)
             | succ kq4 =>
              simp only [impl_kidsOk.l0] at H
              apply BZn.out
              exact BZn.go
      · intro hj1
        replace H := H.out
        apply BZ.out
        exact BZ.go)
set_option maxHeartbeats 8000000 in
theorem impl_letter.link {a0 : Int} {r : Bool} (H : impl_letter.f a0 = some r) : ACalls Try.prog 132 [.dat false [.sc (.int .u8 a0)]] [(false, [.sc (.bool r)])] [.dat false [.sc (.int .u8 a0)]] := by
 refine ACalls.en Try.func132 Try.ntmps132 .go .go .go .go ?_
 intro C F hC hP hF hn (hx : C.fx = [])
 have kp : KL [0, 2] := ⟨⟩
 have kr : KR #[.tmp 2] := ⟨⟩
 simp only [impl_letter.f] at H
 apply BZ.out
 exact BZ.go
set_option maxHeartbeats 8000000 in
theorem slices_Index_string_string.link {k : Nat} {l0 : List ByteArray} {a1 : ByteArray} {r : Int} (H : slices_Index_string_string.f k l0 a1 = some r) : ACalls Try.prog 144 [.dat false [.sl none 1 (List.flatMap eS l0)], .dat false [.sc (.string a1)]] [(false, [.sc (.int .i64 r)])] [.dat false [.sl none 1 (List.flatMap eS l0)], .dat false [.sc (.string a1)]] := by
 refine ACalls.en Try.func144 Try.ntmps144 .go .go .go .go ?_
 intro C F hC hP hF hn (hx : C.fx = [])
 have kp : KL [0, 1, 4, 5, 7, 8, 9, 16] := ⟨⟩
 have kr : KR #[.tmp 4] := ⟨⟩
 simp only [slices_Index_string_string.f] at H
 have w0 : LJ [0, 1, 7, 8] (fun q X => ∃ x0, ∃ x1, ∃ x7, ∃ x8, X = ⟨[(0, .dat false [.sl none 1 (List.flatMap eS x0)]), (1, .dat false [.sc (.string x1)]), (7, .dat false [.sc (.int .i64 x7)]), (8, .dat false [.sc (.int .i64 x8)])], []⟩ ∧ q ≤ k ∧ slices_Index_string_string.l0 q x0 x1 x7 x8 = some r) := ⟨⟩
 apply late
 · intro lp0
   apply BZ.out
   exact BZ.go
 · intro q1 X hJ ih0
   clear H
   obtain ⟨x0, x1, x7, x8, rfl, hq, H⟩ := hJ
   cases q1 with
   | zero => (simp only [slices_Index_string_string.l0] at H; cases H)
   | succ kq1 =>
    simp only [slices_Index_string_string.l0] at H
    apply BZn.out
    exact BZn.go
set_option maxHeartbeats 8000000 in
theorem slices_Contains_string_string.link {k : Nat} {l0 : List ByteArray} {a1 : ByteArray} {r : Bool} (H : slices_Contains_string_string.f k l0 a1 = some r) : ACalls Try.prog 120 [.dat false [.sl none 1 (List.flatMap eS l0)], .dat false [.sc (.string a1)]] [(false, [.sc (.bool r)])] [.dat false [.sl none 1 (List.flatMap eS l0)], .dat false [.sc (.string a1)]] := by
 refine ACalls.en Try.func120 Try.ntmps120 .go .go .go .go ?_
 intro C F hC hP hF hn (hx : C.fx = [])
 have kp : KL [0, 1, 4] := ⟨⟩
 have kr : KR #[.tmp 4] := ⟨⟩
 have c0 := Hold.mk @slices_Index_string_string.link
 simp only [slices_Contains_string_string.f] at H
 apply BZ.out
 exact BZ.go
end Go.Proofs.Ytmbkcbgbienjoaa.PFnExactShared
