/- Functions' walks: each computes what its plain form says. No condition. -/
import Derived.Test.YtjjhknklnclokaaLkFnExactValueAth
import Derived.Test.YtjjhknklnclokaaLkFnExactValueAtd
open Go Go.Proofs Go.Proofs.Ytjjhknklnclokaa.Abs
namespace Go.Proofs.Ytjjhknklnclokaa.PFnExactValueAt
open Go.RowKit Go.Proofs.YtjjhknklnclokaaW.PrintWords Go.Proofs.YtjjhknklnclokaaW.PrintLast Go.Proofs.YtjjhknklnclokaaW.PrintMore
set_option linter.unusedVariables false
set_option linter.unusedSimpArgs false
set_option maxRecDepth 100000
attribute [local irreducible] evK evQ evM evF evW evH goE goK goKD goQ goQD goD Ok ACalls
set_option maxHeartbeats 8000000 in
theorem impl_kidsOk.link {k : Nat} {l0_0 : List (S57)} {l0_1 : List (S86)} {l0_2 : List (S88)} {a1_0 : Int} {a1_1 : Int} {a1_2 : ByteArray} {a1_3 : ByteArray} {a1_4 : ByteArray} {l1_5 : List Int} {r : Bool} (H : impl_kidsOk.f k l0_0 l0_1 l0_2 a1_0 a1_1 a1_2 a1_3 a1_4 l1_5 = some r) : ACalls Try.prog 79 [.dat true [.sl none 6 (List.flatMap e57 l0_0), .sl none 4 (List.flatMap e86 l0_1), .sl none 4 (List.flatMap e88 l0_2)], .dat true [.sc (.int .i64 a1_0), .sc (.int .i64 a1_1), .sc (.string a1_2), .sc (.string a1_3), .sc (.string a1_4), .sl none 1 (List.flatMap eI l1_5)]] [(false, [.sc (.bool r)])] [.dat true [.sl none 6 (List.flatMap e57 l0_0), .sl none 4 (List.flatMap e86 l0_1), .sl none 4 (List.flatMap e88 l0_2)], .dat true [.sc (.int .i64 a1_0), .sc (.int .i64 a1_1), .sc (.string a1_2), .sc (.string a1_3), .sc (.string a1_4), .sl none 1 (List.flatMap eI l1_5)]] := by
 refine ACalls.en Try.func79 Try.ntmps79 .go .go .go .go ?_
 intro C F hC hP hF hn (hx : C.fx = [])
 have kp : KL [0, 1, 2, 3, 4, 5, 6, 8, 9, 10, 12, 13, 15, 21, 29, 30, 32, 35, 36, 37, 38, 44, 56, 58, 59, 60, 61, 84] := ⟨⟩
 have kr : KR #[.tmp 4] := ⟨⟩
 have c0 := Hold.mk @impl_within.link
 have c1 := Hold.mk @impl_isValue.link
 have c2 := Hold.mk @impl_isStatement.link
 have c3 := Hold.mk @impl_isBlock.link
 simp only [impl_kidsOk.f] at H
 replace H := Hold.mk H
 have m0 : LM 0 0 [2, 3, 5, 6] (fun X => ∃ x5, ∃ x6, ∃ x430000, ∃ x430001, ∃ x430002, ∃ x431000, ∃ x431001, ∃ x431002, ∃ x431003, ∃ x431004, ∃ x431005, ∃ q, X = ⟨[(2, .pl 0 none 0), (3, .pl 1 none 0), (5, .dat false [.sc (.int .i64 x5)]), (6, .dat false [.sc (.int .i64 x6)])], [(0, .mem [.sl none 6 (List.flatMap e57 x430000), .sl none 4 (List.flatMap e86 x430001), .sl none 4 (List.flatMap e88 x430002)]), (1, .mem [.sc (.int .i64 x431000), .sc (.int .i64 x431001), .sc (.string x431002), .sc (.string x431003), .sc (.string x431004), .sl none 1 (List.flatMap eI x431005)])]⟩ ∧ q ≤ k ∧ impl_kidsOk.j2 q x5 x6 x430000 x430001 x430002 x431000 x431001 x431002 x431003 x431004 x431005 = some r) := ⟨⟩
 apply late
 · intro pa0
   apply late
   · intro pb0
     apply BZc.out
     exact BZc.go
   · clear H
     intro X hJ
     obtain ⟨x5, x6, x430000, x430001, x430002, x431000, x431001, x431002, x431003, x431004, x431005, q1, rfl, hq, H⟩ := hJ
     cases q1 with
     | zero => (simp only [impl_kidsOk.j2] at H; cases H)
     | succ kq1 =>
      simp only [impl_kidsOk.j2] at H
      have w0 : LJ [2, 5, 58, 59, 60] (fun q X => ∃ x5, ∃ x58, ∃ x59, ∃ x60, ∃ x430000, ∃ x430001, ∃ x430002, X = ⟨[(2, .pl 0 none 0), (5, .dat false [.sc (.int .i64 x5)]), (58, .dat false [.sl none 1 (List.flatMap eI x58)]), (59, .dat false [.sc (.int .i64 x59)]), (60, .dat false [.sc (.int .i64 x60)])], [(0, .mem [.sl none 6 (List.flatMap e57 x430000), .sl none 4 (List.flatMap e86 x430001), .sl none 4 (List.flatMap e88 x430002)])]⟩ ∧ q ≤ kq1 ∧ impl_kidsOk.l1 q x5 x58 x59 x60 x430000 x430001 x430002 = some r) := ⟨⟩
      apply late
      · intro lp0
        apply BZ.out
        exact BZ.go
      · intro q2 X hJ ih0
        clear H
        obtain ⟨x5, x58, x59, x60, x430000, x430001, x430002, rfl, hq, H⟩ := hJ
        cases q2 with
        | zero => (simp only [impl_kidsOk.l1] at H; cases H)
        | succ kq2 =>
         simp only [impl_kidsOk.l1] at H
         apply BZn.out
         exact BZn.go
 · intro hj0
   obtain ⟨H, H0⟩ | ⟨H, H0⟩ := sIteU H.out
   · (try simp only [List.length_append, List.length_cons, List.length_nil, Nat.zero_add, beq_dec, bne_dec, Bool.or_eq_true, Bool.and_eq_true, Bool.not_eq_true', decide_eq_true_eq, decide_eq_false_iff_not, ite_or', ite_and', ite_not', ge_iff_le, gt_iff_lt] at H)
     repeat' first
      | (with_reducible replace H := sBindA H (by assumption))
      | (with_reducible replace H := sBindS H)
      | (with_reducible replace H := sBind H); obtain ⟨t, hA, H⟩ := H
      | (with_reducible replace H := sBool H); obtain ⟨c, H⟩ | ⟨c, H⟩ := H
      | (with_reducible replace H := sEq H); obtain ⟨c, c', H⟩ | ⟨c, c', H⟩ := H
      | (with_reducible replace H := sEqL H); obtain ⟨c, H⟩ | ⟨c, H⟩ := H
      | (with_reducible replace H := sIte H); obtain ⟨c, H⟩ | ⟨c, H⟩ := H
      | (with_reducible replace H := sAnd H); obtain ⟨c, H⟩ | ⟨c, H⟩ := H
      | (with_reducible replace H := sOr H); obtain ⟨c, H⟩ | ⟨c, H⟩ := H
     all_goals cases H
     all_goals (replace H0 := Hold.mk H0; have H := H0; clear H0)
     all_goals (
      replace H := H.out
      apply BZ.out
      exact BZ.go)
   · (try simp only [List.length_append, List.length_cons, List.length_nil, Nat.zero_add, beq_dec, bne_dec, Bool.or_eq_true, Bool.and_eq_true, Bool.not_eq_true', decide_eq_true_eq, decide_eq_false_iff_not, ite_or', ite_and', ite_not', ge_iff_le, gt_iff_lt] at H)
     repeat' first
      | (with_reducible replace H := sBindA H (by assumption))
      | (with_reducible replace H := sBindS H)
      | (with_reducible replace H := sBind H); obtain ⟨t, hA, H⟩ := H
      | (with_reducible replace H := sBool H); obtain ⟨c, H⟩ | ⟨c, H⟩ := H
      | (with_reducible replace H := sEq H); obtain ⟨c, c', H⟩ | ⟨c, c', H⟩ := H
      | (with_reducible replace H := sEqL H); obtain ⟨c, H⟩ | ⟨c, H⟩ := H
      | (with_reducible replace H := sIte H); obtain ⟨c, H⟩ | ⟨c, H⟩ := H
      | (with_reducible replace H := sAnd H); obtain ⟨c, H⟩ | ⟨c, H⟩ := H
      | (with_reducible replace H := sOr H); obtain ⟨c, H⟩ | ⟨c, H⟩ := H
     all_goals cases H
     all_goals (replace H0 := Hold.mk H0; have H := H0; clear H0)
     all_goals (
      have m1 : LM 1 15 [2, 3, 5, 6, 12, 15] (fun X => ∃ x5, ∃ x6, ∃ x12, ∃ x15, ∃ x430000, ∃ x430001, ∃ x430002, ∃ x431000, ∃ x431001, ∃ x431002, ∃ x431003, ∃ x431004, ∃ x431005, ∃ q, X = ⟨[(2, .pl 0 none 0), (3, .pl 1 none 0), (5, .dat false [.sc (.int .i64 x5)]), (6, .dat false [.sc (.int .i64 x6)]), (12, .dat false [.sc (.int .i64 x12)]), (15, .dat false [.sc (.bool x15)])], [(0, .mem [.sl none 6 (List.flatMap e57 x430000), .sl none 4 (List.flatMap e86 x430001), .sl none 4 (List.flatMap e88 x430002)]), (1, .mem [.sc (.int .i64 x431000), .sc (.int .i64 x431001), .sc (.string x431002), .sc (.string x431003), .sc (.string x431004), .sl none 1 (List.flatMap eI x431005)])]⟩ ∧ q ≤ k ∧ impl_kidsOk.j0 q x5 x6 x12 x15 x430000 x430001 x430002 x431000 x431001 x431002 x431003 x431004 x431005 = some r) := ⟨⟩
      apply late
      · intro pa1
        apply late
        · intro pb1
          apply BZc.out
          exact BZc.go
        · clear H
          intro X hJ
          obtain ⟨x5, x6, x12, x15, x430000, x430001, x430002, x431000, x431001, x431002, x431003, x431004, x431005, q3, rfl, hq, H⟩ := hJ
          cases q3 with
          | zero => (simp only [impl_kidsOk.j0] at H; cases H)
          | succ kq3 =>
           simp only [impl_kidsOk.j0] at H
           have w0 : LJ [2, 3, 35, 36, 37] (fun q X => ∃ x35, ∃ x36, ∃ x37, ∃ x430000, ∃ x430001, ∃ x430002, ∃ x431000, ∃ x431001, ∃ x431002, ∃ x431003, ∃ x431004, ∃ x431005, X = ⟨[(2, .pl 0 none 0), (3, .pl 1 none 0), (35, .dat false [.sl none 1 (List.flatMap eI x35)]), (36, .dat false [.sc (.int .i64 x36)]), (37, .dat false [.sc (.int .i64 x37)])], [(0, .mem [.sl none 6 (List.flatMap e57 x430000), .sl none 4 (List.flatMap e86 x430001), .sl none 4 (List.flatMap e88 x430002)]), (1, .mem [.sc (.int .i64 x431000), .sc (.int .i64 x431001), .sc (.string x431002), .sc (.string x431003), .sc (.string x431004), .sl none 1 (List.flatMap eI x431005)])]⟩ ∧ q ≤ kq3 ∧ impl_kidsOk.l0 q x35 x36 x37 x430000 x430001 x430002 x431000 x431001 x431002 x431003 x431004 x431005 = some r) := ⟨⟩
           apply late
           · intro lp0
             apply BZ.out
             exact BZ.go
           · intro q4 X hJ ih0
             clear H
             obtain ⟨x35, x36, x37, x430000, x430001, x430002, x431000, x431001, x431002, x431003, x431004, x431005, rfl, hq, H⟩ := hJ
             cases q4 with
             | zero => (simp only [impl_kidsOk.l0] at H; cases H)
             | succ kq4 =>
              simp only [impl_kidsOk.l0] at H
              apply BZn.out
              exact BZn.go
      · intro hj1
        replace H := H.out
        apply BZ.out
        exact BZ.go)
set_option maxHeartbeats 8000000 in
theorem impl_letter.link {a0 : Int} {r : Bool} (H : impl_letter.f a0 = some r) : ACalls Try.prog 91 [.dat false [.sc (.int .u8 a0)]] [(false, [.sc (.bool r)])] [.dat false [.sc (.int .u8 a0)]] := by
 refine ACalls.en Try.func91 Try.ntmps91 .go .go .go .go ?_
 intro C F hC hP hF hn (hx : C.fx = [])
 have kp : KL [0, 2] := ⟨⟩
 have kr : KR #[.tmp 2] := ⟨⟩
 simp only [impl_letter.f] at H
 apply BZ.out
 exact BZ.go
set_option maxHeartbeats 8000000 in
theorem slices_Index_string_string.link {k : Nat} {l0 : List ByteArray} {a1 : ByteArray} {r : Int} (H : slices_Index_string_string.f k l0 a1 = some r) : ACalls Try.prog 73 [.dat false [.sl none 1 (List.flatMap eS l0)], .dat false [.sc (.string a1)]] [(false, [.sc (.int .i64 r)])] [.dat false [.sl none 1 (List.flatMap eS l0)], .dat false [.sc (.string a1)]] := by
 refine ACalls.en Try.func73 Try.ntmps73 .go .go .go .go ?_
 intro C F hC hP hF hn (hx : C.fx = [])
 have kp : KL [0, 1, 4, 5, 7, 8, 9, 16] := ⟨⟩
 have kr : KR #[.tmp 4] := ⟨⟩
 simp only [slices_Index_string_string.f] at H
 have w0 : LJ [0, 1, 7, 8] (fun q X => ∃ x0, ∃ x1, ∃ x7, ∃ x8, X = ⟨[(0, .dat false [.sl none 1 (List.flatMap eS x0)]), (1, .dat false [.sc (.string x1)]), (7, .dat false [.sc (.int .i64 x7)]), (8, .dat false [.sc (.int .i64 x8)])], []⟩ ∧ q ≤ k ∧ slices_Index_string_string.l0 q x0 x1 x7 x8 = some r) := ⟨⟩
 apply late
 · intro lp0
   apply BZ.out
   exact BZ.go
 · intro q1 X hJ ih0
   clear H
   obtain ⟨x0, x1, x7, x8, rfl, hq, H⟩ := hJ
   cases q1 with
   | zero => (simp only [slices_Index_string_string.l0] at H; cases H)
   | succ kq1 =>
    simp only [slices_Index_string_string.l0] at H
    apply BZn.out
    exact BZn.go
set_option maxHeartbeats 8000000 in
theorem slices_Contains_string_string.link {k : Nat} {l0 : List ByteArray} {a1 : ByteArray} {r : Bool} (H : slices_Contains_string_string.f k l0 a1 = some r) : ACalls Try.prog 93 [.dat false [.sl none 1 (List.flatMap eS l0)], .dat false [.sc (.string a1)]] [(false, [.sc (.bool r)])] [.dat false [.sl none 1 (List.flatMap eS l0)], .dat false [.sc (.string a1)]] := by
 refine ACalls.en Try.func93 Try.ntmps93 .go .go .go .go ?_
 intro C F hC hP hF hn (hx : C.fx = [])
 have kp : KL [0, 1, 4] := ⟨⟩
 have kr : KR #[.tmp 4] := ⟨⟩
 have c0 := Hold.mk @slices_Index_string_string.link
 simp only [slices_Contains_string_string.f] at H
 apply BZ.out
 exact BZ.go
attribute [local go_sem] inLine Option.map_some in
set_option maxHeartbeats 8000000 in
theorem impl_KeyWord.link {k : Nat} {a0 : ByteArray} {r : Bool} (H : impl_KeyWord.f k a0 = some r) : ACalls Try.prog 92 [.dat false [.sc (.string a0)]] [(false, [.sc (.bool r)])] [.dat false [.sc (.string a0)]] := by
 refine ACalls.en Try.func92 Try.ntmps92 .go .go .go .go ?_
 intro C F hC hP hF hn (hx : C.fx = [])
 have kp : KL [0, 2, 3] := ⟨⟩
 have kr : KR #[.tmp 2] := ⟨⟩
 have c0 := Hold.mk @slices_Contains_string_string.link
 simp only [impl_KeyWord.f] at H
 apply BZ.out
 exact BZ.go
set_option maxHeartbeats 8000000 in
theorem impl_run_impl_letter.link {k : Nat} {a0 : ByteArray} {a1 : Int} {r : Int} (H : impl_run_impl_letter.f k a0 a1 = some r) : ACalls Try.prog 90 [.dat false [.sc (.string a0)], .dat false [.sc (.int .i64 a1)], .clo 91 []] [(false, [.sc (.int .i64 r)])] [.dat false [.sc (.string a0)], .dat false [.sc (.int .i64 a1)], .clo 91 []] := by
 refine ACalls.en Try.func90 Try.ntmps90 .go .go .go .go ?_
 intro C F hC hP hF hn (hx : C.fx = [2])
 have kp : KL [0, 1, 2, 6, 17] := ⟨⟩
 have kr : KR #[.tmp 6] := ⟨⟩
 have c0 := Hold.mk @impl_letter.link
 simp only [impl_run_impl_letter.f] at H
 have w0 : LJ [0, 1, 2] (fun q X => ∃ x0, ∃ x1, X = ⟨[(0, .dat false [.sc (.string x0)]), (1, .dat false [.sc (.int .i64 x1)]), (2, .clo 91 [])], []⟩ ∧ q ≤ k ∧ impl_run_impl_letter.l0 q x0 x1 = some r) := ⟨⟩
 apply late
 · intro lp0
   apply BZ.out
   exact BZ.go
 · intro q1 X hJ ih0
   clear H
   obtain ⟨x0, x1, rfl, hq, H⟩ := hJ
   cases q1 with
   | zero => (simp only [impl_run_impl_letter.l0] at H; cases H)
   | succ kq1 =>
    simp only [impl_run_impl_letter.l0] at H
    apply BZn.out
    exact BZn.go
set_option maxHeartbeats 8000000 in
theorem impl_NameOk.link {k : Nat} {a0 : ByteArray} {r : Bool} (H : impl_NameOk.f k a0 = some r) : ACalls Try.prog 88 [.dat false [.sc (.string a0)]] [(false, [.sc (.bool r)])] [.dat false [.sc (.string a0)]] := by
 refine ACalls.en Try.func88 Try.ntmps88 .go .go .go .go ?_
 intro C F hC hP hF hn (hx : C.fx = [])
 have kp : KL [0, 2] := ⟨⟩
 have kr : KR #[.tmp 2] := ⟨⟩
 have c0 := Hold.mk @impl_within.link
 have c1 := Hold.mk @impl_KeyWord.link
 have c2 := Hold.mk @impl_run_impl_letter.link
 simp only [impl_NameOk.f] at H
 apply BZ.out
 exact BZ.go
end Go.Proofs.Ytjjhknklnclokaa.PFnExactValueAt
