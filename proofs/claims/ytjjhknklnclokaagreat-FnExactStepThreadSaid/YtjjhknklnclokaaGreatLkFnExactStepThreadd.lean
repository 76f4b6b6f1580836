/- Functions' walks: each computes what its plain form says. No condition. -/
import Derived.Test.YtjjhknklnclokaaGreatLkFnExactStepThreadh
import Derived.Test.YtjjhknklnclokaaGreatLkFnExactStepThreadc
open Go Go.Proofs Go.Proofs.YtjjhknklnclokaaGreat.Abs
namespace Go.Proofs.YtjjhknklnclokaaGreat.PFnExactStepThread
open Go.RowKit Go.Proofs.YtjjhknklnclokaaGreatW.PrintWords Go.Proofs.YtjjhknklnclokaaGreatW.PrintLast Go.Proofs.YtjjhknklnclokaaGreatW.PrintMore
set_option linter.unusedVariables false
set_option linter.unusedSimpArgs false
set_option maxRecDepth 100000
attribute [local irreducible] evK evQ evM evF evW evH goE goK goKD goQ goQD goD Ok ACalls
set_option maxHeartbeats 8000000 in
theorem impl_isBlock.link {l0_0 : List (S71)} {l0_1 : List (S111)} {l0_2 : List (S115)} {a1 : Int} {r : Bool} (H : impl_isBlock.f l0_0 l0_1 l0_2 a1 = some r) : ACalls Tryz.prog 92 [.dat true [.sl none 6 (List.flatMap e71 l0_0), .sl none 4 (List.flatMap e111 l0_1), .sl none 4 (List.flatMap e115 l0_2)], .dat false [.sc (.int .i64 a1)]] [(false, [.sc (.bool r)])] [.dat true [.sl none 6 (List.flatMap e71 l0_0), .sl none 4 (List.flatMap e111 l0_1), .sl none 4 (List.flatMap e115 l0_2)], .dat false [.sc (.int .i64 a1)]] := by
 refine ACalls.en Tryz.func92 Tryz.ntmps92 .go .go .go .go ?_
 intro C F hC hP hF hn (hx : C.fx = [])
 have kp : KL [0, 1, 2, 4] := ⟨⟩
 have kr : KR #[.tmp 4] := ⟨⟩
 have c0 := Hold.mk @impl_isNode.link
 simp only [impl_isBlock.f] at H
 apply BZn.out
 exact BZn.go
set_option maxHeartbeats 8000000 in
theorem impl_isStatement.link {l0_0 : List (S71)} {l0_1 : List (S111)} {l0_2 : List (S115)} {a1 : Int} {r : Bool} (H : impl_isStatement.f l0_0 l0_1 l0_2 a1 = some r) : ACalls Tryz.prog 160 [.dat true [.sl none 6 (List.flatMap e71 l0_0), .sl none 4 (List.flatMap e111 l0_1), .sl none 4 (List.flatMap e115 l0_2)], .dat false [.sc (.int .i64 a1)]] [(false, [.sc (.bool r)])] [.dat true [.sl none 6 (List.flatMap e71 l0_0), .sl none 4 (List.flatMap e111 l0_1), .sl none 4 (List.flatMap e115 l0_2)], .dat false [.sc (.int .i64 a1)]] := by
 refine ACalls.en Tryz.func160 Tryz.ntmps160 .go .go .go .go ?_
 intro C F hC hP hF hn (hx : C.fx = [])
 have kp : KL [0, 1, 2, 4] := ⟨⟩
 have kr : KR #[.tmp 4] := ⟨⟩
 have c0 := Hold.mk @impl_within.link
 have c1 := Hold.mk @impl_isNode.link
 simp only [impl_isStatement.f] at H
 apply BZn.out
 exact BZn.go
set_option maxHeartbeats 8000000 in
theorem impl_kidsOk.link {k : Nat} {l0_0 : List (S71)} {l0_1 : List (S111)} {l0_2 : List (S115)} {a1_0 : Int} {a1_1 : Int} {a1_2 : ByteArray} {a1_3 : ByteArray} {a1_4 : ByteArray} {l1_5 : List Int} {r : Bool} (H : impl_kidsOk.f k l0_0 l0_1 l0_2 a1_0 a1_1 a1_2 a1_3 a1_4 l1_5 = some r) : ACalls Tryz.prog 121 [.dat true [.sl none 6 (List.flatMap e71 l0_0), .sl none 4 (List.flatMap e111 l0_1), .sl none 4 (List.flatMap e115 l0_2)], .dat true [.sc (.int .i64 a1_0), .sc (.int .i64 a1_1), .sc (.string a1_2), .sc (.string a1_3), .sc (.string a1_4), .sl none 1 (List.flatMap eI l1_5)]] [(false, [.sc (.bool r)])] [.dat true [.sl none 6 (List.flatMap e71 l0_0), .sl none 4 (List.flatMap e111 l0_1), .sl none 4 (List.flatMap e115 l0_2)], .dat true [.sc (.int .i64 a1_0), .sc (.int .i64 a1_1), .sc (.string a1_2), .sc (.string a1_3), .sc (.string a1_4), .sl none 1 (List.flatMap eI l1_5)]] := by
 refine ACalls.en Tryz.func121 Tryz.ntmps121 .go .go .go .go ?_
 intro C F hC hP hF hn (hx : C.fx = [])
 have kp : KL [0, 1, 2, 3, 4, 5, 6, 8, 9, 10, 12, 13, 15, 21, 29, 30, 32, 35, 36, 37, 38, 44, 56, 58, 59, 60, 61, 84] := ⟨⟩
 have kr : KR #[.tmp 4] := ⟨⟩
 have c0 := Hold.mk @impl_within.link
 have c1 := Hold.mk @impl_isValue.link
 have c2 := Hold.mk @impl_isBlock.link
 have c3 := Hold.mk @impl_isStatement.link
 simp only [impl_kidsOk.f] at H
 replace H := Hold.mk H
 have m0 : LM 0 0 [2, 3, 5, 6] (fun X => ∃ x5, ∃ x6, ∃ x545000, ∃ x545001, ∃ x545002, ∃ x546000, ∃ x546001, ∃ x546002, ∃ x546003, ∃ x546004, ∃ x546005, ∃ q, X = ⟨[(2, .pl 0 none 0), (3, .pl 1 none 0), (5, .dat false [.sc (.int .i64 x5)]), (6, .dat false [.sc (.int .i64 x6)])], [(0, .mem [.sl none 6 (List.flatMap e71 x545000), .sl none 4 (List.flatMap e111 x545001), .sl none 4 (List.flatMap e115 x545002)]), (1, .mem [.sc (.int .i64 x546000), .sc (.int .i64 x546001), .sc (.string x546002), .sc (.string x546003), .sc (.string x546004), .sl none 1 (List.flatMap eI x546005)])]⟩ ∧ q ≤ k ∧ impl_kidsOk.j2 q x5 x6 x545000 x545001 x545002 x546000 x546001 x546002 x546003 x546004 x546005 = some r) := ⟨⟩
 apply late
 · intro pa0
   apply late
   · intro pb0
     apply BZc.out
     exact BZc.go
   · clear H
     intro X hJ
     obtain ⟨x5, x6, x545000, x545001, x545002, x546000, x546001, x546002, x546003, x546004, x546005, q1, rfl, hq, H⟩ := hJ
     cases q1 with
     | zero => (simp only [impl_kidsOk.j2] at H; cases H)
     | succ kq1 =>
      simp only [impl_kidsOk.j2] at H
      have w0 : LJ [2, 5, 58, 59, 60] (fun q X => ∃ x5, ∃ x58, ∃ x59, ∃ x60, ∃ x545000, ∃ x545001, ∃ x545002, X = ⟨[(2, .pl 0 none 0), (5, .dat false [.sc (.int .i64 x5)]), (58, .dat false [.sl none 1 (List.flatMap eI x58)]), (59, .dat false [.sc (.int .i64 x59)]), (60, .dat false [.sc (.int .i64 x60)])], [(0, .mem [.sl none 6 (List.flatMap e71 x545000), .sl none 4 (List.flatMap e111 x545001), .sl none 4 (List.flatMap e115 x545002)])]⟩ ∧ q ≤ kq1 ∧ impl_kidsOk.l1 q x5 x58 x59 x60 x545000 x545001 x545002 = some r) := ⟨⟩
      apply late
      · intro lp0
        apply BZ.out
        exact BZ.go
      · intro q2 X hJ ih0
        clear H
        obtain ⟨x5, x58, x59, x60, x545000, x545001, x545002, rfl, hq, H⟩ := hJ
        cases q2 with
        | zero => (simp only [impl_kidsOk.l1] at H; cases H)
        | succ kq2 =>
         simp only [impl_kidsOk.l1] at H
         apply BZn.out
         exact BZn.go
 · intro hj0
   obtain ⟨H, H0⟩ | ⟨H, H0⟩ := sIteU H.out
   · (try simp only [List.length_append, List.length_cons, List.length_nil, Nat.zero_add, beq_dec, bne_dec, Bool.or_eq_true, Bool.and_eq_true, Bool.not_eq_true', decide_eq_true_eq, decide_eq_false_iff_not, ite_or', ite_and', ite_not', ge_iff_le, gt_iff_lt] at H)
     repeat' first
      | (with_reducible replace H := sBindA H (by assumption))
      | (with_reducible replace H := sBindS H)
      | (with_reducible replace H := sBind H); obtain ⟨t, hA, H⟩ := H
      | (with_reducible replace H := sBool H); obtain ⟨c, H⟩ | ⟨c, H⟩ := H
      | (with_reducible replace H := sEq H); obtain ⟨c, c', H⟩ | ⟨c, c', H⟩ := H
      | (with_reducible replace H := sEqL H); obtain ⟨c, H⟩ | ⟨c, H⟩ := H
      | (with_reducible replace H := sIte H); obtain ⟨c, H⟩ | ⟨c, H⟩ := H
      | (with_reducible replace H := sAnd H); obtain ⟨c, H⟩ | ⟨c, H⟩ := H
      | (with_reducible replace H := sOr H); obtain ⟨c, H⟩ | ⟨c, H⟩ := H
     all_goals cases H
     all_goals (replace H0 := Hold.mk H0; have H := H0; clear H0)
     all_goals (
      replace H := H.out
      apply BZ.out
      exact BZ.go)
   · (try simp only [List.length_append, List.length_cons, List.length_nil, Nat.zero_add, beq_dec, bne_dec, Bool.or_eq_true, Bool.and_eq_true, Bool.not_eq_true', decide_eq_true_eq, decide_eq_false_iff_not, ite_or', ite_and', ite_not', ge_iff_le, gt_iff_lt] at H)
     repeat' first
      | (with_reducible replace H := sBindA H (by assumption))
      | (with_reducible replace H := sBindS H)
      | (with_reducible replace H := sBind H); obtain ⟨t, hA, H⟩ := H
      | (with_reducible replace H := sBool H); obtain ⟨c, H⟩ | ⟨c, H⟩ := H
      | (with_reducible replace H := sEq H); obtain ⟨c, c', H⟩ | ⟨c, c', H⟩ := H
      | (with_reducible replace H := sEqL H); obtain ⟨c, H⟩ | ⟨c, H⟩ := H
      | (with_reducible replace H := sIte H); obtain ⟨c, H⟩ | ⟨c, H⟩ := H
      | (with_reducible replace H := sAnd H); obtain ⟨c, H⟩ | ⟨c, H⟩ := H
      | (with_reducible replace H := sOr H); obtain ⟨c, H⟩ | ⟨c, H⟩ := H
     all_goals cases H
     all_goals (replace H0 := Hold.mk H0; have H := H0; clear H0)
     all_goals (
      have m1 : LM 1 15 [2, 3, 5, 6, 12, 15] (fun X => ∃ x5, ∃ x6, ∃ x12, ∃ x15, ∃ x545000, ∃ x545001, ∃ x545002, ∃ x546000, ∃ x546001, ∃ x546002, ∃ x546003, ∃ x546004, ∃ x546005, ∃ q, X = ⟨[(2, .pl 0 none 0), (3, .pl 1 none 0), (5, .dat false [.sc (.int .i64 x5)]), (6, .dat false [.sc (.int .i64 x6)]), (12, .dat false [.sc (.int .i64 x12)]), (15, .dat false [.sc (.bool x15)])], [(0, .mem [.sl none 6 (List.flatMap e71 x545000), .sl none 4 (List.flatMap e111 x545001), .sl none 4 (List.flatMap e115 x545002)]), (1, .mem [.sc (.int .i64 x546000), .sc (.int .i64 x546001), .sc (.string x546002), .sc (.string x546003), .sc (.string x546004), .sl none 1 (List.flatMap eI x546005)])]⟩ ∧ q ≤ k ∧ impl_kidsOk.j0 q x5 x6 x12 x15 x545000 x545001 x545002 x546000 x546001 x546002 x546003 x546004 x546005 = some r) := ⟨⟩
      apply late
      · intro pa1
        apply late
        · intro pb1
          apply BZc.out
          exact BZc.go
        · clear H
          intro X hJ
          obtain ⟨x5, x6, x12, x15, x545000, x545001, x545002, x546000, x546001, x546002, x546003, x546004, x546005, q3, rfl, hq, H⟩ := hJ
          cases q3 with
          | zero => (simp only [impl_kidsOk.j0] at H; cases H)
          | succ kq3 =>
           simp only [impl_kidsOk.j0] at H
           have w0 : LJ [2, 3, 35, 36, 37] (fun q X => ∃ x35, ∃ x36, ∃ x37, ∃ x545000, ∃ x545001, ∃ x545002, ∃ x546000, ∃ x546001, ∃ x546002, ∃ x546003, ∃ x546004, ∃ x546005, X = ⟨[(2, .pl 0 none 0), (3, .pl 1 none 0), (35, .dat false [.sl none 1 (List.flatMap eI x35)]), (36, .dat false [.sc (.int .i64 x36)]), (37, .dat false [.sc (.int .i64 x37)])], [(0, .mem [.sl none 6 (List.flatMap e71 x545000), .sl none 4 (List.flatMap e111 x545001), .sl none 4 (List.flatMap e115 x545002)]), (1, .mem [.sc (.int .i64 x546000), .sc (.int .i64 x546001), .sc (.string x546002), .sc (.string x546003), .sc (.string x546004), .sl none 1 (List.flatMap eI x546005)])]⟩ ∧ q ≤ kq3 ∧ impl_kidsOk.l0 q x35 x36 x37 x545000 x545001 x545002 x546000 x546001 x546002 x546003 x546004 x546005 = some r) := ⟨⟩
           apply late
           · intro lp0
             apply BZ.out
             exact BZ.go
           · intro q4 X hJ ih0
             clear H
             obtain ⟨x35, x36, x37, x545000, x545001, x545002, x546000, x546001, x546002, x546003, x546004, x546005, rfl, hq, H⟩ := hJ
             cases q4 with
             | zero => (simp only [impl_kidsOk.l0] at H; cases H)
             | succ kq4 =>
              simp only [impl_kidsOk.l0] at H
              apply BZn.out
              exact BZn.go
      · intro hj1
        replace H := H.out
        apply BZ.out
        exact BZ.go)
set_option maxHeartbeats 8000000 in
theorem impl_letter.link {a0 : Int} {r : Bool} (H : impl_letter.f a0 = some r) : ACalls Tryz.prog 142 [.dat false [.sc (.int .u8 a0)]] [(false, [.sc (.bool r)])] [.dat false [.sc (.int .u8 a0)]] := by
 refine ACalls.en Tryz.func142 Tryz.ntmps142 .go .go .go .go ?_
 intro C F hC hP hF hn (hx : C.fx = [])
 have kp : KL [0, 2] := ⟨⟩
 have kr : KR #[.tmp 2] := ⟨⟩
 simp only [impl_letter.f] at H
 apply BZ.out
 exact BZ.go
set_option maxHeartbeats 8000000 in
theorem slices_Index_string_string.link {k : Nat} {l0 : List ByteArray} {a1 : ByteArray} {r : Int} (H : slices_Index_string_string.f k l0 a1 = some r) : ACalls Tryz.prog 150 [.dat false [.sl none 1 (List.flatMap eS l0)], .dat false [.sc (.string a1)]] [(false, [.sc (.int .i64 r)])] [.dat false [.sl none 1 (List.flatMap eS l0)], .dat false [.sc (.string a1)]] := by
 refine ACalls.en Tryz.func150 Tryz.ntmps150 .go .go .go .go ?_
 intro C F hC hP hF hn (hx : C.fx = [])
 have kp : KL [0, 1, 4, 5, 7, 8, 9, 16] := ⟨⟩
 have kr : KR #[.tmp 4] := ⟨⟩
 simp only [slices_Index_string_string.f] at H
 have w0 : LJ [0, 1, 7, 8] (fun q X => ∃ x0, ∃ x1, ∃ x7, ∃ x8, X = ⟨[(0, .dat false [.sl none 1 (List.flatMap eS x0)]), (1, .dat false [.sc (.string x1)]), (7, .dat false [.sc (.int .i64 x7)]), (8, .dat false [.sc (.int .i64 x8)])], []⟩ ∧ q ≤ k ∧ slices_Index_string_string.l0 q x0 x1 x7 x8 = some r) := ⟨⟩
 apply late
 · intro lp0
   apply BZ.out
   exact BZ.go
 · intro q1 X hJ ih0
   clear H
   obtain ⟨x0, x1, x7, x8, rfl, hq, H⟩ := hJ
   cases q1 with
   | zero => (simp only [slices_Index_string_string.l0] at H; cases H)
   | succ kq1 =>
    simp only [slices_Index_string_string.l0] at H
    apply BZn.out
    exact BZn.go
set_option maxHeartbeats 8000000 in
theorem slices_Contains_string_string.link {k : Nat} {l0 : List ByteArray} {a1 : ByteArray} {r : Bool} (H : slices_Contains_string_string.f k l0 a1 = some r) : ACalls Tryz.prog 101 [.dat false [.sl none 1 (List.flatMap eS l0)], .dat false [.sc (.string a1)]] [(false, [.sc (.bool r)])] [.dat false [.sl none 1 (List.flatMap eS l0)], .dat false [.sc (.string a1)]] := by
 refine ACalls.en Tryz.func101 Tryz.ntmps101 .go .go .go .go ?_
 intro C F hC hP hF hn (hx : C.fx = [])
 have kp : KL [0, 1, 4] := ⟨⟩
 have kr : KR #[.tmp 4] := ⟨⟩
 have c0 := Hold.mk @slices_Index_string_string.link
 simp only [slices_Contains_string_string.f] at H
 apply BZ.out
 exact BZ.go
attribute [local go_sem] inLine Option.map_some in
set_option maxHeartbeats 8000000 in
theorem impl_KeyWord.link {k : Nat} {a0 : ByteArray} {r : Bool} (H : impl_KeyWord.f k a0 = some r) : ACalls Tryz.prog 143 [.dat false [.sc (.string a0)]] [(false, [.sc (.bool r)])] [.dat false [.sc (.string a0)]] := by
 refine ACalls.en Tryz.func143 Tryz.ntmps143 .go .go .go .go ?_
 intro C F hC hP hF hn (hx : C.fx = [])
 have kp : KL [0, 2, 3] := ⟨⟩
 have kr : KR #[.tmp 2] := ⟨⟩
 have c0 := Hold.mk @slices_Contains_string_string.link
 simp only [impl_KeyWord.f] at H
 apply BZ.out
 exact BZ.go
set_option maxHeartbeats 8000000 in
theorem impl_run_impl_letter.link {k : Nat} {a0 : ByteArray} {a1 : Int} {r : Int} (H : impl_run_impl_letter.f k a0 a1 = some r) : ACalls Tryz.prog 141 [.dat false [.sc (.string a0)], .dat false [.sc (.int .i64 a1)], .clo 142 []] [(false, [.sc (.int .i64 r)])] [.dat false [.sc (.string a0)], .dat false [.sc (.int .i64 a1)], .clo 142 []] := by
 refine ACalls.en Tryz.func141 Tryz.ntmps141 .go .go .go .go ?_
 intro C F hC hP hF hn (hx : C.fx = [2])
 have kp : KL [0, 1, 2, 6, 17] := ⟨⟩
 have kr : KR #[.tmp 6] := ⟨⟩
 have c0 := Hold.mk @impl_letter.link
 simp only [impl_run_impl_letter.f] at H
 have w0 : LJ [0, 1, 2] (fun q X => ∃ x0, ∃ x1, X = ⟨[(0, .dat false [.sc (.string x0)]), (1, .dat false [.sc (.int .i64 x1)]), (2, .clo 142 [])], []⟩ ∧ q ≤ k ∧ impl_run_impl_letter.l0 q x0 x1 = some r) := ⟨⟩
 apply late
 · intro lp0
   apply BZ.out
   exact BZ.go
 · intro q1 X hJ ih0
   clear H
   obtain ⟨x0, x1, rfl, hq, H⟩ := hJ
   cases q1 with
   | zero => (simp only [impl_run_impl_letter.l0] at H; cases H)
   | succ kq1 =>
    simp only [impl_run_impl_letter.l0] at H
    apply BZn.out
    exact BZn.go
set_option maxHeartbeats 8000000 in
theorem impl_NameOk.link {k : Nat} {a0 : ByteArray} {r : Bool} (H : impl_NameOk.f k a0 = some r) : ACalls Tryz.prog 89 [.dat false [.sc (.string a0)]] [(false, [.sc (.bool r)])] [.dat false [.sc (.string a0)]] := by
 refine ACalls.en Tryz.func89 Tryz.ntmps89 .go .go .go .go ?_
 intro C F hC hP hF hn (hx : C.fx = [])
 have kp : KL [0, 2] := ⟨⟩
 have kr : KR #[.tmp 2] := ⟨⟩
 have c0 := Hold.mk @impl_within.link
 have c1 := Hold.mk @impl_KeyWord.link
 have c2 := Hold.mk @impl_run_impl_letter.link
 simp only [impl_NameOk.f] at H
 apply BZ.out
 exact BZ.go
set_option maxHeartbeats 8000000 in
theorem impl_namesOk.link {k : Nat} {a0_0 : Int} {a0_1 : Int} {a0_2 : ByteArray} {a0_3 : ByteArray} {a0_4 : ByteArray} {l0_5 : List Int} {r : Bool} (H : impl_namesOk.f k a0_0 a0_1 a0_2 a0_3 a0_4 l0_5 = some r) : ACalls Tryz.prog 122 [.dat true [.sc (.int .i64 a0_0), .sc (.int .i64 a0_1), .sc (.string a0_2), .sc (.string a0_3), .sc (.string a0_4), .sl none 1 (List.flatMap eI l0_5)]] [(false, [.sc (.bool r)])] [.dat true [.sc (.int .i64 a0_0), .sc (.int .i64 a0_1), .sc (.string a0_2), .sc (.string a0_3), .sc (.string a0_4), .sl none 1 (List.flatMap eI l0_5)]] := by
 refine ACalls.en Tryz.func122 Tryz.ntmps122 .go .go .go .go ?_
 intro C F hC hP hF hn (hx : C.fx = [])
 have kp : KL [0, 1, 2, 3, 4, 5, 6, 14, 15, 21, 29, 34] := ⟨⟩
 have kr : KR #[.tmp 2] := ⟨⟩
 have c0 := Hold.mk @impl_within.link
 have c1 := Hold.mk @impl_NameOk.link
 simp only [impl_namesOk.f] at H
 replace H := Hold.mk H
 have m0 : LM 1 15 [1, 3, 4, 5, 6, 14, 15] (fun X => ∃ x3, ∃ x4, ∃ x5, ∃ x6, ∃ x14, ∃ x15, ∃ x565000, ∃ x565001, ∃ x565002, ∃ x565003, ∃ x565004, ∃ x565005, ∃ q, X = ⟨[(1, .pl 0 none 0), (3, .dat false [.sc (.bool x3)]), (4, .dat false [.sc (.bool x4)]), (5, .dat false [.sc (.bool x5)]), (6, .dat false [.sc (.bool x6)]), (14, .dat false [.sc (.int .i64 x14)]), (15, .dat false [.sc (.bool x15)])], [(0, .mem [.sc (.int .i64 x565000), .sc (.int .i64 x565001), .sc (.string x565002), .sc (.string x565003), .sc (.string x565004), .sl none 1 (List.flatMap eI x565005)])]⟩ ∧ q ≤ k ∧ impl_namesOk.j0 q x3 x4 x5 x6 x14 x15 x565000 x565001 x565002 x565003 x565004 x565005 = some r) := ⟨⟩
 apply late
 · intro pa0
   apply late
   · intro pb0
     apply BZc.out
     exact BZc.go
   · clear H
     intro X hJ
     obtain ⟨x3, x4, x5, x6, x14, x15, x565000, x565001, x565002, x565003, x565004, x565005, q1, rfl, hq, H⟩ := hJ
     cases q1 with
     | zero => (simp only [impl_namesOk.j0] at H; cases H)
     | succ kq1 =>
      simp only [impl_namesOk.j0] at H
      apply BZ.out
      exact BZ.go
 · intro hj0
   replace H := H.out
   apply BZ.out
   exact BZ.go
set_option maxHeartbeats 8000000 in
theorem impl_NodeOk.link {k : Nat} {l0_0 : List (S71)} {l0_1 : List (S111)} {l0_2 : List (S115)} {a1 : Int} {r : Bool} (H : impl_NodeOk.f k l0_0 l0_1 l0_2 a1 = some r) : ACalls Tryz.prog 53 [.dat true [.sl none 6 (List.flatMap e71 l0_0), .sl none 4 (List.flatMap e111 l0_1), .sl none 4 (List.flatMap e115 l0_2)], .dat false [.sc (.int .i64 a1)]] [(false, [.sc (.bool r)])] [.dat true [.sl none 6 (List.flatMap e71 l0_0), .sl none 4 (List.flatMap e111 l0_1), .sl none 4 (List.flatMap e115 l0_2)], .dat false [.sc (.int .i64 a1)]] := by
 refine ACalls.en Tryz.func53 Tryz.ntmps53 .go .go .go .go ?_
 intro C F hC hP hF hn (hx : C.fx = [])
 have kp : KL [0, 1, 2, 4, 5, 6, 7, 11, 26, 28, 29, 30, 31, 47] := ⟨⟩
 have kr : KR #[.tmp 4] := ⟨⟩
 have c0 := Hold.mk @impl_within.link
 have c1 := Hold.mk @impl_isNode.link
 have c2 := Hold.mk @slices_Contains_int_int.link
 have c3 := Hold.mk @impl_kidsOk.link
 have c4 := Hold.mk @impl_namesOk.link
 simp only [impl_NodeOk.f] at H
 replace H := Hold.mk H
 first
  | (with_reducible replace H := Hold.mk (sBindA H.out (by assumption)))
  | (have H1 := sBind H.out; clear H; obtain ⟨t, hA, H⟩ := H1; replace H := Hold.mk H)
 obtain ⟨H, H0⟩ | ⟨H, H0⟩ := sIteU H.out
 · (try simp only [List.length_append, List.length_cons, List.length_nil, Nat.zero_add, beq_dec, bne_dec, Bool.or_eq_true, Bool.and_eq_true, Bool.not_eq_true', decide_eq_true_eq, decide_eq_false_iff_not, ite_or', ite_and', ite_not', ge_iff_le, gt_iff_lt] at H)
   repeat' first
    | (with_reducible replace H := sBindA H (by assumption))
    | (with_reducible replace H := sBindS H)
    | (with_reducible replace H := sBind H); obtain ⟨t, hA, H⟩ := H
    | (with_reducible replace H := sBool H); obtain ⟨c, H⟩ | ⟨c, H⟩ := H
    | (with_reducible replace H := sEq H); obtain ⟨c, c', H⟩ | ⟨c, c', H⟩ := H
    | (with_reducible replace H := sEqL H); obtain ⟨c, H⟩ | ⟨c, H⟩ := H
    | (with_reducible replace H := sIte H); obtain ⟨c, H⟩ | ⟨c, H⟩ := H
    | (with_reducible replace H := sAnd H); obtain ⟨c, H⟩ | ⟨c, H⟩ := H
    | (with_reducible replace H := sOr H); obtain ⟨c, H⟩ | ⟨c, H⟩ := H
   all_goals cases H
   all_goals (replace H0 := Hold.mk H0; have H := H0; clear H0)
   all_goals (
    obtain ⟨H, H0⟩ | ⟨H, H0⟩ := sIteU H.out
    · (try simp only [List.length_append, List.length_cons, List.length_nil, Nat.zero_add, beq_dec, bne_dec, Bool.or_eq_true, Bool.and_eq_true, Bool.not_eq_true', decide_eq_true_eq, decide_eq_false_iff_not, ite_or', ite_and', ite_not', ge_iff_le, gt_iff_lt] at H)
      repeat' first
       | (with_reducible replace H := sBindA H (by assumption))
       | (with_reducible replace H := sBindS H)
       | (with_reducible replace H := sBind H); obtain ⟨t, hA, H⟩ := H
       | (with_reducible replace H := sBool H); obtain ⟨c, H⟩ | ⟨c, H⟩ := H
       | (with_reducible replace H := sEq H); obtain ⟨c, c', H⟩ | ⟨c, c', H⟩ := H
       | (with_reducible replace H := sEqL H); obtain ⟨c, H⟩ | ⟨c, H⟩ := H
       | (with_reducible replace H := sIte H); obtain ⟨c, H⟩ | ⟨c, H⟩ := H
       | (with_reducible replace H := sAnd H); obtain ⟨c, H⟩ | ⟨c, H⟩ := H
       | (with_reducible replace H := sOr H); obtain ⟨c, H⟩ | ⟨c, H⟩ := H
      all_goals cases H
      all_goals (replace H0 := Hold.mk H0; have H := H0; clear H0)
      all_goals (
       obtain ⟨H, H0⟩ | ⟨H, H0⟩ := sIteU H.out
       · (try simp only [List.length_append, List.length_cons, List.length_nil, Nat.zero_add, beq_dec, bne_dec, Bool.or_eq_true, Bool.and_eq_true, Bool.not_eq_true', decide_eq_true_eq, decide_eq_false_iff_not, ite_or', ite_and', ite_not', ge_iff_le, gt_iff_lt] at H)
         repeat' first
          | (with_reducible replace H := sBindA H (by assumption))
          | (with_reducible replace H := sBindS H)
          | (with_reducible replace H := sBind H); obtain ⟨t, hA, H⟩ := H
          | (with_reducible replace H := sBool H); obtain ⟨c, H⟩ | ⟨c, H⟩ := H
          | (with_reducible replace H := sEq H); obtain ⟨c, c', H⟩ | ⟨c, c', H⟩ := H
          | (with_reducible replace H := sEqL H); obtain ⟨c, H⟩ | ⟨c, H⟩ := H
          | (with_reducible replace H := sIte H); obtain ⟨c, H⟩ | ⟨c, H⟩ := H
          | (with_reducible replace H := sAnd H); obtain ⟨c, H⟩ | ⟨c, H⟩ := H
          | (with_reducible replace H := sOr H); obtain ⟨c, H⟩ | ⟨c, H⟩ := H
         all_goals cases H
         all_goals (replace H0 := Hold.mk H0; have H := H0; clear H0)
         all_goals (
          have m0 : LM 2 4 [1, 2, 5, 26] (fun X => ∃ x1, ∃ x26, ∃ x584000, ∃ x584001, ∃ x584002, ∃ x587000, ∃ x587001, ∃ x587002, ∃ x587003, ∃ x587004, ∃ x587005, ∃ q, X = ⟨[(1, .dat false [.sc (.int .i64 x1)]), (2, .pl 0 none 0), (5, .pl 1 none 0), (26, .dat false [.sc (.bool x26)])], [(0, .mem [.sl none 6 (List.flatMap e71 x584000), .sl none 4 (List.flatMap e111 x584001), .sl none 4 (List.flatMap e115 x584002)]), (1, .mem [.sc (.int .i64 x587000), .sc (.int .i64 x587001), .sc (.string x587002), .sc (.string x587003), .sc (.string x587004), .sl none 1 (List.flatMap eI x587005)])]⟩ ∧ q ≤ k ∧ impl_NodeOk.j0 q x1 x26 x584000 x584001 x584002 x587000 x587001 x587002 x587003 x587004 x587005 = some r) := ⟨⟩
          apply late
          · intro pa0
            apply late
            · intro pb0
              apply BZc.out
              exact BZc.go
            · clear H
              intro X hJ
              obtain ⟨x1, x26, x584000, x584001, x584002, x587000, x587001, x587002, x587003, x587004, x587005, q1, rfl, hq, H⟩ := hJ
              cases q1 with
              | zero => (simp only [impl_NodeOk.j0] at H; cases H)
              | succ kq1 =>
               simp only [impl_NodeOk.j0] at H
               have w0 : LJ [1, 2, 5, 28, 29, 30] (fun q X => ∃ x1, ∃ x28, ∃ x29, ∃ x30, ∃ x584000, ∃ x584001, ∃ x584002, ∃ x587000, ∃ x587001, ∃ x587002, ∃ x587003, ∃ x587004, ∃ x587005, X = ⟨[(1, .dat false [.sc (.int .i64 x1)]), (2, .pl 0 none 0), (5, .pl 1 none 0), (28, .dat false [.sl none 1 (List.flatMap eI x28)]), (29, .dat false [.sc (.int .i64 x29)]), (30, .dat false [.sc (.int .i64 x30)])], [(0, .mem [.sl none 6 (List.flatMap e71 x584000), .sl none 4 (List.flatMap e111 x584001), .sl none 4 (List.flatMap e115 x584002)]), (1, .mem [.sc (.int .i64 x587000), .sc (.int .i64 x587001), .sc (.string x587002), .sc (.string x587003), .sc (.string x587004), .sl none 1 (List.flatMap eI x587005)])]⟩ ∧ q ≤ kq1 ∧ impl_NodeOk.l0 q x1 x28 x29 x30 x584000 x584001 x584002 x587000 x587001 x587002 x587003 x587004 x587005 = some r) := ⟨⟩
               apply late
               · intro lp0
                 apply BZ.out
                 exact BZ.go
               · intro q2 X hJ ih0
                 clear H
                 obtain ⟨x1, x28, x29, x30, x584000, x584001, x584002, x587000, x587001, x587002, x587003, x587004, x587005, rfl, hq, H⟩ := hJ
                 cases q2 with
                 | zero => (simp only [impl_NodeOk.l0] at H; cases H)
                 | succ kq2 =>
                  simp only [impl_NodeOk.l0] at H
                  apply BZn.out
                  exact BZn.go
          · intro hj0
            replace H := H.out
            apply BZ.out
            exact BZ.go)
       · (try simp only [List.length_append, List.length_cons, List.length_nil, Nat.zero_add, beq_dec, bne_dec, Bool.or_eq_true, Bool.and_eq_true, Bool.not_eq_true', decide_eq_true_eq, decide_eq_false_iff_not, ite_or', ite_and', ite_not', ge_iff_le, gt_iff_lt] at H)
         repeat' first
          | (with_reducible replace H := sBindA H (by assumption))
          | (with_reducible replace H := sBindS H)
          | (with_reducible replace H := sBind H); obtain ⟨t, hA, H⟩ := H
          | (with_reducible replace H := sBool H); obtain ⟨c, H⟩ | ⟨c, H⟩ := H
          | (with_reducible replace H := sEq H); obtain ⟨c, c', H⟩ | ⟨c, c', H⟩ := H
          | (with_reducible replace H := sEqL H); obtain ⟨c, H⟩ | ⟨c, H⟩ := H
          | (with_reducible replace H := sIte H); obtain ⟨c, H⟩ | ⟨c, H⟩ := H
          | (with_reducible replace H := sAnd H); obtain ⟨c, H⟩ | ⟨c, H⟩ := H
          | (with_reducible replace H := sOr H); obtain ⟨c, H⟩ | ⟨c, H⟩ := H
         all_goals cases H
         all_goals (replace H0 := Hold.mk H0; have H := H0; clear H0)
         all_goals (
          cases H.out))
    · (try simp only [List.length_append, List.length_cons, List.length_nil, Nat.zero_add, beq_dec, bne_dec, Bool.or_eq_true, Bool.and_eq_true, Bool.not_eq_true', decide_eq_true_eq, decide_eq_false_iff_not, ite_or', ite_and', ite_not', ge_iff_le, gt_iff_lt] at H)
      repeat' first
       | (with_reducible replace H := sBindA H (by assumption))
       | (with_reducible replace H := sBindS H)
       | (with_reducible replace H := sBind H); obtain ⟨t, hA, H⟩ := H
       | (with_reducible replace H := sBool H); obtain ⟨c, H⟩ | ⟨c, H⟩ := H
       | (with_reducible replace H := sEq H); obtain ⟨c, c', H⟩ | ⟨c, c', H⟩ := H
       | (with_reducible replace H := sEqL H); obtain ⟨c, H⟩ | ⟨c, H⟩ := H
       | (with_reducible replace H := sIte H); obtain ⟨c, H⟩ | ⟨c, H⟩ := H
       | (with_reducible replace H := sAnd H); obtain ⟨c, H⟩ | ⟨c, H⟩ := H
       | (with_reducible replace H := sOr H); obtain ⟨c, H⟩ | ⟨c, H⟩ := H
      all_goals cases H
      all_goals (replace H0 := Hold.mk H0; have H := H0; clear H0)
      all_goals (
       cases H.out))
 · (try simp only [List.length_append, List.length_cons, List.length_nil, Nat.zero_add, beq_dec, bne_dec, Bool.or_eq_true, Bool.and_eq_true, Bool.not_eq_true', decide_eq_true_eq, decide_eq_false_iff_not, ite_or', ite_and', ite_not', ge_iff_le, gt_iff_lt] at H)
   repeat' first
    | (with_reducible replace H := sBindA H (by assumption))
    | (with_reducible replace H := sBindS H)
    | (with_reducible replace H := sBind H); obtain ⟨t, hA, H⟩ := H
    | (with_reducible replace H := sBool H); obtain ⟨c, H⟩ | ⟨c, H⟩ := H
    | (with_reducible replace H := sEq H); obtain ⟨c, c', H⟩ | ⟨c, c', H⟩ := H
    | (with_reducible replace H := sEqL H); obtain ⟨c, H⟩ | ⟨c, H⟩ := H
    | (with_reducible replace H := sIte H); obtain ⟨c, H⟩ | ⟨c, H⟩ := H
    | (with_reducible replace H := sAnd H); obtain ⟨c, H⟩ | ⟨c, H⟩ := H
    | (with_reducible replace H := sOr H); obtain ⟨c, H⟩ | ⟨c, H⟩ := H
   all_goals cases H
   all_goals (replace H0 := Hold.mk H0; have H := H0; clear H0)
   all_goals (
    replace H := H.out
    apply BZ.out
    exact BZ.go)
set_option maxHeartbeats 8000000 in
theorem impl_deeps.link {k : Nat} {l0_0 : List (S71)} {l0_1 : List (S111)} {l0_2 : List (S115)} {a1 : Int} {r : List Int} (H : impl_deeps.f k l0_0 l0_1 l0_2 a1 = some r) : ACalls Tryz.prog 144 [.dat true [.sl none 6 (List.flatMap e71 l0_0), .sl none 4 (List.flatMap e111 l0_1), .sl none 4 (List.flatMap e115 l0_2)], .dat false [.sc (.int .i64 a1)]] [(false, [.sl (some 0) 1 (List.flatMap eI r)])] [.dat true [.sl none 6 (List.flatMap e71 l0_0), .sl none 4 (List.flatMap e111 l0_1), .sl none 4 (List.flatMap e115 l0_2)], .dat false [.sc (.int .i64 a1)]] := by
 refine ACalls.en Tryz.func144 Tryz.ntmps144 .go .go .go .go ?_
 intro C F hC hP hF hn (hx : C.fx = [])
 have kp : KL [0, 1, 2, 4, 5, 6, 7, 9, 14, 15, 16, 21, 27, 28, 29, 30, 44, 54] := ⟨⟩
 have kr : KR #[.tmp 4] := ⟨⟩
 have c0 := Hold.mk @impl_within.link
 have c1 := Hold.mk @impl_NodeOk.link
 simp only [impl_deeps.f] at H
 have w0 : LJ [2, 5, 14, 15] (fun q X => ∃ x5, ∃ x14, ∃ x15, ∃ x596000, ∃ x596001, ∃ x596002, X = ⟨[(2, .pl 0 none 0), (5, .bor 1 none 0 1 false), (14, .dat false [.sc (.int .i64 x14)]), (15, .dat false [.sc (.int .i64 x15)])], [(0, .mem [.sl none 6 (List.flatMap e71 x596000), .sl none 4 (List.flatMap e111 x596001), .sl none 4 (List.flatMap e115 x596002)]), (1, .vir [.sl (some 0) 1 (List.flatMap eI x5)])]⟩ ∧ q ≤ k ∧ impl_deeps.l0 q x5 x14 x15 x596000 x596001 x596002 = some r) := ⟨⟩
 apply late
 · intro lp0
   apply BZn.out
   exact BZn.go
 · intro q1 X hJ ih0
   clear H
   obtain ⟨x5, x14, x15, x596000, x596001, x596002, rfl, hq, H⟩ := hJ
   cases q1 with
   | zero => (simp only [impl_deeps.l0] at H; cases H)
   | succ kq1 =>
    simp only [impl_deeps.l0] at H
    replace H := Hold.mk H
    obtain ⟨H, H0⟩ | ⟨H, H0⟩ := sIteU H.out
    · (try simp only [List.length_append, List.length_cons, List.length_nil, Nat.zero_add, beq_dec, bne_dec, Bool.or_eq_true, Bool.and_eq_true, Bool.not_eq_true', decide_eq_true_eq, decide_eq_false_iff_not, ite_or', ite_and', ite_not', ge_iff_le, gt_iff_lt] at H)
      repeat' first
       | (with_reducible replace H := sBindA H (by assumption))
       | (with_reducible replace H := sBindS H)
       | (with_reducible replace H := sBind H); obtain ⟨t, hA, H⟩ := H
       | (with_reducible replace H := sBool H); obtain ⟨c, H⟩ | ⟨c, H⟩ := H
       | (with_reducible replace H := sEq H); obtain ⟨c, c', H⟩ | ⟨c, c', H⟩ := H
       | (with_reducible replace H := sEqL H); obtain ⟨c, H⟩ | ⟨c, H⟩ := H
       | (with_reducible replace H := sIte H); obtain ⟨c, H⟩ | ⟨c, H⟩ := H
       | (with_reducible replace H := sAnd H); obtain ⟨c, H⟩ | ⟨c, H⟩ := H
       | (with_reducible replace H := sOr H); obtain ⟨c, H⟩ | ⟨c, H⟩ := H
      all_goals cases H
      all_goals (replace H0 := Hold.mk H0; have H := H0; clear H0)
      all_goals (
       first
        | (with_reducible replace H := Hold.mk (sBindA H.out (by assumption)))
        | (have H1 := sBind H.out; clear H; obtain ⟨t, hA, H⟩ := H1; replace H := Hold.mk H)
       have m0 : LM 1 21 [2, 5, 6, 7, 14, 15] (fun X => ∃ x5, ∃ x6, ∃ x7, ∃ x14, ∃ x15, ∃ x596000, ∃ x596001, ∃ x596002, ∃ q, X = ⟨[(2, .pl 0 none 0), (5, .bor 1 none 0 1 false), (6, .dat false [.sc (.int .i64 x6)]), (7, .dat false [.sc (.int .i64 x7)]), (14, .dat false [.sc (.int .i64 x14)]), (15, .dat false [.sc (.int .i64 x15)])], [(0, .mem [.sl none 6 (List.flatMap e71 x596000), .sl none 4 (List.flatMap e111 x596001), .sl none 4 (List.flatMap e115 x596002)]), (1, .vir [.sl (some 0) 1 (List.flatMap eI x5)])]⟩ ∧ q ≤ kq1 ∧ impl_deeps.j1 q x5 x6 x7 x14 x15 x596000 x596001 x596002 = some r) := ⟨⟩
       apply late
       · intro pa0
         apply late
         · intro pb0
           apply BZc.out
           exact BZc.go
         · clear H
           intro X hJ
           obtain ⟨x5, x6, x7, x14, x15, x596000, x596001, x596002, q2, rfl, hq, H⟩ := hJ
           cases q2 with
           | zero => (simp only [impl_deeps.j1] at H; cases H)
           | succ kq2 =>
            simp only [impl_deeps.j1] at H
            have w1 : LJ [2, 5, 6, 7, 14, 15, 27, 28, 29] (fun q X => ∃ x5, ∃ x6, ∃ x7, ∃ x14, ∃ x15, ∃ x27, ∃ x28, ∃ x29, ∃ x596000, ∃ x596001, ∃ x596002, X = ⟨[(2, .pl 0 none 0), (5, .bor 1 none 0 1 false), (6, .dat false [.sc (.int .i64 x6)]), (7, .dat false [.sc (.int .i64 x7)]), (14, .dat false [.sc (.int .i64 x14)]), (15, .dat false [.sc (.int .i64 x15)]), (27, .dat false [.sl none 1 (List.flatMap eI x27)]), (28, .dat false [.sc (.int .i64 x28)]), (29, .dat false [.sc (.int .i64 x29)])], [(0, .mem [.sl none 6 (List.flatMap e71 x596000), .sl none 4 (List.flatMap e111 x596001), .sl none 4 (List.flatMap e115 x596002)]), (1, .vir [.sl (some 0) 1 (List.flatMap eI x5)])]⟩ ∧ q ≤ kq2 ∧ impl_deeps.l1 q x5 x6 x7 x14 x15 x27 x28 x29 x596000 x596001 x596002 = some r) := ⟨⟩
            apply late
            · intro lp1
              apply BZn.out
              exact BZn.go
            · intro q3 X hJ ih1
              clear H
              obtain ⟨x5, x6, x7, x14, x15, x27, x28, x29, x596000, x596001, x596002, rfl, hq, H⟩ := hJ
              cases q3 with
              | zero => (simp only [impl_deeps.l1] at H; cases H)
              | succ kq3 =>
               simp only [impl_deeps.l1] at H
               apply BZn.out
               exact BZn.go
       · intro hj0
         replace H := H.out
         apply BZ.out
         exact BZ.go)
    · (try simp only [List.length_append, List.length_cons, List.length_nil, Nat.zero_add, beq_dec, bne_dec, Bool.or_eq_true, Bool.and_eq_true, Bool.not_eq_true', decide_eq_true_eq, decide_eq_false_iff_not, ite_or', ite_and', ite_not', ge_iff_le, gt_iff_lt] at H)
      repeat' first
       | (with_reducible replace H := sBindA H (by assumption))
       | (with_reducible replace H := sBindS H)
       | (with_reducible replace H := sBind H); obtain ⟨t, hA, H⟩ := H
       | (with_reducible replace H := sBool H); obtain ⟨c, H⟩ | ⟨c, H⟩ := H
       | (with_reducible replace H := sEq H); obtain ⟨c, c', H⟩ | ⟨c, c', H⟩ := H
       | (with_reducible replace H := sEqL H); obtain ⟨c, H⟩ | ⟨c, H⟩ := H
       | (with_reducible replace H := sIte H); obtain ⟨c, H⟩ | ⟨c, H⟩ := H
       | (with_reducible replace H := sAnd H); obtain ⟨c, H⟩ | ⟨c, H⟩ := H
       | (with_reducible replace H := sOr H); obtain ⟨c, H⟩ | ⟨c, H⟩ := H
      all_goals cases H
      all_goals (replace H0 := Hold.mk H0; have H := H0; clear H0)
      all_goals (
       replace H := H.out
       apply BZ.out
       exact BZ.go)
set_option maxHeartbeats 8000000 in
theorem impl_DeepOf.link {k : Nat} {l0_0 : List (S71)} {l0_1 : List (S111)} {l0_2 : List (S115)} {a1 : Int} {r : Int} (H : impl_DeepOf.f k l0_0 l0_1 l0_2 a1 = some r) : ACalls Tryz.prog 90 [.dat true [.sl none 6 (List.flatMap e71 l0_0), .sl none 4 (List.flatMap e111 l0_1), .sl none 4 (List.flatMap e115 l0_2)], .dat false [.sc (.int .i64 a1)]] [(false, [.sc (.int .i64 r)])] [.dat true [.sl none 6 (List.flatMap e71 l0_0), .sl none 4 (List.flatMap e111 l0_1), .sl none 4 (List.flatMap e115 l0_2)], .dat false [.sc (.int .i64 a1)]] := by
 refine ACalls.en Tryz.func90 Tryz.ntmps90 .go .go .go .go ?_
 intro C F hC hP hF hn (hx : C.fx = [])
 have kp : KL [0, 1, 2, 4, 8] := ⟨⟩
 have kr : KR #[.tmp 4] := ⟨⟩
 have c0 := Hold.mk @impl_isNode.link
 have c1 := Hold.mk @impl_deeps.link
 simp only [impl_DeepOf.f] at H
 apply BZn.out
 exact BZn.go
set_option maxHeartbeats 8000000 in
theorem impl_ValOk.link {a0 : Int} {r : Bool} (H : impl_ValOk.f a0 = some r) : ACalls Tryz.prog 123 [.dat false [.sc (.int .i64 a0)]] [(false, [.sc (.bool r)])] [.dat false [.sc (.int .i64 a0)]] := by
 refine ACalls.en Tryz.func123 Tryz.ntmps123 .go .go .go .go ?_
 intro C F hC hP hF hn (hx : C.fx = [])
 have kp : KL [0, 2] := ⟨⟩
 have kr : KR #[.tmp 2] := ⟨⟩
 have c0 := Hold.mk @impl_within.link
 simp only [impl_ValOk.f] at H
 apply BZ.out
 exact BZ.go
set_option maxHeartbeats 8000000 in
theorem impl_valAt.link {k : Nat} {l0_0 : List ByteArray} {l0_1 : List Int} {a1 : ByteArray} {r : Int} (H : impl_valAt.f k l0_0 l0_1 a1 = some r) : ACalls Tryz.prog 129 [.dat true [.sl none 1 (List.flatMap eS l0_0), .sl none 1 (List.flatMap eI l0_1)], .dat false [.sc (.string a1)]] [(false, [.sc (.int .i64 r)])] [.dat true [.sl none 1 (List.flatMap eS l0_0), .sl none 1 (List.flatMap eI l0_1)], .dat false [.sc (.string a1)]] := by
 refine ACalls.en Tryz.func129 Tryz.ntmps129 .go .go .go .go ?_
 intro C F hC hP hF hn (hx : C.fx = [])
 have kp : KL [0, 1, 2, 4, 5, 14] := ⟨⟩
 have kr : KR #[.tmp 4] := ⟨⟩
 have c0 := Hold.mk @slices_Index_string_string.link
 simp only [impl_valAt.f] at H
 apply BZ.out
 exact BZ.go
set_option maxHeartbeats 8000000 in
theorem impl_GetIn.link {k : Nat} {l0_0 : List ByteArray} {l0_1 : List Int} {a1 : ByteArray} {r : Int} (H : impl_GetIn.f k l0_0 l0_1 a1 = some r) : ACalls Tryz.prog 124 [.dat true [.sl none 1 (List.flatMap eS l0_0), .sl none 1 (List.flatMap eI l0_1)], .dat false [.sc (.string a1)]] [(false, [.sc (.int .i64 r)])] [.dat true [.sl none 1 (List.flatMap eS l0_0), .sl none 1 (List.flatMap eI l0_1)], .dat false [.sc (.string a1)]] := by
 refine ACalls.en Tryz.func124 Tryz.ntmps124 .go .go .go .go ?_
 intro C F hC hP hF hn (hx : C.fx = [])
 have kp : KL [0, 1, 2, 4, 5, 10] := ⟨⟩
 have kr : KR #[.tmp 4] := ⟨⟩
 have c0 := Hold.mk @impl_valAt.link
 simp only [impl_GetIn.f] at H
 apply BZn.out
 exact BZn.go
set_option maxHeartbeats 8000000 in
theorem impl_kidAt.link {l0_0 : List (S71)} {l0_1 : List (S111)} {l0_2 : List (S115)} {a1 : Int} {a2 : Int} {r : Int} (H : impl_kidAt.f l0_0 l0_1 l0_2 a1 a2 = some r) : ACalls Tryz.prog 125 [.dat true [.sl none 6 (List.flatMap e71 l0_0), .sl none 4 (List.flatMap e111 l0_1), .sl none 4 (List.flatMap e115 l0_2)], .dat false [.sc (.int .i64 a1)], .dat false [.sc (.int .i64 a2)]] [(false, [.sc (.int .i64 r)])] [.dat true [.sl none 6 (List.flatMap e71 l0_0), .sl none 4 (List.flatMap e111 l0_1), .sl none 4 (List.flatMap e115 l0_2)], .dat false [.sc (.int .i64 a1)], .dat false [.sc (.int .i64 a2)]] := by
 refine ACalls.en Tryz.func125 Tryz.ntmps125 .go .go .go .go ?_
 intro C F hC hP hF hn (hx : C.fx = [])
 have kp : KL [0, 1, 2, 3, 6, 21] := ⟨⟩
 have kr : KR #[.tmp 6] := ⟨⟩
 have c0 := Hold.mk @impl_isNode.link
 simp only [impl_kidAt.f] at H
 apply BZn.out
 exact BZn.go
set_option maxHeartbeats 8000000 in
theorem impl_truth.link {a0 : Bool} {r : Int} (H : impl_truth.f a0 = some r) : ACalls Tryz.prog 161 [.dat false [.sc (.bool a0)]] [(false, [.sc (.int .i64 r)])] [.dat false [.sc (.bool a0)]] := by
 refine ACalls.en Tryz.func161 Tryz.ntmps161 .go .go .go .go ?_
 intro C F hC hP hF hn (hx : C.fx = [])
 have kp : KL [0, 2, 3] := ⟨⟩
 have kr : KR #[.tmp 2] := ⟨⟩
 simp only [impl_truth.f] at H
 apply BZ.out
 exact BZ.go
set_option maxHeartbeats 8000000 in
theorem impl_Denied.link {a0 : Int} {r : Int} (H : impl_Denied.f a0 = some r) : ACalls Tryz.prog 126 [.dat false [.sc (.int .i64 a0)]] [(false, [.sc (.int .i64 r)])] [.dat false [.sc (.int .i64 a0)]] := by
 refine ACalls.en Tryz.func126 Tryz.ntmps126 .go .go .go .go ?_
 intro C F hC hP hF hn (hx : C.fx = [])
 have kp : KL [0, 2] := ⟨⟩
 have kr : KR #[.tmp 2] := ⟨⟩
 have c0 := Hold.mk @impl_truth.link
 simp only [impl_Denied.f] at H
 apply BZ.out
 exact BZ.go
attribute [local go_sem] Int.zero_sub in
set_option maxHeartbeats 8000000 in
theorem impl_Negated.link {a0 : Int} {r : Int × Int} (H : impl_Negated.f a0 = some r) : ACalls Tryz.prog 127 [.dat false [.sc (.int .i64 a0)]] [(false, [.sc (.int .i64 r.1)]), (false, [.sc (.int .i64 r.2)])] [.dat false [.sc (.int .i64 a0)]] := by
 refine ACalls.en Tryz.func127 Tryz.ntmps127 .go .go .go .go ?_
 intro C F hC hP hF hn (hx : C.fx = [])
 have kp : KL [0, 2, 3, 6] := ⟨⟩
 have kr : KR #[.tmp 2, .tmp 3] := ⟨⟩
 have c0 := Hold.mk @impl_ValOk.link
 simp only [impl_Negated.f] at H
 apply BZ.out
 exact BZ.go
set_option maxHeartbeats 8000000 in
theorem impl_Calc.link {k : Nat} {a0 : Int} {a1 : Int} {a2 : Int} {r : Int × Int} (H : impl_Calc.f k a0 a1 a2 = some r) : ACalls Tryz.prog 128 [.dat false [.sc (.int .i64 a0)], .dat false [.sc (.int .i64 a1)], .dat false [.sc (.int .i64 a2)]] [(false, [.sc (.int .i64 r.1)]), (false, [.sc (.int .i64 r.2)])] [.dat false [.sc (.int .i64 a0)], .dat false [.sc (.int .i64 a1)], .dat false [.sc (.int .i64 a2)]] := by
 refine ACalls.en Tryz.func128 Tryz.ntmps128 .go .go .go .go ?_
 intro C F hC hP hF hn (hx : C.fx = [])
 have kp : KL [0, 1, 2, 6, 7, 8, 21, 31, 32, 33, 38, 43, 48, 53, 58, 64, 70, 79, 90] := ⟨⟩
 have kr : KR #[.tmp 6, .tmp 7] := ⟨⟩
 have c0 := Hold.mk @impl_within.link
 have c1 := Hold.mk @impl_ValOk.link
 have c2 := Hold.mk @impl_truth.link
 simp only [impl_Calc.f] at H
 replace H := Hold.mk H
 have m0 : LM 2 1 [0, 1, 2, 21] (fun X => ∃ x0, ∃ x1, ∃ x2, ∃ x21, ∃ q, X = ⟨[(0, .dat false [.sc (.int .i64 x0)]), (1, .dat false [.sc (.int .i64 x1)]), (2, .dat false [.sc (.int .i64 x2)]), (21, .dat false [.sc (.bool x21)])], []⟩ ∧ q ≤ k ∧ impl_Calc.j0 q x0 x1 x2 x21 = some r) := ⟨⟩
 apply late
 · intro pa0
   apply late
   · intro pb0
     apply BZc.out
     exact BZc.go
   · clear H
     intro X hJ
     obtain ⟨x0, x1, x2, x21, q1, rfl, hq, H⟩ := hJ
     cases q1 with
     | zero => (simp only [impl_Calc.j0] at H; cases H)
     | succ kq1 =>
      simp only [impl_Calc.j0] at H
      replace H := Hold.mk H
      obtain ⟨H, H0⟩ | ⟨H, H0⟩ := sIteU H.out
      · (try simp only [List.length_append, List.length_cons, List.length_nil, Nat.zero_add, beq_dec, bne_dec, Bool.or_eq_true, Bool.and_eq_true, Bool.not_eq_true', decide_eq_true_eq, decide_eq_false_iff_not, ite_or', ite_and', ite_not', ge_iff_le, gt_iff_lt] at H)
        repeat' first
         | (with_reducible replace H := sBindA H (by assumption))
         | (with_reducible replace H := sBindS H)
         | (with_reducible replace H := sBind H); obtain ⟨t, hA, H⟩ := H
         | (with_reducible replace H := sBool H); obtain ⟨c, H⟩ | ⟨c, H⟩ := H
         | (with_reducible replace H := sEq H); obtain ⟨c, c', H⟩ | ⟨c, c', H⟩ := H
         | (with_reducible replace H := sEqL H); obtain ⟨c, H⟩ | ⟨c, H⟩ := H
         | (with_reducible replace H := sIte H); obtain ⟨c, H⟩ | ⟨c, H⟩ := H
         | (with_reducible replace H := sAnd H); obtain ⟨c, H⟩ | ⟨c, H⟩ := H
         | (with_reducible replace H := sOr H); obtain ⟨c, H⟩ | ⟨c, H⟩ := H
        all_goals cases H
        all_goals (replace H0 := Hold.mk H0; have H := H0; clear H0)
        all_goals (
         replace H := H.out
         apply BZ.out
         exact BZ.go)
      · (try simp only [List.length_append, List.length_cons, List.length_nil, Nat.zero_add, beq_dec, bne_dec, Bool.or_eq_true, Bool.and_eq_true, Bool.not_eq_true', decide_eq_true_eq, decide_eq_false_iff_not, ite_or', ite_and', ite_not', ge_iff_le, gt_iff_lt] at H)
        repeat' first
         | (with_reducible replace H := sBindA H (by assumption))
         | (with_reducible replace H := sBindS H)
         | (with_reducible replace H := sBind H); obtain ⟨t, hA, H⟩ := H
         | (with_reducible replace H := sBool H); obtain ⟨c, H⟩ | ⟨c, H⟩ := H
         | (with_reducible replace H := sEq H); obtain ⟨c, c', H⟩ | ⟨c, c', H⟩ := H
         | (with_reducible replace H := sEqL H); obtain ⟨c, H⟩ | ⟨c, H⟩ := H
         | (with_reducible replace H := sIte H); obtain ⟨c, H⟩ | ⟨c, H⟩ := H
         | (with_reducible replace H := sAnd H); obtain ⟨c, H⟩ | ⟨c, H⟩ := H
         | (with_reducible replace H := sOr H); obtain ⟨c, H⟩ | ⟨c, H⟩ := H
        all_goals cases H
        all_goals (replace H0 := Hold.mk H0; have H := H0; clear H0)
        all_goals (
         have m0 : LM 2 3 [0, 1, 2, 31] (fun X => ∃ x0, ∃ x1, ∃ x2, ∃ x31, ∃ q, X = ⟨[(0, .dat false [.sc (.int .i64 x0)]), (1, .dat false [.sc (.int .i64 x1)]), (2, .dat false [.sc (.int .i64 x2)]), (31, .dat false [.sc (.bool x31)])], []⟩ ∧ q ≤ kq1 ∧ impl_Calc.j1 q x0 x1 x2 x31 = some r) := ⟨⟩
         apply late
         · intro pa0
           apply late
           · intro pb0
             apply BZc.out
             exact BZc.go
           · clear H
             intro X hJ
             obtain ⟨x0, x1, x2, x31, q2, rfl, hq, H⟩ := hJ
             cases q2 with
             | zero => (simp only [impl_Calc.j1] at H; cases H)
             | succ kq2 =>
              simp only [impl_Calc.j1] at H
              apply BZ.out
              exact BZ.go
         · intro hj0
           replace H := H.out
           apply BZ.out
           exact BZ.go)
 · intro hj0
   replace H := H.out
   apply BZ.out
   exact BZ.go
end Go.Proofs.YtjjhknklnclokaaGreat.PFnExactStepThread
