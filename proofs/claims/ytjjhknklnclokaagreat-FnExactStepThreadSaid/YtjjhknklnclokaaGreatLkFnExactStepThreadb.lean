/- Functions' walks: each computes what its plain form says. No condition. -/
import Derived.Test.YtjjhknklnclokaaGreatLkFnExactStepThreadh
import Derived.Test.YtjjhknklnclokaaGreatLkFnExactStepThreada
open Go Go.Proofs Go.Proofs.YtjjhknklnclokaaGreat.Abs
namespace Go.Proofs.YtjjhknklnclokaaGreat.PFnExactStepThread
open Go.RowKit Go.Proofs.YtjjhknklnclokaaGreatW.PrintWords Go.Proofs.YtjjhknklnclokaaGreatW.PrintLast Go.Proofs.YtjjhknklnclokaaGreatW.PrintMore
set_option linter.unusedVariables false
set_option linter.unusedSimpArgs false
set_option maxRecDepth 100000
attribute [local irreducible] evK evQ evM evF evW evH goE goK goKD goQ goQD goD Ok ACalls
set_option maxHeartbeats 8000000 in
theorem spec_StateOf.link {l0_0 : List (S71)} {l0_1 : List (S111)} {l0_2 : List (S115)} {l1_0 : List Int} {l1_1 : List ByteArray} {l1_2 : List Int} {a1_3 : Int} {r : Int} (H : spec_StateOf.f l0_0 l0_1 l0_2 l1_0 l1_1 l1_2 a1_3 = some r) : ACalls Tryz.prog 67 [.dat true [.sl none 6 (List.flatMap e71 l0_0), .sl none 4 (List.flatMap e111 l0_1), .sl none 4 (List.flatMap e115 l0_2)], .dat true [.sl none 1 (List.flatMap eI l1_0), .sl none 1 (List.flatMap eS l1_1), .sl none 1 (List.flatMap eI l1_2), .sc (.int .i64 a1_3)]] [(false, [.sc (.int .i64 r)])] [.dat true [.sl none 6 (List.flatMap e71 l0_0), .sl none 4 (List.flatMap e111 l0_1), .sl none 4 (List.flatMap e115 l0_2)], .dat true [.sl none 1 (List.flatMap eI l1_0), .sl none 1 (List.flatMap eS l1_1), .sl none 1 (List.flatMap eI l1_2), .sc (.int .i64 a1_3)]] := by
 refine ACalls.en Tryz.func67 Tryz.ntmps67 .go .go .go .go ?_
 intro C F hC hP hF hn (hx : C.fx = [])
 have kp : KL [0, 1, 2, 3, 4, 7, 11, 14, 15] := ⟨⟩
 have kr : KR #[.tmp 4] := ⟨⟩
 have c0 := Hold.mk @spec_l11Kind.link
 simp only [spec_StateOf.f] at H
 apply BZ.out
 exact BZ.go
set_option maxHeartbeats 8000000 in
theorem spec_l05Value.link {a0 : Int} {r : Bool} (H : spec_l05Value.f a0 = some r) : ACalls Tryz.prog 113 [.dat false [.sc (.int .i64 a0)]] [(false, [.sc (.bool r)])] [.dat false [.sc (.int .i64 a0)]] := by
 refine ACalls.en Tryz.func113 Tryz.ntmps113 .go .go .go .go ?_
 intro C F hC hP hF hn (hx : C.fx = [])
 have kp : KL [0, 2] := ⟨⟩
 have kr : KR #[.tmp 2] := ⟨⟩
 have c0 := Hold.mk @spec_l01In.link
 simp only [spec_l05Value.f] at H
 apply BZ.out
 exact BZ.go
attribute [local go_sem] inLine Option.map_some in
set_option maxHeartbeats 8000000 in
theorem spec_l04Keys.link  {r : List ByteArray} (H : spec_l04Keys.f = some r) : ACalls Tryz.prog 171 [] [(false, [.sl (some 0) 1 (List.flatMap eS r)])] [] := by
 refine ACalls.en Tryz.func171 Tryz.ntmps171 .go .go .go .go ?_
 intro C F hC hP hF hn (hx : C.fx = [])
 have kp : KL [0] := ⟨⟩
 have kr : KR #[.tmp 0] := ⟨⟩
 simp only [spec_l04Keys.f] at H
 apply BZ.out
 exact BZ.go
set_option maxHeartbeats 8000000 in
theorem spec_KeyWord.link {k : Nat} {a0 : ByteArray} {r : Bool} (H : spec_KeyWord.f k a0 = some r) : ACalls Tryz.prog 163 [.dat false [.sc (.string a0)]] [(false, [.sc (.bool r)])] [.dat false [.sc (.string a0)]] := by
 refine ACalls.en Tryz.func163 Tryz.ntmps163 .go .go .go .go ?_
 intro C F hC hP hF hn (hx : C.fx = [])
 have kp : KL [0, 2, 3, 4, 9, 17] := ⟨⟩
 have kr : KR #[.tmp 2] := ⟨⟩
 have c0 := Hold.mk @spec_l04Keys.link
 simp only [spec_KeyWord.f] at H
 have w0 : LJ [0, 3, 4] (fun q X => ∃ x0, ∃ x3, ∃ x4, X = ⟨[(0, .dat false [.sc (.string x0)]), (3, .bor 0 none 0 1 false), (4, .dat false [.sc (.int .i64 x4)])], [(0, .vir [.sl (some 0) 1 (List.flatMap eS x3)])]⟩ ∧ q ≤ k ∧ spec_KeyWord.l0 q x0 x3 x4 = some r) := ⟨⟩
 apply late
 · intro lp0
   apply BZ.out
   exact BZ.go
 · intro q1 X hJ ih0
   clear H
   obtain ⟨x0, x3, x4, rfl, hq, H⟩ := hJ
   cases q1 with
   | zero => (simp only [spec_KeyWord.l0] at H; cases H)
   | succ kq1 =>
    simp only [spec_KeyWord.l0] at H
    apply BZn.out
    exact BZn.go
set_option maxHeartbeats 8000000 in
theorem spec_NameOk.link {k : Nat} {a0 : ByteArray} {r : Bool} (H : spec_NameOk.f k a0 = some r) : ACalls Tryz.prog 137 [.dat false [.sc (.string a0)]] [(false, [.sc (.bool r)])] [.dat false [.sc (.string a0)]] := by
 refine ACalls.en Tryz.func137 Tryz.ntmps137 .go .go .go .go ?_
 intro C F hC hP hF hn (hx : C.fx = [])
 have kp : KL [0, 2, 3, 7, 19] := ⟨⟩
 have kr : KR #[.tmp 2] := ⟨⟩
 have c0 := Hold.mk @spec_l01In.link
 have c1 := Hold.mk @spec_KeyWord.link
 simp only [spec_NameOk.f] at H
 have w0 : LJ [0, 3] (fun q X => ∃ x0, ∃ x3, X = ⟨[(0, .dat false [.sc (.string x0)]), (3, .dat false [.sc (.int .i64 x3)])], []⟩ ∧ q ≤ k ∧ spec_NameOk.l0 q x0 x3 = some r) := ⟨⟩
 apply late
 · intro lp0
   apply BZ.out
   exact BZ.go
 · intro q1 X hJ ih0
   clear H
   obtain ⟨x0, x3, rfl, hq, H⟩ := hJ
   cases q1 with
   | zero => (simp only [spec_NameOk.l0] at H; cases H)
   | succ kq1 =>
    simp only [spec_NameOk.l0] at H
    apply BZn.out
    exact BZn.go
set_option maxHeartbeats 8000000 in
theorem spec_l05Statement.link {a0 : Int} {r : Bool} (H : spec_l05Statement.f a0 = some r) : ACalls Tryz.prog 155 [.dat false [.sc (.int .i64 a0)]] [(false, [.sc (.bool r)])] [.dat false [.sc (.int .i64 a0)]] := by
 refine ACalls.en Tryz.func155 Tryz.ntmps155 .go .go .go .go ?_
 intro C F hC hP hF hn (hx : C.fx = [])
 have kp : KL [0, 2] := ⟨⟩
 have kr : KR #[.tmp 2] := ⟨⟩
 have c0 := Hold.mk @spec_l01In.link
 simp only [spec_l05Statement.f] at H
 apply BZ.out
 exact BZ.go
set_option maxHeartbeats 8000000 in
theorem spec_l05Kid.link {l0_0 : List (S71)} {l0_1 : List (S111)} {l0_2 : List (S115)} {a1 : Int} {a2 : Int} {r : Int} (H : spec_l05Kid.f l0_0 l0_1 l0_2 a1 a2 = some r) : ACalls Tryz.prog 168 [.dat true [.sl none 6 (List.flatMap e71 l0_0), .sl none 4 (List.flatMap e111 l0_1), .sl none 4 (List.flatMap e115 l0_2)], .dat false [.sc (.int .i64 a1)], .dat false [.sc (.int .i64 a2)]] [(false, [.sc (.int .i64 r)])] [.dat true [.sl none 6 (List.flatMap e71 l0_0), .sl none 4 (List.flatMap e111 l0_1), .sl none 4 (List.flatMap e115 l0_2)], .dat false [.sc (.int .i64 a1)], .dat false [.sc (.int .i64 a2)]] := by
 refine ACalls.en Tryz.func168 Tryz.ntmps168 .go .go .go .go ?_
 intro C F hC hP hF hn (hx : C.fx = [])
 have kp : KL [0, 1, 2, 3, 6, 7, 21] := ⟨⟩
 have kr : KR #[.tmp 6] := ⟨⟩
 have c0 := Hold.mk @spec_l01In.link
 simp only [spec_l05Kid.f] at H
 apply BZn.out
 exact BZn.go
set_option maxHeartbeats 8000000 in
theorem spec_l05Values.link {k : Nat} {l0_0 : List (S71)} {l0_1 : List (S111)} {l0_2 : List (S115)} {a1 : Int} {a2 : Int} {r : Bool} (H : spec_l05Values.f k l0_0 l0_1 l0_2 a1 a2 = some r) : ACalls Tryz.prog 166 [.dat true [.sl none 6 (List.flatMap e71 l0_0), .sl none 4 (List.flatMap e111 l0_1), .sl none 4 (List.flatMap e115 l0_2)], .dat false [.sc (.int .i64 a1)], .dat false [.sc (.int .i64 a2)]] [(false, [.sc (.bool r)])] [.dat true [.sl none 6 (List.flatMap e71 l0_0), .sl none 4 (List.flatMap e111 l0_1), .sl none 4 (List.flatMap e115 l0_2)], .dat false [.sc (.int .i64 a1)], .dat false [.sc (.int .i64 a2)]] := by
 refine ACalls.en Tryz.func166 Tryz.ntmps166 .go .go .go .go ?_
 intro C F hC hP hF hn (hx : C.fx = [])
 have kp : KL [0, 1, 2, 3, 6, 7, 10, 18] := ⟨⟩
 have kr : KR #[.tmp 6] := ⟨⟩
 have c0 := Hold.mk @spec_l05Value.link
 have c1 := Hold.mk @spec_l05Kid.link
 simp only [spec_l05Values.f] at H
 have w0 : LJ [1, 2, 3, 7] (fun q X => ∃ x1, ∃ x2, ∃ x7, ∃ x319000, ∃ x319001, ∃ x319002, X = ⟨[(1, .dat false [.sc (.int .i64 x1)]), (2, .dat false [.sc (.int .i64 x2)]), (3, .pl 0 none 0), (7, .dat false [.sc (.int .i64 x7)])], [(0, .mem [.sl none 6 (List.flatMap e71 x319000), .sl none 4 (List.flatMap e111 x319001), .sl none 4 (List.flatMap e115 x319002)])]⟩ ∧ q ≤ k ∧ spec_l05Values.l0 q x1 x2 x7 x319000 x319001 x319002 = some r) := ⟨⟩
 apply late
 · intro lp0
   apply BZ.out
   exact BZ.go
 · intro q1 X hJ ih0
   clear H
   obtain ⟨x1, x2, x7, x319000, x319001, x319002, rfl, hq, H⟩ := hJ
   cases q1 with
   | zero => (simp only [spec_l05Values.l0] at H; cases H)
   | succ kq1 =>
    simp only [spec_l05Values.l0] at H
    apply BZ.out
    exact BZ.go
set_option maxHeartbeats 8000000 in
theorem spec_l05Blocks.link {k : Nat} {l0_0 : List (S71)} {l0_1 : List (S111)} {l0_2 : List (S115)} {a1 : Int} {a2 : Int} {r : Bool} (H : spec_l05Blocks.f k l0_0 l0_1 l0_2 a1 a2 = some r) : ACalls Tryz.prog 167 [.dat true [.sl none 6 (List.flatMap e71 l0_0), .sl none 4 (List.flatMap e111 l0_1), .sl none 4 (List.flatMap e115 l0_2)], .dat false [.sc (.int .i64 a1)], .dat false [.sc (.int .i64 a2)]] [(false, [.sc (.bool r)])] [.dat true [.sl none 6 (List.flatMap e71 l0_0), .sl none 4 (List.flatMap e111 l0_1), .sl none 4 (List.flatMap e115 l0_2)], .dat false [.sc (.int .i64 a1)], .dat false [.sc (.int .i64 a2)]] := by
 refine ACalls.en Tryz.func167 Tryz.ntmps167 .go .go .go .go ?_
 intro C F hC hP hF hn (hx : C.fx = [])
 have kp : KL [0, 1, 2, 3, 6, 7, 17, 24] := ⟨⟩
 have kr : KR #[.tmp 6] := ⟨⟩
 have c0 := Hold.mk @spec_l05Kid.link
 simp only [spec_l05Blocks.f] at H
 have w0 : LJ [1, 3, 7] (fun q X => ∃ x1, ∃ x7, ∃ x322000, ∃ x322001, ∃ x322002, X = ⟨[(1, .dat false [.sc (.int .i64 x1)]), (3, .pl 0 none 0), (7, .dat false [.sc (.int .i64 x7)])], [(0, .mem [.sl none 6 (List.flatMap e71 x322000), .sl none 4 (List.flatMap e111 x322001), .sl none 4 (List.flatMap e115 x322002)])]⟩ ∧ q ≤ k ∧ spec_l05Blocks.l0 q x1 x7 x322000 x322001 x322002 = some r) := ⟨⟩
 apply late
 · intro lp0
   apply BZ.out
   exact BZ.go
 · intro q1 X hJ ih0
   clear H
   obtain ⟨x1, x7, x322000, x322001, x322002, rfl, hq, H⟩ := hJ
   cases q1 with
   | zero => (simp only [spec_l05Blocks.l0] at H; cases H)
   | succ kq1 =>
    simp only [spec_l05Blocks.l0] at H
    apply BZn.out
    exact BZn.go
set_option maxHeartbeats 8000000 in
theorem spec_l05Kids.link {k : Nat} {l0_0 : List (S71)} {l0_1 : List (S111)} {l0_2 : List (S115)} {a1 : Int} {r : Bool} (H : spec_l05Kids.f k l0_0 l0_1 l0_2 a1 = some r) : ACalls Tryz.prog 156 [.dat true [.sl none 6 (List.flatMap e71 l0_0), .sl none 4 (List.flatMap e111 l0_1), .sl none 4 (List.flatMap e115 l0_2)], .dat false [.sc (.int .i64 a1)]] [(false, [.sc (.bool r)])] [.dat true [.sl none 6 (List.flatMap e71 l0_0), .sl none 4 (List.flatMap e111 l0_1), .sl none 4 (List.flatMap e115 l0_2)], .dat false [.sc (.int .i64 a1)]] := by
 refine ACalls.en Tryz.func156 Tryz.ntmps156 .go .go .go .go ?_
 intro C F hC hP hF hn (hx : C.fx = [])
 have kp : KL [0, 1, 2, 4, 5, 6, 19, 20, 29, 38, 51, 69, 85, 93] := ⟨⟩
 have kr : KR #[.tmp 4] := ⟨⟩
 have c0 := Hold.mk @spec_l01In.link
 have c1 := Hold.mk @spec_l05Statement.link
 have c2 := Hold.mk @spec_l05Kid.link
 have c3 := Hold.mk @spec_l05Values.link
 have c4 := Hold.mk @spec_l05Blocks.link
 simp only [spec_l05Kids.f] at H
 replace H := Hold.mk H
 obtain ⟨H, H0⟩ | ⟨H, H0⟩ := sIteU H.out
 · (try simp only [List.length_append, List.length_cons, List.length_nil, Nat.zero_add, beq_dec, bne_dec, Bool.or_eq_true, Bool.and_eq_true, Bool.not_eq_true', decide_eq_true_eq, decide_eq_false_iff_not, ite_or', ite_and', ite_not', ge_iff_le, gt_iff_lt] at H)
   repeat' first
    | (with_reducible replace H := sBindA H (by assumption))
    | (with_reducible replace H := sBindS H)
    | (with_reducible replace H := sBind H); obtain ⟨t, hA, H⟩ := H
    | (with_reducible replace H := sBool H); obtain ⟨c, H⟩ | ⟨c, H⟩ := H
    | (with_reducible replace H := sEq H); obtain ⟨c, c', H⟩ | ⟨c, c', H⟩ := H
    | (with_reducible replace H := sEqL H); obtain ⟨c, H⟩ | ⟨c, H⟩ := H
    | (with_reducible replace H := sIte H); obtain ⟨c, H⟩ | ⟨c, H⟩ := H
    | (with_reducible replace H := sAnd H); obtain ⟨c, H⟩ | ⟨c, H⟩ := H
    | (with_reducible replace H := sOr H); obtain ⟨c, H⟩ | ⟨c, H⟩ := H
   all_goals cases H
   all_goals (replace H0 := Hold.mk H0; have H := H0; clear H0)
   all_goals (
    obtain ⟨H, H0⟩ | ⟨H, H0⟩ := sIteU H.out
    · (try simp only [List.length_append, List.length_cons, List.length_nil, Nat.zero_add, beq_dec, bne_dec, Bool.or_eq_true, Bool.and_eq_true, Bool.not_eq_true', decide_eq_true_eq, decide_eq_false_iff_not, ite_or', ite_and', ite_not', ge_iff_le, gt_iff_lt] at H)
      repeat' first
       | (with_reducible replace H := sBindA H (by assumption))
       | (with_reducible replace H := sBindS H)
       | (with_reducible replace H := sBind H); obtain ⟨t, hA, H⟩ := H
       | (with_reducible replace H := sBool H); obtain ⟨c, H⟩ | ⟨c, H⟩ := H
       | (with_reducible replace H := sEq H); obtain ⟨c, c', H⟩ | ⟨c, c', H⟩ := H
       | (with_reducible replace H := sEqL H); obtain ⟨c, H⟩ | ⟨c, H⟩ := H
       | (with_reducible replace H := sIte H); obtain ⟨c, H⟩ | ⟨c, H⟩ := H
       | (with_reducible replace H := sAnd H); obtain ⟨c, H⟩ | ⟨c, H⟩ := H
       | (with_reducible replace H := sOr H); obtain ⟨c, H⟩ | ⟨c, H⟩ := H
      all_goals cases H
      all_goals (replace H0 := Hold.mk H0; have H := H0; clear H0)
      all_goals (
       have m0 : LM 1 20 [1, 2, 5, 19, 20] (fun X => ∃ x1, ∃ x5, ∃ x19, ∃ x20, ∃ x325000, ∃ x325001, ∃ x325002, ∃ q, X = ⟨[(1, .dat false [.sc (.int .i64 x1)]), (2, .pl 0 none 0), (5, .dat false [.sc (.int .i64 x5)]), (19, .dat false [.sc (.int .i64 x19)]), (20, .dat false [.sc (.bool x20)])], [(0, .mem [.sl none 6 (List.flatMap e71 x325000), .sl none 4 (List.flatMap e111 x325001), .sl none 4 (List.flatMap e115 x325002)])]⟩ ∧ q ≤ k ∧ spec_l05Kids.j0 q x1 x5 x19 x20 x325000 x325001 x325002 = some r) := ⟨⟩
       apply late
       · intro pa0
         apply late
         · intro pb0
           apply BZc.out
           exact BZc.go
         · clear H
           intro X hJ
           obtain ⟨x1, x5, x19, x20, x325000, x325001, x325002, q1, rfl, hq, H⟩ := hJ
           cases q1 with
           | zero => (simp only [spec_l05Kids.j0] at H; cases H)
           | succ kq1 =>
            simp only [spec_l05Kids.j0] at H
            replace H := Hold.mk H
            obtain ⟨H, H0⟩ | ⟨H, H0⟩ := sIteU H.out
            · (try simp only [List.length_append, List.length_cons, List.length_nil, Nat.zero_add, beq_dec, bne_dec, Bool.or_eq_true, Bool.and_eq_true, Bool.not_eq_true', decide_eq_true_eq, decide_eq_false_iff_not, ite_or', ite_and', ite_not', ge_iff_le, gt_iff_lt] at H)
              repeat' first
               | (with_reducible replace H := sBindA H (by assumption))
               | (with_reducible replace H := sBindS H)
               | (with_reducible replace H := sBind H); obtain ⟨t, hA, H⟩ := H
               | (with_reducible replace H := sBool H); obtain ⟨c, H⟩ | ⟨c, H⟩ := H
               | (with_reducible replace H := sEq H); obtain ⟨c, c', H⟩ | ⟨c, c', H⟩ := H
               | (with_reducible replace H := sEqL H); obtain ⟨c, H⟩ | ⟨c, H⟩ := H
               | (with_reducible replace H := sIte H); obtain ⟨c, H⟩ | ⟨c, H⟩ := H
               | (with_reducible replace H := sAnd H); obtain ⟨c, H⟩ | ⟨c, H⟩ := H
               | (with_reducible replace H := sOr H); obtain ⟨c, H⟩ | ⟨c, H⟩ := H
              all_goals cases H
              all_goals (replace H0 := Hold.mk H0; have H := H0; clear H0)
              all_goals (
               replace H := H.out
               apply BZ.out
               exact BZ.go)
            · (try simp only [List.length_append, List.length_cons, List.length_nil, Nat.zero_add, beq_dec, bne_dec, Bool.or_eq_true, Bool.and_eq_true, Bool.not_eq_true', decide_eq_true_eq, decide_eq_false_iff_not, ite_or', ite_and', ite_not', ge_iff_le, gt_iff_lt] at H)
              repeat' first
               | (with_reducible replace H := sBindA H (by assumption))
               | (with_reducible replace H := sBindS H)
               | (with_reducible replace H := sBind H); obtain ⟨t, hA, H⟩ := H
               | (with_reducible replace H := sBool H); obtain ⟨c, H⟩ | ⟨c, H⟩ := H
               | (with_reducible replace H := sEq H); obtain ⟨c, c', H⟩ | ⟨c, c', H⟩ := H
               | (with_reducible replace H := sEqL H); obtain ⟨c, H⟩ | ⟨c, H⟩ := H
               | (with_reducible replace H := sIte H); obtain ⟨c, H⟩ | ⟨c, H⟩ := H
               | (with_reducible replace H := sAnd H); obtain ⟨c, H⟩ | ⟨c, H⟩ := H
               | (with_reducible replace H := sOr H); obtain ⟨c, H⟩ | ⟨c, H⟩ := H
              all_goals cases H
              all_goals (replace H0 := Hold.mk H0; have H := H0; clear H0)
              all_goals (
               obtain ⟨H, H0⟩ | ⟨H, H0⟩ := sIteU H.out
               · (try simp only [List.length_append, List.length_cons, List.length_nil, Nat.zero_add, beq_dec, bne_dec, Bool.or_eq_true, Bool.and_eq_true, Bool.not_eq_true', decide_eq_true_eq, decide_eq_false_iff_not, ite_or', ite_and', ite_not', ge_iff_le, gt_iff_lt] at H)
                 repeat' first
                  | (with_reducible replace H := sBindA H (by assumption))
                  | (with_reducible replace H := sBindS H)
                  | (with_reducible replace H := sBind H); obtain ⟨t, hA, H⟩ := H
                  | (with_reducible replace H := sBool H); obtain ⟨c, H⟩ | ⟨c, H⟩ := H
                  | (with_reducible replace H := sEq H); obtain ⟨c, c', H⟩ | ⟨c, c', H⟩ := H
                  | (with_reducible replace H := sEqL H); obtain ⟨c, H⟩ | ⟨c, H⟩ := H
                  | (with_reducible replace H := sIte H); obtain ⟨c, H⟩ | ⟨c, H⟩ := H
                  | (with_reducible replace H := sAnd H); obtain ⟨c, H⟩ | ⟨c, H⟩ := H
                  | (with_reducible replace H := sOr H); obtain ⟨c, H⟩ | ⟨c, H⟩ := H
                 all_goals cases H
                 all_goals (replace H0 := Hold.mk H0; have H := H0; clear H0)
                 all_goals (
                  replace H := H.out
                  apply BZ.out
                  exact BZ.go)
               · (try simp only [List.length_append, List.length_cons, List.length_nil, Nat.zero_add, beq_dec, bne_dec, Bool.or_eq_true, Bool.and_eq_true, Bool.not_eq_true', decide_eq_true_eq, decide_eq_false_iff_not, ite_or', ite_and', ite_not', ge_iff_le, gt_iff_lt] at H)
                 repeat' first
                  | (with_reducible replace H := sBindA H (by assumption))
                  | (with_reducible replace H := sBindS H)
                  | (with_reducible replace H := sBind H); obtain ⟨t, hA, H⟩ := H
                  | (with_reducible replace H := sBool H); obtain ⟨c, H⟩ | ⟨c, H⟩ := H
                  | (with_reducible replace H := sEq H); obtain ⟨c, c', H⟩ | ⟨c, c', H⟩ := H
                  | (with_reducible replace H := sEqL H); obtain ⟨c, H⟩ | ⟨c, H⟩ := H
                  | (with_reducible replace H := sIte H); obtain ⟨c, H⟩ | ⟨c, H⟩ := H
                  | (with_reducible replace H := sAnd H); obtain ⟨c, H⟩ | ⟨c, H⟩ := H
                  | (with_reducible replace H := sOr H); obtain ⟨c, H⟩ | ⟨c, H⟩ := H
                 all_goals cases H
                 all_goals (replace H0 := Hold.mk H0; have H := H0; clear H0)
                 all_goals (
                  have m0 : LM 1 38 [1, 2, 5, 19, 38] (fun X => ∃ x1, ∃ x5, ∃ x19, ∃ x38, ∃ x325000, ∃ x325001, ∃ x325002, ∃ q, X = ⟨[(1, .dat false [.sc (.int .i64 x1)]), (2, .pl 0 none 0), (5, .dat false [.sc (.int .i64 x5)]), (19, .dat false [.sc (.int .i64 x19)]), (38, .dat false [.sc (.bool x38)])], [(0, .mem [.sl none 6 (List.flatMap e71 x325000), .sl none 4 (List.flatMap e111 x325001), .sl none 4 (List.flatMap e115 x325002)])]⟩ ∧ q ≤ kq1 ∧ spec_l05Kids.j1 q x1 x5 x19 x38 x325000 x325001 x325002 = some r) := ⟨⟩
                  apply late
                  · intro pa0
                    apply late
                    · intro pb0
                      apply BZc.out
                      exact BZc.go
                    · clear H
                      intro X hJ
                      obtain ⟨x1, x5, x19, x38, x325000, x325001, x325002, q2, rfl, hq, H⟩ := hJ
                      cases q2 with
                      | zero => (simp only [spec_l05Kids.j1] at H; cases H)
                      | succ kq2 =>
                       simp only [spec_l05Kids.j1] at H
                       have w0 : LJ [1, 2, 5, 6] (fun q X => ∃ x1, ∃ x5, ∃ x6, ∃ x325000, ∃ x325001, ∃ x325002, X = ⟨[(1, .dat false [.sc (.int .i64 x1)]), (2, .pl 0 none 0), (5, .dat false [.sc (.int .i64 x5)]), (6, .dat false [.sc (.int .i64 x6)])], [(0, .mem [.sl none 6 (List.flatMap e71 x325000), .sl none 4 (List.flatMap e111 x325001), .sl none 4 (List.flatMap e115 x325002)])]⟩ ∧ q ≤ kq2 ∧ spec_l05Kids.l0 q x1 x5 x6 x325000 x325001 x325002 = some r) := ⟨⟩
                       apply late
                       · intro lp0
                         apply BZ.out
                         exact BZ.go
                       · intro q3 X hJ ih0
                         clear H
                         obtain ⟨x1, x5, x6, x325000, x325001, x325002, rfl, hq, H⟩ := hJ
                         cases q3 with
                         | zero => (simp only [spec_l05Kids.l0] at H; cases H)
                         | succ kq3 =>
                          simp only [spec_l05Kids.l0] at H
                          apply BZ.out
                          exact BZ.go
                  · intro hj0
                    replace H := H.out
                    apply BZ.out
                    exact BZ.go))
       · intro hj0
         replace H := H.out
         apply BZ.out
         exact BZ.go)
    · (try simp only [List.length_append, List.length_cons, List.length_nil, Nat.zero_add, beq_dec, bne_dec, Bool.or_eq_true, Bool.and_eq_true, Bool.not_eq_true', decide_eq_true_eq, decide_eq_false_iff_not, ite_or', ite_and', ite_not', ge_iff_le, gt_iff_lt] at H)
      repeat' first
       | (with_reducible replace H := sBindA H (by assumption))
       | (with_reducible replace H := sBindS H)
       | (with_reducible replace H := sBind H); obtain ⟨t, hA, H⟩ := H
       | (with_reducible replace H := sBool H); obtain ⟨c, H⟩ | ⟨c, H⟩ := H
       | (with_reducible replace H := sEq H); obtain ⟨c, c', H⟩ | ⟨c, c', H⟩ := H
       | (with_reducible replace H := sEqL H); obtain ⟨c, H⟩ | ⟨c, H⟩ := H
       | (with_reducible replace H := sIte H); obtain ⟨c, H⟩ | ⟨c, H⟩ := H
       | (with_reducible replace H := sAnd H); obtain ⟨c, H⟩ | ⟨c, H⟩ := H
       | (with_reducible replace H := sOr H); obtain ⟨c, H⟩ | ⟨c, H⟩ := H
      all_goals cases H
      all_goals (replace H0 := Hold.mk H0; have H := H0; clear H0)
      all_goals (
       cases H.out))
 · (try simp only [List.length_append, List.length_cons, List.length_nil, Nat.zero_add, beq_dec, bne_dec, Bool.or_eq_true, Bool.and_eq_true, Bool.not_eq_true', decide_eq_true_eq, decide_eq_false_iff_not, ite_or', ite_and', ite_not', ge_iff_le, gt_iff_lt] at H)
   repeat' first
    | (with_reducible replace H := sBindA H (by assumption))
    | (with_reducible replace H := sBindS H)
    | (with_reducible replace H := sBind H); obtain ⟨t, hA, H⟩ := H
    | (with_reducible replace H := sBool H); obtain ⟨c, H⟩ | ⟨c, H⟩ := H
    | (with_reducible replace H := sEq H); obtain ⟨c, c', H⟩ | ⟨c, c', H⟩ := H
    | (with_reducible replace H := sEqL H); obtain ⟨c, H⟩ | ⟨c, H⟩ := H
    | (with_reducible replace H := sIte H); obtain ⟨c, H⟩ | ⟨c, H⟩ := H
    | (with_reducible replace H := sAnd H); obtain ⟨c, H⟩ | ⟨c, H⟩ := H
    | (with_reducible replace H := sOr H); obtain ⟨c, H⟩ | ⟨c, H⟩ := H
   all_goals cases H
   all_goals (replace H0 := Hold.mk H0; have H := H0; clear H0)
   all_goals (
    cases H.out)
set_option maxHeartbeats 8000000 in
theorem spec_NodeOk.link {k : Nat} {l0_0 : List (S71)} {l0_1 : List (S111)} {l0_2 : List (S115)} {a1 : Int} {r : Bool} (H : spec_NodeOk.f k l0_0 l0_1 l0_2 a1 = some r) : ACalls Tryz.prog 112 [.dat true [.sl none 6 (List.flatMap e71 l0_0), .sl none 4 (List.flatMap e111 l0_1), .sl none 4 (List.flatMap e115 l0_2)], .dat false [.sc (.int .i64 a1)]] [(false, [.sc (.bool r)])] [.dat true [.sl none 6 (List.flatMap e71 l0_0), .sl none 4 (List.flatMap e111 l0_1), .sl none 4 (List.flatMap e115 l0_2)], .dat false [.sc (.int .i64 a1)]] := by
 refine ACalls.en Tryz.func112 Tryz.ntmps112 .go .go .go .go ?_
 intro C F hC hP hF hn (hx : C.fx = [])
 have kp : KL [0, 1, 2, 4, 5, 6, 7, 8, 15, 25, 30, 43, 64, 108, 111, 126, 134, 136, 137, 142] := ⟨⟩
 have kr : KR #[.tmp 4] := ⟨⟩
 have c0 := Hold.mk @spec_l01In.link
 have c1 := Hold.mk @spec_l05Value.link
 have c2 := Hold.mk @spec_NameOk.link
 have c3 := Hold.mk @spec_l05Statement.link
 have c4 := Hold.mk @spec_l05Kids.link
 simp only [spec_NodeOk.f] at H
 have w0 : LJ [1, 2, 5, 6] (fun q X => ∃ x1, ∃ x6, ∃ x339000, ∃ x339001, ∃ x339002, ∃ x342000, ∃ x342001, ∃ x342002, ∃ x342003, ∃ x342004, ∃ x342005, X = ⟨[(1, .dat false [.sc (.int .i64 x1)]), (2, .pl 0 none 0), (5, .pl 1 none 0), (6, .dat false [.sc (.int .i64 x6)])], [(0, .mem [.sl none 6 (List.flatMap e71 x339000), .sl none 4 (List.flatMap e111 x339001), .sl none 4 (List.flatMap e115 x339002)]), (1, .mem [.sc (.int .i64 x342000), .sc (.int .i64 x342001), .sc (.string x342002), .sc (.string x342003), .sc (.string x342004), .sl none 1 (List.flatMap eI x342005)])]⟩ ∧ q ≤ k ∧ spec_NodeOk.l0 q x1 x6 x339000 x339001 x339002 x342000 x342001 x342002 x342003 x342004 x342005 = some r) := ⟨⟩
 apply late
 · intro lp0
   apply BZn.out
   exact BZn.go
 · intro q1 X hJ ih0
   clear H
   obtain ⟨x1, x6, x339000, x339001, x339002, x342000, x342001, x342002, x342003, x342004, x342005, rfl, hq, H⟩ := hJ
   cases q1 with
   | zero => (simp only [spec_NodeOk.l0] at H; cases H)
   | succ kq1 =>
    simp only [spec_NodeOk.l0] at H
    replace H := Hold.mk H
    obtain ⟨H, H0⟩ | ⟨H, H0⟩ := sIteU H.out
    · (try simp only [List.length_append, List.length_cons, List.length_nil, Nat.zero_add, beq_dec, bne_dec, Bool.or_eq_true, Bool.and_eq_true, Bool.not_eq_true', decide_eq_true_eq, decide_eq_false_iff_not, ite_or', ite_and', ite_not', ge_iff_le, gt_iff_lt] at H)
      repeat' first
       | (with_reducible replace H := sBindA H (by assumption))
       | (with_reducible replace H := sBindS H)
       | (with_reducible replace H := sBind H); obtain ⟨t, hA, H⟩ := H
       | (with_reducible replace H := sBool H); obtain ⟨c, H⟩ | ⟨c, H⟩ := H
       | (with_reducible replace H := sEq H); obtain ⟨c, c', H⟩ | ⟨c, c', H⟩ := H
       | (with_reducible replace H := sEqL H); obtain ⟨c, H⟩ | ⟨c, H⟩ := H
       | (with_reducible replace H := sIte H); obtain ⟨c, H⟩ | ⟨c, H⟩ := H
       | (with_reducible replace H := sAnd H); obtain ⟨c, H⟩ | ⟨c, H⟩ := H
       | (with_reducible replace H := sOr H); obtain ⟨c, H⟩ | ⟨c, H⟩ := H
      all_goals cases H
      all_goals (replace H0 := Hold.mk H0; have H := H0; clear H0)
      all_goals (
       replace H := H.out
       have w1 : LJ [1, 2, 5, 6, 7] (fun q X => ∃ x1, ∃ x6, ∃ x7, ∃ x339000, ∃ x339001, ∃ x339002, ∃ x342000, ∃ x342001, ∃ x342002, ∃ x342003, ∃ x342004, ∃ x342005, X = ⟨[(1, .dat false [.sc (.int .i64 x1)]), (2, .pl 0 none 0), (5, .pl 1 none 0), (6, .dat false [.sc (.int .i64 x6)]), (7, .dat false [.sc (.int .i64 x7)])], [(0, .mem [.sl none 6 (List.flatMap e71 x339000), .sl none 4 (List.flatMap e111 x339001), .sl none 4 (List.flatMap e115 x339002)]), (1, .mem [.sc (.int .i64 x342000), .sc (.int .i64 x342001), .sc (.string x342002), .sc (.string x342003), .sc (.string x342004), .sl none 1 (List.flatMap eI x342005)])]⟩ ∧ q ≤ kq1 ∧ spec_NodeOk.l1 q x1 x6 x7 x339000 x339001 x339002 x342000 x342001 x342002 x342003 x342004 x342005 = some r) := ⟨⟩
       apply late
       · intro lp1
         apply BZ.out
         exact BZ.go
       · intro q2 X hJ ih1
         clear H
         obtain ⟨x1, x6, x7, x339000, x339001, x339002, x342000, x342001, x342002, x342003, x342004, x342005, rfl, hq, H⟩ := hJ
         cases q2 with
         | zero => (simp only [spec_NodeOk.l1] at H; cases H)
         | succ kq2 =>
          simp only [spec_NodeOk.l1] at H
          apply BZn.out
          exact BZn.go)
    · (try simp only [List.length_append, List.length_cons, List.length_nil, Nat.zero_add, beq_dec, bne_dec, Bool.or_eq_true, Bool.and_eq_true, Bool.not_eq_true', decide_eq_true_eq, decide_eq_false_iff_not, ite_or', ite_and', ite_not', ge_iff_le, gt_iff_lt] at H)
      repeat' first
       | (with_reducible replace H := sBindA H (by assumption))
       | (with_reducible replace H := sBindS H)
       | (with_reducible replace H := sBind H); obtain ⟨t, hA, H⟩ := H
       | (with_reducible replace H := sBool H); obtain ⟨c, H⟩ | ⟨c, H⟩ := H
       | (with_reducible replace H := sEq H); obtain ⟨c, c', H⟩ | ⟨c, c', H⟩ := H
       | (with_reducible replace H := sEqL H); obtain ⟨c, H⟩ | ⟨c, H⟩ := H
       | (with_reducible replace H := sIte H); obtain ⟨c, H⟩ | ⟨c, H⟩ := H
       | (with_reducible replace H := sAnd H); obtain ⟨c, H⟩ | ⟨c, H⟩ := H
       | (with_reducible replace H := sOr H); obtain ⟨c, H⟩ | ⟨c, H⟩ := H
      all_goals cases H
      all_goals (replace H0 := Hold.mk H0; have H := H0; clear H0)
      all_goals (
       have m0 : LM 2 12 [5, 64] (fun X => ∃ x64, ∃ x342000, ∃ x342001, ∃ x342002, ∃ x342003, ∃ x342004, ∃ x342005, ∃ q, X = ⟨[(5, .pl 0 none 0), (64, .dat false [.sc (.bool x64)])], [(0, .mem [.sc (.int .i64 x342000), .sc (.int .i64 x342001), .sc (.string x342002), .sc (.string x342003), .sc (.string x342004), .sl none 1 (List.flatMap eI x342005)])]⟩ ∧ q ≤ kq1 ∧ spec_NodeOk.j2 q x64 x342000 x342001 x342002 x342003 x342004 x342005 = some r) := ⟨⟩
       apply late
       · intro pa0
         apply late
         · intro pb0
           apply BZc.out
           exact BZc.go
         · clear H
           intro X hJ
           obtain ⟨x64, x342000, x342001, x342002, x342003, x342004, x342005, q3, rfl, hq, H⟩ := hJ
           cases q3 with
           | zero => (simp only [spec_NodeOk.j2] at H; cases H)
           | succ kq3 =>
            simp only [spec_NodeOk.j2] at H
            replace H := Hold.mk H
            obtain ⟨H, H0⟩ | ⟨H, H0⟩ := sIteU H.out
            · (try simp only [List.length_append, List.length_cons, List.length_nil, Nat.zero_add, beq_dec, bne_dec, Bool.or_eq_true, Bool.and_eq_true, Bool.not_eq_true', decide_eq_true_eq, decide_eq_false_iff_not, ite_or', ite_and', ite_not', ge_iff_le, gt_iff_lt] at H)
              repeat' first
               | (with_reducible replace H := sBindA H (by assumption))
               | (with_reducible replace H := sBindS H)
               | (with_reducible replace H := sBind H); obtain ⟨t, hA, H⟩ := H
               | (with_reducible replace H := sBool H); obtain ⟨c, H⟩ | ⟨c, H⟩ := H
               | (with_reducible replace H := sEq H); obtain ⟨c, c', H⟩ | ⟨c, c', H⟩ := H
               | (with_reducible replace H := sEqL H); obtain ⟨c, H⟩ | ⟨c, H⟩ := H
               | (with_reducible replace H := sIte H); obtain ⟨c, H⟩ | ⟨c, H⟩ := H
               | (with_reducible replace H := sAnd H); obtain ⟨c, H⟩ | ⟨c, H⟩ := H
               | (with_reducible replace H := sOr H); obtain ⟨c, H⟩ | ⟨c, H⟩ := H
              all_goals cases H
              all_goals (replace H0 := Hold.mk H0; have H := H0; clear H0)
              all_goals (
               replace H := H.out
               apply BZ.out
               exact BZ.go)
            · (try simp only [List.length_append, List.length_cons, List.length_nil, Nat.zero_add, beq_dec, bne_dec, Bool.or_eq_true, Bool.and_eq_true, Bool.not_eq_true', decide_eq_true_eq, decide_eq_false_iff_not, ite_or', ite_and', ite_not', ge_iff_le, gt_iff_lt] at H)
              repeat' first
               | (with_reducible replace H := sBindA H (by assumption))
               | (with_reducible replace H := sBindS H)
               | (with_reducible replace H := sBind H); obtain ⟨t, hA, H⟩ := H
               | (with_reducible replace H := sBool H); obtain ⟨c, H⟩ | ⟨c, H⟩ := H
               | (with_reducible replace H := sEq H); obtain ⟨c, c', H⟩ | ⟨c, c', H⟩ := H
               | (with_reducible replace H := sEqL H); obtain ⟨c, H⟩ | ⟨c, H⟩ := H
               | (with_reducible replace H := sIte H); obtain ⟨c, H⟩ | ⟨c, H⟩ := H
               | (with_reducible replace H := sAnd H); obtain ⟨c, H⟩ | ⟨c, H⟩ := H
               | (with_reducible replace H := sOr H); obtain ⟨c, H⟩ | ⟨c, H⟩ := H
              all_goals cases H
              all_goals (replace H0 := Hold.mk H0; have H := H0; clear H0)
              all_goals (
               have m0 : LM 2 14 [5, 8] (fun X => ∃ x8, ∃ x342000, ∃ x342001, ∃ x342002, ∃ x342003, ∃ x342004, ∃ x342005, ∃ q, X = ⟨[(5, .pl 0 none 0), (8, .dat false [.sc (.bool x8)])], [(0, .mem [.sc (.int .i64 x342000), .sc (.int .i64 x342001), .sc (.string x342002), .sc (.string x342003), .sc (.string x342004), .sl none 1 (List.flatMap eI x342005)])]⟩ ∧ q ≤ kq3 ∧ spec_NodeOk.j3 q x8 x342000 x342001 x342002 x342003 x342004 x342005 = some r) := ⟨⟩
               apply late
               · intro pa0
                 apply late
                 · intro pb0
                   apply BZc.out
                   exact BZc.go
                 · clear H
                   intro X hJ
                   obtain ⟨x8, x342000, x342001, x342002, x342003, x342004, x342005, q4, rfl, hq, H⟩ := hJ
                   cases q4 with
                   | zero => (simp only [spec_NodeOk.j3] at H; cases H)
                   | succ kq4 =>
                    simp only [spec_NodeOk.j3] at H
                    replace H := Hold.mk H
                    have m0 : LM 2 15 [5, 108] (fun X => ∃ x108, ∃ x342000, ∃ x342001, ∃ x342002, ∃ x342003, ∃ x342004, ∃ x342005, ∃ q, X = ⟨[(5, .pl 0 none 0), (108, .dat false [.sc (.bool x108)])], [(0, .mem [.sc (.int .i64 x342000), .sc (.int .i64 x342001), .sc (.string x342002), .sc (.string x342003), .sc (.string x342004), .sl none 1 (List.flatMap eI x342005)])]⟩ ∧ q ≤ kq4 ∧ spec_NodeOk.j4 q x108 x342000 x342001 x342002 x342003 x342004 x342005 = some r) := ⟨⟩
                    apply late
                    · intro pa0
                      apply late
                      · intro pb0
                        apply BZc.out
                        exact BZc.go
                      · clear H
                        intro X hJ
                        obtain ⟨x108, x342000, x342001, x342002, x342003, x342004, x342005, q5, rfl, hq, H⟩ := hJ
                        cases q5 with
                        | zero => (simp only [spec_NodeOk.j4] at H; cases H)
                        | succ kq5 =>
                         simp only [spec_NodeOk.j4] at H
                         replace H := Hold.mk H
                         obtain ⟨H, H0⟩ | ⟨H, H0⟩ := sIteU H.out
                         · (try simp only [List.length_append, List.length_cons, List.length_nil, Nat.zero_add, beq_dec, bne_dec, Bool.or_eq_true, Bool.and_eq_true, Bool.not_eq_true', decide_eq_true_eq, decide_eq_false_iff_not, ite_or', ite_and', ite_not', ge_iff_le, gt_iff_lt] at H)
                           repeat' first
                            | (with_reducible replace H := sBindA H (by assumption))
                            | (with_reducible replace H := sBindS H)
                            | (with_reducible replace H := sBind H); obtain ⟨t, hA, H⟩ := H
                            | (with_reducible replace H := sBool H); obtain ⟨c, H⟩ | ⟨c, H⟩ := H
                            | (with_reducible replace H := sEq H); obtain ⟨c, c', H⟩ | ⟨c, c', H⟩ := H
                            | (with_reducible replace H := sEqL H); obtain ⟨c, H⟩ | ⟨c, H⟩ := H
                            | (with_reducible replace H := sIte H); obtain ⟨c, H⟩ | ⟨c, H⟩ := H
                            | (with_reducible replace H := sAnd H); obtain ⟨c, H⟩ | ⟨c, H⟩ := H
                            | (with_reducible replace H := sOr H); obtain ⟨c, H⟩ | ⟨c, H⟩ := H
                           all_goals cases H
                           all_goals (replace H0 := Hold.mk H0; have H := H0; clear H0)
                           all_goals (
                            replace H := H.out
                            apply BZ.out
                            exact BZ.go)
                         · (try simp only [List.length_append, List.length_cons, List.length_nil, Nat.zero_add, beq_dec, bne_dec, Bool.or_eq_true, Bool.and_eq_true, Bool.not_eq_true', decide_eq_true_eq, decide_eq_false_iff_not, ite_or', ite_and', ite_not', ge_iff_le, gt_iff_lt] at H)
                           repeat' first
                            | (with_reducible replace H := sBindA H (by assumption))
                            | (with_reducible replace H := sBindS H)
                            | (with_reducible replace H := sBind H); obtain ⟨t, hA, H⟩ := H
                            | (with_reducible replace H := sBool H); obtain ⟨c, H⟩ | ⟨c, H⟩ := H
                            | (with_reducible replace H := sEq H); obtain ⟨c, c', H⟩ | ⟨c, c', H⟩ := H
                            | (with_reducible replace H := sEqL H); obtain ⟨c, H⟩ | ⟨c, H⟩ := H
                            | (with_reducible replace H := sIte H); obtain ⟨c, H⟩ | ⟨c, H⟩ := H
                            | (with_reducible replace H := sAnd H); obtain ⟨c, H⟩ | ⟨c, H⟩ := H
                            | (with_reducible replace H := sOr H); obtain ⟨c, H⟩ | ⟨c, H⟩ := H
                           all_goals cases H
                           all_goals (replace H0 := Hold.mk H0; have H := H0; clear H0)
                           all_goals (
                            have m0 : LM 1 111 [5] (fun X => ∃ x342000, ∃ x342001, ∃ x342002, ∃ x342003, ∃ x342004, ∃ x342005, ∃ q, X = ⟨[(5, .pl 0 none 0)], [(0, .mem [.sc (.int .i64 x342000), .sc (.int .i64 x342001), .sc (.string x342002), .sc (.string x342003), .sc (.string x342004), .sl none 1 (List.flatMap eI x342005)])]⟩ ∧ q ≤ kq5 ∧ spec_NodeOk.j5 q x342000 x342001 x342002 x342003 x342004 x342005 = some r) := ⟨⟩
                            apply late
                            · intro pa0
                              apply late
                              · intro pb0
                                apply BZc.out
                                exact BZc.go
                              · clear H
                                intro X hJ
                                obtain ⟨x342000, x342001, x342002, x342003, x342004, x342005, q6, rfl, hq, H⟩ := hJ
                                cases q6 with
                                | zero => (simp only [spec_NodeOk.j5] at H; cases H)
                                | succ kq6 =>
                                 simp only [spec_NodeOk.j5] at H
                                 apply BZ.out
                                 exact BZ.go
                            · intro hj0
                              replace H := H.out
                              apply BZ.out
                              exact BZ.go)
                    · intro hj0
                      replace H := H.out
                      apply BZ.out
                      exact BZ.go
               · intro hj0
                 replace H := H.out
                 apply BZ.out
                 exact BZ.go)
       · intro hj0
         replace H := H.out
         apply BZ.out
         exact BZ.go)
set_option maxHeartbeats 8000000 in
theorem spec_l05Deeps.link {k : Nat} {l0_0 : List (S71)} {l0_1 : List (S111)} {l0_2 : List (S115)} {r : List Int} (H : spec_l05Deeps.f k l0_0 l0_1 l0_2 = some r) : ACalls Tryz.prog 72 [.dat true [.sl none 6 (List.flatMap e71 l0_0), .sl none 4 (List.flatMap e111 l0_1), .sl none 4 (List.flatMap e115 l0_2)]] [(false, [.sl (some 0) 1 (List.flatMap eI r)])] [.dat true [.sl none 6 (List.flatMap e71 l0_0), .sl none 4 (List.flatMap e111 l0_1), .sl none 4 (List.flatMap e115 l0_2)]] := by
 refine ACalls.en Tryz.func72 Tryz.ntmps72 .go .go .go .go ?_
 intro C F hC hP hF hn (hx : C.fx = [])
 have kp : KL [0, 1, 2, 3, 4, 5, 6, 12, 17, 26, 43, 70] := ⟨⟩
 have kr : KR #[.tmp 2] := ⟨⟩
 have c0 := Hold.mk @spec_NodeOk.link
 simp only [spec_l05Deeps.f] at H
 have w0 : LJ [1, 3, 4] (fun q X => ∃ x3, ∃ x4, ∃ x355000, ∃ x355001, ∃ x355002, X = ⟨[(1, .pl 0 none 0), (3, .bor 1 none 0 1 false), (4, .dat false [.sc (.int .i64 x4)])], [(0, .mem [.sl none 6 (List.flatMap e71 x355000), .sl none 4 (List.flatMap e111 x355001), .sl none 4 (List.flatMap e115 x355002)]), (1, .vir [.sl (some 0) 1 (List.flatMap eI x3)])]⟩ ∧ q ≤ k ∧ spec_l05Deeps.l0 q x3 x4 x355000 x355001 x355002 = some r) := ⟨⟩
 apply late
 · intro lp0
   apply BZa.out
   exact BZa.go
 · intro q1 X hJ ih0
   clear H
   obtain ⟨x3, x4, x355000, x355001, x355002, rfl, hq, H⟩ := hJ
   cases q1 with
   | zero => (simp only [spec_l05Deeps.l0] at H; cases H)
   | succ kq1 =>
    simp only [spec_l05Deeps.l0] at H
    have w1 : LJ [1, 3, 4, 5, 6] (fun q X => ∃ x3, ∃ x4, ∃ x5, ∃ x6, ∃ x355000, ∃ x355001, ∃ x355002, X = ⟨[(1, .pl 0 none 0), (3, .bor 1 none 0 1 false), (4, .dat false [.sc (.int .i64 x4)]), (5, .dat false [.sc (.int .i64 x5)]), (6, .dat false [.sc (.int .i64 x6)])], [(0, .mem [.sl none 6 (List.flatMap e71 x355000), .sl none 4 (List.flatMap e111 x355001), .sl none 4 (List.flatMap e115 x355002)]), (1, .vir [.sl (some 0) 1 (List.flatMap eI x3)])]⟩ ∧ q ≤ kq1 ∧ spec_l05Deeps.l1 q x3 x4 x5 x6 x355000 x355001 x355002 = some r) := ⟨⟩
    apply late
    · intro lp1
      apply BZna.out
      exact BZna.go
    · intro q2 X hJ ih1
      clear H
      obtain ⟨x3, x4, x5, x6, x355000, x355001, x355002, rfl, hq, H⟩ := hJ
      cases q2 with
      | zero => (simp only [spec_l05Deeps.l1] at H; cases H)
      | succ kq2 =>
       simp only [spec_l05Deeps.l1] at H
       apply BZna.out
       exact BZna.go
set_option maxHeartbeats 8000000 in
theorem spec_DeepOf.link {k : Nat} {l0_0 : List (S71)} {l0_1 : List (S111)} {l0_2 : List (S115)} {a1 : Int} {r : Int} (H : spec_DeepOf.f k l0_0 l0_1 l0_2 a1 = some r) : ACalls Tryz.prog 154 [.dat true [.sl none 6 (List.flatMap e71 l0_0), .sl none 4 (List.flatMap e111 l0_1), .sl none 4 (List.flatMap e115 l0_2)], .dat false [.sc (.int .i64 a1)]] [(false, [.sc (.int .i64 r)])] [.dat true [.sl none 6 (List.flatMap e71 l0_0), .sl none 4 (List.flatMap e111 l0_1), .sl none 4 (List.flatMap e115 l0_2)], .dat false [.sc (.int .i64 a1)]] := by
 refine ACalls.en Tryz.func154 Tryz.ntmps154 .go .go .go .go ?_
 intro C F hC hP hF hn (hx : C.fx = [])
 have kp : KL [0, 1, 2, 4, 11] := ⟨⟩
 have kr : KR #[.tmp 4] := ⟨⟩
 have c0 := Hold.mk @spec_l01In.link
 have c1 := Hold.mk @spec_l05Deeps.link
 simp only [spec_DeepOf.f] at H
 apply BZn.out
 exact BZn.go
set_option maxHeartbeats 8000000 in
theorem spec_l03Bit.link {a0 : Bool} {r : Int} (H : spec_l03Bit.f a0 = some r) : ACalls Tryz.prog 176 [.dat false [.sc (.bool a0)]] [(false, [.sc (.int .i64 r)])] [.dat false [.sc (.bool a0)]] := by
 refine ACalls.en Tryz.func176 Tryz.ntmps176 .go .go .go .go ?_
 intro C F hC hP hF hn (hx : C.fx = [])
 have kp : KL [0, 2, 3] := ⟨⟩
 have kr : KR #[.tmp 2] := ⟨⟩
 simp only [spec_l03Bit.f] at H
 apply BZ.out
 exact BZ.go
end Go.Proofs.YtjjhknklnclokaaGreat.PFnExactStepThread
