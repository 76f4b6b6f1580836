/- Functions' walks: each computes what its plain form says. No condition. -/
import Derived.Test.YtppfilhlblnmcaaLkFnExactSignsOfh
import Derived.Test.YtppfilhlblnmcaaLkFnExactSignsOfb
import Derived.Test.YtppfilhlblnmcaaLkFnExactSignsOfc
open Go Go.Proofs Go.Proofs.Ytppfilhlblnmcaa.Abs
namespace Go.Proofs.Ytppfilhlblnmcaa.PFnExactSignsOf
open Go.RowKit Go.Proofs.YtppfilhlblnmcaaW.PrintWords Go.Proofs.YtppfilhlblnmcaaW.PrintLast Go.Proofs.YtppfilhlblnmcaaW.PrintMore
set_option linter.unusedVariables false
set_option linter.unusedSimpArgs false
set_option maxRecDepth 100000
attribute [local irreducible] evK evQ evM evF evW evH goE goK goKD goQ goQD goD Ok ACalls
set_option maxHeartbeats 8000000 in
theorem impl_SignsOf.link {k : Nat} {a0 : ByteArray} {r : (List (S50)) × Int} (H : impl_SignsOf.f k a0 = some r) : ACalls Try.prog 7 [.dat false [.sc (.string a0)]] [(false, [.sl (some 0) 4 (List.flatMap e50 r.1)]), (false, [.sc (.int .i64 r.2)])] [.dat false [.sc (.string a0)]] := by
 refine ACalls.en Try.func7 Try.ntmps7 .go .go .go .go ?_
 intro C F hC hP hF hn (hx : C.fx = [])
 have kp : KL [0, 2, 3, 4, 5, 6, 7, 8, 11, 15, 18, 19, 24, 42] := ⟨⟩
 have kr : KR #[.tmp 2, .tmp 3] := ⟨⟩
 have c0 := Hold.mk @impl_signAt.link
 have c1 := Hold.mk @impl_run_impl_SignsOf_1.link
 simp only [impl_SignsOf.f] at H
 have w0 : LJ [0, 4, 5] (fun q X => ∃ x0, ∃ x4, ∃ x5, X = ⟨[(0, .dat false [.sc (.string x0)]), (4, .bor 0 none 0 1 false), (5, .dat false [.sc (.int .i64 x5)])], [(0, .vir [.sl (some 0) 4 (List.flatMap e50 x4)])]⟩ ∧ q ≤ k ∧ impl_SignsOf.l0 q x0 x4 x5 = some r) := ⟨⟩
 apply late
 · intro lp0
   apply BZa.out
   exact BZa.go
 · intro q1 X hJ ih0
   clear H
   obtain ⟨x0, x4, x5, rfl, hq, H⟩ := hJ
   cases q1 with
   | zero => (simp only [impl_SignsOf.l0] at H; cases H)
   | succ kq1 =>
    simp only [impl_SignsOf.l0] at H
    replace H := Hold.mk H
    obtain ⟨H, H0⟩ | ⟨H, H0⟩ := sIteU H.out
    · (try simp only [List.length_append, List.length_cons, List.length_nil, Nat.zero_add, beq_dec, bne_dec, Bool.or_eq_true, Bool.and_eq_true, Bool.not_eq_true', decide_eq_true_eq, decide_eq_false_iff_not, ite_or', ite_and', ite_not', ge_iff_le, gt_iff_lt] at H)
      repeat' first
       | (with_reducible replace H := sBindA H (by assumption))
       | (with_reducible replace H := sBindS H)
       | (with_reducible replace H := sBind H); obtain ⟨t, hA, H⟩ := H
       | (with_reducible replace H := sBool H); obtain ⟨c, H⟩ | ⟨c, H⟩ := H
       | (with_reducible replace H := sEq H); obtain ⟨c, c', H⟩ | ⟨c, c', H⟩ := H
       | (with_reducible replace H := sEqL H); obtain ⟨c, H⟩ | ⟨c, H⟩ := H
       | (with_reducible replace H := sIte H); obtain ⟨c, H⟩ | ⟨c, H⟩ := H
       | (with_reducible replace H := sAnd H); obtain ⟨c, H⟩ | ⟨c, H⟩ := H
       | (with_reducible replace H := sOr H); obtain ⟨c, H⟩ | ⟨c, H⟩ := H
      all_goals cases H
      all_goals (replace H0 := Hold.mk H0; have H := H0; clear H0)
      all_goals (
       obtain ⟨H, H0⟩ | ⟨H, H0⟩ := sIteU H.out
       · (try simp only [List.length_append, List.length_cons, List.length_nil, Nat.zero_add, beq_dec, bne_dec, Bool.or_eq_true, Bool.and_eq_true, Bool.not_eq_true', decide_eq_true_eq, decide_eq_false_iff_not, ite_or', ite_and', ite_not', ge_iff_le, gt_iff_lt] at H)
         repeat' first
          | (with_reducible replace H := sBindA H (by assumption))
          | (with_reducible replace H := sBindS H)
          | (with_reducible replace H := sBind H); obtain ⟨t, hA, H⟩ := H
          | (with_reducible replace H := sBool H); obtain ⟨c, H⟩ | ⟨c, H⟩ := H
          | (with_reducible replace H := sEq H); obtain ⟨c, c', H⟩ | ⟨c, c', H⟩ := H
          | (with_reducible replace H := sEqL H); obtain ⟨c, H⟩ | ⟨c, H⟩ := H
          | (with_reducible replace H := sIte H); obtain ⟨c, H⟩ | ⟨c, H⟩ := H
          | (with_reducible replace H := sAnd H); obtain ⟨c, H⟩ | ⟨c, H⟩ := H
          | (with_reducible replace H := sOr H); obtain ⟨c, H⟩ | ⟨c, H⟩ := H
         all_goals cases H
         all_goals (replace H0 := Hold.mk H0; have H := H0; clear H0)
         all_goals (
          have m0 : LM 1 19 [0, 4, 5, 18, 19] (fun X => ∃ x0, ∃ x4, ∃ x5, ∃ x18, ∃ x19, ∃ q, X = ⟨[(0, .dat false [.sc (.string x0)]), (4, .bor 0 none 0 1 false), (5, .dat false [.sc (.int .i64 x5)]), (18, .dat false [.sc (.int .u8 x18)]), (19, .dat false [.sc (.bool x19)])], [(0, .vir [.sl (some 0) 4 (List.flatMap e50 x4)])]⟩ ∧ q ≤ kq1 ∧ impl_SignsOf.j1 q x0 x4 x5 x18 x19 = some r) := ⟨⟩
          apply late
          · intro pa0
            apply late
            · intro pb0
              apply BZc.out
              exact BZc.go
            · clear H
              intro X hJ
              obtain ⟨x0, x4, x5, x18, x19, q2, rfl, hq, H⟩ := hJ
              cases q2 with
              | zero => (simp only [impl_SignsOf.j1] at H; cases H)
              | succ kq2 =>
               simp only [impl_SignsOf.j1] at H
               apply BZa.out
               exact BZa.go
          · intro hj0
            replace H := H.out
            apply BZa.out
            exact BZa.go)
       · (try simp only [List.length_append, List.length_cons, List.length_nil, Nat.zero_add, beq_dec, bne_dec, Bool.or_eq_true, Bool.and_eq_true, Bool.not_eq_true', decide_eq_true_eq, decide_eq_false_iff_not, ite_or', ite_and', ite_not', ge_iff_le, gt_iff_lt] at H)
         repeat' first
          | (with_reducible replace H := sBindA H (by assumption))
          | (with_reducible replace H := sBindS H)
          | (with_reducible replace H := sBind H); obtain ⟨t, hA, H⟩ := H
          | (with_reducible replace H := sBool H); obtain ⟨c, H⟩ | ⟨c, H⟩ := H
          | (with_reducible replace H := sEq H); obtain ⟨c, c', H⟩ | ⟨c, c', H⟩ := H
          | (with_reducible replace H := sEqL H); obtain ⟨c, H⟩ | ⟨c, H⟩ := H
          | (with_reducible replace H := sIte H); obtain ⟨c, H⟩ | ⟨c, H⟩ := H
          | (with_reducible replace H := sAnd H); obtain ⟨c, H⟩ | ⟨c, H⟩ := H
          | (with_reducible replace H := sOr H); obtain ⟨c, H⟩ | ⟨c, H⟩ := H
         all_goals cases H
         all_goals (replace H0 := Hold.mk H0; have H := H0; clear H0)
         all_goals (
          cases H.out))
    · (try simp only [List.length_append, List.length_cons, List.length_nil, Nat.zero_add, beq_dec, bne_dec, Bool.or_eq_true, Bool.and_eq_true, Bool.not_eq_true', decide_eq_true_eq, decide_eq_false_iff_not, ite_or', ite_and', ite_not', ge_iff_le, gt_iff_lt] at H)
      repeat' first
       | (with_reducible replace H := sBindA H (by assumption))
       | (with_reducible replace H := sBindS H)
       | (with_reducible replace H := sBind H); obtain ⟨t, hA, H⟩ := H
       | (with_reducible replace H := sBool H); obtain ⟨c, H⟩ | ⟨c, H⟩ := H
       | (with_reducible replace H := sEq H); obtain ⟨c, c', H⟩ | ⟨c, c', H⟩ := H
       | (with_reducible replace H := sEqL H); obtain ⟨c, H⟩ | ⟨c, H⟩ := H
       | (with_reducible replace H := sIte H); obtain ⟨c, H⟩ | ⟨c, H⟩ := H
       | (with_reducible replace H := sAnd H); obtain ⟨c, H⟩ | ⟨c, H⟩ := H
       | (with_reducible replace H := sOr H); obtain ⟨c, H⟩ | ⟨c, H⟩ := H
      all_goals cases H
      all_goals (replace H0 := Hold.mk H0; have H := H0; clear H0)
      all_goals (
       replace H := H.out
       apply BZa.out
       exact BZa.go)
set_option maxHeartbeats 8000000 in
theorem laws_eqSign.link {a0_0 : Int} {a0_1 : ByteArray} {a0_2 : Int} {a0_3 : Int} {a1_0 : Int} {a1_1 : ByteArray} {a1_2 : Int} {a1_3 : Int} {r : Bool} (H : laws_eqSign.f a0_0 a0_1 a0_2 a0_3 a1_0 a1_1 a1_2 a1_3 = some r) : ACalls Try.prog 26 [.dat true [.sc (.int .i64 a0_0), .sc (.string a0_1), .sc (.int .i64 a0_2), .sc (.int .i64 a0_3)], .dat true [.sc (.int .i64 a1_0), .sc (.string a1_1), .sc (.int .i64 a1_2), .sc (.int .i64 a1_3)]] [(false, [.sc (.bool r)])] [.dat true [.sc (.int .i64 a0_0), .sc (.string a0_1), .sc (.int .i64 a0_2), .sc (.int .i64 a0_3)], .dat true [.sc (.int .i64 a1_0), .sc (.string a1_1), .sc (.int .i64 a1_2), .sc (.int .i64 a1_3)]] := by
 refine ACalls.en Try.func26 Try.ntmps26 .go .go .go .go ?_
 intro C F hC hP hF hn (hx : C.fx = [])
 have kp : KL [0, 1, 2, 3, 4, 9, 14, 19, 24] := ⟨⟩
 have kr : KR #[.tmp 4] := ⟨⟩
 simp only [laws_eqSign.f] at H
 apply BZ.out
 exact BZ.go
set_option maxHeartbeats 8000000 in
theorem laws_eqSignS.link {k : Nat} {l0 : List (S50)} {l1 : List (S50)} {r : Bool} (H : laws_eqSignS.f k l0 l1 = some r) : ACalls Try.prog 8 [.dat false [.sl none 4 (List.flatMap e50 l0)], .dat false [.sl none 4 (List.flatMap e50 l1)]] [(false, [.sc (.bool r)])] [.dat false [.sl none 4 (List.flatMap e50 l0)], .dat false [.sl none 4 (List.flatMap e50 l1)]] := by
 refine ACalls.en Try.func8 Try.ntmps8 .go .go .go .go ?_
 intro C F hC hP hF hn (hx : C.fx = [])
 have kp : KL [0, 1, 4, 5, 10, 14, 26] := ⟨⟩
 have kr : KR #[.tmp 4] := ⟨⟩
 have kd0 : KD 6 (noneL [0, 1, 2, 3, 4, 5, 6, 7] ++ ((8, some []) :: (noneL [9] ++ []))) := ⟨⟩
 have c0 := Hold.mk @laws_eqSign.link
 simp only [laws_eqSignS.f] at H
 have w0 : LJ [0, 1, 5] (fun q X => ∃ x0, ∃ x1, ∃ x5, X = ⟨[(0, .dat false [.sl none 4 (List.flatMap e50 x0)]), (1, .dat false [.sl none 4 (List.flatMap e50 x1)]), (5, .dat false [.sc (.int .i64 x5)])], []⟩ ∧ q ≤ k ∧ laws_eqSignS.l0 q x0 x1 x5 = some r) := ⟨⟩
 apply late
 · intro lp0
   apply BZ.out
   exact BZ.go
 · intro q1 X hJ ih0
   clear H
   obtain ⟨x0, x1, x5, rfl, hq, H⟩ := hJ
   cases q1 with
   | zero => (simp only [laws_eqSignS.l0] at H; cases H)
   | succ kq1 =>
    simp only [laws_eqSignS.l0] at H
    apply BZn.out
    exact BZn.go
set_option maxHeartbeats 8000000 in
theorem laws_markText.link {k : Nat} {a0 : Int} {r : ByteArray} (H : laws_markText.f k a0 = some r) : ACalls Try.prog 27 [.dat false [.sc (.int .i64 a0)]] [(false, [.sc (.string r)])] [.dat false [.sc (.int .i64 a0)]] := by
 refine ACalls.en Try.func27 Try.ntmps27 .go .go .go .go ?_
 intro C F hC hP hF hn (hx : C.fx = [])
 have kp : KL [0, 2, 3, 5, 7] := ⟨⟩
 have kr : KR #[.tmp 2] := ⟨⟩
 simp only [laws_markText.f] at H
 have w0 : LJ [0, 3] (fun q X => ∃ x0, ∃ x3, X = ⟨[(0, .dat false [.sc (.int .i64 x0)]), (3, .dat false [.sc (.string x3)])], []⟩ ∧ q ≤ k ∧ laws_markText.l0 q x0 x3 = some r) := ⟨⟩
 apply late
 · intro lp0
   apply BZ.out
   exact BZ.go
 · intro q1 X hJ ih0
   clear H
   obtain ⟨x0, x3, rfl, hq, H⟩ := hJ
   cases q1 with
   | zero => (simp only [laws_markText.l0] at H; cases H)
   | succ kq1 =>
    simp only [laws_markText.l0] at H
    apply BZn.out
    exact BZn.go
attribute [-go_sem] e50_set e50_st in
attribute [local go_sem] e50_fold e50_fold2 e50_ats e50_rows e50_get e50_rd List.set_set List.length_set in
set_option maxHeartbeats 8000000 in
theorem laws_markSignS.link {k : Nat} {l0 : List (S50)} {a1 : Int} {r : Int × (List (S50))} (H : laws_markSignS.f k l0 a1 = some r) : MCalls Try.prog 9 false [.sl (some 0) 4 (List.flatMap e50 l0)] [.int .i64 a1] (some (.int .i64 r.1)) [.sl (some 0) 4 (List.flatMap e50 r.2)] := by
 refine MCalls.en Try.func9 Try.ntmps9 .go .go .go .go .go ?_
 intro C F hC hP hF hn (hx : C.fx = [])
 have kp : KL [0, 1, 4, 5, 9] := ⟨⟩
 have kr : KR #[.tmp 4] := ⟨⟩
 have c0 := Hold.mk @laws_markText.link
 simp only [laws_markSignS.f] at H
 have w0 : LJ [0, 1, 5] (fun q X => ∃ x0, ∃ x1, ∃ x5, X = ⟨[(0, .bor 0 none 0 1 false), (1, .dat false [.sc (.int .i64 x1)]), (5, .dat false [.sc (.int .i64 x5)])], [(0, .vir [.sl (some 1) 4 (List.flatMap e50 x0)])]⟩ ∧ q ≤ k ∧ laws_markSignS.l0 q x0 x1 x5 = some r) := ⟨⟩
 apply late
 · intro lp0
   apply BZnm.out
   exact BZnm.go
 · intro q1 X hJ ih0
   clear H
   obtain ⟨x0, x1, x5, rfl, hq, H⟩ := hJ
   cases q1 with
   | zero => (simp only [laws_markSignS.l0] at H; cases H)
   | succ kq1 =>
    simp only [laws_markSignS.l0] at H
    apply BZnm.out
    exact BZnm.go

end Go.Proofs.Ytppfilhlblnmcaa.PFnExactSignsOf
