/- Functions' walks: each computes what its plain form says. No condition. -/
import Derived.Test.YtmbkcbgbienjoaaLkFnExactProgramOkh
import Derived.Test.YtmbkcbgbienjoaaLkFnExactProgramOkb
import Derived.Test.YtmbkcbgbienjoaaLkFnExactProgramOkc
import Derived.Test.YtmbkcbgbienjoaaLkFnExactProgramOkd
open Go Go.Proofs Go.Proofs.Ytmbkcbgbienjoaa.Abs
namespace Go.Proofs.Ytmbkcbgbienjoaa.PFnExactProgramOk
open Go.RowKit Go.Proofs.YtmbkcbgbienjoaaW.PrintWords Go.Proofs.YtmbkcbgbienjoaaW.PrintLast Go.Proofs.YtmbkcbgbienjoaaW.PrintMore
set_option linter.unusedVariables false
set_option linter.unusedSimpArgs false
set_option maxRecDepth 100000
attribute [local irreducible] evK evQ evM evF evW evH goE goK goKD goQ goQD goD Ok ACalls
set_option maxHeartbeats 8000000 in
theorem spec_l05Deeps.link (k : Nat) (l0_0 : List (S77)) (l0_1 : List (S106)) (l0_2 : List (S103)) (r : List Int) (H : spec_l05Deeps.f k l0_0 l0_1 l0_2 = some r) : ACalls Try.prog 83 [.dat true [.sl none 6 (List.flatMap e77 l0_0), .sl none 4 (List.flatMap e106 l0_1), .sl none 4 (List.flatMap e103 l0_2)]] [(false, [.sl (some 0) 1 (List.flatMap eI r)])] [.dat true [.sl none 6 (List.flatMap e77 l0_0), .sl none 4 (List.flatMap e106 l0_1), .sl none 4 (List.flatMap e103 l0_2)]] := by
 refine ACalls.enter Try.func83 (by kernel_rfl) rfl (by rw [Try.ntmps83]; exact Nat.le_of_ble_eq_true rfl) (fun C F hC hP hf hn hx => ?_)
 rw [Try.ntmps83] at hn
 have hF : Try.prog.funcs[C.fid]? = some Try.f83 := hf ▸ Try.func83
 replace hC := Hold.mk hC
 replace hx : C.fx = [] := hx
 simp only [entry, entE, enumM, rwA, rwC, Nat.reduceAdd] at ⊢
 simp only [spec_l05Deeps.f, List.length_append, List.length_cons, List.length_nil, Nat.zero_add, beq_dec, bne_dec, Bool.or_eq_true, Bool.and_eq_true, Bool.not_eq_true', decide_eq_true_eq, decide_eq_false_iff_not, ite_or', ite_and', ite_not', ge_iff_le, gt_iff_lt] at H
 repeat' first
  | (with_reducible replace H := sBindA H (by assumption))
  | (with_reducible replace H := sBindS H)
  | (with_reducible replace H := sBind H); obtain ⟨t, hA, H⟩ := H
  | (with_reducible replace H := sBool H); obtain ⟨c, H⟩ | ⟨c, H⟩ := H
  | (with_reducible replace H := sEq H); obtain ⟨c, c', H⟩ | ⟨c, c', H⟩ := H
  | (with_reducible replace H := sEqL H); obtain ⟨c, H⟩ | ⟨c, H⟩ := H
  | (with_reducible replace H := sIte H); obtain ⟨c, H⟩ | ⟨c, H⟩ := H
  | (with_reducible replace H := sAnd H); obtain ⟨c, H⟩ | ⟨c, H⟩ := H
  | (with_reducible replace H := sOr H); obtain ⟨c, H⟩ | ⟨c, H⟩ := H
 all_goals first
  | cases H
  | replace H := Hold.mk H
 all_goals (try simp only [List.length_append, List.length_cons, List.length_nil, Nat.zero_add] at *)
 all_goals repeat (first
  | apply Ok.seq
  | apply Ok.skip
  | (apply Ok.rN [0, 1, 2, 3, 4, 5, 6, 12, 17, 26, 43, 70] hP hn hx; exact BR.go; exact BV.go)
  | (apply Ok.gS)
  | (apply Ok.cn; exact BS.go)
  | apply Ok.block
  | apply Ok.inBlock
  | (apply Ok.ex; exact BR.go)
  | (apply goE.e [0, 1, 2, 3, 4, 5, 6, 12, 17, 26, 43, 70] hP hn hx; exact BR.go; exact BV.go)
  | (apply goE.n hP hn hx; exact BR.go; exact BJ.go; exact BU.go)
  | (apply goE.q; exact BR.go; exact BG.go; exact BW.go)
  | (apply goQ.t hP; exact BR.go; exact BR.go; exact BS.go)
  | (apply goQ.f hn hx; exact BR.go; exact BR.go; exact BE.go)
  | (apply goK.k hP hn hx; exact spec_NodeOk.link _ _ _ _ _ _ (by assumption); exact BS.go)
  | (apply Ok.bk #[.tmp 2] hC.out hP hx hF; exact BR.go; exact BF.go; exact BF.go; exact BF.go; exact BM.go; exact BR.go; exact BR.go; exact BR.go; exact B1.go; exact BR.go)
  | (apply Ok.lq [1, 3, 4] (fun q X => ∃ x3, ∃ x4, ∃ x313000, ∃ x313001, ∃ x313002, X = ⟨[(1, .pl 0 none 0), (3, .bor 1 none 0 1 false), (4, .dat false [.sc (.int .i64 x4)])], [(0, .mem [.sl none 6 (List.flatMap e77 x313000), .sl none 4 (List.flatMap e106 x313001), .sl none 4 (List.flatMap e103 x313002)]), (1, .vir [.sl (some 0) 1 (List.flatMap eI x3)])]⟩ ∧ q ≤ k ∧ spec_l05Deeps.l0 q x3 x4 x313000 x313001 x313002 = some r); exact BT.go; exact ⟨_, _, _, _, _, _, by first | rfl | (simp (disch := omega) only [go_sem, ↓reduceIte, eq_self, and_self]; done), by omega, H.out⟩))
 all_goals intro q0_1 X hJ ih0
 all_goals clear H
 all_goals obtain ⟨x3, x4, x313000, x313001, x313002, rfl, hq, H⟩ := hJ
 all_goals (cases q0_1 with
  | zero => (simp only [spec_l05Deeps.l0] at H; cases H)
  | succ kq0_1 =>
   simp only [spec_l05Deeps.l0, List.length_append, List.length_cons, List.length_nil, Nat.zero_add, beq_dec, bne_dec, Bool.or_eq_true, Bool.and_eq_true, Bool.not_eq_true', decide_eq_true_eq, decide_eq_false_iff_not, ite_or', ite_and', ite_not', ge_iff_le, gt_iff_lt] at H
   repeat' first
    | (with_reducible replace H := sBindA H (by assumption))
    | (with_reducible replace H := sBindS H)
    | (with_reducible replace H := sBind H); obtain ⟨t, hA, H⟩ := H
    | (with_reducible replace H := sBool H); obtain ⟨c, H⟩ | ⟨c, H⟩ := H
    | (with_reducible replace H := sEq H); obtain ⟨c, c', H⟩ | ⟨c, c', H⟩ := H
    | (with_reducible replace H := sEqL H); obtain ⟨c, H⟩ | ⟨c, H⟩ := H
    | (with_reducible replace H := sIte H); obtain ⟨c, H⟩ | ⟨c, H⟩ := H
    | (with_reducible replace H := sAnd H); obtain ⟨c, H⟩ | ⟨c, H⟩ := H
    | (with_reducible replace H := sOr H); obtain ⟨c, H⟩ | ⟨c, H⟩ := H
   all_goals first
    | cases H
    | (exfalso; clear H; omega)
    | replace H := Hold.mk H
   all_goals (try simp only [List.length_append, List.length_cons, List.length_nil, Nat.zero_add] at *)
   all_goals repeat (first
    | apply Ok.seq
    | apply Ok.skip
    | (apply Ok.rN [0, 1, 2, 3, 4, 5, 6, 12, 17, 26, 43, 70] hP hn hx; exact BR.go; exact BV.go)
    | (apply Ok.gS)
    | (apply Ok.cn; exact BS.go)
    | apply Ok.block
    | apply Ok.inBlock
    | (apply Ok.ex; exact BR.go)
    | (apply goE.e [0, 1, 2, 3, 4, 5, 6, 12, 17, 26, 43, 70] hP hn hx; exact BR.go; exact BV.go)
    | (apply goE.n hP hn hx; exact BR.go; exact BJ.go; exact BU.go)
    | (apply goE.q; exact BR.go; exact BG.go; exact BW.go)
    | (apply goQ.t hP; exact BR.go; exact BR.go; exact BS.go)
    | (apply goQ.f hn hx; exact BR.go; exact BR.go; exact BE.go)
    | (apply goK.k hP hn hx; exact spec_NodeOk.link _ _ _ _ _ _ (by assumption); exact BS.go)
    | (apply Ok.bk #[.tmp 2] hC.out hP hx hF; exact BR.go; exact BF.go; exact BF.go; exact BF.go; exact BM.go; exact BR.go; exact BR.go; exact BR.go; exact B1.go; exact BR.go)
    | (apply Ok.ag [1, 3, 4] ih0; exact BT.go; exact ⟨_, by omega, _, _, _, _, _, by first | rfl | (simp (disch := omega) only [go_sem, ↓reduceIte, eq_self, and_self]; done), by omega, H.out⟩; done)
    | (apply Ok.lq [1, 3, 4, 5, 6] (fun q X => ∃ x3, ∃ x4, ∃ x5, ∃ x6, ∃ x313000, ∃ x313001, ∃ x313002, X = ⟨[(1, .pl 0 none 0), (3, .bor 1 none 0 1 false), (4, .dat false [.sc (.int .i64 x4)]), (5, .dat false [.sc (.int .i64 x5)]), (6, .dat false [.sc (.int .i64 x6)])], [(0, .mem [.sl none 6 (List.flatMap e77 x313000), .sl none 4 (List.flatMap e106 x313001), .sl none 4 (List.flatMap e103 x313002)]), (1, .vir [.sl (some 0) 1 (List.flatMap eI x3)])]⟩ ∧ q ≤ kq0_1 ∧ spec_l05Deeps.l1 q x3 x4 x5 x6 x313000 x313001 x313002 = some r); exact BT.go; exact ⟨_, _, _, _, _, _, _, _, by first | rfl | (simp (disch := omega) only [go_sem, ↓reduceIte, eq_self, and_self]; done), by omega, H.out⟩))
   all_goals intro q1_2 X hJ ih1
   all_goals clear H
   all_goals obtain ⟨x3, x4, x5, x6, x313000, x313001, x313002, rfl, hq, H⟩ := hJ
   all_goals (cases q1_2 with
    | zero => (simp only [spec_l05Deeps.l1] at H; cases H)
    | succ kq1_2 =>
     simp only [spec_l05Deeps.l1, List.length_append, List.length_cons, List.length_nil, Nat.zero_add, beq_dec, bne_dec, Bool.or_eq_true, Bool.and_eq_true, Bool.not_eq_true', decide_eq_true_eq, decide_eq_false_iff_not, ite_or', ite_and', ite_not', ge_iff_le, gt_iff_lt] at H
     repeat' first
      | (with_reducible replace H := sBindA H (by assumption))
      | (with_reducible replace H := sBindS H)
      | (with_reducible replace H := sBind H); obtain ⟨t, hA, H⟩ := H
      | (with_reducible replace H := sBool H); obtain ⟨c, H⟩ | ⟨c, H⟩ := H
      | (with_reducible replace H := sEq H); obtain ⟨c, c', H⟩ | ⟨c, c', H⟩ := H
      | (with_reducible replace H := sEqL H); obtain ⟨c, H⟩ | ⟨c, H⟩ := H
      | (with_reducible replace H := sIte H); obtain ⟨c, H⟩ | ⟨c, H⟩ := H
      | (with_reducible replace H := sAnd H); obtain ⟨c, H⟩ | ⟨c, H⟩ := H
      | (with_reducible replace H := sOr H); obtain ⟨c, H⟩ | ⟨c, H⟩ := H
     all_goals first
      | cases H
      | (exfalso; clear H; omega)
      | replace H := Hold.mk H
     all_goals (try simp only [List.length_append, List.length_cons, List.length_nil, Nat.zero_add] at *)
     all_goals repeat (first
      | apply Ok.seq
      | apply Ok.skip
      | (apply Ok.rN [0, 1, 2, 3, 4, 5, 6, 12, 17, 26, 43, 70] hP hn hx; exact BR.go; exact BV.go)
      | (apply Ok.gS)
      | (apply Ok.cn; exact BS.go)
      | apply Ok.block
      | apply Ok.inBlock
      | (apply Ok.ex; exact BR.go)
      | (apply goE.e [0, 1, 2, 3, 4, 5, 6, 12, 17, 26, 43, 70] hP hn hx; exact BR.go; exact BV.go)
      | (apply goE.n hP hn hx; exact BR.go; exact BJ.go; exact BU.go)
      | (apply goE.q; exact BR.go; exact BG.go; exact BW.go)
      | (apply goQ.t hP; exact BR.go; exact BR.go; exact BS.go)
      | (apply goQ.f hn hx; exact BR.go; exact BR.go; exact BE.go)
      | (apply goK.k hP hn hx; exact spec_NodeOk.link _ _ _ _ _ _ (by assumption); exact BS.go)
      | (apply Ok.bk #[.tmp 2] hC.out hP hx hF; exact BR.go; exact BF.go; exact BF.go; exact BF.go; exact BM.go; exact BR.go; exact BR.go; exact BR.go; exact B1.go; exact BR.go)
      | (apply Ok.ag [1, 3, 4] ih0; exact BT.go; exact ⟨_, by omega, _, _, _, _, _, by first | rfl | (simp (disch := omega) only [go_sem, ↓reduceIte, eq_self, and_self]; done), by omega, H.out⟩; done)
      | (apply Ok.ag [1, 3, 4, 5, 6] ih1; exact BT.go; exact ⟨_, by omega, _, _, _, _, _, _, _, by first | rfl | (simp (disch := omega) only [go_sem, ↓reduceIte, eq_self, and_self]; done), by omega, H.out⟩; done))))
set_option maxHeartbeats 8000000 in
theorem spec_l05Lists.link (k : Nat) (l0_0 : List (S77)) (l0_1 : List (S106)) (l0_2 : List (S103)) (r : Bool) (H : spec_l05Lists.f k l0_0 l0_1 l0_2 = some r) : ACalls Try.prog 87 [.dat true [.sl none 6 (List.flatMap e77 l0_0), .sl none 4 (List.flatMap e106 l0_1), .sl none 4 (List.flatMap e103 l0_2)]] [(false, [.sc (.bool r)])] [.dat true [.sl none 6 (List.flatMap e77 l0_0), .sl none 4 (List.flatMap e106 l0_1), .sl none 4 (List.flatMap e103 l0_2)]] := by
 refine ACalls.enter Try.func87 (by kernel_rfl) rfl (by rw [Try.ntmps87]; exact Nat.le_of_ble_eq_true rfl) (fun C F hC hP hf hn hx => ?_)
 rw [Try.ntmps87] at hn
 have hF : Try.prog.funcs[C.fid]? = some Try.f87 := hf ▸ Try.func87
 replace hC := Hold.mk hC
 replace hx : C.fx = [] := hx
 simp only [entry, entE, enumM, rwA, rwC, Nat.reduceAdd] at ⊢
 simp only [spec_l05Lists.f, List.length_append, List.length_cons, List.length_nil, Nat.zero_add, beq_dec, bne_dec, Bool.or_eq_true, Bool.and_eq_true, Bool.not_eq_true', decide_eq_true_eq, decide_eq_false_iff_not, ite_or', ite_and', ite_not', ge_iff_le, gt_iff_lt] at H
 repeat' first
  | (with_reducible replace H := sBindA H (by assumption))
  | (with_reducible replace H := sBindS H)
  | (with_reducible replace H := sBind H); obtain ⟨t, hA, H⟩ := H
  | (with_reducible replace H := sBool H); obtain ⟨c, H⟩ | ⟨c, H⟩ := H
  | (with_reducible replace H := sEq H); obtain ⟨c, c', H⟩ | ⟨c, c', H⟩ := H
  | (with_reducible replace H := sEqL H); obtain ⟨c, H⟩ | ⟨c, H⟩ := H
  | (with_reducible replace H := sIte H); obtain ⟨c, H⟩ | ⟨c, H⟩ := H
  | (with_reducible replace H := sAnd H); obtain ⟨c, H⟩ | ⟨c, H⟩ := H
  | (with_reducible replace H := sOr H); obtain ⟨c, H⟩ | ⟨c, H⟩ := H
 all_goals first
  | cases H
  | replace H := Hold.mk H
 all_goals repeat (first
  | apply Ok.seq
  | apply Ok.skip
  | (apply Ok.rN [0, 1, 2, 3, 4, 5, 6, 7, 12, 42, 47, 67, 72, 95] hP hn hx; exact BR.go; exact BV.go)
  | (apply Ok.gS)
  | (apply Ok.cn; exact BS.go)
  | apply Ok.block
  | apply Ok.inBlock
  | (apply Ok.ex; exact BR.go)
  | (apply goE.e [0, 1, 2, 3, 4, 5, 6, 7, 12, 42, 47, 67, 72, 95] hP hn hx; exact BR.go; exact BV.go)
  | (apply goE.n hP hn hx; exact BR.go; exact BJ.go; exact BU.go)
  | (apply goE.q; exact BR.go; exact BG.go; exact BW.go)
  | (apply goQ.t hP; exact BR.go; exact BR.go; exact BS.go)
  | (apply goQ.f hn hx; exact BR.go; exact BR.go; exact BE.go)
  | (apply goK.k hP hn hx; exact spec_l01In.link _ _ _ _ (by assumption); exact BS.go)
  | (apply goK.k hP hn hx; exact spec_NameOk.link _ _ _ (by assumption); exact BS.go)
  | (apply goK.k hP hn hx; exact spec_l05Names.link _ _ _ _ (by assumption); exact BS.go)
  | (apply Ok.bk #[.tmp 2] hC.out hP hx hF; exact BR.go; exact BF.go; exact BF.go; exact BF.go; exact BM.go; exact BR.go; exact BR.go; exact BR.go; exact B1.go; exact BR.go)
  | (apply Ok.lq [1, 3] (fun q X => ∃ x3, ∃ x353000, ∃ x353001, ∃ x353002, X = ⟨[(1, .pl 0 none 0), (3, .dat false [.sc (.int .i64 x3)])], [(0, .mem [.sl none 6 (List.flatMap e77 x353000), .sl none 4 (List.flatMap e106 x353001), .sl none 4 (List.flatMap e103 x353002)])]⟩ ∧ q ≤ k ∧ spec_l05Lists.l0 q x3 x353000 x353001 x353002 = some r); exact BT.go; exact ⟨_, _, _, _, _, by first | rfl | (simp (disch := omega) only [go_sem, ↓reduceIte, eq_self, and_self]; done), by omega, H.out⟩))
 all_goals intro q0_1 X hJ ih0
 all_goals clear H
 all_goals obtain ⟨x3, x353000, x353001, x353002, rfl, hq, H⟩ := hJ
 all_goals (cases q0_1 with
  | zero => (simp only [spec_l05Lists.l0] at H; cases H)
  | succ kq0_1 =>
   simp only [spec_l05Lists.l0] at H
   replace H := Hold.mk H
   obtain ⟨H, H0⟩ | ⟨H, H0⟩ := sIteU H.out
   · (try simp only [List.length_append, List.length_cons, List.length_nil, Nat.zero_add, beq_dec, bne_dec, Bool.or_eq_true, Bool.and_eq_true, Bool.not_eq_true', decide_eq_true_eq, decide_eq_false_iff_not, ite_or', ite_and', ite_not', ge_iff_le, gt_iff_lt] at H)
     repeat' first
      | (with_reducible replace H := sBindA H (by assumption))
      | (with_reducible replace H := sBindS H)
      | (with_reducible replace H := sBind H); obtain ⟨t, hA, H⟩ := H
      | (with_reducible replace H := sBool H); obtain ⟨c, H⟩ | ⟨c, H⟩ := H
      | (with_reducible replace H := sEq H); obtain ⟨c, c', H⟩ | ⟨c, c', H⟩ := H
      | (with_reducible replace H := sEqL H); obtain ⟨c, H⟩ | ⟨c, H⟩ := H
      | (with_reducible replace H := sIte H); obtain ⟨c, H⟩ | ⟨c, H⟩ := H
      | (with_reducible replace H := sAnd H); obtain ⟨c, H⟩ | ⟨c, H⟩ := H
      | (with_reducible replace H := sOr H); obtain ⟨c, H⟩ | ⟨c, H⟩ := H
     all_goals cases H
     all_goals (replace H0 := Hold.mk H0; have H := H0; clear H0)
     all_goals (
      obtain ⟨H, H0⟩ | ⟨H, H0⟩ := sIteU H.out
      · (try simp only [List.length_append, List.length_cons, List.length_nil, Nat.zero_add, beq_dec, bne_dec, Bool.or_eq_true, Bool.and_eq_true, Bool.not_eq_true', decide_eq_true_eq, decide_eq_false_iff_not, ite_or', ite_and', ite_not', ge_iff_le, gt_iff_lt] at H)
        repeat' first
         | (with_reducible replace H := sBindA H (by assumption))
         | (with_reducible replace H := sBindS H)
         | (with_reducible replace H := sBind H); obtain ⟨t, hA, H⟩ := H
         | (with_reducible replace H := sBool H); obtain ⟨c, H⟩ | ⟨c, H⟩ := H
         | (with_reducible replace H := sEq H); obtain ⟨c, c', H⟩ | ⟨c, c', H⟩ := H
         | (with_reducible replace H := sEqL H); obtain ⟨c, H⟩ | ⟨c, H⟩ := H
         | (with_reducible replace H := sIte H); obtain ⟨c, H⟩ | ⟨c, H⟩ := H
         | (with_reducible replace H := sAnd H); obtain ⟨c, H⟩ | ⟨c, H⟩ := H
         | (with_reducible replace H := sOr H); obtain ⟨c, H⟩ | ⟨c, H⟩ := H
        all_goals cases H
        all_goals (replace H0 := Hold.mk H0; have H := H0; clear H0)
        all_goals (
         repeat (first
          | refine Ok.cutR 5 (fun X => ∃ x3, ∃ x42, ∃ x353000, ∃ x353001, ∃ x353002, ∃ x355000, ∃ x355001, ∃ x355002, ∃ x355003, ∃ q, X = ⟨[(1, .pl 0 none 0), (3, .dat false [.sc (.int .i64 x3)]), (4, .pl 1 none 0), (42, .dat false [.sc (.bool x42)])], [(0, .mem [.sl none 6 (List.flatMap e77 x353000), .sl none 4 (List.flatMap e106 x353001), .sl none 4 (List.flatMap e103 x353002)]), (1, .mem [.sc (.string x355000), .sl none 1 (List.flatMap eS x355001), .sl none 1 (List.flatMap eS x355002), .sl none 3 (List.flatMap e131 x355003)])]⟩ ∧ q ≤ kq0_1 ∧ spec_l05Lists.j1 q x3 x42 x353000 x353001 x353002 x355000 x355001 x355002 x355003 = some r) ?_ ?_
          | apply Ok.seq
          | apply Ok.skip
          | (apply Ok.rN [0, 1, 2, 3, 4, 5, 6, 7, 12, 42, 47, 67, 72, 95] hP hn hx; exact BR.go; exact BV.go)
          | (apply Ok.gS)
          | (apply Ok.cn; exact BS.go)
          | apply Ok.block
          | apply Ok.inBlock
          | (apply Ok.ex; exact BR.go)
          | (apply goE.e [0, 1, 2, 3, 4, 5, 6, 7, 12, 42, 47, 67, 72, 95] hP hn hx; exact BR.go; exact BV.go)
          | (apply goE.n hP hn hx; exact BR.go; exact BJ.go; exact BU.go)
          | (apply goE.q; exact BR.go; exact BG.go; exact BW.go)
          | (apply goQ.t hP; exact BR.go; exact BR.go; exact BS.go)
          | (apply goQ.f hn hx; exact BR.go; exact BR.go; exact BE.go)
          | (apply goK.k hP hn hx; exact spec_l01In.link _ _ _ _ (by assumption); exact BS.go)
          | (apply goK.k hP hn hx; exact spec_NameOk.link _ _ _ (by assumption); exact BS.go)
          | (apply goK.k hP hn hx; exact spec_l05Names.link _ _ _ _ (by assumption); exact BS.go)
          | (apply Ok.bk #[.tmp 2] hC.out hP hx hF; exact BR.go; exact BF.go; exact BF.go; exact BF.go; exact BM.go; exact BR.go; exact BR.go; exact BR.go; exact B1.go; exact BR.go))
         · intro hjj1
           replace H := H.out
           (try simp only [List.length_append, List.length_cons, List.length_nil, Nat.zero_add, beq_dec, bne_dec, Bool.or_eq_true, Bool.and_eq_true, Bool.not_eq_true', decide_eq_true_eq, decide_eq_false_iff_not, ite_or', ite_and', ite_not', ge_iff_le, gt_iff_lt] at H)
           repeat' first
            | (with_reducible replace H := sBindA H (by assumption))
            | (with_reducible replace H := sBindS H)
            | (with_reducible replace H := sBind H); obtain ⟨t, hA, H⟩ := H
            | (with_reducible replace H := sBool H); obtain ⟨c, H⟩ | ⟨c, H⟩ := H
            | (with_reducible replace H := sEq H); obtain ⟨c, c', H⟩ | ⟨c, c', H⟩ := H
            | (with_reducible replace H := sEqL H); obtain ⟨c, H⟩ | ⟨c, H⟩ := H
            | (with_reducible replace H := sIte H); obtain ⟨c, H⟩ | ⟨c, H⟩ := H
            | (with_reducible replace H := sAnd H); obtain ⟨c, H⟩ | ⟨c, H⟩ := H
            | (with_reducible replace H := sOr H); obtain ⟨c, H⟩ | ⟨c, H⟩ := H
           all_goals first
            | cases H
            | replace H := Hold.mk H
           all_goals repeat (first
            | (apply Ok.mt [1, 3, 4, 42] hjj1; exact BT.go; exact ⟨_, _, _, _, _, _, _, _, _, kq0_1, by first | rfl | (simp (disch := omega) only [go_sem, ↓reduceIte, eq_self, and_self]; done), by omega, by first | exact H.out | (have h0 := H.out; simp only [*, go_sem, ↓reduceIte, reduceCtorEq] at h0 ⊢; exact h0)⟩; done)
            | apply Ok.seq
            | apply Ok.skip
            | (apply Ok.rN [0, 1, 2, 3, 4, 5, 6, 7, 12, 42, 47, 67, 72, 95] hP hn hx; exact BR.go; exact BV.go)
            | (apply Ok.gS)
            | (apply Ok.cn; exact BS.go)
            | apply Ok.block
            | apply Ok.inBlock
            | (apply Ok.ex; exact BR.go)
            | (apply goE.e [0, 1, 2, 3, 4, 5, 6, 7, 12, 42, 47, 67, 72, 95] hP hn hx; exact BR.go; exact BV.go)
            | (apply goE.n hP hn hx; exact BR.go; exact BJ.go; exact BU.go)
            | (apply goE.q; exact BR.go; exact BG.go; exact BW.go)
            | (apply goQ.t hP; exact BR.go; exact BR.go; exact BS.go)
            | (apply goQ.f hn hx; exact BR.go; exact BR.go; exact BE.go)
            | (apply goK.k hP hn hx; exact spec_l01In.link _ _ _ _ (by assumption); exact BS.go)
            | (apply goK.k hP hn hx; exact spec_NameOk.link _ _ _ (by assumption); exact BS.go)
            | (apply goK.k hP hn hx; exact spec_l05Names.link _ _ _ _ (by assumption); exact BS.go)
            | (apply Ok.bk #[.tmp 2] hC.out hP hx hF; exact BR.go; exact BF.go; exact BF.go; exact BF.go; exact BM.go; exact BR.go; exact BR.go; exact BR.go; exact B1.go; exact BR.go)
            | (apply Ok.ag [1, 3] ih0; exact BT.go; exact ⟨_, by omega, _, _, _, _, by first | rfl | (simp (disch := omega) only [go_sem, ↓reduceIte, eq_self, and_self]; done), by omega, H.out⟩; done))
         · clear H
           intro X hJ
           obtain ⟨x3, x42, x353000, x353001, x353002, x355000, x355001, x355002, x355003, qj1_2, rfl, hq, H⟩ := hJ
           (cases qj1_2 with
            | zero => (simp only [spec_l05Lists.j1] at H; cases H)
            | succ kqj1_2 =>
             simp only [spec_l05Lists.j1, List.length_append, List.length_cons, List.length_nil, Nat.zero_add, beq_dec, bne_dec, Bool.or_eq_true, Bool.and_eq_true, Bool.not_eq_true', decide_eq_true_eq, decide_eq_false_iff_not, ite_or', ite_and', ite_not', ge_iff_le, gt_iff_lt] at H
             repeat' first
              | (with_reducible replace H := sBindA H (by assumption))
              | (with_reducible replace H := sBindS H)
              | (with_reducible replace H := sBind H); obtain ⟨t, hA, H⟩ := H
              | (with_reducible replace H := sBool H); obtain ⟨c, H⟩ | ⟨c, H⟩ := H
              | (with_reducible replace H := sEq H); obtain ⟨c, c', H⟩ | ⟨c, c', H⟩ := H
              | (with_reducible replace H := sEqL H); obtain ⟨c, H⟩ | ⟨c, H⟩ := H
              | (with_reducible replace H := sIte H); obtain ⟨c, H⟩ | ⟨c, H⟩ := H
              | (with_reducible replace H := sAnd H); obtain ⟨c, H⟩ | ⟨c, H⟩ := H
              | (with_reducible replace H := sOr H); obtain ⟨c, H⟩ | ⟨c, H⟩ := H
             all_goals first
              | cases H
              | replace H := Hold.mk H
             all_goals repeat (first
              | apply Ok.seq
              | apply Ok.skip
              | (apply Ok.rN [0, 1, 2, 3, 4, 5, 6, 7, 12, 42, 47, 67, 72, 95] hP hn hx; exact BR.go; exact BV.go)
              | (apply Ok.gS)
              | (apply Ok.cn; exact BS.go)
              | apply Ok.block
              | apply Ok.inBlock
              | (apply Ok.ex; exact BR.go)
              | (apply goE.e [0, 1, 2, 3, 4, 5, 6, 7, 12, 42, 47, 67, 72, 95] hP hn hx; exact BR.go; exact BV.go)
              | (apply goE.n hP hn hx; exact BR.go; exact BJ.go; exact BU.go)
              | (apply goE.q; exact BR.go; exact BG.go; exact BW.go)
              | (apply goQ.t hP; exact BR.go; exact BR.go; exact BS.go)
              | (apply goQ.f hn hx; exact BR.go; exact BR.go; exact BE.go)
              | (apply goK.k hP hn hx; exact spec_l01In.link _ _ _ _ (by assumption); exact BS.go)
              | (apply goK.k hP hn hx; exact spec_NameOk.link _ _ _ (by assumption); exact BS.go)
              | (apply goK.k hP hn hx; exact spec_l05Names.link _ _ _ _ (by assumption); exact BS.go)
              | (apply Ok.bk #[.tmp 2] hC.out hP hx hF; exact BR.go; exact BF.go; exact BF.go; exact BF.go; exact BM.go; exact BR.go; exact BR.go; exact BR.go; exact B1.go; exact BR.go)
              | (apply Ok.ag [1, 3] ih0; exact BT.go; exact ⟨_, by omega, _, _, _, _, by first | rfl | (simp (disch := omega) only [go_sem, ↓reduceIte, eq_self, and_self]; done), by omega, H.out⟩; done)
              | (apply Ok.lq [1, 3, 4, 5] (fun q X => ∃ x3, ∃ x5, ∃ x353000, ∃ x353001, ∃ x353002, ∃ x355000, ∃ x355001, ∃ x355002, ∃ x355003, X = ⟨[(1, .pl 0 none 0), (3, .dat false [.sc (.int .i64 x3)]), (4, .pl 1 none 0), (5, .dat false [.sc (.int .i64 x5)])], [(0, .mem [.sl none 6 (List.flatMap e77 x353000), .sl none 4 (List.flatMap e106 x353001), .sl none 4 (List.flatMap e103 x353002)]), (1, .mem [.sc (.string x355000), .sl none 1 (List.flatMap eS x355001), .sl none 1 (List.flatMap eS x355002), .sl none 3 (List.flatMap e131 x355003)])]⟩ ∧ q ≤ kqj1_2 ∧ spec_l05Lists.l1 q x3 x5 x353000 x353001 x353002 x355000 x355001 x355002 x355003 = some r); exact BT.go; exact ⟨_, _, _, _, _, _, _, _, _, _, by first | rfl | (simp (disch := omega) only [go_sem, ↓reduceIte, eq_self, and_self]; done), by omega, H.out⟩))
             all_goals intro q1_3 X hJ ih1
             all_goals clear H
             all_goals obtain ⟨x3, x5, x353000, x353001, x353002, x355000, x355001, x355002, x355003, rfl, hq, H⟩ := hJ
             all_goals (cases q1_3 with
              | zero => (simp only [spec_l05Lists.l1] at H; cases H)
              | succ kq1_3 =>
               simp only [spec_l05Lists.l1, List.length_append, List.length_cons, List.length_nil, Nat.zero_add, beq_dec, bne_dec, Bool.or_eq_true, Bool.and_eq_true, Bool.not_eq_true', decide_eq_true_eq, decide_eq_false_iff_not, ite_or', ite_and', ite_not', ge_iff_le, gt_iff_lt] at H
               repeat' first
                | (with_reducible replace H := sBindA H (by assumption))
                | (with_reducible replace H := sBindS H)
                | (with_reducible replace H := sBind H); obtain ⟨t, hA, H⟩ := H
                | (with_reducible replace H := sBool H); obtain ⟨c, H⟩ | ⟨c, H⟩ := H
                | (with_reducible replace H := sEq H); obtain ⟨c, c', H⟩ | ⟨c, c', H⟩ := H
                | (with_reducible replace H := sEqL H); obtain ⟨c, H⟩ | ⟨c, H⟩ := H
                | (with_reducible replace H := sIte H); obtain ⟨c, H⟩ | ⟨c, H⟩ := H
                | (with_reducible replace H := sAnd H); obtain ⟨c, H⟩ | ⟨c, H⟩ := H
                | (with_reducible replace H := sOr H); obtain ⟨c, H⟩ | ⟨c, H⟩ := H
               all_goals first
                | cases H
                | (exfalso; clear H; omega)
                | replace H := Hold.mk H
               all_goals repeat (first
                | apply Ok.seq
                | apply Ok.skip
                | (apply Ok.rN [0, 1, 2, 3, 4, 5, 6, 7, 12, 42, 47, 67, 72, 95] hP hn hx; exact BR.go; exact BV.go)
                | (apply Ok.gS)
                | (apply Ok.cn; exact BS.go)
                | apply Ok.block
                | apply Ok.inBlock
                | (apply Ok.ex; exact BR.go)
                | (apply goE.e [0, 1, 2, 3, 4, 5, 6, 7, 12, 42, 47, 67, 72, 95] hP hn hx; exact BR.go; exact BV.go)
                | (apply goE.n hP hn hx; exact BR.go; exact BJ.go; exact BU.go)
                | (apply goE.q; exact BR.go; exact BG.go; exact BW.go)
                | (apply goQ.t hP; exact BR.go; exact BR.go; exact BS.go)
                | (apply goQ.f hn hx; exact BR.go; exact BR.go; exact BE.go)
                | (apply goK.k hP hn hx; exact spec_l01In.link _ _ _ _ (by assumption); exact BS.go)
                | (apply goK.k hP hn hx; exact spec_NameOk.link _ _ _ (by assumption); exact BS.go)
                | (apply goK.k hP hn hx; exact spec_l05Names.link _ _ _ _ (by assumption); exact BS.go)
                | (apply Ok.bk #[.tmp 2] hC.out hP hx hF; exact BR.go; exact BF.go; exact BF.go; exact BF.go; exact BM.go; exact BR.go; exact BR.go; exact BR.go; exact B1.go; exact BR.go)
                | (apply Ok.ag [1, 3] ih0; exact BT.go; exact ⟨_, by omega, _, _, _, _, by first | rfl | (simp (disch := omega) only [go_sem, ↓reduceIte, eq_self, and_self]; done), by omega, H.out⟩; done)
                | (apply Ok.ag [1, 3, 4, 5] ih1; exact BT.go; exact ⟨_, by omega, _, _, _, _, _, _, _, _, _, by first | rfl | (simp (disch := omega) only [go_sem, ↓reduceIte, eq_self, and_self]; done), by omega, H.out⟩; done)))))
      · (try simp only [List.length_append, List.length_cons, List.length_nil, Nat.zero_add, beq_dec, bne_dec, Bool.or_eq_true, Bool.and_eq_true, Bool.not_eq_true', decide_eq_true_eq, decide_eq_false_iff_not, ite_or', ite_and', ite_not', ge_iff_le, gt_iff_lt] at H)
        repeat' first
         | (with_reducible replace H := sBindA H (by assumption))
         | (with_reducible replace H := sBindS H)
         | (with_reducible replace H := sBind H); obtain ⟨t, hA, H⟩ := H
         | (with_reducible replace H := sBool H); obtain ⟨c, H⟩ | ⟨c, H⟩ := H
         | (with_reducible replace H := sEq H); obtain ⟨c, c', H⟩ | ⟨c, c', H⟩ := H
         | (with_reducible replace H := sEqL H); obtain ⟨c, H⟩ | ⟨c, H⟩ := H
         | (with_reducible replace H := sIte H); obtain ⟨c, H⟩ | ⟨c, H⟩ := H
         | (with_reducible replace H := sAnd H); obtain ⟨c, H⟩ | ⟨c, H⟩ := H
         | (with_reducible replace H := sOr H); obtain ⟨c, H⟩ | ⟨c, H⟩ := H
        all_goals cases H
        all_goals (replace H0 := Hold.mk H0; have H := H0; clear H0)
        all_goals (
         cases H.out))
   · (try simp only [List.length_append, List.length_cons, List.length_nil, Nat.zero_add, beq_dec, bne_dec, Bool.or_eq_true, Bool.and_eq_true, Bool.not_eq_true', decide_eq_true_eq, decide_eq_false_iff_not, ite_or', ite_and', ite_not', ge_iff_le, gt_iff_lt] at H)
     repeat' first
      | (with_reducible replace H := sBindA H (by assumption))
      | (with_reducible replace H := sBindS H)
      | (with_reducible replace H := sBind H); obtain ⟨t, hA, H⟩ := H
      | (with_reducible replace H := sBool H); obtain ⟨c, H⟩ | ⟨c, H⟩ := H
      | (with_reducible replace H := sEq H); obtain ⟨c, c', H⟩ | ⟨c, c', H⟩ := H
      | (with_reducible replace H := sEqL H); obtain ⟨c, H⟩ | ⟨c, H⟩ := H
      | (with_reducible replace H := sIte H); obtain ⟨c, H⟩ | ⟨c, H⟩ := H
      | (with_reducible replace H := sAnd H); obtain ⟨c, H⟩ | ⟨c, H⟩ := H
      | (with_reducible replace H := sOr H); obtain ⟨c, H⟩ | ⟨c, H⟩ := H
     all_goals cases H
     all_goals (replace H0 := Hold.mk H0; have H := H0; clear H0)
     all_goals (
      replace H := H.out
      (try simp only [List.length_append, List.length_cons, List.length_nil, Nat.zero_add, beq_dec, bne_dec, Bool.or_eq_true, Bool.and_eq_true, Bool.not_eq_true', decide_eq_true_eq, decide_eq_false_iff_not, ite_or', ite_and', ite_not', ge_iff_le, gt_iff_lt] at H)
      repeat' first
       | (with_reducible replace H := sBindA H (by assumption))
       | (with_reducible replace H := sBindS H)
       | (with_reducible replace H := sBind H); obtain ⟨t, hA, H⟩ := H
       | (with_reducible replace H := sBool H); obtain ⟨c, H⟩ | ⟨c, H⟩ := H
       | (with_reducible replace H := sEq H); obtain ⟨c, c', H⟩ | ⟨c, c', H⟩ := H
       | (with_reducible replace H := sEqL H); obtain ⟨c, H⟩ | ⟨c, H⟩ := H
       | (with_reducible replace H := sIte H); obtain ⟨c, H⟩ | ⟨c, H⟩ := H
       | (with_reducible replace H := sAnd H); obtain ⟨c, H⟩ | ⟨c, H⟩ := H
       | (with_reducible replace H := sOr H); obtain ⟨c, H⟩ | ⟨c, H⟩ := H
      all_goals first
       | cases H
       | replace H := Hold.mk H
      all_goals repeat (first
       | apply Ok.seq
       | apply Ok.skip
       | (apply Ok.rN [0, 1, 2, 3, 4, 5, 6, 7, 12, 42, 47, 67, 72, 95] hP hn hx; exact BR.go; exact BV.go)
       | (apply Ok.gS)
       | (apply Ok.cn; exact BS.go)
       | apply Ok.block
       | apply Ok.inBlock
       | (apply Ok.ex; exact BR.go)
       | (apply goE.e [0, 1, 2, 3, 4, 5, 6, 7, 12, 42, 47, 67, 72, 95] hP hn hx; exact BR.go; exact BV.go)
       | (apply goE.n hP hn hx; exact BR.go; exact BJ.go; exact BU.go)
       | (apply goE.q; exact BR.go; exact BG.go; exact BW.go)
       | (apply goQ.t hP; exact BR.go; exact BR.go; exact BS.go)
       | (apply goQ.f hn hx; exact BR.go; exact BR.go; exact BE.go)
       | (apply goK.k hP hn hx; exact spec_l01In.link _ _ _ _ (by assumption); exact BS.go)
       | (apply goK.k hP hn hx; exact spec_NameOk.link _ _ _ (by assumption); exact BS.go)
       | (apply goK.k hP hn hx; exact spec_l05Names.link _ _ _ _ (by assumption); exact BS.go)
       | (apply Ok.bk #[.tmp 2] hC.out hP hx hF; exact BR.go; exact BF.go; exact BF.go; exact BF.go; exact BM.go; exact BR.go; exact BR.go; exact BR.go; exact B1.go; exact BR.go)
       | (apply Ok.ag [1, 3] ih0; exact BT.go; exact ⟨_, by omega, _, _, _, _, by first | rfl | (simp (disch := omega) only [go_sem, ↓reduceIte, eq_self, and_self]; done), by omega, H.out⟩; done)
       | (apply Ok.lq [1, 6] (fun q X => ∃ x6, ∃ x353000, ∃ x353001, ∃ x353002, X = ⟨[(1, .pl 0 none 0), (6, .dat false [.sc (.int .i64 x6)])], [(0, .mem [.sl none 6 (List.flatMap e77 x353000), .sl none 4 (List.flatMap e106 x353001), .sl none 4 (List.flatMap e103 x353002)])]⟩ ∧ q ≤ kq0_1 ∧ spec_l05Lists.l2 q x6 x353000 x353001 x353002 = some r); exact BT.go; exact ⟨_, _, _, _, _, by first | rfl | (simp (disch := omega) only [go_sem, ↓reduceIte, eq_self, and_self]; done), by omega, H.out⟩))
      all_goals intro q2_4 X hJ ih2
      all_goals clear H
      all_goals obtain ⟨x6, x353000, x353001, x353002, rfl, hq, H⟩ := hJ
      all_goals (cases q2_4 with
       | zero => (simp only [spec_l05Lists.l2] at H; cases H)
       | succ kq2_4 =>
        simp only [spec_l05Lists.l2, List.length_append, List.length_cons, List.length_nil, Nat.zero_add, beq_dec, bne_dec, Bool.or_eq_true, Bool.and_eq_true, Bool.not_eq_true', decide_eq_true_eq, decide_eq_false_iff_not, ite_or', ite_and', ite_not', ge_iff_le, gt_iff_lt] at H
        repeat' first
         | (with_reducible replace H := sBindA H (by assumption))
         | (with_reducible replace H := sBindS H)
         | (with_reducible replace H := sBind H); obtain ⟨t, hA, H⟩ := H
         | (with_reducible replace H := sBool H); obtain ⟨c, H⟩ | ⟨c, H⟩ := H
         | (with_reducible replace H := sEq H); obtain ⟨c, c', H⟩ | ⟨c, c', H⟩ := H
         | (with_reducible replace H := sEqL H); obtain ⟨c, H⟩ | ⟨c, H⟩ := H
         | (with_reducible replace H := sIte H); obtain ⟨c, H⟩ | ⟨c, H⟩ := H
         | (with_reducible replace H := sAnd H); obtain ⟨c, H⟩ | ⟨c, H⟩ := H
         | (with_reducible replace H := sOr H); obtain ⟨c, H⟩ | ⟨c, H⟩ := H
        all_goals first
         | cases H
         | (exfalso; clear H; omega)
         | replace H := Hold.mk H
        all_goals repeat (first
         | apply Ok.seq
         | apply Ok.skip
         | (apply Ok.rN [0, 1, 2, 3, 4, 5, 6, 7, 12, 42, 47, 67, 72, 95] hP hn hx; exact BR.go; exact BV.go)
         | (apply Ok.gS)
         | (apply Ok.cn; exact BS.go)
         | apply Ok.block
         | apply Ok.inBlock
         | (apply Ok.ex; exact BR.go)
         | (apply goE.e [0, 1, 2, 3, 4, 5, 6, 7, 12, 42, 47, 67, 72, 95] hP hn hx; exact BR.go; exact BV.go)
         | (apply goE.n hP hn hx; exact BR.go; exact BJ.go; exact BU.go)
         | (apply goE.q; exact BR.go; exact BG.go; exact BW.go)
         | (apply goQ.t hP; exact BR.go; exact BR.go; exact BS.go)
         | (apply goQ.f hn hx; exact BR.go; exact BR.go; exact BE.go)
         | (apply goK.k hP hn hx; exact spec_l01In.link _ _ _ _ (by assumption); exact BS.go)
         | (apply goK.k hP hn hx; exact spec_NameOk.link _ _ _ (by assumption); exact BS.go)
         | (apply goK.k hP hn hx; exact spec_l05Names.link _ _ _ _ (by assumption); exact BS.go)
         | (apply Ok.bk #[.tmp 2] hC.out hP hx hF; exact BR.go; exact BF.go; exact BF.go; exact BF.go; exact BM.go; exact BR.go; exact BR.go; exact BR.go; exact B1.go; exact BR.go)
         | (apply Ok.ag [1, 3] ih0; exact BT.go; exact ⟨_, by omega, _, _, _, _, by first | rfl | (simp (disch := omega) only [go_sem, ↓reduceIte, eq_self, and_self]; done), by omega, H.out⟩; done)
         | (apply Ok.ag [1, 6] ih2; exact BT.go; exact ⟨_, by omega, _, _, _, _, by first | rfl | (simp (disch := omega) only [go_sem, ↓reduceIte, eq_self, and_self]; done), by omega, H.out⟩; done)))))
set_option maxHeartbeats 8000000 in
theorem slices_Index_string_string.link (k : Nat) (l0 : List ByteArray) (a1 : ByteArray) (r : Int) (H : slices_Index_string_string.f k l0 a1 = some r) : ACalls Try.prog 144 [.dat false [.sl none 1 (List.flatMap eS l0)], .dat false [.sc (.string a1)]] [(false, [.sc (.int .i64 r)])] [.dat false [.sl none 1 (List.flatMap eS l0)], .dat false [.sc (.string a1)]] := by
 refine ACalls.enter Try.func144 (by kernel_rfl) rfl (by rw [Try.ntmps144]; exact Nat.le_of_ble_eq_true rfl) (fun C F hC hP hf hn hx => ?_)
 rw [Try.ntmps144] at hn
 have hF : Try.prog.funcs[C.fid]? = some Try.f144 := hf ▸ Try.func144
 replace hC := Hold.mk hC
 replace hx : C.fx = [] := hx
 simp only [entry, entE, enumM, rwA, rwC, Nat.reduceAdd] at ⊢
 simp only [slices_Index_string_string.f, List.length_append, List.length_cons, List.length_nil, Nat.zero_add, beq_dec, bne_dec, Bool.or_eq_true, Bool.and_eq_true, Bool.not_eq_true', decide_eq_true_eq, decide_eq_false_iff_not, ite_or', ite_and', ite_not', ge_iff_le, gt_iff_lt] at H
 repeat' first
  | (with_reducible replace H := sBindA H (by assumption))
  | (with_reducible replace H := sBindS H)
  | (with_reducible replace H := sBind H); obtain ⟨t, hA, H⟩ := H
  | (with_reducible replace H := sBool H); obtain ⟨c, H⟩ | ⟨c, H⟩ := H
  | (with_reducible replace H := sEq H); obtain ⟨c, c', H⟩ | ⟨c, c', H⟩ := H
  | (with_reducible replace H := sEqL H); obtain ⟨c, H⟩ | ⟨c, H⟩ := H
  | (with_reducible replace H := sIte H); obtain ⟨c, H⟩ | ⟨c, H⟩ := H
  | (with_reducible replace H := sAnd H); obtain ⟨c, H⟩ | ⟨c, H⟩ := H
  | (with_reducible replace H := sOr H); obtain ⟨c, H⟩ | ⟨c, H⟩ := H
 all_goals first
  | cases H
  | replace H := Hold.mk H
 all_goals repeat (first
  | apply Ok.seq
  | apply Ok.skip
  | (apply Ok.rN [0, 1, 4, 5, 7, 8, 9, 16] hP hn hx; exact BR.go; exact BV.go)
  | (apply Ok.cn; exact BS.go)
  | apply Ok.block
  | apply Ok.inBlock
  | (apply Ok.ex; exact BR.go)
  | (apply Ok.bk #[.tmp 4] hC.out hP hx hF; exact BR.go; exact BF.go; exact BF.go; exact BF.go; exact BM.go; exact BR.go; exact BR.go; exact BR.go; exact B1.go; exact BR.go)
  | (apply Ok.lq [0, 1, 7, 8] (fun q X => ∃ x0, ∃ x1, ∃ x7, ∃ x8, X = ⟨[(0, .dat false [.sl none 1 (List.flatMap eS x0)]), (1, .dat false [.sc (.string x1)]), (7, .dat false [.sc (.int .i64 x7)]), (8, .dat false [.sc (.int .i64 x8)])], []⟩ ∧ q ≤ k ∧ slices_Index_string_string.l0 q x0 x1 x7 x8 = some r); exact BT.go; exact ⟨_, _, _, _, _, by first | rfl | (simp (disch := omega) only [go_sem, ↓reduceIte, eq_self, and_self]; done), by omega, H.out⟩))
 all_goals intro q0_1 X hJ ih0
 all_goals clear H
 all_goals obtain ⟨x0, x1, x7, x8, rfl, hq, H⟩ := hJ
 all_goals (cases q0_1 with
  | zero => (simp only [slices_Index_string_string.l0] at H; cases H)
  | succ kq0_1 =>
   simp only [slices_Index_string_string.l0, List.length_append, List.length_cons, List.length_nil, Nat.zero_add, beq_dec, bne_dec, Bool.or_eq_true, Bool.and_eq_true, Bool.not_eq_true', decide_eq_true_eq, decide_eq_false_iff_not, ite_or', ite_and', ite_not', ge_iff_le, gt_iff_lt] at H
   repeat' first
    | (with_reducible replace H := sBindA H (by assumption))
    | (with_reducible replace H := sBindS H)
    | (with_reducible replace H := sBind H); obtain ⟨t, hA, H⟩ := H
    | (with_reducible replace H := sBool H); obtain ⟨c, H⟩ | ⟨c, H⟩ := H
    | (with_reducible replace H := sEq H); obtain ⟨c, c', H⟩ | ⟨c, c', H⟩ := H
    | (with_reducible replace H := sEqL H); obtain ⟨c, H⟩ | ⟨c, H⟩ := H
    | (with_reducible replace H := sIte H); obtain ⟨c, H⟩ | ⟨c, H⟩ := H
    | (with_reducible replace H := sAnd H); obtain ⟨c, H⟩ | ⟨c, H⟩ := H
    | (with_reducible replace H := sOr H); obtain ⟨c, H⟩ | ⟨c, H⟩ := H
   all_goals first
    | cases H
    | (exfalso; clear H; omega)
    | replace H := Hold.mk H
   all_goals repeat (first
    | apply Ok.seq
    | apply Ok.skip
    | (apply Ok.rN [0, 1, 4, 5, 7, 8, 9, 16] hP hn hx; exact BR.go; exact BV.go)
    | (apply Ok.cn; exact BS.go)
    | apply Ok.block
    | apply Ok.inBlock
    | (apply Ok.ex; exact BR.go)
    | (apply Ok.bk #[.tmp 4] hC.out hP hx hF; exact BR.go; exact BF.go; exact BF.go; exact BF.go; exact BM.go; exact BR.go; exact BR.go; exact BR.go; exact B1.go; exact BR.go)
    | (apply Ok.ag [0, 1, 7, 8] ih0; exact BT.go; exact ⟨_, by omega, _, _, _, _, by first | rfl | (simp (disch := omega) only [go_sem, ↓reduceIte, eq_self, and_self]; done), by omega, H.out⟩; done)))
end Go.Proofs.Ytmbkcbgbienjoaa.PFnExactProgramOk
