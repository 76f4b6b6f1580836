/- Functions' walks: each computes what its plain form says. No condition. -/
import Derived.Test.YtmbkcbgbienjoaaLkFnExactProgramOkh
import Derived.Test.YtmbkcbgbienjoaaLkFnExactProgramOkb
import Derived.Test.YtmbkcbgbienjoaaLkFnExactProgramOkc
open Go Go.Proofs Go.Proofs.Ytmbkcbgbienjoaa.Abs
namespace Go.Proofs.Ytmbkcbgbienjoaa.PFnExactProgramOk
open Go.RowKit Go.Proofs.YtmbkcbgbienjoaaW.PrintWords Go.Proofs.YtmbkcbgbienjoaaW.PrintLast Go.Proofs.YtmbkcbgbienjoaaW.PrintMore
set_option linter.unusedVariables false
set_option linter.unusedSimpArgs false
set_option maxRecDepth 100000
attribute [local irreducible] evK evQ evM evF evW evH goE goK goKD goQ goQD goD Ok ACalls
set_option maxHeartbeats 8000000 in
theorem spec_NodeOk.link (k : Nat) (l0_0 : List (S77)) (l0_1 : List (S106)) (l0_2 : List (S103)) (a1 : Int) (r : Bool) (H : spec_NodeOk.f k l0_0 l0_1 l0_2 a1 = some r) : ACalls Try.prog 35 [.dat true [.sl none 6 (List.flatMap e77 l0_0), .sl none 4 (List.flatMap e106 l0_1), .sl none 4 (List.flatMap e103 l0_2)], .dat false [.sc (.int .i64 a1)]] [(false, [.sc (.bool r)])] [.dat true [.sl none 6 (List.flatMap e77 l0_0), .sl none 4 (List.flatMap e106 l0_1), .sl none 4 (List.flatMap e103 l0_2)], .dat false [.sc (.int .i64 a1)]] := by
 refine ACalls.enter Try.func35 (by kernel_rfl) rfl (by rw [Try.ntmps35]; exact Nat.le_of_ble_eq_true rfl) (fun C F hC hP hf hn hx => ?_)
 rw [Try.ntmps35] at hn
 have hF : Try.prog.funcs[C.fid]? = some Try.f35 := hf ▸ Try.func35
 replace hC := Hold.mk hC
 replace hx : C.fx = [] := hx
 simp only [entry, entE, enumM, rwA, rwC, Nat.reduceAdd] at ⊢
 simp only [spec_NodeOk.f, List.length_append, List.length_cons, List.length_nil, Nat.zero_add, beq_dec, bne_dec, Bool.or_eq_true, Bool.and_eq_true, Bool.not_eq_true', decide_eq_true_eq, decide_eq_false_iff_not, ite_or', ite_and', ite_not', ge_iff_le, gt_iff_lt] at H
 repeat' first
  | (with_reducible replace H := sBindA H (by assumption))
  | (with_reducible replace H := sBindS H)
  | (with_reducible replace H := sBind H); obtain ⟨t, hA, H⟩ := H
  | (with_reducible replace H := sBool H); obtain ⟨c, H⟩ | ⟨c, H⟩ := H
  | (with_reducible replace H := sEq H); obtain ⟨c, c', H⟩ | ⟨c, c', H⟩ := H
  | (with_reducible replace H := sEqL H); obtain ⟨c, H⟩ | ⟨c, H⟩ := H
  | (with_reducible replace H := sIte H); obtain ⟨c, H⟩ | ⟨c, H⟩ := H
  | (with_reducible replace H := sAnd H); obtain ⟨c, H⟩ | ⟨c, H⟩ := H
  | (with_reducible replace H := sOr H); obtain ⟨c, H⟩ | ⟨c, H⟩ := H
 all_goals first
  | cases H
  | (exfalso; clear H; omega)
  | replace H := Hold.mk H
 all_goals repeat (first
  | apply Ok.seq
  | apply Ok.skip
  | (apply Ok.rN [0, 1, 2, 4, 5, 6, 7, 8, 15, 25, 30, 43, 64, 108, 111, 126, 134, 136, 137, 142] hP hn hx; exact BR.go; exact BV.go)
  | (apply Ok.gS)
  | (apply Ok.cn; exact BS.go)
  | apply Ok.block
  | apply Ok.inBlock
  | (apply Ok.ex; exact BR.go)
  | (apply Ok.rD [0, 1, 2, 4, 5, 6, 7, 8, 15, 25, 30, 43, 64, 108, 111, 126, 134, 136, 137, 142] hP hn hx mo; exact BK.go; exact BX.go)
  | (apply goE.e [0, 1, 2, 4, 5, 6, 7, 8, 15, 25, 30, 43, 64, 108, 111, 126, 134, 136, 137, 142] hP hn hx; exact BR.go; exact BV.go)
  | (apply goE.n hP hn hx; exact BR.go; exact BJ.go; exact BU.go)
  | (apply goE.q; exact BR.go; exact BG.go; exact BW.go)
  | (apply goQ.t hP; exact BR.go; exact BR.go; exact BS.go)
  | (apply goQ.f hn hx; exact BR.go; exact BR.go; exact BE.go)
  | (apply goK.k hP hn hx; exact spec_l01In.link _ _ _ _ (by assumption); exact BS.go)
  | (apply goK.k hP hn hx; exact spec_l05Value.link _ _ (by assumption); exact BS.go)
  | (apply goK.k hP hn hx; exact spec_l05Statement.link _ _ (by assumption); exact BS.go)
  | (apply goK.k hP hn hx; exact spec_l05Kids.link _ _ _ _ _ _ (by assumption); exact BS.go)
  | (apply goK.k hP hn hx; exact spec_NameOk.link _ _ _ (by assumption); exact BS.go)
  | (apply Ok.bk #[.tmp 4] hC.out hP hx hF; exact BR.go; exact BF.go; exact BF.go; exact BF.go; exact BM.go; exact BR.go; exact BR.go; exact BR.go; exact B1.go; exact BR.go)
  | (apply Ok.lq [1, 2, 5, 6] (fun q X => ∃ x1, ∃ x6, ∃ x297000, ∃ x297001, ∃ x297002, ∃ x300000, ∃ x300001, ∃ x300002, ∃ x300003, ∃ x300004, ∃ x300005, X = ⟨[(1, .dat false [.sc (.int .i64 x1)]), (2, .pl 0 none 0), (5, .pl 1 none 0), (6, .dat false [.sc (.int .i64 x6)])], [(0, .mem [.sl none 6 (List.flatMap e77 x297000), .sl none 4 (List.flatMap e106 x297001), .sl none 4 (List.flatMap e103 x297002)]), (1, .mem [.sc (.int .i64 x300000), .sc (.int .i64 x300001), .sc (.string x300002), .sc (.string x300003), .sc (.string x300004), .sl none 1 (List.flatMap eI x300005)])]⟩ ∧ q ≤ k ∧ spec_NodeOk.l0 q x1 x6 x297000 x297001 x297002 x300000 x300001 x300002 x300003 x300004 x300005 = some r); exact BT.go; exact ⟨_, _, _, _, _, _, _, _, _, _, _, _, by first | rfl | (simp (disch := omega) only [go_sem, ↓reduceIte, eq_self, and_self]; done), by omega, H.out⟩))
 all_goals intro q0_1 X hJ ih0
 all_goals clear H
 all_goals obtain ⟨x1, x6, x297000, x297001, x297002, x300000, x300001, x300002, x300003, x300004, x300005, rfl, hq, H⟩ := hJ
 all_goals (cases q0_1 with
  | zero => (simp only [spec_NodeOk.l0] at H; cases H)
  | succ kq0_1 =>
   simp only [spec_NodeOk.l0] at H
   replace H := Hold.mk H
   obtain ⟨H, H0⟩ | ⟨H, H0⟩ := sIteU H.out
   · (try simp only [List.length_append, List.length_cons, List.length_nil, Nat.zero_add, beq_dec, bne_dec, Bool.or_eq_true, Bool.and_eq_true, Bool.not_eq_true', decide_eq_true_eq, decide_eq_false_iff_not, ite_or', ite_and', ite_not', ge_iff_le, gt_iff_lt] at H)
     repeat' first
      | (with_reducible replace H := sBindA H (by assumption))
      | (with_reducible replace H := sBindS H)
      | (with_reducible replace H := sBind H); obtain ⟨t, hA, H⟩ := H
      | (with_reducible replace H := sBool H); obtain ⟨c, H⟩ | ⟨c, H⟩ := H
      | (with_reducible replace H := sEq H); obtain ⟨c, c', H⟩ | ⟨c, c', H⟩ := H
      | (with_reducible replace H := sEqL H); obtain ⟨c, H⟩ | ⟨c, H⟩ := H
      | (with_reducible replace H := sIte H); obtain ⟨c, H⟩ | ⟨c, H⟩ := H
      | (with_reducible replace H := sAnd H); obtain ⟨c, H⟩ | ⟨c, H⟩ := H
      | (with_reducible replace H := sOr H); obtain ⟨c, H⟩ | ⟨c, H⟩ := H
     all_goals cases H
     all_goals (replace H0 := Hold.mk H0; have H := H0; clear H0)
     all_goals (
      replace H := H.out
      (try simp only [List.length_append, List.length_cons, List.length_nil, Nat.zero_add, beq_dec, bne_dec, Bool.or_eq_true, Bool.and_eq_true, Bool.not_eq_true', decide_eq_true_eq, decide_eq_false_iff_not, ite_or', ite_and', ite_not', ge_iff_le, gt_iff_lt] at H)
      repeat' first
       | (with_reducible replace H := sBindA H (by assumption))
       | (with_reducible replace H := sBindS H)
       | (with_reducible replace H := sBind H); obtain ⟨t, hA, H⟩ := H
       | (with_reducible replace H := sBool H); obtain ⟨c, H⟩ | ⟨c, H⟩ := H
       | (with_reducible replace H := sEq H); obtain ⟨c, c', H⟩ | ⟨c, c', H⟩ := H
       | (with_reducible replace H := sEqL H); obtain ⟨c, H⟩ | ⟨c, H⟩ := H
       | (with_reducible replace H := sIte H); obtain ⟨c, H⟩ | ⟨c, H⟩ := H
       | (with_reducible replace H := sAnd H); obtain ⟨c, H⟩ | ⟨c, H⟩ := H
       | (with_reducible replace H := sOr H); obtain ⟨c, H⟩ | ⟨c, H⟩ := H
      all_goals first
       | cases H
       | replace H := Hold.mk H
      all_goals repeat (first
       | apply Ok.seq
       | apply Ok.skip
       | (apply Ok.rN [0, 1, 2, 4, 5, 6, 7, 8, 15, 25, 30, 43, 64, 108, 111, 126, 134, 136, 137, 142] hP hn hx; exact BR.go; exact BV.go)
       | (apply Ok.gS)
       | (apply Ok.cn; exact BS.go)
       | apply Ok.block
       | apply Ok.inBlock
       | (apply Ok.ex; exact BR.go)
       | (apply Ok.rD [0, 1, 2, 4, 5, 6, 7, 8, 15, 25, 30, 43, 64, 108, 111, 126, 134, 136, 137, 142] hP hn hx mo; exact BK.go; exact BX.go)
       | (apply goE.e [0, 1, 2, 4, 5, 6, 7, 8, 15, 25, 30, 43, 64, 108, 111, 126, 134, 136, 137, 142] hP hn hx; exact BR.go; exact BV.go)
       | (apply goE.n hP hn hx; exact BR.go; exact BJ.go; exact BU.go)
       | (apply goE.q; exact BR.go; exact BG.go; exact BW.go)
       | (apply goQ.t hP; exact BR.go; exact BR.go; exact BS.go)
       | (apply goQ.f hn hx; exact BR.go; exact BR.go; exact BE.go)
       | (apply goK.k hP hn hx; exact spec_l01In.link _ _ _ _ (by assumption); exact BS.go)
       | (apply goK.k hP hn hx; exact spec_l05Value.link _ _ (by assumption); exact BS.go)
       | (apply goK.k hP hn hx; exact spec_l05Statement.link _ _ (by assumption); exact BS.go)
       | (apply goK.k hP hn hx; exact spec_l05Kids.link _ _ _ _ _ _ (by assumption); exact BS.go)
       | (apply goK.k hP hn hx; exact spec_NameOk.link _ _ _ (by assumption); exact BS.go)
       | (apply Ok.bk #[.tmp 4] hC.out hP hx hF; exact BR.go; exact BF.go; exact BF.go; exact BF.go; exact BM.go; exact BR.go; exact BR.go; exact BR.go; exact B1.go; exact BR.go)
       | (apply Ok.ag [1, 2, 5, 6] ih0; exact BT.go; exact ⟨_, by omega, _, _, _, _, _, _, _, _, _, _, _, by first | rfl | (simp (disch := omega) only [go_sem, ↓reduceIte, eq_self, and_self]; done), by omega, H.out⟩; done)
       | (apply Ok.lq [1, 2, 5, 6, 7] (fun q X => ∃ x1, ∃ x6, ∃ x7, ∃ x297000, ∃ x297001, ∃ x297002, ∃ x300000, ∃ x300001, ∃ x300002, ∃ x300003, ∃ x300004, ∃ x300005, X = ⟨[(1, .dat false [.sc (.int .i64 x1)]), (2, .pl 0 none 0), (5, .pl 1 none 0), (6, .dat false [.sc (.int .i64 x6)]), (7, .dat false [.sc (.int .i64 x7)])], [(0, .mem [.sl none 6 (List.flatMap e77 x297000), .sl none 4 (List.flatMap e106 x297001), .sl none 4 (List.flatMap e103 x297002)]), (1, .mem [.sc (.int .i64 x300000), .sc (.int .i64 x300001), .sc (.string x300002), .sc (.string x300003), .sc (.string x300004), .sl none 1 (List.flatMap eI x300005)])]⟩ ∧ q ≤ kq0_1 ∧ spec_NodeOk.l1 q x1 x6 x7 x297000 x297001 x297002 x300000 x300001 x300002 x300003 x300004 x300005 = some r); exact BT.go; exact ⟨_, _, _, _, _, _, _, _, _, _, _, _, _, by first | rfl | (simp (disch := omega) only [go_sem, ↓reduceIte, eq_self, and_self]; done), by omega, H.out⟩))
      all_goals intro q1_2 X hJ ih1
      all_goals clear H
      all_goals obtain ⟨x1, x6, x7, x297000, x297001, x297002, x300000, x300001, x300002, x300003, x300004, x300005, rfl, hq, H⟩ := hJ
      all_goals (cases q1_2 with
       | zero => (simp only [spec_NodeOk.l1] at H; cases H)
       | succ kq1_2 =>
        simp only [spec_NodeOk.l1, List.length_append, List.length_cons, List.length_nil, Nat.zero_add, beq_dec, bne_dec, Bool.or_eq_true, Bool.and_eq_true, Bool.not_eq_true', decide_eq_true_eq, decide_eq_false_iff_not, ite_or', ite_and', ite_not', ge_iff_le, gt_iff_lt] at H
        repeat' first
         | (with_reducible replace H := sBindA H (by assumption))
         | (with_reducible replace H := sBindS H)
         | (with_reducible replace H := sBind H); obtain ⟨t, hA, H⟩ := H
         | (with_reducible replace H := sBool H); obtain ⟨c, H⟩ | ⟨c, H⟩ := H
         | (with_reducible replace H := sEq H); obtain ⟨c, c', H⟩ | ⟨c, c', H⟩ := H
         | (with_reducible replace H := sEqL H); obtain ⟨c, H⟩ | ⟨c, H⟩ := H
         | (with_reducible replace H := sIte H); obtain ⟨c, H⟩ | ⟨c, H⟩ := H
         | (with_reducible replace H := sAnd H); obtain ⟨c, H⟩ | ⟨c, H⟩ := H
         | (with_reducible replace H := sOr H); obtain ⟨c, H⟩ | ⟨c, H⟩ := H
        all_goals first
         | cases H
         | (exfalso; clear H; omega)
         | replace H := Hold.mk H
        all_goals repeat (first
         | apply Ok.seq
         | apply Ok.skip
         | (apply Ok.rN [0, 1, 2, 4, 5, 6, 7, 8, 15, 25, 30, 43, 64, 108, 111, 126, 134, 136, 137, 142] hP hn hx; exact BR.go; exact BV.go)
         | (apply Ok.gS)
         | (apply Ok.cn; exact BS.go)
         | apply Ok.block
         | apply Ok.inBlock
         | (apply Ok.ex; exact BR.go)
         | (apply Ok.rD [0, 1, 2, 4, 5, 6, 7, 8, 15, 25, 30, 43, 64, 108, 111, 126, 134, 136, 137, 142] hP hn hx mo; exact BK.go; exact BX.go)
         | (apply goE.e [0, 1, 2, 4, 5, 6, 7, 8, 15, 25, 30, 43, 64, 108, 111, 126, 134, 136, 137, 142] hP hn hx; exact BR.go; exact BV.go)
         | (apply goE.n hP hn hx; exact BR.go; exact BJ.go; exact BU.go)
         | (apply goE.q; exact BR.go; exact BG.go; exact BW.go)
         | (apply goQ.t hP; exact BR.go; exact BR.go; exact BS.go)
         | (apply goQ.f hn hx; exact BR.go; exact BR.go; exact BE.go)
         | (apply goK.k hP hn hx; exact spec_l01In.link _ _ _ _ (by assumption); exact BS.go)
         | (apply goK.k hP hn hx; exact spec_l05Value.link _ _ (by assumption); exact BS.go)
         | (apply goK.k hP hn hx; exact spec_l05Statement.link _ _ (by assumption); exact BS.go)
         | (apply goK.k hP hn hx; exact spec_l05Kids.link _ _ _ _ _ _ (by assumption); exact BS.go)
         | (apply goK.k hP hn hx; exact spec_NameOk.link _ _ _ (by assumption); exact BS.go)
         | (apply Ok.bk #[.tmp 4] hC.out hP hx hF; exact BR.go; exact BF.go; exact BF.go; exact BF.go; exact BM.go; exact BR.go; exact BR.go; exact BR.go; exact B1.go; exact BR.go)
         | (apply Ok.ag [1, 2, 5, 6] ih0; exact BT.go; exact ⟨_, by omega, _, _, _, _, _, _, _, _, _, _, _, by first | rfl | (simp (disch := omega) only [go_sem, ↓reduceIte, eq_self, and_self]; done), by omega, H.out⟩; done)
         | (apply Ok.ag [1, 2, 5, 6, 7] ih1; exact BT.go; exact ⟨_, by omega, _, _, _, _, _, _, _, _, _, _, _, _, by first | rfl | (simp (disch := omega) only [go_sem, ↓reduceIte, eq_self, and_self]; done), by omega, H.out⟩; done))))
   · (try simp only [List.length_append, List.length_cons, List.length_nil, Nat.zero_add, beq_dec, bne_dec, Bool.or_eq_true, Bool.and_eq_true, Bool.not_eq_true', decide_eq_true_eq, decide_eq_false_iff_not, ite_or', ite_and', ite_not', ge_iff_le, gt_iff_lt] at H)
     repeat' first
      | (with_reducible replace H := sBindA H (by assumption))
      | (with_reducible replace H := sBindS H)
      | (with_reducible replace H := sBind H); obtain ⟨t, hA, H⟩ := H
      | (with_reducible replace H := sBool H); obtain ⟨c, H⟩ | ⟨c, H⟩ := H
      | (with_reducible replace H := sEq H); obtain ⟨c, c', H⟩ | ⟨c, c', H⟩ := H
      | (with_reducible replace H := sEqL H); obtain ⟨c, H⟩ | ⟨c, H⟩ := H
      | (with_reducible replace H := sIte H); obtain ⟨c, H⟩ | ⟨c, H⟩ := H
      | (with_reducible replace H := sAnd H); obtain ⟨c, H⟩ | ⟨c, H⟩ := H
      | (with_reducible replace H := sOr H); obtain ⟨c, H⟩ | ⟨c, H⟩ := H
     all_goals cases H
     all_goals (replace H0 := Hold.mk H0; have H := H0; clear H0)
     all_goals (
      repeat (first
       | refine Ok.cutR 12 (fun X => ∃ x64, ∃ x300000, ∃ x300001, ∃ x300002, ∃ x300003, ∃ x300004, ∃ x300005, ∃ q, X = ⟨[(5, .pl 0 none 0), (64, .dat false [.sc (.bool x64)])], [(0, .mem [.sc (.int .i64 x300000), .sc (.int .i64 x300001), .sc (.string x300002), .sc (.string x300003), .sc (.string x300004), .sl none 1 (List.flatMap eI x300005)])]⟩ ∧ q ≤ kq0_1 ∧ spec_NodeOk.j2 q x64 x300000 x300001 x300002 x300003 x300004 x300005 = some r) ?_ ?_
       | apply Ok.seq
       | apply Ok.skip
       | (apply Ok.rN [0, 1, 2, 4, 5, 6, 7, 8, 15, 25, 30, 43, 64, 108, 111, 126, 134, 136, 137, 142] hP hn hx; exact BR.go; exact BV.go)
       | (apply Ok.gS)
       | (apply Ok.cn; exact BS.go)
       | apply Ok.block
       | apply Ok.inBlock
       | (apply Ok.ex; exact BR.go)
       | (apply Ok.rD [0, 1, 2, 4, 5, 6, 7, 8, 15, 25, 30, 43, 64, 108, 111, 126, 134, 136, 137, 142] hP hn hx mo; exact BK.go; exact BX.go)
       | (apply goE.e [0, 1, 2, 4, 5, 6, 7, 8, 15, 25, 30, 43, 64, 108, 111, 126, 134, 136, 137, 142] hP hn hx; exact BR.go; exact BV.go)
       | (apply goE.n hP hn hx; exact BR.go; exact BJ.go; exact BU.go)
       | (apply goE.q; exact BR.go; exact BG.go; exact BW.go)
       | (apply goQ.t hP; exact BR.go; exact BR.go; exact BS.go)
       | (apply goQ.f hn hx; exact BR.go; exact BR.go; exact BE.go)
       | (apply goK.k hP hn hx; exact spec_l01In.link _ _ _ _ (by assumption); exact BS.go)
       | (apply goK.k hP hn hx; exact spec_l05Value.link _ _ (by assumption); exact BS.go)
       | (apply goK.k hP hn hx; exact spec_l05Statement.link _ _ (by assumption); exact BS.go)
       | (apply goK.k hP hn hx; exact spec_l05Kids.link _ _ _ _ _ _ (by assumption); exact BS.go)
       | (apply goK.k hP hn hx; exact spec_NameOk.link _ _ _ (by assumption); exact BS.go)
       | (apply Ok.bk #[.tmp 4] hC.out hP hx hF; exact BR.go; exact BF.go; exact BF.go; exact BF.go; exact BM.go; exact BR.go; exact BR.go; exact BR.go; exact B1.go; exact BR.go))
      · intro hjj2
        replace H := H.out
        (try simp only [List.length_append, List.length_cons, List.length_nil, Nat.zero_add, beq_dec, bne_dec, Bool.or_eq_true, Bool.and_eq_true, Bool.not_eq_true', decide_eq_true_eq, decide_eq_false_iff_not, ite_or', ite_and', ite_not', ge_iff_le, gt_iff_lt] at H)
        repeat' first
         | (with_reducible replace H := sBindA H (by assumption))
         | (with_reducible replace H := sBindS H)
         | (with_reducible replace H := sBind H); obtain ⟨t, hA, H⟩ := H
         | (with_reducible replace H := sBool H); obtain ⟨c, H⟩ | ⟨c, H⟩ := H
         | (with_reducible replace H := sEq H); obtain ⟨c, c', H⟩ | ⟨c, c', H⟩ := H
         | (with_reducible replace H := sEqL H); obtain ⟨c, H⟩ | ⟨c, H⟩ := H
         | (with_reducible replace H := sIte H); obtain ⟨c, H⟩ | ⟨c, H⟩ := H
         | (with_reducible replace H := sAnd H); obtain ⟨c, H⟩ | ⟨c, H⟩ := H
         | (with_reducible replace H := sOr H); obtain ⟨c, H⟩ | ⟨c, H⟩ := H
        all_goals first
         | cases H
         | replace H := Hold.mk H
        all_goals repeat (first
         | (apply Ok.mt [5, 64] hjj2; exact BT.go; exact ⟨_, _, _, _, _, _, _, kq0_1, by first | rfl | (simp (disch := omega) only [go_sem, ↓reduceIte, eq_self, and_self]; done), by omega, by first | exact H.out | (have h0 := H.out; simp only [*, go_sem, ↓reduceIte, reduceCtorEq] at h0 ⊢; exact h0)⟩; done)
         | apply Ok.seq
         | apply Ok.skip
         | (apply Ok.rN [0, 1, 2, 4, 5, 6, 7, 8, 15, 25, 30, 43, 64, 108, 111, 126, 134, 136, 137, 142] hP hn hx; exact BR.go; exact BV.go)
         | (apply Ok.gS)
         | (apply Ok.cn; exact BS.go)
         | apply Ok.block
         | apply Ok.inBlock
         | (apply Ok.ex; exact BR.go)
         | (apply Ok.rD [0, 1, 2, 4, 5, 6, 7, 8, 15, 25, 30, 43, 64, 108, 111, 126, 134, 136, 137, 142] hP hn hx mo; exact BK.go; exact BX.go)
         | (apply goE.e [0, 1, 2, 4, 5, 6, 7, 8, 15, 25, 30, 43, 64, 108, 111, 126, 134, 136, 137, 142] hP hn hx; exact BR.go; exact BV.go)
         | (apply goE.n hP hn hx; exact BR.go; exact BJ.go; exact BU.go)
         | (apply goE.q; exact BR.go; exact BG.go; exact BW.go)
         | (apply goQ.t hP; exact BR.go; exact BR.go; exact BS.go)
         | (apply goQ.f hn hx; exact BR.go; exact BR.go; exact BE.go)
         | (apply goK.k hP hn hx; exact spec_l01In.link _ _ _ _ (by assumption); exact BS.go)
         | (apply goK.k hP hn hx; exact spec_l05Value.link _ _ (by assumption); exact BS.go)
         | (apply goK.k hP hn hx; exact spec_l05Statement.link _ _ (by assumption); exact BS.go)
         | (apply goK.k hP hn hx; exact spec_l05Kids.link _ _ _ _ _ _ (by assumption); exact BS.go)
         | (apply goK.k hP hn hx; exact spec_NameOk.link _ _ _ (by assumption); exact BS.go)
         | (apply Ok.bk #[.tmp 4] hC.out hP hx hF; exact BR.go; exact BF.go; exact BF.go; exact BF.go; exact BM.go; exact BR.go; exact BR.go; exact BR.go; exact B1.go; exact BR.go)
         | (apply Ok.ag [1, 2, 5, 6] ih0; exact BT.go; exact ⟨_, by omega, _, _, _, _, _, _, _, _, _, _, _, by first | rfl | (simp (disch := omega) only [go_sem, ↓reduceIte, eq_self, and_self]; done), by omega, H.out⟩; done))
      · clear H
        intro X hJ
        obtain ⟨x64, x300000, x300001, x300002, x300003, x300004, x300005, qj2_3, rfl, hq, H⟩ := hJ
        (cases qj2_3 with
         | zero => (simp only [spec_NodeOk.j2] at H; cases H)
         | succ kqj2_3 =>
          simp only [spec_NodeOk.j2] at H
          replace H := Hold.mk H
          obtain ⟨H, H0⟩ | ⟨H, H0⟩ := sIteU H.out
          · (try simp only [List.length_append, List.length_cons, List.length_nil, Nat.zero_add, beq_dec, bne_dec, Bool.or_eq_true, Bool.and_eq_true, Bool.not_eq_true', decide_eq_true_eq, decide_eq_false_iff_not, ite_or', ite_and', ite_not', ge_iff_le, gt_iff_lt] at H)
            repeat' first
             | (with_reducible replace H := sBindA H (by assumption))
             | (with_reducible replace H := sBindS H)
             | (with_reducible replace H := sBind H); obtain ⟨t, hA, H⟩ := H
             | (with_reducible replace H := sBool H); obtain ⟨c, H⟩ | ⟨c, H⟩ := H
             | (with_reducible replace H := sEq H); obtain ⟨c, c', H⟩ | ⟨c, c', H⟩ := H
             | (with_reducible replace H := sEqL H); obtain ⟨c, H⟩ | ⟨c, H⟩ := H
             | (with_reducible replace H := sIte H); obtain ⟨c, H⟩ | ⟨c, H⟩ := H
             | (with_reducible replace H := sAnd H); obtain ⟨c, H⟩ | ⟨c, H⟩ := H
             | (with_reducible replace H := sOr H); obtain ⟨c, H⟩ | ⟨c, H⟩ := H
            all_goals cases H
            all_goals (replace H0 := Hold.mk H0; have H := H0; clear H0)
            all_goals (
             replace H := H.out
             (try simp only [List.length_append, List.length_cons, List.length_nil, Nat.zero_add, beq_dec, bne_dec, Bool.or_eq_true, Bool.and_eq_true, Bool.not_eq_true', decide_eq_true_eq, decide_eq_false_iff_not, ite_or', ite_and', ite_not', ge_iff_le, gt_iff_lt] at H)
             repeat' first
              | (with_reducible replace H := sBindA H (by assumption))
              | (with_reducible replace H := sBindS H)
              | (with_reducible replace H := sBind H); obtain ⟨t, hA, H⟩ := H
              | (with_reducible replace H := sBool H); obtain ⟨c, H⟩ | ⟨c, H⟩ := H
              | (with_reducible replace H := sEq H); obtain ⟨c, c', H⟩ | ⟨c, c', H⟩ := H
              | (with_reducible replace H := sEqL H); obtain ⟨c, H⟩ | ⟨c, H⟩ := H
              | (with_reducible replace H := sIte H); obtain ⟨c, H⟩ | ⟨c, H⟩ := H
              | (with_reducible replace H := sAnd H); obtain ⟨c, H⟩ | ⟨c, H⟩ := H
              | (with_reducible replace H := sOr H); obtain ⟨c, H⟩ | ⟨c, H⟩ := H
             all_goals first
              | cases H
              | replace H := Hold.mk H
             all_goals repeat (first
              | apply Ok.seq
              | apply Ok.skip
              | (apply Ok.rN [0, 1, 2, 4, 5, 6, 7, 8, 15, 25, 30, 43, 64, 108, 111, 126, 134, 136, 137, 142] hP hn hx; exact BR.go; exact BV.go)
              | (apply Ok.gS)
              | (apply Ok.cn; exact BS.go)
              | apply Ok.block
              | apply Ok.inBlock
              | (apply Ok.ex; exact BR.go)
              | (apply Ok.rD [0, 1, 2, 4, 5, 6, 7, 8, 15, 25, 30, 43, 64, 108, 111, 126, 134, 136, 137, 142] hP hn hx mo; exact BK.go; exact BX.go)
              | (apply goE.e [0, 1, 2, 4, 5, 6, 7, 8, 15, 25, 30, 43, 64, 108, 111, 126, 134, 136, 137, 142] hP hn hx; exact BR.go; exact BV.go)
              | (apply goE.n hP hn hx; exact BR.go; exact BJ.go; exact BU.go)
              | (apply goE.q; exact BR.go; exact BG.go; exact BW.go)
              | (apply goQ.t hP; exact BR.go; exact BR.go; exact BS.go)
              | (apply goQ.f hn hx; exact BR.go; exact BR.go; exact BE.go)
              | (apply goK.k hP hn hx; exact spec_l01In.link _ _ _ _ (by assumption); exact BS.go)
              | (apply goK.k hP hn hx; exact spec_l05Value.link _ _ (by assumption); exact BS.go)
              | (apply goK.k hP hn hx; exact spec_l05Statement.link _ _ (by assumption); exact BS.go)
              | (apply goK.k hP hn hx; exact spec_l05Kids.link _ _ _ _ _ _ (by assumption); exact BS.go)
              | (apply goK.k hP hn hx; exact spec_NameOk.link _ _ _ (by assumption); exact BS.go)
              | (apply Ok.bk #[.tmp 4] hC.out hP hx hF; exact BR.go; exact BF.go; exact BF.go; exact BF.go; exact BM.go; exact BR.go; exact BR.go; exact BR.go; exact B1.go; exact BR.go)
              | (apply Ok.ag [1, 2, 5, 6] ih0; exact BT.go; exact ⟨_, by omega, _, _, _, _, _, _, _, _, _, _, _, by first | rfl | (simp (disch := omega) only [go_sem, ↓reduceIte, eq_self, and_self]; done), by omega, H.out⟩; done)))
          · (try simp only [List.length_append, List.length_cons, List.length_nil, Nat.zero_add, beq_dec, bne_dec, Bool.or_eq_true, Bool.and_eq_true, Bool.not_eq_true', decide_eq_true_eq, decide_eq_false_iff_not, ite_or', ite_and', ite_not', ge_iff_le, gt_iff_lt] at H)
            repeat' first
             | (with_reducible replace H := sBindA H (by assumption))
             | (with_reducible replace H := sBindS H)
             | (with_reducible replace H := sBind H); obtain ⟨t, hA, H⟩ := H
             | (with_reducible replace H := sBool H); obtain ⟨c, H⟩ | ⟨c, H⟩ := H
             | (with_reducible replace H := sEq H); obtain ⟨c, c', H⟩ | ⟨c, c', H⟩ := H
             | (with_reducible replace H := sEqL H); obtain ⟨c, H⟩ | ⟨c, H⟩ := H
             | (with_reducible replace H := sIte H); obtain ⟨c, H⟩ | ⟨c, H⟩ := H
             | (with_reducible replace H := sAnd H); obtain ⟨c, H⟩ | ⟨c, H⟩ := H
             | (with_reducible replace H := sOr H); obtain ⟨c, H⟩ | ⟨c, H⟩ := H
            all_goals cases H
            all_goals (replace H0 := Hold.mk H0; have H := H0; clear H0)
            all_goals (
             repeat (first
              | refine Ok.cutR 14 (fun X => ∃ x8, ∃ x300000, ∃ x300001, ∃ x300002, ∃ x300003, ∃ x300004, ∃ x300005, ∃ q, X = ⟨[(5, .pl 0 none 0), (8, .dat false [.sc (.bool x8)])], [(0, .mem [.sc (.int .i64 x300000), .sc (.int .i64 x300001), .sc (.string x300002), .sc (.string x300003), .sc (.string x300004), .sl none 1 (List.flatMap eI x300005)])]⟩ ∧ q ≤ kqj2_3 ∧ spec_NodeOk.j3 q x8 x300000 x300001 x300002 x300003 x300004 x300005 = some r) ?_ ?_
              | apply Ok.seq
              | apply Ok.skip
              | (apply Ok.rN [0, 1, 2, 4, 5, 6, 7, 8, 15, 25, 30, 43, 64, 108, 111, 126, 134, 136, 137, 142] hP hn hx; exact BR.go; exact BV.go)
              | (apply Ok.gS)
              | (apply Ok.cn; exact BS.go)
              | apply Ok.block
              | apply Ok.inBlock
              | (apply Ok.ex; exact BR.go)
              | (apply Ok.rD [0, 1, 2, 4, 5, 6, 7, 8, 15, 25, 30, 43, 64, 108, 111, 126, 134, 136, 137, 142] hP hn hx mo; exact BK.go; exact BX.go)
              | (apply goE.e [0, 1, 2, 4, 5, 6, 7, 8, 15, 25, 30, 43, 64, 108, 111, 126, 134, 136, 137, 142] hP hn hx; exact BR.go; exact BV.go)
              | (apply goE.n hP hn hx; exact BR.go; exact BJ.go; exact BU.go)
              | (apply goE.q; exact BR.go; exact BG.go; exact BW.go)
              | (apply goQ.t hP; exact BR.go; exact BR.go; exact BS.go)
              | (apply goQ.f hn hx; exact BR.go; exact BR.go; exact BE.go)
              | (apply goK.k hP hn hx; exact spec_l01In.link _ _ _ _ (by assumption); exact BS.go)
              | (apply goK.k hP hn hx; exact spec_l05Value.link _ _ (by assumption); exact BS.go)
              | (apply goK.k hP hn hx; exact spec_l05Statement.link _ _ (by assumption); exact BS.go)
              | (apply goK.k hP hn hx; exact spec_l05Kids.link _ _ _ _ _ _ (by assumption); exact BS.go)
              | (apply goK.k hP hn hx; exact spec_NameOk.link _ _ _ (by assumption); exact BS.go)
              | (apply Ok.bk #[.tmp 4] hC.out hP hx hF; exact BR.go; exact BF.go; exact BF.go; exact BF.go; exact BM.go; exact BR.go; exact BR.go; exact BR.go; exact B1.go; exact BR.go))
             · intro hjj3
               replace H := H.out
               (try simp only [List.length_append, List.length_cons, List.length_nil, Nat.zero_add, beq_dec, bne_dec, Bool.or_eq_true, Bool.and_eq_true, Bool.not_eq_true', decide_eq_true_eq, decide_eq_false_iff_not, ite_or', ite_and', ite_not', ge_iff_le, gt_iff_lt] at H)
               repeat' first
                | (with_reducible replace H := sBindA H (by assumption))
                | (with_reducible replace H := sBindS H)
                | (with_reducible replace H := sBind H); obtain ⟨t, hA, H⟩ := H
                | (with_reducible replace H := sBool H); obtain ⟨c, H⟩ | ⟨c, H⟩ := H
                | (with_reducible replace H := sEq H); obtain ⟨c, c', H⟩ | ⟨c, c', H⟩ := H
                | (with_reducible replace H := sEqL H); obtain ⟨c, H⟩ | ⟨c, H⟩ := H
                | (with_reducible replace H := sIte H); obtain ⟨c, H⟩ | ⟨c, H⟩ := H
                | (with_reducible replace H := sAnd H); obtain ⟨c, H⟩ | ⟨c, H⟩ := H
                | (with_reducible replace H := sOr H); obtain ⟨c, H⟩ | ⟨c, H⟩ := H
               all_goals first
                | cases H
                | replace H := Hold.mk H
               all_goals repeat (first
                | (apply Ok.mt [5, 8] hjj3; exact BT.go; exact ⟨_, _, _, _, _, _, _, kqj2_3, by first | rfl | (simp (disch := omega) only [go_sem, ↓reduceIte, eq_self, and_self]; done), by omega, by first | exact H.out | (have h0 := H.out; simp only [*, go_sem, ↓reduceIte, reduceCtorEq] at h0 ⊢; exact h0)⟩; done)
                | apply Ok.seq
                | apply Ok.skip
                | (apply Ok.rN [0, 1, 2, 4, 5, 6, 7, 8, 15, 25, 30, 43, 64, 108, 111, 126, 134, 136, 137, 142] hP hn hx; exact BR.go; exact BV.go)
                | (apply Ok.gS)
                | (apply Ok.cn; exact BS.go)
                | apply Ok.block
                | apply Ok.inBlock
                | (apply Ok.ex; exact BR.go)
                | (apply Ok.rD [0, 1, 2, 4, 5, 6, 7, 8, 15, 25, 30, 43, 64, 108, 111, 126, 134, 136, 137, 142] hP hn hx mo; exact BK.go; exact BX.go)
                | (apply goE.e [0, 1, 2, 4, 5, 6, 7, 8, 15, 25, 30, 43, 64, 108, 111, 126, 134, 136, 137, 142] hP hn hx; exact BR.go; exact BV.go)
                | (apply goE.n hP hn hx; exact BR.go; exact BJ.go; exact BU.go)
                | (apply goE.q; exact BR.go; exact BG.go; exact BW.go)
                | (apply goQ.t hP; exact BR.go; exact BR.go; exact BS.go)
                | (apply goQ.f hn hx; exact BR.go; exact BR.go; exact BE.go)
                | (apply goK.k hP hn hx; exact spec_l01In.link _ _ _ _ (by assumption); exact BS.go)
                | (apply goK.k hP hn hx; exact spec_l05Value.link _ _ (by assumption); exact BS.go)
                | (apply goK.k hP hn hx; exact spec_l05Statement.link _ _ (by assumption); exact BS.go)
                | (apply goK.k hP hn hx; exact spec_l05Kids.link _ _ _ _ _ _ (by assumption); exact BS.go)
                | (apply goK.k hP hn hx; exact spec_NameOk.link _ _ _ (by assumption); exact BS.go)
                | (apply Ok.bk #[.tmp 4] hC.out hP hx hF; exact BR.go; exact BF.go; exact BF.go; exact BF.go; exact BM.go; exact BR.go; exact BR.go; exact BR.go; exact B1.go; exact BR.go)
                | (apply Ok.ag [1, 2, 5, 6] ih0; exact BT.go; exact ⟨_, by omega, _, _, _, _, _, _, _, _, _, _, _, by first | rfl | (simp (disch := omega) only [go_sem, ↓reduceIte, eq_self, and_self]; done), by omega, H.out⟩; done))
             · clear H
               intro X hJ
               obtain ⟨x8, x300000, x300001, x300002, x300003, x300004, x300005, qj3_4, rfl, hq, H⟩ := hJ
               (cases qj3_4 with
                | zero => (simp only [spec_NodeOk.j3] at H; cases H)
                | succ kqj3_4 =>
                 simp only [spec_NodeOk.j3] at H
                 replace H := Hold.mk H
                 repeat (first
                  | refine Ok.cutR 15 (fun X => ∃ x108, ∃ x300000, ∃ x300001, ∃ x300002, ∃ x300003, ∃ x300004, ∃ x300005, ∃ q, X = ⟨[(5, .pl 0 none 0), (108, .dat false [.sc (.bool x108)])], [(0, .mem [.sc (.int .i64 x300000), .sc (.int .i64 x300001), .sc (.string x300002), .sc (.string x300003), .sc (.string x300004), .sl none 1 (List.flatMap eI x300005)])]⟩ ∧ q ≤ kqj3_4 ∧ spec_NodeOk.j4 q x108 x300000 x300001 x300002 x300003 x300004 x300005 = some r) ?_ ?_
                  | apply Ok.seq
                  | apply Ok.skip
                  | (apply Ok.rN [0, 1, 2, 4, 5, 6, 7, 8, 15, 25, 30, 43, 64, 108, 111, 126, 134, 136, 137, 142] hP hn hx; exact BR.go; exact BV.go)
                  | (apply Ok.gS)
                  | (apply Ok.cn; exact BS.go)
                  | apply Ok.block
                  | apply Ok.inBlock
                  | (apply Ok.ex; exact BR.go)
                  | (apply Ok.rD [0, 1, 2, 4, 5, 6, 7, 8, 15, 25, 30, 43, 64, 108, 111, 126, 134, 136, 137, 142] hP hn hx mo; exact BK.go; exact BX.go)
                  | (apply goE.e [0, 1, 2, 4, 5, 6, 7, 8, 15, 25, 30, 43, 64, 108, 111, 126, 134, 136, 137, 142] hP hn hx; exact BR.go; exact BV.go)
                  | (apply goE.n hP hn hx; exact BR.go; exact BJ.go; exact BU.go)
                  | (apply goE.q; exact BR.go; exact BG.go; exact BW.go)
                  | (apply goQ.t hP; exact BR.go; exact BR.go; exact BS.go)
                  | (apply goQ.f hn hx; exact BR.go; exact BR.go; exact BE.go)
                  | (apply goK.k hP hn hx; exact spec_l01In.link _ _ _ _ (by assumption); exact BS.go)
                  | (apply goK.k hP hn hx; exact spec_l05Value.link _ _ (by assumption); exact BS.go)
                  | (apply goK.k hP hn hx; exact spec_l05Statement.link _ _ (by assumption); exact BS.go)
                  | (apply goK.k hP hn hx; exact spec_l05Kids.link _ _ _ _ _ _ (by assumption); exact BS.go)
                  | (apply goK.k hP hn hx; exact spec_NameOk.link _ _ _ (by assumption); exact BS.go)
                  | (apply Ok.bk #[.tmp 4] hC.out hP hx hF; exact BR.go; exact BF.go; exact BF.go; exact BF.go; exact BM.go; exact BR.go; exact BR.go; exact BR.go; exact B1.go; exact BR.go))
                 · intro hjj4
                   replace H := H.out
                   (try simp only [List.length_append, List.length_cons, List.length_nil, Nat.zero_add, beq_dec, bne_dec, Bool.or_eq_true, Bool.and_eq_true, Bool.not_eq_true', decide_eq_true_eq, decide_eq_false_iff_not, ite_or', ite_and', ite_not', ge_iff_le, gt_iff_lt] at H)
                   repeat' first
                    | (with_reducible replace H := sBindA H (by assumption))
                    | (with_reducible replace H := sBindS H)
                    | (with_reducible replace H := sBind H); obtain ⟨t, hA, H⟩ := H
                    | (with_reducible replace H := sBool H); obtain ⟨c, H⟩ | ⟨c, H⟩ := H
                    | (with_reducible replace H := sEq H); obtain ⟨c, c', H⟩ | ⟨c, c', H⟩ := H
                    | (with_reducible replace H := sEqL H); obtain ⟨c, H⟩ | ⟨c, H⟩ := H
                    | (with_reducible replace H := sIte H); obtain ⟨c, H⟩ | ⟨c, H⟩ := H
                    | (with_reducible replace H := sAnd H); obtain ⟨c, H⟩ | ⟨c, H⟩ := H
                    | (with_reducible replace H := sOr H); obtain ⟨c, H⟩ | ⟨c, H⟩ := H
                   all_goals first
                    | cases H
                    | replace H := Hold.mk H
                   all_goals repeat (first
                    | (apply Ok.mt [5, 108] hjj4; exact BT.go; exact ⟨_, _, _, _, _, _, _, kqj3_4, by first | rfl | (simp (disch := omega) only [go_sem, ↓reduceIte, eq_self, and_self]; done), by omega, by first | exact H.out | (have h0 := H.out; simp only [*, go_sem, ↓reduceIte, reduceCtorEq] at h0 ⊢; exact h0)⟩; done)
                    | apply Ok.seq
                    | apply Ok.skip
                    | (apply Ok.rN [0, 1, 2, 4, 5, 6, 7, 8, 15, 25, 30, 43, 64, 108, 111, 126, 134, 136, 137, 142] hP hn hx; exact BR.go; exact BV.go)
                    | (apply Ok.gS)
                    | (apply Ok.cn; exact BS.go)
                    | apply Ok.block
                    | apply Ok.inBlock
                    | (apply Ok.ex; exact BR.go)
                    | (apply Ok.rD [0, 1, 2, 4, 5, 6, 7, 8, 15, 25, 30, 43, 64, 108, 111, 126, 134, 136, 137, 142] hP hn hx mo; exact BK.go; exact BX.go)
                    | (apply goE.e [0, 1, 2, 4, 5, 6, 7, 8, 15, 25, 30, 43, 64, 108, 111, 126, 134, 136, 137, 142] hP hn hx; exact BR.go; exact BV.go)
                    | (apply goE.n hP hn hx; exact BR.go; exact BJ.go; exact BU.go)
                    | (apply goE.q; exact BR.go; exact BG.go; exact BW.go)
                    | (apply goQ.t hP; exact BR.go; exact BR.go; exact BS.go)
                    | (apply goQ.f hn hx; exact BR.go; exact BR.go; exact BE.go)
                    | (apply goK.k hP hn hx; exact spec_l01In.link _ _ _ _ (by assumption); exact BS.go)
                    | (apply goK.k hP hn hx; exact spec_l05Value.link _ _ (by assumption); exact BS.go)
                    | (apply goK.k hP hn hx; exact spec_l05Statement.link _ _ (by assumption); exact BS.go)
                    | (apply goK.k hP hn hx; exact spec_l05Kids.link _ _ _ _ _ _ (by assumption); exact BS.go)
                    | (apply goK.k hP hn hx; exact spec_NameOk.link _ _ _ (by assumption); exact BS.go)
                    | (apply Ok.bk #[.tmp 4] hC.out hP hx hF; exact BR.go; exact BF.go; exact BF.go; exact BF.go; exact BM.go; exact BR.go; exact BR.go; exact BR.go; exact B1.go; exact BR.go)
                    | (apply Ok.ag [1, 2, 5, 6] ih0; exact BT.go; exact ⟨_, by omega, _, _, _, _, _, _, _, _, _, _, _, by first | rfl | (simp (disch := omega) only [go_sem, ↓reduceIte, eq_self, and_self]; done), by omega, H.out⟩; done))
                 · clear H
                   intro X hJ
                   obtain ⟨x108, x300000, x300001, x300002, x300003, x300004, x300005, qj4_5, rfl, hq, H⟩ := hJ
                   (cases qj4_5 with
                    | zero => (simp only [spec_NodeOk.j4] at H; cases H)
                    | succ kqj4_5 =>
                     simp only [spec_NodeOk.j4] at H
                     replace H := Hold.mk H
                     obtain ⟨H, H0⟩ | ⟨H, H0⟩ := sIteU H.out
                     · (try simp only [List.length_append, List.length_cons, List.length_nil, Nat.zero_add, beq_dec, bne_dec, Bool.or_eq_true, Bool.and_eq_true, Bool.not_eq_true', decide_eq_true_eq, decide_eq_false_iff_not, ite_or', ite_and', ite_not', ge_iff_le, gt_iff_lt] at H)
                       repeat' first
                        | (with_reducible replace H := sBindA H (by assumption))
                        | (with_reducible replace H := sBindS H)
                        | (with_reducible replace H := sBind H); obtain ⟨t, hA, H⟩ := H
                        | (with_reducible replace H := sBool H); obtain ⟨c, H⟩ | ⟨c, H⟩ := H
                        | (with_reducible replace H := sEq H); obtain ⟨c, c', H⟩ | ⟨c, c', H⟩ := H
                        | (with_reducible replace H := sEqL H); obtain ⟨c, H⟩ | ⟨c, H⟩ := H
                        | (with_reducible replace H := sIte H); obtain ⟨c, H⟩ | ⟨c, H⟩ := H
                        | (with_reducible replace H := sAnd H); obtain ⟨c, H⟩ | ⟨c, H⟩ := H
                        | (with_reducible replace H := sOr H); obtain ⟨c, H⟩ | ⟨c, H⟩ := H
                       all_goals cases H
                       all_goals (replace H0 := Hold.mk H0; have H := H0; clear H0)
                       all_goals (
                        replace H := H.out
                        (try simp only [List.length_append, List.length_cons, List.length_nil, Nat.zero_add, beq_dec, bne_dec, Bool.or_eq_true, Bool.and_eq_true, Bool.not_eq_true', decide_eq_true_eq, decide_eq_false_iff_not, ite_or', ite_and', ite_not', ge_iff_le, gt_iff_lt] at H)
                        repeat' first
                         | (with_reducible replace H := sBindA H (by assumption))
                         | (with_reducible replace H := sBindS H)
                         | (with_reducible replace H := sBind H); obtain ⟨t, hA, H⟩ := H
                         | (with_reducible replace H := sBool H); obtain ⟨c, H⟩ | ⟨c, H⟩ := H
                         | (with_reducible replace H := sEq H); obtain ⟨c, c', H⟩ | ⟨c, c', H⟩ := H
                         | (with_reducible replace H := sEqL H); obtain ⟨c, H⟩ | ⟨c, H⟩ := H
                         | (with_reducible replace H := sIte H); obtain ⟨c, H⟩ | ⟨c, H⟩ := H
                         | (with_reducible replace H := sAnd H); obtain ⟨c, H⟩ | ⟨c, H⟩ := H
                         | (with_reducible replace H := sOr H); obtain ⟨c, H⟩ | ⟨c, H⟩ := H
                        all_goals first
                         | cases H
                         | replace H := Hold.mk H
                        all_goals repeat (first
                         | apply Ok.seq
                         | apply Ok.skip
                         | (apply Ok.rN [0, 1, 2, 4, 5, 6, 7, 8, 15, 25, 30, 43, 64, 108, 111, 126, 134, 136, 137, 142] hP hn hx; exact BR.go; exact BV.go)
                         | (apply Ok.gS)
                         | (apply Ok.cn; exact BS.go)
                         | apply Ok.block
                         | apply Ok.inBlock
                         | (apply Ok.ex; exact BR.go)
                         | (apply Ok.rD [0, 1, 2, 4, 5, 6, 7, 8, 15, 25, 30, 43, 64, 108, 111, 126, 134, 136, 137, 142] hP hn hx mo; exact BK.go; exact BX.go)
                         | (apply goE.e [0, 1, 2, 4, 5, 6, 7, 8, 15, 25, 30, 43, 64, 108, 111, 126, 134, 136, 137, 142] hP hn hx; exact BR.go; exact BV.go)
                         | (apply goE.n hP hn hx; exact BR.go; exact BJ.go; exact BU.go)
                         | (apply goE.q; exact BR.go; exact BG.go; exact BW.go)
                         | (apply goQ.t hP; exact BR.go; exact BR.go; exact BS.go)
                         | (apply goQ.f hn hx; exact BR.go; exact BR.go; exact BE.go)
                         | (apply goK.k hP hn hx; exact spec_l01In.link _ _ _ _ (by assumption); exact BS.go)
                         | (apply goK.k hP hn hx; exact spec_l05Value.link _ _ (by assumption); exact BS.go)
                         | (apply goK.k hP hn hx; exact spec_l05Statement.link _ _ (by assumption); exact BS.go)
                         | (apply goK.k hP hn hx; exact spec_l05Kids.link _ _ _ _ _ _ (by assumption); exact BS.go)
                         | (apply goK.k hP hn hx; exact spec_NameOk.link _ _ _ (by assumption); exact BS.go)
                         | (apply Ok.bk #[.tmp 4] hC.out hP hx hF; exact BR.go; exact BF.go; exact BF.go; exact BF.go; exact BM.go; exact BR.go; exact BR.go; exact BR.go; exact B1.go; exact BR.go)
                         | (apply Ok.ag [1, 2, 5, 6] ih0; exact BT.go; exact ⟨_, by omega, _, _, _, _, _, _, _, _, _, _, _, by first | rfl | (simp (disch := omega) only [go_sem, ↓reduceIte, eq_self, and_self]; done), by omega, H.out⟩; done)))
                     · (try simp only [List.length_append, List.length_cons, List.length_nil, Nat.zero_add, beq_dec, bne_dec, Bool.or_eq_true, Bool.and_eq_true, Bool.not_eq_true', decide_eq_true_eq, decide_eq_false_iff_not, ite_or', ite_and', ite_not', ge_iff_le, gt_iff_lt] at H)
                       repeat' first
                        | (with_reducible replace H := sBindA H (by assumption))
                        | (with_reducible replace H := sBindS H)
                        | (with_reducible replace H := sBind H); obtain ⟨t, hA, H⟩ := H
                        | (with_reducible replace H := sBool H); obtain ⟨c, H⟩ | ⟨c, H⟩ := H
                        | (with_reducible replace H := sEq H); obtain ⟨c, c', H⟩ | ⟨c, c', H⟩ := H
                        | (with_reducible replace H := sEqL H); obtain ⟨c, H⟩ | ⟨c, H⟩ := H
                        | (with_reducible replace H := sIte H); obtain ⟨c, H⟩ | ⟨c, H⟩ := H
                        | (with_reducible replace H := sAnd H); obtain ⟨c, H⟩ | ⟨c, H⟩ := H
                        | (with_reducible replace H := sOr H); obtain ⟨c, H⟩ | ⟨c, H⟩ := H
                       all_goals cases H
                       all_goals (replace H0 := Hold.mk H0; have H := H0; clear H0)
                       all_goals (
                        repeat (first
                         | refine Ok.cutI 111 (fun X => ∃ x300000, ∃ x300001, ∃ x300002, ∃ x300003, ∃ x300004, ∃ x300005, ∃ q, X = ⟨[(5, .pl 0 none 0)], [(0, .mem [.sc (.int .i64 x300000), .sc (.int .i64 x300001), .sc (.string x300002), .sc (.string x300003), .sc (.string x300004), .sl none 1 (List.flatMap eI x300005)])]⟩ ∧ q ≤ kqj4_5 ∧ spec_NodeOk.j5 q x300000 x300001 x300002 x300003 x300004 x300005 = some r) ?_ ?_
                         | apply Ok.seq
                         | apply Ok.skip
                         | (apply Ok.rN [0, 1, 2, 4, 5, 6, 7, 8, 15, 25, 30, 43, 64, 108, 111, 126, 134, 136, 137, 142] hP hn hx; exact BR.go; exact BV.go)
                         | (apply Ok.gS)
                         | (apply Ok.cn; exact BS.go)
                         | apply Ok.block
                         | apply Ok.inBlock
                         | (apply Ok.ex; exact BR.go)
                         | (apply Ok.rD [0, 1, 2, 4, 5, 6, 7, 8, 15, 25, 30, 43, 64, 108, 111, 126, 134, 136, 137, 142] hP hn hx mo; exact BK.go; exact BX.go)
                         | (apply goE.e [0, 1, 2, 4, 5, 6, 7, 8, 15, 25, 30, 43, 64, 108, 111, 126, 134, 136, 137, 142] hP hn hx; exact BR.go; exact BV.go)
                         | (apply goE.n hP hn hx; exact BR.go; exact BJ.go; exact BU.go)
                         | (apply goE.q; exact BR.go; exact BG.go; exact BW.go)
                         | (apply goQ.t hP; exact BR.go; exact BR.go; exact BS.go)
                         | (apply goQ.f hn hx; exact BR.go; exact BR.go; exact BE.go)
                         | (apply goK.k hP hn hx; exact spec_l01In.link _ _ _ _ (by assumption); exact BS.go)
                         | (apply goK.k hP hn hx; exact spec_l05Value.link _ _ (by assumption); exact BS.go)
                         | (apply goK.k hP hn hx; exact spec_l05Statement.link _ _ (by assumption); exact BS.go)
                         | (apply goK.k hP hn hx; exact spec_l05Kids.link _ _ _ _ _ _ (by assumption); exact BS.go)
                         | (apply goK.k hP hn hx; exact spec_NameOk.link _ _ _ (by assumption); exact BS.go)
                         | (apply Ok.bk #[.tmp 4] hC.out hP hx hF; exact BR.go; exact BF.go; exact BF.go; exact BF.go; exact BM.go; exact BR.go; exact BR.go; exact BR.go; exact B1.go; exact BR.go))
                        · intro hjj5
                          replace H := H.out
                          (try simp only [List.length_append, List.length_cons, List.length_nil, Nat.zero_add, beq_dec, bne_dec, Bool.or_eq_true, Bool.and_eq_true, Bool.not_eq_true', decide_eq_true_eq, decide_eq_false_iff_not, ite_or', ite_and', ite_not', ge_iff_le, gt_iff_lt] at H)
                          repeat' first
                           | (with_reducible replace H := sBindA H (by assumption))
                           | (with_reducible replace H := sBindS H)
                           | (with_reducible replace H := sBind H); obtain ⟨t, hA, H⟩ := H
                           | (with_reducible replace H := sBool H); obtain ⟨c, H⟩ | ⟨c, H⟩ := H
                           | (with_reducible replace H := sEq H); obtain ⟨c, c', H⟩ | ⟨c, c', H⟩ := H
                           | (with_reducible replace H := sEqL H); obtain ⟨c, H⟩ | ⟨c, H⟩ := H
                           | (with_reducible replace H := sIte H); obtain ⟨c, H⟩ | ⟨c, H⟩ := H
                           | (with_reducible replace H := sAnd H); obtain ⟨c, H⟩ | ⟨c, H⟩ := H
                           | (with_reducible replace H := sOr H); obtain ⟨c, H⟩ | ⟨c, H⟩ := H
                          all_goals first
                           | cases H
                           | replace H := Hold.mk H
                          all_goals repeat (first
                           | (apply Ok.mt [5] hjj5; exact BT.go; exact ⟨_, _, _, _, _, _, kqj4_5, by first | rfl | (simp (disch := omega) only [go_sem, ↓reduceIte, eq_self, and_self]; done), by omega, by first | exact H.out | (have h0 := H.out; simp only [*, go_sem, ↓reduceIte, reduceCtorEq] at h0 ⊢; exact h0)⟩; done)
                           | apply Ok.seq
                           | apply Ok.skip
                           | (apply Ok.rN [0, 1, 2, 4, 5, 6, 7, 8, 15, 25, 30, 43, 64, 108, 111, 126, 134, 136, 137, 142] hP hn hx; exact BR.go; exact BV.go)
                           | (apply Ok.gS)
                           | (apply Ok.cn; exact BS.go)
                           | apply Ok.block
                           | apply Ok.inBlock
                           | (apply Ok.ex; exact BR.go)
                           | (apply Ok.rD [0, 1, 2, 4, 5, 6, 7, 8, 15, 25, 30, 43, 64, 108, 111, 126, 134, 136, 137, 142] hP hn hx mo; exact BK.go; exact BX.go)
                           | (apply goE.e [0, 1, 2, 4, 5, 6, 7, 8, 15, 25, 30, 43, 64, 108, 111, 126, 134, 136, 137, 142] hP hn hx; exact BR.go; exact BV.go)
                           | (apply goE.n hP hn hx; exact BR.go; exact BJ.go; exact BU.go)
                           | (apply goE.q; exact BR.go; exact BG.go; exact BW.go)
                           | (apply goQ.t hP; exact BR.go; exact BR.go; exact BS.go)
                           | (apply goQ.f hn hx; exact BR.go; exact BR.go; exact BE.go)
                           | (apply goK.k hP hn hx; exact spec_l01In.link _ _ _ _ (by assumption); exact BS.go)
                           | (apply goK.k hP hn hx; exact spec_l05Value.link _ _ (by assumption); exact BS.go)
                           | (apply goK.k hP hn hx; exact spec_l05Statement.link _ _ (by assumption); exact BS.go)
                           | (apply goK.k hP hn hx; exact spec_l05Kids.link _ _ _ _ _ _ (by assumption); exact BS.go)
                           | (apply goK.k hP hn hx; exact spec_NameOk.link _ _ _ (by assumption); exact BS.go)
                           | (apply Ok.bk #[.tmp 4] hC.out hP hx hF; exact BR.go; exact BF.go; exact BF.go; exact BF.go; exact BM.go; exact BR.go; exact BR.go; exact BR.go; exact B1.go; exact BR.go)
                           | (apply Ok.ag [1, 2, 5, 6] ih0; exact BT.go; exact ⟨_, by omega, _, _, _, _, _, _, _, _, _, _, _, by first | rfl | (simp (disch := omega) only [go_sem, ↓reduceIte, eq_self, and_self]; done), by omega, H.out⟩; done))
                        · clear H
                          intro X hJ
                          obtain ⟨x300000, x300001, x300002, x300003, x300004, x300005, qj5_6, rfl, hq, H⟩ := hJ
                          (cases qj5_6 with
                           | zero => (simp only [spec_NodeOk.j5] at H; cases H)
                           | succ kqj5_6 =>
                            simp only [spec_NodeOk.j5, List.length_append, List.length_cons, List.length_nil, Nat.zero_add, beq_dec, bne_dec, Bool.or_eq_true, Bool.and_eq_true, Bool.not_eq_true', decide_eq_true_eq, decide_eq_false_iff_not, ite_or', ite_and', ite_not', ge_iff_le, gt_iff_lt] at H
                            repeat' first
                             | (with_reducible replace H := sBindA H (by assumption))
                             | (with_reducible replace H := sBindS H)
                             | (with_reducible replace H := sBind H); obtain ⟨t, hA, H⟩ := H
                             | (with_reducible replace H := sBool H); obtain ⟨c, H⟩ | ⟨c, H⟩ := H
                             | (with_reducible replace H := sEq H); obtain ⟨c, c', H⟩ | ⟨c, c', H⟩ := H
                             | (with_reducible replace H := sEqL H); obtain ⟨c, H⟩ | ⟨c, H⟩ := H
                             | (with_reducible replace H := sIte H); obtain ⟨c, H⟩ | ⟨c, H⟩ := H
                             | (with_reducible replace H := sAnd H); obtain ⟨c, H⟩ | ⟨c, H⟩ := H
                             | (with_reducible replace H := sOr H); obtain ⟨c, H⟩ | ⟨c, H⟩ := H
                            all_goals first
                             | cases H
                             | replace H := Hold.mk H
                            all_goals repeat (first
                             | apply Ok.seq
                             | apply Ok.skip
                             | (apply Ok.rN [0, 1, 2, 4, 5, 6, 7, 8, 15, 25, 30, 43, 64, 108, 111, 126, 134, 136, 137, 142] hP hn hx; exact BR.go; exact BV.go)
                             | (apply Ok.gS)
                             | (apply Ok.cn; exact BS.go)
                             | apply Ok.block
                             | apply Ok.inBlock
                             | (apply Ok.ex; exact BR.go)
                             | (apply Ok.rD [0, 1, 2, 4, 5, 6, 7, 8, 15, 25, 30, 43, 64, 108, 111, 126, 134, 136, 137, 142] hP hn hx mo; exact BK.go; exact BX.go)
                             | (apply goE.e [0, 1, 2, 4, 5, 6, 7, 8, 15, 25, 30, 43, 64, 108, 111, 126, 134, 136, 137, 142] hP hn hx; exact BR.go; exact BV.go)
                             | (apply goE.n hP hn hx; exact BR.go; exact BJ.go; exact BU.go)
                             | (apply goE.q; exact BR.go; exact BG.go; exact BW.go)
                             | (apply goQ.t hP; exact BR.go; exact BR.go; exact BS.go)
                             | (apply goQ.f hn hx; exact BR.go; exact BR.go; exact BE.go)
                             | (apply goK.k hP hn hx; exact spec_l01In.link _ _ _ _ (by assumption); exact BS.go)
                             | (apply goK.k hP hn hx; exact spec_l05Value.link _ _ (by assumption); exact BS.go)
                             | (apply goK.k hP hn hx; exact spec_l05Statement.link _ _ (by assumption); exact BS.go)
                             | (apply goK.k hP hn hx; exact spec_l05Kids.link _ _ _ _ _ _ (by assumption); exact BS.go)
                             | (apply goK.k hP hn hx; exact spec_NameOk.link _ _ _ (by assumption); exact BS.go)
                             | (apply Ok.bk #[.tmp 4] hC.out hP hx hF; exact BR.go; exact BF.go; exact BF.go; exact BF.go; exact BM.go; exact BR.go; exact BR.go; exact BR.go; exact B1.go; exact BR.go)
                             | (apply Ok.ag [1, 2, 5, 6] ih0; exact BT.go; exact ⟨_, by omega, _, _, _, _, _, _, _, _, _, _, _, by first | rfl | (simp (disch := omega) only [go_sem, ↓reduceIte, eq_self, and_self]; done), by omega, H.out⟩; done))))))))))
end Go.Proofs.Ytmbkcbgbienjoaa.PFnExactProgramOk
