/- Functions' walks: each computes what its plain form says. No condition. -/
import Derived.Test.YtmbkcbgbienjoaaLkFnExactProgramOkh
import Derived.Test.YtmbkcbgbienjoaaLkFnExactProgramOkb
import Derived.Test.YtmbkcbgbienjoaaLkFnExactProgramOkc
import Derived.Test.YtmbkcbgbienjoaaLkFnExactProgramOke
open Go Go.Proofs Go.Proofs.Ytmbkcbgbienjoaa.Abs
namespace Go.Proofs.Ytmbkcbgbienjoaa.PFnExactProgramOk
open Go.RowKit Go.Proofs.YtmbkcbgbienjoaaW.PrintWords Go.Proofs.YtmbkcbgbienjoaaW.PrintLast Go.Proofs.YtmbkcbgbienjoaaW.PrintMore
set_option linter.unusedVariables false
set_option linter.unusedSimpArgs false
set_option maxRecDepth 100000
attribute [local irreducible] evK evQ evM evF evW evH goE goK goKD goQ goQD goD Ok ACalls
set_option maxHeartbeats 8000000 in
theorem spec_ProgramOk.link (k : Nat) (l0_0 : List (S77)) (l0_1 : List (S106)) (l0_2 : List (S103)) (r : Bool) (H : spec_ProgramOk.f k l0_0 l0_1 l0_2 = some r) : ACalls Try.prog 43 [.dat true [.sl none 6 (List.flatMap e77 l0_0), .sl none 4 (List.flatMap e106 l0_1), .sl none 4 (List.flatMap e103 l0_2)]] [(false, [.sc (.bool r)])] [.dat true [.sl none 6 (List.flatMap e77 l0_0), .sl none 4 (List.flatMap e106 l0_1), .sl none 4 (List.flatMap e103 l0_2)]] := by
 refine ACalls.enter Try.func43 (by kernel_rfl) rfl (by rw [Try.ntmps43]; exact Nat.le_of_ble_eq_true rfl) (fun C F hC hP hf hn hx => ?_)
 rw [Try.ntmps43] at hn
 have hF : Try.prog.funcs[C.fid]? = some Try.f43 := hf ▸ Try.func43
 replace hC := Hold.mk hC
 replace hx : C.fx = [] := hx
 simp only [entry, entE, enumM, rwA, rwC, Nat.reduceAdd] at ⊢
 simp only [spec_ProgramOk.f] at H
 replace H := Hold.mk H
 repeat (first
  | refine Ok.cutR 1 (fun X => ∃ x17, ∃ x401000, ∃ x401001, ∃ x401002, ∃ q, X = ⟨[(1, .pl 0 none 0), (17, .dat false [.sc (.bool x17)])], [(0, .mem [.sl none 6 (List.flatMap e77 x401000), .sl none 4 (List.flatMap e106 x401001), .sl none 4 (List.flatMap e103 x401002)])]⟩ ∧ q ≤ k ∧ spec_ProgramOk.j0 q x17 x401000 x401001 x401002 = some r) ?_ ?_
  | apply Ok.seq
  | apply Ok.skip
  | (apply Ok.rN [0, 1, 2, 3, 4, 5, 6, 7, 8, 17, 23, 31, 37, 61, 67, 74] hP hn hx; exact BR.go; exact BV.go)
  | (apply Ok.gS)
  | (apply Ok.cn; exact BS.go)
  | apply Ok.block
  | apply Ok.inBlock
  | (apply Ok.ex; exact BR.go)
  | (apply Ok.gD 13 (noneL [0, 1, 2, 3, 4, 5, 6, 7] ++ ((8, some []) :: (noneL [9, 10, 11, 12, 13, 14, 15, 16, 17, 18, 19, 20, 21] ++ []))) hP mo; exact BK.go)
  | (apply Ok.rD [0, 1, 2, 3, 4, 5, 6, 7, 8, 17, 23, 31, 37, 61, 67, 74] hP hn hx mo; exact BK.go; exact BX.go)
  | (apply goE.e [0, 1, 2, 3, 4, 5, 6, 7, 8, 17, 23, 31, 37, 61, 67, 74] hP hn hx; exact BR.go; exact BV.go)
  | (apply goE.n hP hn hx; exact BR.go; exact BJ.go; exact BU.go)
  | (apply goE.q; exact BR.go; exact BG.go; exact BW.go)
  | (apply goQ.t hP; exact BR.go; exact BR.go; exact BS.go)
  | (apply goQ.f hn hx; exact BR.go; exact BR.go; exact BE.go)
  | (apply goD.z [0, 1, 2, 3, 4, 5, 6, 7, 8, 17, 23, 31, 37, 61, 67, 74]; exact BT.go)
  | (apply goD.n hP hn hx; exact BN.go)
  | (apply goD.q; exact BR.go; exact BG.go; exact BW.go)
  | (apply goQD.t hP; exact BR.go; exact BR.go; exact BS.go)
  | (apply goQD.f hP hn hx; exact BR.go; exact BR.go; exact BE.go; exact BQ.go)
  | (apply goD.x hP hn hx; exact BR.go; exact BG.go; exact BR.go; exact BW.go; exact BS.go; exact BQ.go)
  | (apply goK.k hP hn hx; exact spec_l01In.link _ _ _ _ (by assumption); exact BS.go)
  | (apply goKD.k hP hn hx; exact spec_l01In.link _ _ _ _ (by assumption); exact BS.go; exact BQ.go)
  | (apply goK.k hP hn hx; exact spec_l05Deeps.link _ _ _ _ _ (by assumption); exact BS.go)
  | (apply goKD.k hP hn hx; exact spec_l05Deeps.link _ _ _ _ _ (by assumption); exact BS.go; exact BQ.go)
  | (apply goK.k hP hn hx; exact spec_l05Lists.link _ _ _ _ _ (by assumption); exact BS.go)
  | (apply goKD.k hP hn hx; exact spec_l05Lists.link _ _ _ _ _ (by assumption); exact BS.go; exact BQ.go)
  | (apply goK.k hP hn hx; exact spec_l05Bodies.link _ _ _ _ _ (by assumption); exact BS.go)
  | (apply goKD.k hP hn hx; exact spec_l05Bodies.link _ _ _ _ _ (by assumption); exact BS.go; exact BQ.go)
  | (apply goK.k hP hn hx; exact spec_l05Used.link _ _ _ _ _ (by assumption); exact BS.go)
  | (apply goKD.k hP hn hx; exact spec_l05Used.link _ _ _ _ _ (by assumption); exact BS.go; exact BQ.go)
  | (apply Ok.bk #[.tmp 2] hC.out hP hx hF; exact BR.go; exact BF.go; exact BF.go; exact BF.go; exact BM.go; exact BR.go; exact BR.go; exact BR.go; exact B1.go; exact BR.go))
 · intro hjj0
   replace H := H.out
   (try simp only [List.length_append, List.length_cons, List.length_nil, Nat.zero_add, beq_dec, bne_dec, Bool.or_eq_true, Bool.and_eq_true, Bool.not_eq_true', decide_eq_true_eq, decide_eq_false_iff_not, ite_or', ite_and', ite_not', ge_iff_le, gt_iff_lt] at H)
   repeat' first
    | (with_reducible replace H := sBindA H (by assumption))
    | (with_reducible replace H := sBindS H)
    | (with_reducible replace H := sBind H); obtain ⟨t, hA, H⟩ := H
    | (with_reducible replace H := sBool H); obtain ⟨c, H⟩ | ⟨c, H⟩ := H
    | (with_reducible replace H := sEq H); obtain ⟨c, c', H⟩ | ⟨c, c', H⟩ := H
    | (with_reducible replace H := sEqL H); obtain ⟨c, H⟩ | ⟨c, H⟩ := H
    | (with_reducible replace H := sIte H); obtain ⟨c, H⟩ | ⟨c, H⟩ := H
    | (with_reducible replace H := sAnd H); obtain ⟨c, H⟩ | ⟨c, H⟩ := H
    | (with_reducible replace H := sOr H); obtain ⟨c, H⟩ | ⟨c, H⟩ := H
   all_goals first
    | cases H
    | replace H := Hold.mk H
   all_goals repeat (first
    | (apply Ok.mt [1, 17] hjj0; exact BT.go; exact ⟨_, _, _, _, k, by first | rfl | (simp (disch := omega) only [go_sem, ↓reduceIte, eq_self, and_self]; done), by omega, by first | exact H.out | (have h0 := H.out; simp only [*, go_sem, ↓reduceIte, reduceCtorEq] at h0 ⊢; exact h0)⟩; done)
    | apply Ok.seq
    | apply Ok.skip
    | (apply Ok.rN [0, 1, 2, 3, 4, 5, 6, 7, 8, 17, 23, 31, 37, 61, 67, 74] hP hn hx; exact BR.go; exact BV.go)
    | (apply Ok.gS)
    | (apply Ok.cn; exact BS.go)
    | apply Ok.block
    | apply Ok.inBlock
    | (apply Ok.ex; exact BR.go)
    | (apply Ok.gD 13 (noneL [0, 1, 2, 3, 4, 5, 6, 7] ++ ((8, some []) :: (noneL [9, 10, 11, 12, 13, 14, 15, 16, 17, 18, 19, 20, 21] ++ []))) hP mo; exact BK.go)
    | (apply Ok.rD [0, 1, 2, 3, 4, 5, 6, 7, 8, 17, 23, 31, 37, 61, 67, 74] hP hn hx mo; exact BK.go; exact BX.go)
    | (apply goE.e [0, 1, 2, 3, 4, 5, 6, 7, 8, 17, 23, 31, 37, 61, 67, 74] hP hn hx; exact BR.go; exact BV.go)
    | (apply goE.n hP hn hx; exact BR.go; exact BJ.go; exact BU.go)
    | (apply goE.q; exact BR.go; exact BG.go; exact BW.go)
    | (apply goQ.t hP; exact BR.go; exact BR.go; exact BS.go)
    | (apply goQ.f hn hx; exact BR.go; exact BR.go; exact BE.go)
    | (apply goD.z [0, 1, 2, 3, 4, 5, 6, 7, 8, 17, 23, 31, 37, 61, 67, 74]; exact BT.go)
    | (apply goD.n hP hn hx; exact BN.go)
    | (apply goD.q; exact BR.go; exact BG.go; exact BW.go)
    | (apply goQD.t hP; exact BR.go; exact BR.go; exact BS.go)
    | (apply goQD.f hP hn hx; exact BR.go; exact BR.go; exact BE.go; exact BQ.go)
    | (apply goD.x hP hn hx; exact BR.go; exact BG.go; exact BR.go; exact BW.go; exact BS.go; exact BQ.go)
    | (apply goK.k hP hn hx; exact spec_l01In.link _ _ _ _ (by assumption); exact BS.go)
    | (apply goKD.k hP hn hx; exact spec_l01In.link _ _ _ _ (by assumption); exact BS.go; exact BQ.go)
    | (apply goK.k hP hn hx; exact spec_l05Deeps.link _ _ _ _ _ (by assumption); exact BS.go)
    | (apply goKD.k hP hn hx; exact spec_l05Deeps.link _ _ _ _ _ (by assumption); exact BS.go; exact BQ.go)
    | (apply goK.k hP hn hx; exact spec_l05Lists.link _ _ _ _ _ (by assumption); exact BS.go)
    | (apply goKD.k hP hn hx; exact spec_l05Lists.link _ _ _ _ _ (by assumption); exact BS.go; exact BQ.go)
    | (apply goK.k hP hn hx; exact spec_l05Bodies.link _ _ _ _ _ (by assumption); exact BS.go)
    | (apply goKD.k hP hn hx; exact spec_l05Bodies.link _ _ _ _ _ (by assumption); exact BS.go; exact BQ.go)
    | (apply goK.k hP hn hx; exact spec_l05Used.link _ _ _ _ _ (by assumption); exact BS.go)
    | (apply goKD.k hP hn hx; exact spec_l05Used.link _ _ _ _ _ (by assumption); exact BS.go; exact BQ.go)
    | (apply Ok.bk #[.tmp 2] hC.out hP hx hF; exact BR.go; exact BF.go; exact BF.go; exact BF.go; exact BM.go; exact BR.go; exact BR.go; exact BR.go; exact B1.go; exact BR.go))
 · clear H
   intro X hJ
   obtain ⟨x17, x401000, x401001, x401002, qj0_1, rfl, hq, H⟩ := hJ
   (cases qj0_1 with
    | zero => (simp only [spec_ProgramOk.j0] at H; cases H)
    | succ kqj0_1 =>
     simp only [spec_ProgramOk.j0, List.length_append, List.length_cons, List.length_nil, Nat.zero_add, beq_dec, bne_dec, Bool.or_eq_true, Bool.and_eq_true, Bool.not_eq_true', decide_eq_true_eq, decide_eq_false_iff_not, ite_or', ite_and', ite_not', ge_iff_le, gt_iff_lt] at H
     repeat' first
      | (with_reducible replace H := sBindA H (by assumption))
      | (with_reducible replace H := sBindS H)
      | (with_reducible replace H := sBind H); obtain ⟨t, hA, H⟩ := H
      | (with_reducible replace H := sBool H); obtain ⟨c, H⟩ | ⟨c, H⟩ := H
      | (with_reducible replace H := sEq H); obtain ⟨c, c', H⟩ | ⟨c, c', H⟩ := H
      | (with_reducible replace H := sEqL H); obtain ⟨c, H⟩ | ⟨c, H⟩ := H
      | (with_reducible replace H := sIte H); obtain ⟨c, H⟩ | ⟨c, H⟩ := H
      | (with_reducible replace H := sAnd H); obtain ⟨c, H⟩ | ⟨c, H⟩ := H
      | (with_reducible replace H := sOr H); obtain ⟨c, H⟩ | ⟨c, H⟩ := H
     all_goals first
      | cases H
      | replace H := Hold.mk H
     all_goals repeat (first
      | apply Ok.seq
      | apply Ok.skip
      | (apply Ok.rN [0, 1, 2, 3, 4, 5, 6, 7, 8, 17, 23, 31, 37, 61, 67, 74] hP hn hx; exact BR.go; exact BV.go)
      | (apply Ok.gS)
      | (apply Ok.cn; exact BS.go)
      | apply Ok.block
      | apply Ok.inBlock
      | (apply Ok.ex; exact BR.go)
      | (apply Ok.gD 13 (noneL [0, 1, 2, 3, 4, 5, 6, 7] ++ ((8, some []) :: (noneL [9, 10, 11, 12, 13, 14, 15, 16, 17, 18, 19, 20, 21] ++ []))) hP mo; exact BK.go)
      | (apply Ok.rD [0, 1, 2, 3, 4, 5, 6, 7, 8, 17, 23, 31, 37, 61, 67, 74] hP hn hx mo; exact BK.go; exact BX.go)
      | (apply goE.e [0, 1, 2, 3, 4, 5, 6, 7, 8, 17, 23, 31, 37, 61, 67, 74] hP hn hx; exact BR.go; exact BV.go)
      | (apply goE.n hP hn hx; exact BR.go; exact BJ.go; exact BU.go)
      | (apply goE.q; exact BR.go; exact BG.go; exact BW.go)
      | (apply goQ.t hP; exact BR.go; exact BR.go; exact BS.go)
      | (apply goQ.f hn hx; exact BR.go; exact BR.go; exact BE.go)
      | (apply goD.z [0, 1, 2, 3, 4, 5, 6, 7, 8, 17, 23, 31, 37, 61, 67, 74]; exact BT.go)
      | (apply goD.n hP hn hx; exact BN.go)
      | (apply goD.q; exact BR.go; exact BG.go; exact BW.go)
      | (apply goQD.t hP; exact BR.go; exact BR.go; exact BS.go)
      | (apply goQD.f hP hn hx; exact BR.go; exact BR.go; exact BE.go; exact BQ.go)
      | (apply goD.x hP hn hx; exact BR.go; exact BG.go; exact BR.go; exact BW.go; exact BS.go; exact BQ.go)
      | (apply goK.k hP hn hx; exact spec_l01In.link _ _ _ _ (by assumption); exact BS.go)
      | (apply goKD.k hP hn hx; exact spec_l01In.link _ _ _ _ (by assumption); exact BS.go; exact BQ.go)
      | (apply goK.k hP hn hx; exact spec_l05Deeps.link _ _ _ _ _ (by assumption); exact BS.go)
      | (apply goKD.k hP hn hx; exact spec_l05Deeps.link _ _ _ _ _ (by assumption); exact BS.go; exact BQ.go)
      | (apply goK.k hP hn hx; exact spec_l05Lists.link _ _ _ _ _ (by assumption); exact BS.go)
      | (apply goKD.k hP hn hx; exact spec_l05Lists.link _ _ _ _ _ (by assumption); exact BS.go; exact BQ.go)
      | (apply goK.k hP hn hx; exact spec_l05Bodies.link _ _ _ _ _ (by assumption); exact BS.go)
      | (apply goKD.k hP hn hx; exact spec_l05Bodies.link _ _ _ _ _ (by assumption); exact BS.go; exact BQ.go)
      | (apply goK.k hP hn hx; exact spec_l05Used.link _ _ _ _ _ (by assumption); exact BS.go)
      | (apply goKD.k hP hn hx; exact spec_l05Used.link _ _ _ _ _ (by assumption); exact BS.go; exact BQ.go)
      | (apply Ok.bk #[.tmp 2] hC.out hP hx hF; exact BR.go; exact BF.go; exact BF.go; exact BF.go; exact BM.go; exact BR.go; exact BR.go; exact BR.go; exact B1.go; exact BR.go)
      | (apply Ok.lq [1, 3, 4] (fun q X => ∃ x3, ∃ x4, ∃ x401000, ∃ x401001, ∃ x401002, X = ⟨[(1, .pl 0 none 0), (3, .bor 1 none 0 1 false), (4, .dat false [.sc (.int .i64 x4)])], [(0, .mem [.sl none 6 (List.flatMap e77 x401000), .sl none 4 (List.flatMap e106 x401001), .sl none 4 (List.flatMap e103 x401002)]), (1, .vir [.sl (some 0) 1 (List.flatMap eI x3)])]⟩ ∧ q ≤ kqj0_1 ∧ spec_ProgramOk.l0 q x3 x4 x401000 x401001 x401002 = some r); exact BT.go; exact ⟨_, _, _, _, _, _, by first | rfl | (simp (disch := omega) only [go_sem, ↓reduceIte, eq_self, and_self]; done), by omega, H.out⟩))
     all_goals intro q0_2 X hJ ih0
     all_goals clear H
     all_goals obtain ⟨x3, x4, x401000, x401001, x401002, rfl, hq, H⟩ := hJ
     all_goals (cases q0_2 with
      | zero => (simp only [spec_ProgramOk.l0] at H; cases H)
      | succ kq0_2 =>
       simp only [spec_ProgramOk.l0, List.length_append, List.length_cons, List.length_nil, Nat.zero_add, beq_dec, bne_dec, Bool.or_eq_true, Bool.and_eq_true, Bool.not_eq_true', decide_eq_true_eq, decide_eq_false_iff_not, ite_or', ite_and', ite_not', ge_iff_le, gt_iff_lt] at H
       repeat' first
        | (with_reducible replace H := sBindA H (by assumption))
        | (with_reducible replace H := sBindS H)
        | (with_reducible replace H := sBind H); obtain ⟨t, hA, H⟩ := H
        | (with_reducible replace H := sBool H); obtain ⟨c, H⟩ | ⟨c, H⟩ := H
        | (with_reducible replace H := sEq H); obtain ⟨c, c', H⟩ | ⟨c, c', H⟩ := H
        | (with_reducible replace H := sEqL H); obtain ⟨c, H⟩ | ⟨c, H⟩ := H
        | (with_reducible replace H := sIte H); obtain ⟨c, H⟩ | ⟨c, H⟩ := H
        | (with_reducible replace H := sAnd H); obtain ⟨c, H⟩ | ⟨c, H⟩ := H
        | (with_reducible replace H := sOr H); obtain ⟨c, H⟩ | ⟨c, H⟩ := H
       all_goals first
        | cases H
        | (exfalso; clear H; omega)
        | replace H := Hold.mk H
       all_goals repeat (first
        | apply Ok.seq
        | apply Ok.skip
        | (apply Ok.rN [0, 1, 2, 3, 4, 5, 6, 7, 8, 17, 23, 31, 37, 61, 67, 74] hP hn hx; exact BR.go; exact BV.go)
        | (apply Ok.gS)
        | (apply Ok.cn; exact BS.go)
        | apply Ok.block
        | apply Ok.inBlock
        | (apply Ok.ex; exact BR.go)
        | (apply Ok.gD 13 (noneL [0, 1, 2, 3, 4, 5, 6, 7] ++ ((8, some []) :: (noneL [9, 10, 11, 12, 13, 14, 15, 16, 17, 18, 19, 20, 21] ++ []))) hP mo; exact BK.go)
        | (apply Ok.rD [0, 1, 2, 3, 4, 5, 6, 7, 8, 17, 23, 31, 37, 61, 67, 74] hP hn hx mo; exact BK.go; exact BX.go)
        | (apply goE.e [0, 1, 2, 3, 4, 5, 6, 7, 8, 17, 23, 31, 37, 61, 67, 74] hP hn hx; exact BR.go; exact BV.go)
        | (apply goE.n hP hn hx; exact BR.go; exact BJ.go; exact BU.go)
        | (apply goE.q; exact BR.go; exact BG.go; exact BW.go)
        | (apply goQ.t hP; exact BR.go; exact BR.go; exact BS.go)
        | (apply goQ.f hn hx; exact BR.go; exact BR.go; exact BE.go)
        | (apply goD.z [0, 1, 2, 3, 4, 5, 6, 7, 8, 17, 23, 31, 37, 61, 67, 74]; exact BT.go)
        | (apply goD.n hP hn hx; exact BN.go)
        | (apply goD.q; exact BR.go; exact BG.go; exact BW.go)
        | (apply goQD.t hP; exact BR.go; exact BR.go; exact BS.go)
        | (apply goQD.f hP hn hx; exact BR.go; exact BR.go; exact BE.go; exact BQ.go)
        | (apply goD.x hP hn hx; exact BR.go; exact BG.go; exact BR.go; exact BW.go; exact BS.go; exact BQ.go)
        | (apply goK.k hP hn hx; exact spec_l01In.link _ _ _ _ (by assumption); exact BS.go)
        | (apply goKD.k hP hn hx; exact spec_l01In.link _ _ _ _ (by assumption); exact BS.go; exact BQ.go)
        | (apply goK.k hP hn hx; exact spec_l05Deeps.link _ _ _ _ _ (by assumption); exact BS.go)
        | (apply goKD.k hP hn hx; exact spec_l05Deeps.link _ _ _ _ _ (by assumption); exact BS.go; exact BQ.go)
        | (apply goK.k hP hn hx; exact spec_l05Lists.link _ _ _ _ _ (by assumption); exact BS.go)
        | (apply goKD.k hP hn hx; exact spec_l05Lists.link _ _ _ _ _ (by assumption); exact BS.go; exact BQ.go)
        | (apply goK.k hP hn hx; exact spec_l05Bodies.link _ _ _ _ _ (by assumption); exact BS.go)
        | (apply goKD.k hP hn hx; exact spec_l05Bodies.link _ _ _ _ _ (by assumption); exact BS.go; exact BQ.go)
        | (apply goK.k hP hn hx; exact spec_l05Used.link _ _ _ _ _ (by assumption); exact BS.go)
        | (apply goKD.k hP hn hx; exact spec_l05Used.link _ _ _ _ _ (by assumption); exact BS.go; exact BQ.go)
        | (apply Ok.bk #[.tmp 2] hC.out hP hx hF; exact BR.go; exact BF.go; exact BF.go; exact BF.go; exact BM.go; exact BR.go; exact BR.go; exact BR.go; exact B1.go; exact BR.go)
        | (apply Ok.ag [1, 3, 4] ih0; exact BT.go; exact ⟨_, by omega, _, _, _, _, _, by first | rfl | (simp (disch := omega) only [go_sem, ↓reduceIte, eq_self, and_self]; done), by omega, H.out⟩; done)
        | (apply Ok.lq [1, 5, 6] (fun q X => ∃ x5, ∃ x6, ∃ x401000, ∃ x401001, ∃ x401002, X = ⟨[(1, .pl 0 none 0), (5, .bor 1 none 0 1 false), (6, .dat false [.sc (.int .i64 x6)])], [(0, .mem [.sl none 6 (List.flatMap e77 x401000), .sl none 4 (List.flatMap e106 x401001), .sl none 4 (List.flatMap e103 x401002)]), (1, .vir [.sl (some 0) 1 (List.flatMap eI x5)])]⟩ ∧ q ≤ kq0_2 ∧ spec_ProgramOk.l1 q x5 x6 x401000 x401001 x401002 = some r); exact BT.go; exact ⟨_, _, _, _, _, _, by first | rfl | (simp (disch := omega) only [go_sem, ↓reduceIte, eq_self, and_self]; done), by omega, H.out⟩))
       all_goals intro q1_3 X hJ ih1
       all_goals clear H
       all_goals obtain ⟨x5, x6, x401000, x401001, x401002, rfl, hq, H⟩ := hJ
       all_goals (cases q1_3 with
        | zero => (simp only [spec_ProgramOk.l1] at H; cases H)
        | succ kq1_3 =>
         simp only [spec_ProgramOk.l1, List.length_append, List.length_cons, List.length_nil, Nat.zero_add, beq_dec, bne_dec, Bool.or_eq_true, Bool.and_eq_true, Bool.not_eq_true', decide_eq_true_eq, decide_eq_false_iff_not, ite_or', ite_and', ite_not', ge_iff_le, gt_iff_lt] at H
         repeat' first
          | (with_reducible replace H := sBindA H (by assumption))
          | (with_reducible replace H := sBindS H)
          | (with_reducible replace H := sBind H); obtain ⟨t, hA, H⟩ := H
          | (with_reducible replace H := sBool H); obtain ⟨c, H⟩ | ⟨c, H⟩ := H
          | (with_reducible replace H := sEq H); obtain ⟨c, c', H⟩ | ⟨c, c', H⟩ := H
          | (with_reducible replace H := sEqL H); obtain ⟨c, H⟩ | ⟨c, H⟩ := H
          | (with_reducible replace H := sIte H); obtain ⟨c, H⟩ | ⟨c, H⟩ := H
          | (with_reducible replace H := sAnd H); obtain ⟨c, H⟩ | ⟨c, H⟩ := H
          | (with_reducible replace H := sOr H); obtain ⟨c, H⟩ | ⟨c, H⟩ := H
         all_goals first
          | cases H
          | (exfalso; clear H; omega)
          | replace H := Hold.mk H
         all_goals repeat (first
          | apply Ok.seq
          | apply Ok.skip
          | (apply Ok.rN [0, 1, 2, 3, 4, 5, 6, 7, 8, 17, 23, 31, 37, 61, 67, 74] hP hn hx; exact BR.go; exact BV.go)
          | (apply Ok.gS)
          | (apply Ok.cn; exact BS.go)
          | apply Ok.block
          | apply Ok.inBlock
          | (apply Ok.ex; exact BR.go)
          | (apply Ok.gD 13 (noneL [0, 1, 2, 3, 4, 5, 6, 7] ++ ((8, some []) :: (noneL [9, 10, 11, 12, 13, 14, 15, 16, 17, 18, 19, 20, 21] ++ []))) hP mo; exact BK.go)
          | (apply Ok.rD [0, 1, 2, 3, 4, 5, 6, 7, 8, 17, 23, 31, 37, 61, 67, 74] hP hn hx mo; exact BK.go; exact BX.go)
          | (apply goE.e [0, 1, 2, 3, 4, 5, 6, 7, 8, 17, 23, 31, 37, 61, 67, 74] hP hn hx; exact BR.go; exact BV.go)
          | (apply goE.n hP hn hx; exact BR.go; exact BJ.go; exact BU.go)
          | (apply goE.q; exact BR.go; exact BG.go; exact BW.go)
          | (apply goQ.t hP; exact BR.go; exact BR.go; exact BS.go)
          | (apply goQ.f hn hx; exact BR.go; exact BR.go; exact BE.go)
          | (apply goD.z [0, 1, 2, 3, 4, 5, 6, 7, 8, 17, 23, 31, 37, 61, 67, 74]; exact BT.go)
          | (apply goD.n hP hn hx; exact BN.go)
          | (apply goD.q; exact BR.go; exact BG.go; exact BW.go)
          | (apply goQD.t hP; exact BR.go; exact BR.go; exact BS.go)
          | (apply goQD.f hP hn hx; exact BR.go; exact BR.go; exact BE.go; exact BQ.go)
          | (apply goD.x hP hn hx; exact BR.go; exact BG.go; exact BR.go; exact BW.go; exact BS.go; exact BQ.go)
          | (apply goK.k hP hn hx; exact spec_l01In.link _ _ _ _ (by assumption); exact BS.go)
          | (apply goKD.k hP hn hx; exact spec_l01In.link _ _ _ _ (by assumption); exact BS.go; exact BQ.go)
          | (apply goK.k hP hn hx; exact spec_l05Deeps.link _ _ _ _ _ (by assumption); exact BS.go)
          | (apply goKD.k hP hn hx; exact spec_l05Deeps.link _ _ _ _ _ (by assumption); exact BS.go; exact BQ.go)
          | (apply goK.k hP hn hx; exact spec_l05Lists.link _ _ _ _ _ (by assumption); exact BS.go)
          | (apply goKD.k hP hn hx; exact spec_l05Lists.link _ _ _ _ _ (by assumption); exact BS.go; exact BQ.go)
          | (apply goK.k hP hn hx; exact spec_l05Bodies.link _ _ _ _ _ (by assumption); exact BS.go)
          | (apply goKD.k hP hn hx; exact spec_l05Bodies.link _ _ _ _ _ (by assumption); exact BS.go; exact BQ.go)
          | (apply goK.k hP hn hx; exact spec_l05Used.link _ _ _ _ _ (by assumption); exact BS.go)
          | (apply goKD.k hP hn hx; exact spec_l05Used.link _ _ _ _ _ (by assumption); exact BS.go; exact BQ.go)
          | (apply Ok.bk #[.tmp 2] hC.out hP hx hF; exact BR.go; exact BF.go; exact BF.go; exact BF.go; exact BM.go; exact BR.go; exact BR.go; exact BR.go; exact B1.go; exact BR.go)
          | (apply Ok.ag [1, 3, 4] ih0; exact BT.go; exact ⟨_, by omega, _, _, _, _, _, by first | rfl | (simp (disch := omega) only [go_sem, ↓reduceIte, eq_self, and_self]; done), by omega, H.out⟩; done)
          | (apply Ok.ag [1, 5, 6] ih1; exact BT.go; exact ⟨_, by omega, _, _, _, _, _, by first | rfl | (simp (disch := omega) only [go_sem, ↓reduceIte, eq_self, and_self]; done), by omega, H.out⟩; done)
          | (apply Ok.lq [7, 8] (fun q X => ∃ x7, ∃ x8, X = ⟨[(7, .bor 0 none 0 1 false), (8, .dat false [.sc (.int .i64 x8)])], [(0, .vir [.sl (some 0) 1 (List.flatMap eI x7)])]⟩ ∧ q ≤ kq1_3 ∧ spec_ProgramOk.l2 q x7 x8 = some r); exact BT.go; exact ⟨_, _, _, by first | rfl | (simp (disch := omega) only [go_sem, ↓reduceIte, eq_self, and_self]; done), by omega, H.out⟩))
         all_goals intro q2_4 X hJ ih2
         all_goals clear H
         all_goals obtain ⟨x7, x8, rfl, hq, H⟩ := hJ
         all_goals (cases q2_4 with
          | zero => (simp only [spec_ProgramOk.l2] at H; cases H)
          | succ kq2_4 =>
           simp only [spec_ProgramOk.l2, List.length_append, List.length_cons, List.length_nil, Nat.zero_add, beq_dec, bne_dec, Bool.or_eq_true, Bool.and_eq_true, Bool.not_eq_true', decide_eq_true_eq, decide_eq_false_iff_not, ite_or', ite_and', ite_not', ge_iff_le, gt_iff_lt] at H
           repeat' first
            | (with_reducible replace H := sBindA H (by assumption))
            | (with_reducible replace H := sBindS H)
            | (with_reducible replace H := sBind H); obtain ⟨t, hA, H⟩ := H
            | (with_reducible replace H := sBool H); obtain ⟨c, H⟩ | ⟨c, H⟩ := H
            | (with_reducible replace H := sEq H); obtain ⟨c, c', H⟩ | ⟨c, c', H⟩ := H
            | (with_reducible replace H := sEqL H); obtain ⟨c, H⟩ | ⟨c, H⟩ := H
            | (with_reducible replace H := sIte H); obtain ⟨c, H⟩ | ⟨c, H⟩ := H
            | (with_reducible replace H := sAnd H); obtain ⟨c, H⟩ | ⟨c, H⟩ := H
            | (with_reducible replace H := sOr H); obtain ⟨c, H⟩ | ⟨c, H⟩ := H
           all_goals first
            | cases H
            | (exfalso; clear H; omega)
            | replace H := Hold.mk H
           all_goals repeat (first
            | apply Ok.seq
            | apply Ok.skip
            | (apply Ok.rN [0, 1, 2, 3, 4, 5, 6, 7, 8, 17, 23, 31, 37, 61, 67, 74] hP hn hx; exact BR.go; exact BV.go)
            | (apply Ok.gS)
            | (apply Ok.cn; exact BS.go)
            | apply Ok.block
            | apply Ok.inBlock
            | (apply Ok.ex; exact BR.go)
            | (apply Ok.gD 13 (noneL [0, 1, 2, 3, 4, 5, 6, 7] ++ ((8, some []) :: (noneL [9, 10, 11, 12, 13, 14, 15, 16, 17, 18, 19, 20, 21] ++ []))) hP mo; exact BK.go)
            | (apply Ok.rD [0, 1, 2, 3, 4, 5, 6, 7, 8, 17, 23, 31, 37, 61, 67, 74] hP hn hx mo; exact BK.go; exact BX.go)
            | (apply goE.e [0, 1, 2, 3, 4, 5, 6, 7, 8, 17, 23, 31, 37, 61, 67, 74] hP hn hx; exact BR.go; exact BV.go)
            | (apply goE.n hP hn hx; exact BR.go; exact BJ.go; exact BU.go)
            | (apply goE.q; exact BR.go; exact BG.go; exact BW.go)
            | (apply goQ.t hP; exact BR.go; exact BR.go; exact BS.go)
            | (apply goQ.f hn hx; exact BR.go; exact BR.go; exact BE.go)
            | (apply goD.z [0, 1, 2, 3, 4, 5, 6, 7, 8, 17, 23, 31, 37, 61, 67, 74]; exact BT.go)
            | (apply goD.n hP hn hx; exact BN.go)
            | (apply goD.q; exact BR.go; exact BG.go; exact BW.go)
            | (apply goQD.t hP; exact BR.go; exact BR.go; exact BS.go)
            | (apply goQD.f hP hn hx; exact BR.go; exact BR.go; exact BE.go; exact BQ.go)
            | (apply goD.x hP hn hx; exact BR.go; exact BG.go; exact BR.go; exact BW.go; exact BS.go; exact BQ.go)
            | (apply goK.k hP hn hx; exact spec_l01In.link _ _ _ _ (by assumption); exact BS.go)
            | (apply goKD.k hP hn hx; exact spec_l01In.link _ _ _ _ (by assumption); exact BS.go; exact BQ.go)
            | (apply goK.k hP hn hx; exact spec_l05Deeps.link _ _ _ _ _ (by assumption); exact BS.go)
            | (apply goKD.k hP hn hx; exact spec_l05Deeps.link _ _ _ _ _ (by assumption); exact BS.go; exact BQ.go)
            | (apply goK.k hP hn hx; exact spec_l05Lists.link _ _ _ _ _ (by assumption); exact BS.go)
            | (apply goKD.k hP hn hx; exact spec_l05Lists.link _ _ _ _ _ (by assumption); exact BS.go; exact BQ.go)
            | (apply goK.k hP hn hx; exact spec_l05Bodies.link _ _ _ _ _ (by assumption); exact BS.go)
            | (apply goKD.k hP hn hx; exact spec_l05Bodies.link _ _ _ _ _ (by assumption); exact BS.go; exact BQ.go)
            | (apply goK.k hP hn hx; exact spec_l05Used.link _ _ _ _ _ (by assumption); exact BS.go)
            | (apply goKD.k hP hn hx; exact spec_l05Used.link _ _ _ _ _ (by assumption); exact BS.go; exact BQ.go)
            | (apply Ok.bk #[.tmp 2] hC.out hP hx hF; exact BR.go; exact BF.go; exact BF.go; exact BF.go; exact BM.go; exact BR.go; exact BR.go; exact BR.go; exact B1.go; exact BR.go)
            | (apply Ok.ag [1, 3, 4] ih0; exact BT.go; exact ⟨_, by omega, _, _, _, _, _, by first | rfl | (simp (disch := omega) only [go_sem, ↓reduceIte, eq_self, and_self]; done), by omega, H.out⟩; done)
            | (apply Ok.ag [1, 5, 6] ih1; exact BT.go; exact ⟨_, by omega, _, _, _, _, _, by first | rfl | (simp (disch := omega) only [go_sem, ↓reduceIte, eq_self, and_self]; done), by omega, H.out⟩; done)
            | (apply Ok.ag [7, 8] ih2; exact BT.go; exact ⟨_, by omega, _, _, by first | rfl | (simp (disch := omega) only [go_sem, ↓reduceIte, eq_self, and_self]; done), by omega, H.out⟩; done))))))
set_option maxHeartbeats 8000000 in
theorem impl_within.link (a0 : Int) (a1 : Int) (a2 : Int) (r : Bool) (H : impl_within.f a0 a1 a2 = some r) : ACalls Try.prog 79 [.dat false [.sc (.int .i64 a0)], .dat false [.sc (.int .i64 a1)], .dat false [.sc (.int .i64 a2)]] [(false, [.sc (.bool r)])] [.dat false [.sc (.int .i64 a0)], .dat false [.sc (.int .i64 a1)], .dat false [.sc (.int .i64 a2)]] := by
 refine ACalls.enter Try.func79 (by kernel_rfl) rfl (by rw [Try.ntmps79]; exact Nat.le_of_ble_eq_true rfl) (fun C F hC hP hf hn hx => ?_)
 rw [Try.ntmps79] at hn
 have hF : Try.prog.funcs[C.fid]? = some Try.f79 := hf ▸ Try.func79
 replace hC := Hold.mk hC
 replace hx : C.fx = [] := hx
 simp only [entry, entE, enumM, rwA, rwC, Nat.reduceAdd] at ⊢
 simp only [impl_within.f, List.length_append, List.length_cons, List.length_nil, Nat.zero_add, beq_dec, bne_dec, Bool.or_eq_true, Bool.and_eq_true, Bool.not_eq_true', decide_eq_true_eq, decide_eq_false_iff_not, ite_or', ite_and', ite_not', ge_iff_le, gt_iff_lt] at H
 repeat' first
  | (with_reducible replace H := sBindA H (by assumption))
  | (with_reducible replace H := sBindS H)
  | (with_reducible replace H := sBind H); obtain ⟨t, hA, H⟩ := H
  | (with_reducible replace H := sBool H); obtain ⟨c, H⟩ | ⟨c, H⟩ := H
  | (with_reducible replace H := sEq H); obtain ⟨c, c', H⟩ | ⟨c, c', H⟩ := H
  | (with_reducible replace H := sEqL H); obtain ⟨c, H⟩ | ⟨c, H⟩ := H
  | (with_reducible replace H := sIte H); obtain ⟨c, H⟩ | ⟨c, H⟩ := H
  | (with_reducible replace H := sAnd H); obtain ⟨c, H⟩ | ⟨c, H⟩ := H
  | (with_reducible replace H := sOr H); obtain ⟨c, H⟩ | ⟨c, H⟩ := H
 all_goals first
  | cases H
  | replace H := Hold.mk H
 all_goals repeat (first
  | apply Ok.seq
  | apply Ok.skip
  | (apply Ok.rN [0, 1, 2, 6] hP hn hx; exact BR.go; exact BV.go)
  | (apply Ok.cn; exact BS.go)
  | apply Ok.block
  | apply Ok.inBlock
  | (apply Ok.ex; exact BR.go)
  | (apply Ok.bk #[.tmp 6] hC.out hP hx hF; exact BR.go; exact BF.go; exact BF.go; exact BF.go; exact BM.go; exact BR.go; exact BR.go; exact BR.go; exact B1.go; exact BR.go))
set_option maxHeartbeats 8000000 in
theorem impl_isNode.link (l0_0 : List (S77)) (l0_1 : List (S106)) (l0_2 : List (S103)) (a1 : Int) (r : Bool) (H : impl_isNode.f l0_0 l0_1 l0_2 a1 = some r) : ACalls Try.prog 78 [.dat true [.sl none 6 (List.flatMap e77 l0_0), .sl none 4 (List.flatMap e106 l0_1), .sl none 4 (List.flatMap e103 l0_2)], .dat false [.sc (.int .i64 a1)]] [(false, [.sc (.bool r)])] [.dat true [.sl none 6 (List.flatMap e77 l0_0), .sl none 4 (List.flatMap e106 l0_1), .sl none 4 (List.flatMap e103 l0_2)], .dat false [.sc (.int .i64 a1)]] := by
 refine ACalls.enter Try.func78 (by kernel_rfl) rfl (by rw [Try.ntmps78]; exact Nat.le_of_ble_eq_true rfl) (fun C F hC hP hf hn hx => ?_)
 rw [Try.ntmps78] at hn
 have hF : Try.prog.funcs[C.fid]? = some Try.f78 := hf ▸ Try.func78
 replace hC := Hold.mk hC
 replace hx : C.fx = [] := hx
 simp only [entry, entE, enumM, rwA, rwC, Nat.reduceAdd] at ⊢
 simp only [impl_isNode.f, List.length_append, List.length_cons, List.length_nil, Nat.zero_add, beq_dec, bne_dec, Bool.or_eq_true, Bool.and_eq_true, Bool.not_eq_true', decide_eq_true_eq, decide_eq_false_iff_not, ite_or', ite_and', ite_not', ge_iff_le, gt_iff_lt] at H
 repeat' first
  | (with_reducible replace H := sBindA H (by assumption))
  | (with_reducible replace H := sBindS H)
  | (with_reducible replace H := sBind H); obtain ⟨t, hA, H⟩ := H
  | (with_reducible replace H := sBool H); obtain ⟨c, H⟩ | ⟨c, H⟩ := H
  | (with_reducible replace H := sEq H); obtain ⟨c, c', H⟩ | ⟨c, c', H⟩ := H
  | (with_reducible replace H := sEqL H); obtain ⟨c, H⟩ | ⟨c, H⟩ := H
  | (with_reducible replace H := sIte H); obtain ⟨c, H⟩ | ⟨c, H⟩ := H
  | (with_reducible replace H := sAnd H); obtain ⟨c, H⟩ | ⟨c, H⟩ := H
  | (with_reducible replace H := sOr H); obtain ⟨c, H⟩ | ⟨c, H⟩ := H
 all_goals first
  | cases H
  | replace H := Hold.mk H
 all_goals repeat (first
  | apply Ok.seq
  | apply Ok.skip
  | (apply Ok.rN [0, 1, 2, 4] hP hn hx; exact BR.go; exact BV.go)
  | (apply Ok.gS)
  | (apply Ok.cn; exact BS.go)
  | apply Ok.block
  | apply Ok.inBlock
  | (apply Ok.ex; exact BR.go)
  | (apply goE.e [0, 1, 2, 4] hP hn hx; exact BR.go; exact BV.go)
  | (apply goE.n hP hn hx; exact BR.go; exact BJ.go; exact BU.go)
  | (apply goE.q; exact BR.go; exact BG.go; exact BW.go)
  | (apply goQ.t hP; exact BR.go; exact BR.go; exact BS.go)
  | (apply goQ.f hn hx; exact BR.go; exact BR.go; exact BE.go)
  | (apply goK.k hP hn hx; exact impl_within.link _ _ _ _ (by assumption); exact BS.go)
  | (apply Ok.bk #[.tmp 4] hC.out hP hx hF; exact BR.go; exact BF.go; exact BF.go; exact BF.go; exact BM.go; exact BR.go; exact BR.go; exact BR.go; exact B1.go; exact BR.go))
set_option maxHeartbeats 8000000 in
theorem slices_Index_int_int.link (k : Nat) (l0 : List Int) (a1 : Int) (r : Int) (H : slices_Index_int_int.f k l0 a1 = some r) : ACalls Try.prog 127 [.dat false [.sl none 1 (List.flatMap eI l0)], .dat false [.sc (.int .i64 a1)]] [(false, [.sc (.int .i64 r)])] [.dat false [.sl none 1 (List.flatMap eI l0)], .dat false [.sc (.int .i64 a1)]] := by
 refine ACalls.enter Try.func127 (by kernel_rfl) rfl (by rw [Try.ntmps127]; exact Nat.le_of_ble_eq_true rfl) (fun C F hC hP hf hn hx => ?_)
 rw [Try.ntmps127] at hn
 have hF : Try.prog.funcs[C.fid]? = some Try.f127 := hf ▸ Try.func127
 replace hC := Hold.mk hC
 replace hx : C.fx = [] := hx
 simp only [entry, entE, enumM, rwA, rwC, Nat.reduceAdd] at ⊢
 simp only [slices_Index_int_int.f, List.length_append, List.length_cons, List.length_nil, Nat.zero_add, beq_dec, bne_dec, Bool.or_eq_true, Bool.and_eq_true, Bool.not_eq_true', decide_eq_true_eq, decide_eq_false_iff_not, ite_or', ite_and', ite_not', ge_iff_le, gt_iff_lt] at H
 repeat' first
  | (with_reducible replace H := sBindA H (by assumption))
  | (with_reducible replace H := sBindS H)
  | (with_reducible replace H := sBind H); obtain ⟨t, hA, H⟩ := H
  | (with_reducible replace H := sBool H); obtain ⟨c, H⟩ | ⟨c, H⟩ := H
  | (with_reducible replace H := sEq H); obtain ⟨c, c', H⟩ | ⟨c, c', H⟩ := H
  | (with_reducible replace H := sEqL H); obtain ⟨c, H⟩ | ⟨c, H⟩ := H
  | (with_reducible replace H := sIte H); obtain ⟨c, H⟩ | ⟨c, H⟩ := H
  | (with_reducible replace H := sAnd H); obtain ⟨c, H⟩ | ⟨c, H⟩ := H
  | (with_reducible replace H := sOr H); obtain ⟨c, H⟩ | ⟨c, H⟩ := H
 all_goals first
  | cases H
  | replace H := Hold.mk H
 all_goals repeat (first
  | apply Ok.seq
  | apply Ok.skip
  | (apply Ok.rN [0, 1, 4, 5, 7, 8, 9, 16] hP hn hx; exact BR.go; exact BV.go)
  | (apply Ok.cn; exact BS.go)
  | apply Ok.block
  | apply Ok.inBlock
  | (apply Ok.ex; exact BR.go)
  | (apply Ok.bk #[.tmp 4] hC.out hP hx hF; exact BR.go; exact BF.go; exact BF.go; exact BF.go; exact BM.go; exact BR.go; exact BR.go; exact BR.go; exact B1.go; exact BR.go)
  | (apply Ok.lq [0, 1, 7, 8] (fun q X => ∃ x0, ∃ x1, ∃ x7, ∃ x8, X = ⟨[(0, .dat false [.sl none 1 (List.flatMap eI x0)]), (1, .dat false [.sc (.int .i64 x1)]), (7, .dat false [.sc (.int .i64 x7)]), (8, .dat false [.sc (.int .i64 x8)])], []⟩ ∧ q ≤ k ∧ slices_Index_int_int.l0 q x0 x1 x7 x8 = some r); exact BT.go; exact ⟨_, _, _, _, _, by first | rfl | (simp (disch := omega) only [go_sem, ↓reduceIte, eq_self, and_self]; done), by omega, H.out⟩))
 all_goals intro q0_1 X hJ ih0
 all_goals clear H
 all_goals obtain ⟨x0, x1, x7, x8, rfl, hq, H⟩ := hJ
 all_goals (cases q0_1 with
  | zero => (simp only [slices_Index_int_int.l0] at H; cases H)
  | succ kq0_1 =>
   simp only [slices_Index_int_int.l0, List.length_append, List.length_cons, List.length_nil, Nat.zero_add, beq_dec, bne_dec, Bool.or_eq_true, Bool.and_eq_true, Bool.not_eq_true', decide_eq_true_eq, decide_eq_false_iff_not, ite_or', ite_and', ite_not', ge_iff_le, gt_iff_lt] at H
   repeat' first
    | (with_reducible replace H := sBindA H (by assumption))
    | (with_reducible replace H := sBindS H)
    | (with_reducible replace H := sBind H); obtain ⟨t, hA, H⟩ := H
    | (with_reducible replace H := sBool H); obtain ⟨c, H⟩ | ⟨c, H⟩ := H
    | (with_reducible replace H := sEq H); obtain ⟨c, c', H⟩ | ⟨c, c', H⟩ := H
    | (with_reducible replace H := sEqL H); obtain ⟨c, H⟩ | ⟨c, H⟩ := H
    | (with_reducible replace H := sIte H); obtain ⟨c, H⟩ | ⟨c, H⟩ := H
    | (with_reducible replace H := sAnd H); obtain ⟨c, H⟩ | ⟨c, H⟩ := H
    | (with_reducible replace H := sOr H); obtain ⟨c, H⟩ | ⟨c, H⟩ := H
   all_goals first
    | cases H
    | (exfalso; clear H; omega)
    | replace H := Hold.mk H
   all_goals repeat (first
    | apply Ok.seq
    | apply Ok.skip
    | (apply Ok.rN [0, 1, 4, 5, 7, 8, 9, 16] hP hn hx; exact BR.go; exact BV.go)
    | (apply Ok.cn; exact BS.go)
    | apply Ok.block
    | apply Ok.inBlock
    | (apply Ok.ex; exact BR.go)
    | (apply Ok.bk #[.tmp 4] hC.out hP hx hF; exact BR.go; exact BF.go; exact BF.go; exact BF.go; exact BM.go; exact BR.go; exact BR.go; exact BR.go; exact B1.go; exact BR.go)
    | (apply Ok.ag [0, 1, 7, 8] ih0; exact BT.go; exact ⟨_, by omega, _, _, _, _, by first | rfl | (simp (disch := omega) only [go_sem, ↓reduceIte, eq_self, and_self]; done), by omega, H.out⟩; done)))
set_option maxHeartbeats 8000000 in
theorem slices_Contains_int_int.link (k : Nat) (l0 : List Int) (a1 : Int) (r : Bool) (H : slices_Contains_int_int.f k l0 a1 = some r) : ACalls Try.prog 80 [.dat false [.sl none 1 (List.flatMap eI l0)], .dat false [.sc (.int .i64 a1)]] [(false, [.sc (.bool r)])] [.dat false [.sl none 1 (List.flatMap eI l0)], .dat false [.sc (.int .i64 a1)]] := by
 refine ACalls.enter Try.func80 (by kernel_rfl) rfl (by rw [Try.ntmps80]; exact Nat.le_of_ble_eq_true rfl) (fun C F hC hP hf hn hx => ?_)
 rw [Try.ntmps80] at hn
 have hF : Try.prog.funcs[C.fid]? = some Try.f80 := hf ▸ Try.func80
 replace hC := Hold.mk hC
 replace hx : C.fx = [] := hx
 simp only [entry, entE, enumM, rwA, rwC, Nat.reduceAdd] at ⊢
 simp only [slices_Contains_int_int.f, List.length_append, List.length_cons, List.length_nil, Nat.zero_add, beq_dec, bne_dec, Bool.or_eq_true, Bool.and_eq_true, Bool.not_eq_true', decide_eq_true_eq, decide_eq_false_iff_not, ite_or', ite_and', ite_not', ge_iff_le, gt_iff_lt] at H
 repeat' first
  | (with_reducible replace H := sBindA H (by assumption))
  | (with_reducible replace H := sBindS H)
  | (with_reducible replace H := sBind H); obtain ⟨t, hA, H⟩ := H
  | (with_reducible replace H := sBool H); obtain ⟨c, H⟩ | ⟨c, H⟩ := H
  | (with_reducible replace H := sEq H); obtain ⟨c, c', H⟩ | ⟨c, c', H⟩ := H
  | (with_reducible replace H := sEqL H); obtain ⟨c, H⟩ | ⟨c, H⟩ := H
  | (with_reducible replace H := sIte H); obtain ⟨c, H⟩ | ⟨c, H⟩ := H
  | (with_reducible replace H := sAnd H); obtain ⟨c, H⟩ | ⟨c, H⟩ := H
  | (with_reducible replace H := sOr H); obtain ⟨c, H⟩ | ⟨c, H⟩ := H
 all_goals first
  | cases H
  | replace H := Hold.mk H
 all_goals repeat (first
  | apply Ok.seq
  | apply Ok.skip
  | (apply Ok.rN [0, 1, 4] hP hn hx; exact BR.go; exact BV.go)
  | (apply Ok.gS)
  | (apply Ok.cn; exact BS.go)
  | apply Ok.block
  | apply Ok.inBlock
  | (apply Ok.ex; exact BR.go)
  | (apply goE.e [0, 1, 4] hP hn hx; exact BR.go; exact BV.go)
  | (apply goE.n hP hn hx; exact BR.go; exact BJ.go; exact BU.go)
  | (apply goE.q; exact BR.go; exact BG.go; exact BW.go)
  | (apply goQ.t hP; exact BR.go; exact BR.go; exact BS.go)
  | (apply goQ.f hn hx; exact BR.go; exact BR.go; exact BE.go)
  | (apply goK.k hP hn hx; exact slices_Index_int_int.link _ _ _ _ (by assumption); exact BS.go)
  | (apply Ok.bk #[.tmp 4] hC.out hP hx hF; exact BR.go; exact BF.go; exact BF.go; exact BF.go; exact BM.go; exact BR.go; exact BR.go; exact BR.go; exact B1.go; exact BR.go))
set_option maxHeartbeats 8000000 in
theorem impl_isBlock.link (l0_0 : List (S77)) (l0_1 : List (S106)) (l0_2 : List (S103)) (a1 : Int) (r : Bool) (H : impl_isBlock.f l0_0 l0_1 l0_2 a1 = some r) : ACalls Try.prog 96 [.dat true [.sl none 6 (List.flatMap e77 l0_0), .sl none 4 (List.flatMap e106 l0_1), .sl none 4 (List.flatMap e103 l0_2)], .dat false [.sc (.int .i64 a1)]] [(false, [.sc (.bool r)])] [.dat true [.sl none 6 (List.flatMap e77 l0_0), .sl none 4 (List.flatMap e106 l0_1), .sl none 4 (List.flatMap e103 l0_2)], .dat false [.sc (.int .i64 a1)]] := by
 refine ACalls.enter Try.func96 (by kernel_rfl) rfl (by rw [Try.ntmps96]; exact Nat.le_of_ble_eq_true rfl) (fun C F hC hP hf hn hx => ?_)
 rw [Try.ntmps96] at hn
 have hF : Try.prog.funcs[C.fid]? = some Try.f96 := hf ▸ Try.func96
 replace hC := Hold.mk hC
 replace hx : C.fx = [] := hx
 simp only [entry, entE, enumM, rwA, rwC, Nat.reduceAdd] at ⊢
 simp only [impl_isBlock.f, List.length_append, List.length_cons, List.length_nil, Nat.zero_add, beq_dec, bne_dec, Bool.or_eq_true, Bool.and_eq_true, Bool.not_eq_true', decide_eq_true_eq, decide_eq_false_iff_not, ite_or', ite_and', ite_not', ge_iff_le, gt_iff_lt] at H
 repeat' first
  | (with_reducible replace H := sBindA H (by assumption))
  | (with_reducible replace H := sBindS H)
  | (with_reducible replace H := sBind H); obtain ⟨t, hA, H⟩ := H
  | (with_reducible replace H := sBool H); obtain ⟨c, H⟩ | ⟨c, H⟩ := H
  | (with_reducible replace H := sEq H); obtain ⟨c, c', H⟩ | ⟨c, c', H⟩ := H
  | (with_reducible replace H := sEqL H); obtain ⟨c, H⟩ | ⟨c, H⟩ := H
  | (with_reducible replace H := sIte H); obtain ⟨c, H⟩ | ⟨c, H⟩ := H
  | (with_reducible replace H := sAnd H); obtain ⟨c, H⟩ | ⟨c, H⟩ := H
  | (with_reducible replace H := sOr H); obtain ⟨c, H⟩ | ⟨c, H⟩ := H
 all_goals first
  | cases H
  | (exfalso; clear H; omega)
  | replace H := Hold.mk H
 all_goals repeat (first
  | apply Ok.seq
  | apply Ok.skip
  | (apply Ok.rN [0, 1, 2, 4] hP hn hx; exact BR.go; exact BV.go)
  | (apply Ok.gS)
  | (apply Ok.cn; exact BS.go)
  | apply Ok.block
  | apply Ok.inBlock
  | (apply Ok.ex; exact BR.go)
  | (apply goE.e [0, 1, 2, 4] hP hn hx; exact BR.go; exact BV.go)
  | (apply goE.n hP hn hx; exact BR.go; exact BJ.go; exact BU.go)
  | (apply goE.q; exact BR.go; exact BG.go; exact BW.go)
  | (apply goQ.t hP; exact BR.go; exact BR.go; exact BS.go)
  | (apply goQ.f hn hx; exact BR.go; exact BR.go; exact BE.go)
  | (apply goK.k hP hn hx; exact impl_isNode.link _ _ _ _ _ (by assumption); exact BS.go)
  | (apply Ok.bk #[.tmp 4] hC.out hP hx hF; exact BR.go; exact BF.go; exact BF.go; exact BF.go; exact BM.go; exact BR.go; exact BR.go; exact BR.go; exact B1.go; exact BR.go))
set_option maxHeartbeats 8000000 in
theorem impl_isValue.link (l0_0 : List (S77)) (l0_1 : List (S106)) (l0_2 : List (S103)) (a1 : Int) (r : Bool) (H : impl_isValue.f l0_0 l0_1 l0_2 a1 = some r) : ACalls Try.prog 102 [.dat true [.sl none 6 (List.flatMap e77 l0_0), .sl none 4 (List.flatMap e106 l0_1), .sl none 4 (List.flatMap e103 l0_2)], .dat false [.sc (.int .i64 a1)]] [(false, [.sc (.bool r)])] [.dat true [.sl none 6 (List.flatMap e77 l0_0), .sl none 4 (List.flatMap e106 l0_1), .sl none 4 (List.flatMap e103 l0_2)], .dat false [.sc (.int .i64 a1)]] := by
 refine ACalls.enter Try.func102 (by kernel_rfl) rfl (by rw [Try.ntmps102]; exact Nat.le_of_ble_eq_true rfl) (fun C F hC hP hf hn hx => ?_)
 rw [Try.ntmps102] at hn
 have hF : Try.prog.funcs[C.fid]? = some Try.f102 := hf ▸ Try.func102
 replace hC := Hold.mk hC
 replace hx : C.fx = [] := hx
 simp only [entry, entE, enumM, rwA, rwC, Nat.reduceAdd] at ⊢
 simp only [impl_isValue.f, List.length_append, List.length_cons, List.length_nil, Nat.zero_add, beq_dec, bne_dec, Bool.or_eq_true, Bool.and_eq_true, Bool.not_eq_true', decide_eq_true_eq, decide_eq_false_iff_not, ite_or', ite_and', ite_not', ge_iff_le, gt_iff_lt] at H
 repeat' first
  | (with_reducible replace H := sBindA H (by assumption))
  | (with_reducible replace H := sBindS H)
  | (with_reducible replace H := sBind H); obtain ⟨t, hA, H⟩ := H
  | (with_reducible replace H := sBool H); obtain ⟨c, H⟩ | ⟨c, H⟩ := H
  | (with_reducible replace H := sEq H); obtain ⟨c, c', H⟩ | ⟨c, c', H⟩ := H
  | (with_reducible replace H := sEqL H); obtain ⟨c, H⟩ | ⟨c, H⟩ := H
  | (with_reducible replace H := sIte H); obtain ⟨c, H⟩ | ⟨c, H⟩ := H
  | (with_reducible replace H := sAnd H); obtain ⟨c, H⟩ | ⟨c, H⟩ := H
  | (with_reducible replace H := sOr H); obtain ⟨c, H⟩ | ⟨c, H⟩ := H
 all_goals first
  | cases H
  | (exfalso; clear H; omega)
  | replace H := Hold.mk H
 all_goals repeat (first
  | apply Ok.seq
  | apply Ok.skip
  | (apply Ok.rN [0, 1, 2, 4] hP hn hx; exact BR.go; exact BV.go)
  | (apply Ok.gS)
  | (apply Ok.cn; exact BS.go)
  | apply Ok.block
  | apply Ok.inBlock
  | (apply Ok.ex; exact BR.go)
  | (apply goE.e [0, 1, 2, 4] hP hn hx; exact BR.go; exact BV.go)
  | (apply goE.n hP hn hx; exact BR.go; exact BJ.go; exact BU.go)
  | (apply goE.q; exact BR.go; exact BG.go; exact BW.go)
  | (apply goQ.t hP; exact BR.go; exact BR.go; exact BS.go)
  | (apply goQ.f hn hx; exact BR.go; exact BR.go; exact BE.go)
  | (apply goK.k hP hn hx; exact impl_within.link _ _ _ _ (by assumption); exact BS.go)
  | (apply goK.k hP hn hx; exact impl_isNode.link _ _ _ _ _ (by assumption); exact BS.go)
  | (apply Ok.bk #[.tmp 4] hC.out hP hx hF; exact BR.go; exact BF.go; exact BF.go; exact BF.go; exact BM.go; exact BR.go; exact BR.go; exact BR.go; exact B1.go; exact BR.go))
set_option maxHeartbeats 8000000 in
theorem impl_isStatement.link (l0_0 : List (S77)) (l0_1 : List (S106)) (l0_2 : List (S103)) (a1 : Int) (r : Bool) (H : impl_isStatement.f l0_0 l0_1 l0_2 a1 = some r) : ACalls Try.prog 128 [.dat true [.sl none 6 (List.flatMap e77 l0_0), .sl none 4 (List.flatMap e106 l0_1), .sl none 4 (List.flatMap e103 l0_2)], .dat false [.sc (.int .i64 a1)]] [(false, [.sc (.bool r)])] [.dat true [.sl none 6 (List.flatMap e77 l0_0), .sl none 4 (List.flatMap e106 l0_1), .sl none 4 (List.flatMap e103 l0_2)], .dat false [.sc (.int .i64 a1)]] := by
 refine ACalls.enter Try.func128 (by kernel_rfl) rfl (by rw [Try.ntmps128]; exact Nat.le_of_ble_eq_true rfl) (fun C F hC hP hf hn hx => ?_)
 rw [Try.ntmps128] at hn
 have hF : Try.prog.funcs[C.fid]? = some Try.f128 := hf ▸ Try.func128
 replace hC := Hold.mk hC
 replace hx : C.fx = [] := hx
 simp only [entry, entE, enumM, rwA, rwC, Nat.reduceAdd] at ⊢
 simp only [impl_isStatement.f, List.length_append, List.length_cons, List.length_nil, Nat.zero_add, beq_dec, bne_dec, Bool.or_eq_true, Bool.and_eq_true, Bool.not_eq_true', decide_eq_true_eq, decide_eq_false_iff_not, ite_or', ite_and', ite_not', ge_iff_le, gt_iff_lt] at H
 repeat' first
  | (with_reducible replace H := sBindA H (by assumption))
  | (with_reducible replace H := sBindS H)
  | (with_reducible replace H := sBind H); obtain ⟨t, hA, H⟩ := H
  | (with_reducible replace H := sBool H); obtain ⟨c, H⟩ | ⟨c, H⟩ := H
  | (with_reducible replace H := sEq H); obtain ⟨c, c', H⟩ | ⟨c, c', H⟩ := H
  | (with_reducible replace H := sEqL H); obtain ⟨c, H⟩ | ⟨c, H⟩ := H
  | (with_reducible replace H := sIte H); obtain ⟨c, H⟩ | ⟨c, H⟩ := H
  | (with_reducible replace H := sAnd H); obtain ⟨c, H⟩ | ⟨c, H⟩ := H
  | (with_reducible replace H := sOr H); obtain ⟨c, H⟩ | ⟨c, H⟩ := H
 all_goals first
  | cases H
  | (exfalso; clear H; omega)
  | replace H := Hold.mk H
 all_goals repeat (first
  | apply Ok.seq
  | apply Ok.skip
  | (apply Ok.rN [0, 1, 2, 4] hP hn hx; exact BR.go; exact BV.go)
  | (apply Ok.gS)
  | (apply Ok.cn; exact BS.go)
  | apply Ok.block
  | apply Ok.inBlock
  | (apply Ok.ex; exact BR.go)
  | (apply goE.e [0, 1, 2, 4] hP hn hx; exact BR.go; exact BV.go)
  | (apply goE.n hP hn hx; exact BR.go; exact BJ.go; exact BU.go)
  | (apply goE.q; exact BR.go; exact BG.go; exact BW.go)
  | (apply goQ.t hP; exact BR.go; exact BR.go; exact BS.go)
  | (apply goQ.f hn hx; exact BR.go; exact BR.go; exact BE.go)
  | (apply goK.k hP hn hx; exact impl_within.link _ _ _ _ (by assumption); exact BS.go)
  | (apply goK.k hP hn hx; exact impl_isNode.link _ _ _ _ _ (by assumption); exact BS.go)
  | (apply Ok.bk #[.tmp 4] hC.out hP hx hF; exact BR.go; exact BF.go; exact BF.go; exact BF.go; exact BM.go; exact BR.go; exact BR.go; exact BR.go; exact B1.go; exact BR.go))
set_option maxHeartbeats 8000000 in
theorem impl_kidsOk.link (k : Nat) (l0_0 : List (S77)) (l0_1 : List (S106)) (l0_2 : List (S103)) (a1_0 : Int) (a1_1 : Int) (a1_2 : ByteArray) (a1_3 : ByteArray) (a1_4 : ByteArray) (l1_5 : List Int) (r : Bool) (H : impl_kidsOk.f k l0_0 l0_1 l0_2 a1_0 a1_1 a1_2 a1_3 a1_4 l1_5 = some r) : ACalls Try.prog 81 [.dat true [.sl none 6 (List.flatMap e77 l0_0), .sl none 4 (List.flatMap e106 l0_1), .sl none 4 (List.flatMap e103 l0_2)], .dat true [.sc (.int .i64 a1_0), .sc (.int .i64 a1_1), .sc (.string a1_2), .sc (.string a1_3), .sc (.string a1_4), .sl none 1 (List.flatMap eI l1_5)]] [(false, [.sc (.bool r)])] [.dat true [.sl none 6 (List.flatMap e77 l0_0), .sl none 4 (List.flatMap e106 l0_1), .sl none 4 (List.flatMap e103 l0_2)], .dat true [.sc (.int .i64 a1_0), .sc (.int .i64 a1_1), .sc (.string a1_2), .sc (.string a1_3), .sc (.string a1_4), .sl none 1 (List.flatMap eI l1_5)]] := by
 refine ACalls.enter Try.func81 (by kernel_rfl) rfl (by rw [Try.ntmps81]; exact Nat.le_of_ble_eq_true rfl) (fun C F hC hP hf hn hx => ?_)
 rw [Try.ntmps81] at hn
 have hF : Try.prog.funcs[C.fid]? = some Try.f81 := hf ▸ Try.func81
 replace hC := Hold.mk hC
 replace hx : C.fx = [] := hx
 simp only [entry, entE, enumM, rwA, rwC, Nat.reduceAdd] at ⊢
 simp only [impl_kidsOk.f] at H
 replace H := Hold.mk H
 repeat (first
  | refine Ok.cutB 0 (fun X => ∃ x5, ∃ x6, ∃ x434000, ∃ x434001, ∃ x434002, ∃ x435000, ∃ x435001, ∃ x435002, ∃ x435003, ∃ x435004, ∃ x435005, ∃ q, X = ⟨[(2, .pl 0 none 0), (3, .pl 1 none 0), (5, .dat false [.sc (.int .i64 x5)]), (6, .dat false [.sc (.int .i64 x6)])], [(0, .mem [.sl none 6 (List.flatMap e77 x434000), .sl none 4 (List.flatMap e106 x434001), .sl none 4 (List.flatMap e103 x434002)]), (1, .mem [.sc (.int .i64 x435000), .sc (.int .i64 x435001), .sc (.string x435002), .sc (.string x435003), .sc (.string x435004), .sl none 1 (List.flatMap eI x435005)])]⟩ ∧ q ≤ k ∧ impl_kidsOk.j2 q x5 x6 x434000 x434001 x434002 x435000 x435001 x435002 x435003 x435004 x435005 = some r) ?_ ?_
  | apply Ok.seq
  | apply Ok.skip
  | (apply Ok.rN [0, 1, 2, 3, 4, 5, 6, 8, 9, 10, 12, 13, 15, 21, 29, 30, 32, 35, 36, 37, 38, 44, 56, 58, 59, 60, 61, 84] hP hn hx; exact BR.go; exact BV.go)
  | (apply Ok.gS)
  | (apply Ok.cn; exact BS.go)
  | apply Ok.block
  | apply Ok.inBlock
  | (apply Ok.ex; exact BR.go)
  | (apply Ok.rD [0, 1, 2, 3, 4, 5, 6, 8, 9, 10, 12, 13, 15, 21, 29, 30, 32, 35, 36, 37, 38, 44, 56, 58, 59, 60, 61, 84] hP hn hx mo; exact BK.go; exact BX.go)
  | (apply goE.e [0, 1, 2, 3, 4, 5, 6, 8, 9, 10, 12, 13, 15, 21, 29, 30, 32, 35, 36, 37, 38, 44, 56, 58, 59, 60, 61, 84] hP hn hx; exact BR.go; exact BV.go)
  | (apply goE.n hP hn hx; exact BR.go; exact BJ.go; exact BU.go)
  | (apply goE.q; exact BR.go; exact BG.go; exact BW.go)
  | (apply goQ.t hP; exact BR.go; exact BR.go; exact BS.go)
  | (apply goQ.f hn hx; exact BR.go; exact BR.go; exact BE.go)
  | (apply goK.k hP hn hx; exact impl_within.link _ _ _ _ (by assumption); exact BS.go)
  | (apply goK.k hP hn hx; exact impl_isBlock.link _ _ _ _ _ (by assumption); exact BS.go)
  | (apply goK.k hP hn hx; exact impl_isValue.link _ _ _ _ _ (by assumption); exact BS.go)
  | (apply goK.k hP hn hx; exact impl_isStatement.link _ _ _ _ _ (by assumption); exact BS.go)
  | (apply Ok.bk #[.tmp 4] hC.out hP hx hF; exact BR.go; exact BF.go; exact BF.go; exact BF.go; exact BM.go; exact BR.go; exact BR.go; exact BR.go; exact B1.go; exact BR.go))
 · intro hjj2
   obtain ⟨H, H0⟩ | ⟨H, H0⟩ := sIteU H.out
   · (try simp only [List.length_append, List.length_cons, List.length_nil, Nat.zero_add, beq_dec, bne_dec, Bool.or_eq_true, Bool.and_eq_true, Bool.not_eq_true', decide_eq_true_eq, decide_eq_false_iff_not, ite_or', ite_and', ite_not', ge_iff_le, gt_iff_lt] at H)
     repeat' first
      | (with_reducible replace H := sBindA H (by assumption))
      | (with_reducible replace H := sBindS H)
      | (with_reducible replace H := sBind H); obtain ⟨t, hA, H⟩ := H
      | (with_reducible replace H := sBool H); obtain ⟨c, H⟩ | ⟨c, H⟩ := H
      | (with_reducible replace H := sEq H); obtain ⟨c, c', H⟩ | ⟨c, c', H⟩ := H
      | (with_reducible replace H := sEqL H); obtain ⟨c, H⟩ | ⟨c, H⟩ := H
      | (with_reducible replace H := sIte H); obtain ⟨c, H⟩ | ⟨c, H⟩ := H
      | (with_reducible replace H := sAnd H); obtain ⟨c, H⟩ | ⟨c, H⟩ := H
      | (with_reducible replace H := sOr H); obtain ⟨c, H⟩ | ⟨c, H⟩ := H
     all_goals cases H
     all_goals (replace H0 := Hold.mk H0; have H := H0; clear H0)
     all_goals (
      replace H := H.out
      (try simp only [List.length_append, List.length_cons, List.length_nil, Nat.zero_add, beq_dec, bne_dec, Bool.or_eq_true, Bool.and_eq_true, Bool.not_eq_true', decide_eq_true_eq, decide_eq_false_iff_not, ite_or', ite_and', ite_not', ge_iff_le, gt_iff_lt] at H)
      repeat' first
       | (with_reducible replace H := sBindA H (by assumption))
       | (with_reducible replace H := sBindS H)
       | (with_reducible replace H := sBind H); obtain ⟨t, hA, H⟩ := H
       | (with_reducible replace H := sBool H); obtain ⟨c, H⟩ | ⟨c, H⟩ := H
       | (with_reducible replace H := sEq H); obtain ⟨c, c', H⟩ | ⟨c, c', H⟩ := H
       | (with_reducible replace H := sEqL H); obtain ⟨c, H⟩ | ⟨c, H⟩ := H
       | (with_reducible replace H := sIte H); obtain ⟨c, H⟩ | ⟨c, H⟩ := H
       | (with_reducible replace H := sAnd H); obtain ⟨c, H⟩ | ⟨c, H⟩ := H
       | (with_reducible replace H := sOr H); obtain ⟨c, H⟩ | ⟨c, H⟩ := H
      all_goals first
       | cases H
       | replace H := Hold.mk H
      all_goals repeat (first
       | (apply Ok.mt [2, 3, 5, 6] hjj2; exact BT.go; exact ⟨_, _, _, _, _, _, _, _, _, _, _, k, by first | rfl | (simp (disch := omega) only [go_sem, ↓reduceIte, eq_self, and_self]; done), by omega, by first | exact H.out | (have h0 := H.out; simp only [*, go_sem, ↓reduceIte, reduceCtorEq] at h0 ⊢; exact h0)⟩; done)
       | apply Ok.seq
       | apply Ok.skip
       | (apply Ok.rN [0, 1, 2, 3, 4, 5, 6, 8, 9, 10, 12, 13, 15, 21, 29, 30, 32, 35, 36, 37, 38, 44, 56, 58, 59, 60, 61, 84] hP hn hx; exact BR.go; exact BV.go)
       | (apply Ok.gS)
       | (apply Ok.cn; exact BS.go)
       | apply Ok.block
       | apply Ok.inBlock
       | (apply Ok.ex; exact BR.go)
       | (apply Ok.rD [0, 1, 2, 3, 4, 5, 6, 8, 9, 10, 12, 13, 15, 21, 29, 30, 32, 35, 36, 37, 38, 44, 56, 58, 59, 60, 61, 84] hP hn hx mo; exact BK.go; exact BX.go)
       | (apply goE.e [0, 1, 2, 3, 4, 5, 6, 8, 9, 10, 12, 13, 15, 21, 29, 30, 32, 35, 36, 37, 38, 44, 56, 58, 59, 60, 61, 84] hP hn hx; exact BR.go; exact BV.go)
       | (apply goE.n hP hn hx; exact BR.go; exact BJ.go; exact BU.go)
       | (apply goE.q; exact BR.go; exact BG.go; exact BW.go)
       | (apply goQ.t hP; exact BR.go; exact BR.go; exact BS.go)
       | (apply goQ.f hn hx; exact BR.go; exact BR.go; exact BE.go)
       | (apply goK.k hP hn hx; exact impl_within.link _ _ _ _ (by assumption); exact BS.go)
       | (apply goK.k hP hn hx; exact impl_isBlock.link _ _ _ _ _ (by assumption); exact BS.go)
       | (apply goK.k hP hn hx; exact impl_isValue.link _ _ _ _ _ (by assumption); exact BS.go)
       | (apply goK.k hP hn hx; exact impl_isStatement.link _ _ _ _ _ (by assumption); exact BS.go)
       | (apply Ok.bk #[.tmp 4] hC.out hP hx hF; exact BR.go; exact BF.go; exact BF.go; exact BF.go; exact BM.go; exact BR.go; exact BR.go; exact BR.go; exact B1.go; exact BR.go)))
   · (try simp only [List.length_append, List.length_cons, List.length_nil, Nat.zero_add, beq_dec, bne_dec, Bool.or_eq_true, Bool.and_eq_true, Bool.not_eq_true', decide_eq_true_eq, decide_eq_false_iff_not, ite_or', ite_and', ite_not', ge_iff_le, gt_iff_lt] at H)
     repeat' first
      | (with_reducible replace H := sBindA H (by assumption))
      | (with_reducible replace H := sBindS H)
      | (with_reducible replace H := sBind H); obtain ⟨t, hA, H⟩ := H
      | (with_reducible replace H := sBool H); obtain ⟨c, H⟩ | ⟨c, H⟩ := H
      | (with_reducible replace H := sEq H); obtain ⟨c, c', H⟩ | ⟨c, c', H⟩ := H
      | (with_reducible replace H := sEqL H); obtain ⟨c, H⟩ | ⟨c, H⟩ := H
      | (with_reducible replace H := sIte H); obtain ⟨c, H⟩ | ⟨c, H⟩ := H
      | (with_reducible replace H := sAnd H); obtain ⟨c, H⟩ | ⟨c, H⟩ := H
      | (with_reducible replace H := sOr H); obtain ⟨c, H⟩ | ⟨c, H⟩ := H
     all_goals cases H
     all_goals (replace H0 := Hold.mk H0; have H := H0; clear H0)
     all_goals (
      repeat (first
       | refine Ok.cutI 15 (fun X => ∃ x5, ∃ x6, ∃ x12, ∃ x15, ∃ x434000, ∃ x434001, ∃ x434002, ∃ x435000, ∃ x435001, ∃ x435002, ∃ x435003, ∃ x435004, ∃ x435005, ∃ q, X = ⟨[(2, .pl 0 none 0), (3, .pl 1 none 0), (5, .dat false [.sc (.int .i64 x5)]), (6, .dat false [.sc (.int .i64 x6)]), (12, .dat false [.sc (.int .i64 x12)]), (15, .dat false [.sc (.bool x15)])], [(0, .mem [.sl none 6 (List.flatMap e77 x434000), .sl none 4 (List.flatMap e106 x434001), .sl none 4 (List.flatMap e103 x434002)]), (1, .mem [.sc (.int .i64 x435000), .sc (.int .i64 x435001), .sc (.string x435002), .sc (.string x435003), .sc (.string x435004), .sl none 1 (List.flatMap eI x435005)])]⟩ ∧ q ≤ k ∧ impl_kidsOk.j0 q x5 x6 x12 x15 x434000 x434001 x434002 x435000 x435001 x435002 x435003 x435004 x435005 = some r) ?_ ?_
       | (apply Ok.mt [2, 3, 5, 6] hjj2; exact BT.go; exact ⟨_, _, _, _, _, _, _, _, _, _, _, k, by first | rfl | (simp (disch := omega) only [go_sem, ↓reduceIte, eq_self, and_self]; done), by omega, by first | exact H.out | (have h0 := H.out; simp only [*, go_sem, ↓reduceIte, reduceCtorEq] at h0 ⊢; exact h0)⟩; done)
       | apply Ok.seq
       | apply Ok.skip
       | (apply Ok.rN [0, 1, 2, 3, 4, 5, 6, 8, 9, 10, 12, 13, 15, 21, 29, 30, 32, 35, 36, 37, 38, 44, 56, 58, 59, 60, 61, 84] hP hn hx; exact BR.go; exact BV.go)
       | (apply Ok.gS)
       | (apply Ok.cn; exact BS.go)
       | apply Ok.block
       | apply Ok.inBlock
       | (apply Ok.ex; exact BR.go)
       | (apply Ok.rD [0, 1, 2, 3, 4, 5, 6, 8, 9, 10, 12, 13, 15, 21, 29, 30, 32, 35, 36, 37, 38, 44, 56, 58, 59, 60, 61, 84] hP hn hx mo; exact BK.go; exact BX.go)
       | (apply goE.e [0, 1, 2, 3, 4, 5, 6, 8, 9, 10, 12, 13, 15, 21, 29, 30, 32, 35, 36, 37, 38, 44, 56, 58, 59, 60, 61, 84] hP hn hx; exact BR.go; exact BV.go)
       | (apply goE.n hP hn hx; exact BR.go; exact BJ.go; exact BU.go)
       | (apply goE.q; exact BR.go; exact BG.go; exact BW.go)
       | (apply goQ.t hP; exact BR.go; exact BR.go; exact BS.go)
       | (apply goQ.f hn hx; exact BR.go; exact BR.go; exact BE.go)
       | (apply goK.k hP hn hx; exact impl_within.link _ _ _ _ (by assumption); exact BS.go)
       | (apply goK.k hP hn hx; exact impl_isBlock.link _ _ _ _ _ (by assumption); exact BS.go)
       | (apply goK.k hP hn hx; exact impl_isValue.link _ _ _ _ _ (by assumption); exact BS.go)
       | (apply goK.k hP hn hx; exact impl_isStatement.link _ _ _ _ _ (by assumption); exact BS.go)
       | (apply Ok.bk #[.tmp 4] hC.out hP hx hF; exact BR.go; exact BF.go; exact BF.go; exact BF.go; exact BM.go; exact BR.go; exact BR.go; exact BR.go; exact B1.go; exact BR.go))
      · intro hjj0
        replace H := H.out
        (try simp only [List.length_append, List.length_cons, List.length_nil, Nat.zero_add, beq_dec, bne_dec, Bool.or_eq_true, Bool.and_eq_true, Bool.not_eq_true', decide_eq_true_eq, decide_eq_false_iff_not, ite_or', ite_and', ite_not', ge_iff_le, gt_iff_lt] at H)
        repeat' first
         | (with_reducible replace H := sBindA H (by assumption))
         | (with_reducible replace H := sBindS H)
         | (with_reducible replace H := sBind H); obtain ⟨t, hA, H⟩ := H
         | (with_reducible replace H := sBool H); obtain ⟨c, H⟩ | ⟨c, H⟩ := H
         | (with_reducible replace H := sEq H); obtain ⟨c, c', H⟩ | ⟨c, c', H⟩ := H
         | (with_reducible replace H := sEqL H); obtain ⟨c, H⟩ | ⟨c, H⟩ := H
         | (with_reducible replace H := sIte H); obtain ⟨c, H⟩ | ⟨c, H⟩ := H
         | (with_reducible replace H := sAnd H); obtain ⟨c, H⟩ | ⟨c, H⟩ := H
         | (with_reducible replace H := sOr H); obtain ⟨c, H⟩ | ⟨c, H⟩ := H
        all_goals first
         | cases H
         | replace H := Hold.mk H
        all_goals repeat (first
         | (apply Ok.mt [2, 3, 5, 6] hjj2; exact BT.go; exact ⟨_, _, _, _, _, _, _, _, _, _, _, k, by first | rfl | (simp (disch := omega) only [go_sem, ↓reduceIte, eq_self, and_self]; done), by omega, by first | exact H.out | (have h0 := H.out; simp only [*, go_sem, ↓reduceIte, reduceCtorEq] at h0 ⊢; exact h0)⟩; done)
         | (apply Ok.mt [2, 3, 5, 6, 12, 15] hjj0; exact BT.go; exact ⟨_, _, _, _, _, _, _, _, _, _, _, _, _, k, by first | rfl | (simp (disch := omega) only [go_sem, ↓reduceIte, eq_self, and_self]; done), by omega, by first | exact H.out | (have h0 := H.out; simp only [*, go_sem, ↓reduceIte, reduceCtorEq] at h0 ⊢; exact h0)⟩; done)
         | apply Ok.seq
         | apply Ok.skip
         | (apply Ok.rN [0, 1, 2, 3, 4, 5, 6, 8, 9, 10, 12, 13, 15, 21, 29, 30, 32, 35, 36, 37, 38, 44, 56, 58, 59, 60, 61, 84] hP hn hx; exact BR.go; exact BV.go)
         | (apply Ok.gS)
         | (apply Ok.cn; exact BS.go)
         | apply Ok.block
         | apply Ok.inBlock
         | (apply Ok.ex; exact BR.go)
         | (apply Ok.rD [0, 1, 2, 3, 4, 5, 6, 8, 9, 10, 12, 13, 15, 21, 29, 30, 32, 35, 36, 37, 38, 44, 56, 58, 59, 60, 61, 84] hP hn hx mo; exact BK.go; exact BX.go)
         | (apply goE.e [0, 1, 2, 3, 4, 5, 6, 8, 9, 10, 12, 13, 15, 21, 29, 30, 32, 35, 36, 37, 38, 44, 56, 58, 59, 60, 61, 84] hP hn hx; exact BR.go; exact BV.go)
         | (apply goE.n hP hn hx; exact BR.go; exact BJ.go; exact BU.go)
         | (apply goE.q; exact BR.go; exact BG.go; exact BW.go)
         | (apply goQ.t hP; exact BR.go; exact BR.go; exact BS.go)
         | (apply goQ.f hn hx; exact BR.go; exact BR.go; exact BE.go)
         | (apply goK.k hP hn hx; exact impl_within.link _ _ _ _ (by assumption); exact BS.go)
         | (apply goK.k hP hn hx; exact impl_isBlock.link _ _ _ _ _ (by assumption); exact BS.go)
         | (apply goK.k hP hn hx; exact impl_isValue.link _ _ _ _ _ (by assumption); exact BS.go)
         | (apply goK.k hP hn hx; exact impl_isStatement.link _ _ _ _ _ (by assumption); exact BS.go)
         | (apply Ok.bk #[.tmp 4] hC.out hP hx hF; exact BR.go; exact BF.go; exact BF.go; exact BF.go; exact BM.go; exact BR.go; exact BR.go; exact BR.go; exact B1.go; exact BR.go))
      · clear H
        intro X hJ
        obtain ⟨x5, x6, x12, x15, x434000, x434001, x434002, x435000, x435001, x435002, x435003, x435004, x435005, qj0_3, rfl, hq, H⟩ := hJ
        (cases qj0_3 with
         | zero => (simp only [impl_kidsOk.j0] at H; cases H)
         | succ kqj0_3 =>
          simp only [impl_kidsOk.j0, List.length_append, List.length_cons, List.length_nil, Nat.zero_add, beq_dec, bne_dec, Bool.or_eq_true, Bool.and_eq_true, Bool.not_eq_true', decide_eq_true_eq, decide_eq_false_iff_not, ite_or', ite_and', ite_not', ge_iff_le, gt_iff_lt] at H
          repeat' first
           | (with_reducible replace H := sBindA H (by assumption))
           | (with_reducible replace H := sBindS H)
           | (with_reducible replace H := sBind H); obtain ⟨t, hA, H⟩ := H
           | (with_reducible replace H := sBool H); obtain ⟨c, H⟩ | ⟨c, H⟩ := H
           | (with_reducible replace H := sEq H); obtain ⟨c, c', H⟩ | ⟨c, c', H⟩ := H
           | (with_reducible replace H := sEqL H); obtain ⟨c, H⟩ | ⟨c, H⟩ := H
           | (with_reducible replace H := sIte H); obtain ⟨c, H⟩ | ⟨c, H⟩ := H
           | (with_reducible replace H := sAnd H); obtain ⟨c, H⟩ | ⟨c, H⟩ := H
           | (with_reducible replace H := sOr H); obtain ⟨c, H⟩ | ⟨c, H⟩ := H
          all_goals first
           | cases H
           | replace H := Hold.mk H
          all_goals repeat (first
           | (apply Ok.mt [2, 3, 5, 6] hjj2; exact BT.go; exact ⟨_, _, _, _, _, _, _, _, _, _, _, kqj0_3, by first | rfl | (simp (disch := omega) only [go_sem, ↓reduceIte, eq_self, and_self]; done), by omega, by first | exact H.out | (have h0 := H.out; simp only [*, go_sem, ↓reduceIte, reduceCtorEq] at h0 ⊢; exact h0)⟩; done)
           | apply Ok.seq
           | apply Ok.skip
           | (apply Ok.rN [0, 1, 2, 3, 4, 5, 6, 8, 9, 10, 12, 13, 15, 21, 29, 30, 32, 35, 36, 37, 38, 44, 56, 58, 59, 60, 61, 84] hP hn hx; exact BR.go; exact BV.go)
           | (apply Ok.gS)
           | (apply Ok.cn; exact BS.go)
           | apply Ok.block
           | apply Ok.inBlock
           | (apply Ok.ex; exact BR.go)
           | (apply Ok.rD [0, 1, 2, 3, 4, 5, 6, 8, 9, 10, 12, 13, 15, 21, 29, 30, 32, 35, 36, 37, 38, 44, 56, 58, 59, 60, 61, 84] hP hn hx mo; exact BK.go; exact BX.go)
           | (apply goE.e [0, 1, 2, 3, 4, 5, 6, 8, 9, 10, 12, 13, 15, 21, 29, 30, 32, 35, 36, 37, 38, 44, 56, 58, 59, 60, 61, 84] hP hn hx; exact BR.go; exact BV.go)
           | (apply goE.n hP hn hx; exact BR.go; exact BJ.go; exact BU.go)
           | (apply goE.q; exact BR.go; exact BG.go; exact BW.go)
           | (apply goQ.t hP; exact BR.go; exact BR.go; exact BS.go)
           | (apply goQ.f hn hx; exact BR.go; exact BR.go; exact BE.go)
           | (apply goK.k hP hn hx; exact impl_within.link _ _ _ _ (by assumption); exact BS.go)
           | (apply goK.k hP hn hx; exact impl_isBlock.link _ _ _ _ _ (by assumption); exact BS.go)
           | (apply goK.k hP hn hx; exact impl_isValue.link _ _ _ _ _ (by assumption); exact BS.go)
           | (apply goK.k hP hn hx; exact impl_isStatement.link _ _ _ _ _ (by assumption); exact BS.go)
           | (apply Ok.bk #[.tmp 4] hC.out hP hx hF; exact BR.go; exact BF.go; exact BF.go; exact BF.go; exact BM.go; exact BR.go; exact BR.go; exact BR.go; exact B1.go; exact BR.go)
           | (apply Ok.lq [2, 3, 35, 36, 37] (fun q X => ∃ x35, ∃ x36, ∃ x37, ∃ x434000, ∃ x434001, ∃ x434002, ∃ x435000, ∃ x435001, ∃ x435002, ∃ x435003, ∃ x435004, ∃ x435005, X = ⟨[(2, .pl 0 none 0), (3, .pl 1 none 0), (35, .dat false [.sl none 1 (List.flatMap eI x35)]), (36, .dat false [.sc (.int .i64 x36)]), (37, .dat false [.sc (.int .i64 x37)])], [(0, .mem [.sl none 6 (List.flatMap e77 x434000), .sl none 4 (List.flatMap e106 x434001), .sl none 4 (List.flatMap e103 x434002)]), (1, .mem [.sc (.int .i64 x435000), .sc (.int .i64 x435001), .sc (.string x435002), .sc (.string x435003), .sc (.string x435004), .sl none 1 (List.flatMap eI x435005)])]⟩ ∧ q ≤ kqj0_3 ∧ impl_kidsOk.l0 q x35 x36 x37 x434000 x434001 x434002 x435000 x435001 x435002 x435003 x435004 x435005 = some r); exact BT.go; exact ⟨_, _, _, _, _, _, _, _, _, _, _, _, _, by first | rfl | (simp (disch := omega) only [go_sem, ↓reduceIte, eq_self, and_self]; done), by omega, H.out⟩))
          all_goals intro q0_4 X hJ ih0
          all_goals clear H
          all_goals obtain ⟨x35, x36, x37, x434000, x434001, x434002, x435000, x435001, x435002, x435003, x435004, x435005, rfl, hq, H⟩ := hJ
          all_goals (cases q0_4 with
           | zero => (simp only [impl_kidsOk.l0] at H; cases H)
           | succ kq0_4 =>
            simp only [impl_kidsOk.l0, List.length_append, List.length_cons, List.length_nil, Nat.zero_add, beq_dec, bne_dec, Bool.or_eq_true, Bool.and_eq_true, Bool.not_eq_true', decide_eq_true_eq, decide_eq_false_iff_not, ite_or', ite_and', ite_not', ge_iff_le, gt_iff_lt] at H
            repeat' first
             | (with_reducible replace H := sBindA H (by assumption))
             | (with_reducible replace H := sBindS H)
             | (with_reducible replace H := sBind H); obtain ⟨t, hA, H⟩ := H
             | (with_reducible replace H := sBool H); obtain ⟨c, H⟩ | ⟨c, H⟩ := H
             | (with_reducible replace H := sEq H); obtain ⟨c, c', H⟩ | ⟨c, c', H⟩ := H
             | (with_reducible replace H := sEqL H); obtain ⟨c, H⟩ | ⟨c, H⟩ := H
             | (with_reducible replace H := sIte H); obtain ⟨c, H⟩ | ⟨c, H⟩ := H
             | (with_reducible replace H := sAnd H); obtain ⟨c, H⟩ | ⟨c, H⟩ := H
             | (with_reducible replace H := sOr H); obtain ⟨c, H⟩ | ⟨c, H⟩ := H
            all_goals first
             | cases H
             | (exfalso; clear H; omega)
             | replace H := Hold.mk H
            all_goals repeat (first
             | (apply Ok.mt [2, 3, 5, 6] hjj2; exact BT.go; exact ⟨_, _, _, _, _, _, _, _, _, _, _, kq0_4, by first | rfl | (simp (disch := omega) only [go_sem, ↓reduceIte, eq_self, and_self]; done), by omega, by first | exact H.out | (have h0 := H.out; simp only [*, go_sem, ↓reduceIte, reduceCtorEq] at h0 ⊢; exact h0)⟩; done)
             | apply Ok.seq
             | apply Ok.skip
             | (apply Ok.rN [0, 1, 2, 3, 4, 5, 6, 8, 9, 10, 12, 13, 15, 21, 29, 30, 32, 35, 36, 37, 38, 44, 56, 58, 59, 60, 61, 84] hP hn hx; exact BR.go; exact BV.go)
             | (apply Ok.gS)
             | (apply Ok.cn; exact BS.go)
             | apply Ok.block
             | apply Ok.inBlock
             | (apply Ok.ex; exact BR.go)
             | (apply Ok.rD [0, 1, 2, 3, 4, 5, 6, 8, 9, 10, 12, 13, 15, 21, 29, 30, 32, 35, 36, 37, 38, 44, 56, 58, 59, 60, 61, 84] hP hn hx mo; exact BK.go; exact BX.go)
             | (apply goE.e [0, 1, 2, 3, 4, 5, 6, 8, 9, 10, 12, 13, 15, 21, 29, 30, 32, 35, 36, 37, 38, 44, 56, 58, 59, 60, 61, 84] hP hn hx; exact BR.go; exact BV.go)
             | (apply goE.n hP hn hx; exact BR.go; exact BJ.go; exact BU.go)
             | (apply goE.q; exact BR.go; exact BG.go; exact BW.go)
             | (apply goQ.t hP; exact BR.go; exact BR.go; exact BS.go)
             | (apply goQ.f hn hx; exact BR.go; exact BR.go; exact BE.go)
             | (apply goK.k hP hn hx; exact impl_within.link _ _ _ _ (by assumption); exact BS.go)
             | (apply goK.k hP hn hx; exact impl_isBlock.link _ _ _ _ _ (by assumption); exact BS.go)
             | (apply goK.k hP hn hx; exact impl_isValue.link _ _ _ _ _ (by assumption); exact BS.go)
             | (apply goK.k hP hn hx; exact impl_isStatement.link _ _ _ _ _ (by assumption); exact BS.go)
             | (apply Ok.bk #[.tmp 4] hC.out hP hx hF; exact BR.go; exact BF.go; exact BF.go; exact BF.go; exact BM.go; exact BR.go; exact BR.go; exact BR.go; exact B1.go; exact BR.go)
             | (apply Ok.ag [2, 3, 35, 36, 37] ih0; exact BT.go; exact ⟨_, by omega, _, _, _, _, _, _, _, _, _, _, _, _, by first | rfl | (simp (disch := omega) only [go_sem, ↓reduceIte, eq_self, and_self]; done), by omega, H.out⟩; done)))))
 · clear H
   intro X hJ
   obtain ⟨x5, x6, x434000, x434001, x434002, x435000, x435001, x435002, x435003, x435004, x435005, qj2_1, rfl, hq, H⟩ := hJ
   (cases qj2_1 with
    | zero => (simp only [impl_kidsOk.j2] at H; cases H)
    | succ kqj2_1 =>
     simp only [impl_kidsOk.j2, List.length_append, List.length_cons, List.length_nil, Nat.zero_add, beq_dec, bne_dec, Bool.or_eq_true, Bool.and_eq_true, Bool.not_eq_true', decide_eq_true_eq, decide_eq_false_iff_not, ite_or', ite_and', ite_not', ge_iff_le, gt_iff_lt] at H
     repeat' first
      | (with_reducible replace H := sBindA H (by assumption))
      | (with_reducible replace H := sBindS H)
      | (with_reducible replace H := sBind H); obtain ⟨t, hA, H⟩ := H
      | (with_reducible replace H := sBool H); obtain ⟨c, H⟩ | ⟨c, H⟩ := H
      | (with_reducible replace H := sEq H); obtain ⟨c, c', H⟩ | ⟨c, c', H⟩ := H
      | (with_reducible replace H := sEqL H); obtain ⟨c, H⟩ | ⟨c, H⟩ := H
      | (with_reducible replace H := sIte H); obtain ⟨c, H⟩ | ⟨c, H⟩ := H
      | (with_reducible replace H := sAnd H); obtain ⟨c, H⟩ | ⟨c, H⟩ := H
      | (with_reducible replace H := sOr H); obtain ⟨c, H⟩ | ⟨c, H⟩ := H
     all_goals first
      | cases H
      | replace H := Hold.mk H
     all_goals repeat (first
      | apply Ok.seq
      | apply Ok.skip
      | (apply Ok.rN [0, 1, 2, 3, 4, 5, 6, 8, 9, 10, 12, 13, 15, 21, 29, 30, 32, 35, 36, 37, 38, 44, 56, 58, 59, 60, 61, 84] hP hn hx; exact BR.go; exact BV.go)
      | (apply Ok.gS)
      | (apply Ok.cn; exact BS.go)
      | apply Ok.block
      | apply Ok.inBlock
      | (apply Ok.ex; exact BR.go)
      | (apply Ok.rD [0, 1, 2, 3, 4, 5, 6, 8, 9, 10, 12, 13, 15, 21, 29, 30, 32, 35, 36, 37, 38, 44, 56, 58, 59, 60, 61, 84] hP hn hx mo; exact BK.go; exact BX.go)
      | (apply goE.e [0, 1, 2, 3, 4, 5, 6, 8, 9, 10, 12, 13, 15, 21, 29, 30, 32, 35, 36, 37, 38, 44, 56, 58, 59, 60, 61, 84] hP hn hx; exact BR.go; exact BV.go)
      | (apply goE.n hP hn hx; exact BR.go; exact BJ.go; exact BU.go)
      | (apply goE.q; exact BR.go; exact BG.go; exact BW.go)
      | (apply goQ.t hP; exact BR.go; exact BR.go; exact BS.go)
      | (apply goQ.f hn hx; exact BR.go; exact BR.go; exact BE.go)
      | (apply goK.k hP hn hx; exact impl_within.link _ _ _ _ (by assumption); exact BS.go)
      | (apply goK.k hP hn hx; exact impl_isBlock.link _ _ _ _ _ (by assumption); exact BS.go)
      | (apply goK.k hP hn hx; exact impl_isValue.link _ _ _ _ _ (by assumption); exact BS.go)
      | (apply goK.k hP hn hx; exact impl_isStatement.link _ _ _ _ _ (by assumption); exact BS.go)
      | (apply Ok.bk #[.tmp 4] hC.out hP hx hF; exact BR.go; exact BF.go; exact BF.go; exact BF.go; exact BM.go; exact BR.go; exact BR.go; exact BR.go; exact B1.go; exact BR.go)
      | (apply Ok.lq [2, 5, 58, 59, 60] (fun q X => ∃ x5, ∃ x58, ∃ x59, ∃ x60, ∃ x434000, ∃ x434001, ∃ x434002, X = ⟨[(2, .pl 0 none 0), (5, .dat false [.sc (.int .i64 x5)]), (58, .dat false [.sl none 1 (List.flatMap eI x58)]), (59, .dat false [.sc (.int .i64 x59)]), (60, .dat false [.sc (.int .i64 x60)])], [(0, .mem [.sl none 6 (List.flatMap e77 x434000), .sl none 4 (List.flatMap e106 x434001), .sl none 4 (List.flatMap e103 x434002)])]⟩ ∧ q ≤ kqj2_1 ∧ impl_kidsOk.l1 q x5 x58 x59 x60 x434000 x434001 x434002 = some r); exact BT.go; exact ⟨_, _, _, _, _, _, _, _, by first | rfl | (simp (disch := omega) only [go_sem, ↓reduceIte, eq_self, and_self]; done), by omega, H.out⟩))
     all_goals intro q1_2 X hJ ih1
     all_goals clear H
     all_goals obtain ⟨x5, x58, x59, x60, x434000, x434001, x434002, rfl, hq, H⟩ := hJ
     all_goals (cases q1_2 with
      | zero => (simp only [impl_kidsOk.l1] at H; cases H)
      | succ kq1_2 =>
       simp only [impl_kidsOk.l1, List.length_append, List.length_cons, List.length_nil, Nat.zero_add, beq_dec, bne_dec, Bool.or_eq_true, Bool.and_eq_true, Bool.not_eq_true', decide_eq_true_eq, decide_eq_false_iff_not, ite_or', ite_and', ite_not', ge_iff_le, gt_iff_lt] at H
       repeat' first
        | (with_reducible replace H := sBindA H (by assumption))
        | (with_reducible replace H := sBindS H)
        | (with_reducible replace H := sBind H); obtain ⟨t, hA, H⟩ := H
        | (with_reducible replace H := sBool H); obtain ⟨c, H⟩ | ⟨c, H⟩ := H
        | (with_reducible replace H := sEq H); obtain ⟨c, c', H⟩ | ⟨c, c', H⟩ := H
        | (with_reducible replace H := sEqL H); obtain ⟨c, H⟩ | ⟨c, H⟩ := H
        | (with_reducible replace H := sIte H); obtain ⟨c, H⟩ | ⟨c, H⟩ := H
        | (with_reducible replace H := sAnd H); obtain ⟨c, H⟩ | ⟨c, H⟩ := H
        | (with_reducible replace H := sOr H); obtain ⟨c, H⟩ | ⟨c, H⟩ := H
       all_goals first
        | cases H
        | (exfalso; clear H; omega)
        | replace H := Hold.mk H
       all_goals repeat (first
        | apply Ok.seq
        | apply Ok.skip
        | (apply Ok.rN [0, 1, 2, 3, 4, 5, 6, 8, 9, 10, 12, 13, 15, 21, 29, 30, 32, 35, 36, 37, 38, 44, 56, 58, 59, 60, 61, 84] hP hn hx; exact BR.go; exact BV.go)
        | (apply Ok.gS)
        | (apply Ok.cn; exact BS.go)
        | apply Ok.block
        | apply Ok.inBlock
        | (apply Ok.ex; exact BR.go)
        | (apply Ok.rD [0, 1, 2, 3, 4, 5, 6, 8, 9, 10, 12, 13, 15, 21, 29, 30, 32, 35, 36, 37, 38, 44, 56, 58, 59, 60, 61, 84] hP hn hx mo; exact BK.go; exact BX.go)
        | (apply goE.e [0, 1, 2, 3, 4, 5, 6, 8, 9, 10, 12, 13, 15, 21, 29, 30, 32, 35, 36, 37, 38, 44, 56, 58, 59, 60, 61, 84] hP hn hx; exact BR.go; exact BV.go)
        | (apply goE.n hP hn hx; exact BR.go; exact BJ.go; exact BU.go)
        | (apply goE.q; exact BR.go; exact BG.go; exact BW.go)
        | (apply goQ.t hP; exact BR.go; exact BR.go; exact BS.go)
        | (apply goQ.f hn hx; exact BR.go; exact BR.go; exact BE.go)
        | (apply goK.k hP hn hx; exact impl_within.link _ _ _ _ (by assumption); exact BS.go)
        | (apply goK.k hP hn hx; exact impl_isBlock.link _ _ _ _ _ (by assumption); exact BS.go)
        | (apply goK.k hP hn hx; exact impl_isValue.link _ _ _ _ _ (by assumption); exact BS.go)
        | (apply goK.k hP hn hx; exact impl_isStatement.link _ _ _ _ _ (by assumption); exact BS.go)
        | (apply Ok.bk #[.tmp 4] hC.out hP hx hF; exact BR.go; exact BF.go; exact BF.go; exact BF.go; exact BM.go; exact BR.go; exact BR.go; exact BR.go; exact B1.go; exact BR.go)
        | (apply Ok.ag [2, 5, 58, 59, 60] ih1; exact BT.go; exact ⟨_, by omega, _, _, _, _, _, _, _, by first | rfl | (simp (disch := omega) only [go_sem, ↓reduceIte, eq_self, and_self]; done), by omega, H.out⟩; done))))
set_option maxHeartbeats 8000000 in
theorem impl_letter.link (a0 : Int) (r : Bool) (H : impl_letter.f a0 = some r) : ACalls Try.prog 132 [.dat false [.sc (.int .u8 a0)]] [(false, [.sc (.bool r)])] [.dat false [.sc (.int .u8 a0)]] := by
 refine ACalls.enter Try.func132 (by kernel_rfl) rfl (by rw [Try.ntmps132]; exact Nat.le_of_ble_eq_true rfl) (fun C F hC hP hf hn hx => ?_)
 rw [Try.ntmps132] at hn
 have hF : Try.prog.funcs[C.fid]? = some Try.f132 := hf ▸ Try.func132
 replace hC := Hold.mk hC
 replace hx : C.fx = [] := hx
 simp only [entry, entE, enumM, rwA, rwC, Nat.reduceAdd] at ⊢
 simp only [impl_letter.f, List.length_append, List.length_cons, List.length_nil, Nat.zero_add, beq_dec, bne_dec, Bool.or_eq_true, Bool.and_eq_true, Bool.not_eq_true', decide_eq_true_eq, decide_eq_false_iff_not, ite_or', ite_and', ite_not', ge_iff_le, gt_iff_lt] at H
 repeat' first
  | (with_reducible replace H := sBindA H (by assumption))
  | (with_reducible replace H := sBindS H)
  | (with_reducible replace H := sBind H); obtain ⟨t, hA, H⟩ := H
  | (with_reducible replace H := sBool H); obtain ⟨c, H⟩ | ⟨c, H⟩ := H
  | (with_reducible replace H := sEq H); obtain ⟨c, c', H⟩ | ⟨c, c', H⟩ := H
  | (with_reducible replace H := sEqL H); obtain ⟨c, H⟩ | ⟨c, H⟩ := H
  | (with_reducible replace H := sIte H); obtain ⟨c, H⟩ | ⟨c, H⟩ := H
  | (with_reducible replace H := sAnd H); obtain ⟨c, H⟩ | ⟨c, H⟩ := H
  | (with_reducible replace H := sOr H); obtain ⟨c, H⟩ | ⟨c, H⟩ := H
 all_goals first
  | cases H
  | replace H := Hold.mk H
 all_goals repeat (first
  | apply Ok.seq
  | apply Ok.skip
  | (apply Ok.rN [0, 2] hP hn hx; exact BR.go; exact BV.go)
  | (apply Ok.cn; exact BS.go)
  | apply Ok.block
  | apply Ok.inBlock
  | (apply Ok.ex; exact BR.go)
  | (apply Ok.bk #[.tmp 2] hC.out hP hx hF; exact BR.go; exact BF.go; exact BF.go; exact BF.go; exact BM.go; exact BR.go; exact BR.go; exact BR.go; exact B1.go; exact BR.go))
set_option maxHeartbeats 8000000 in
theorem slices_Contains_string_string.link (k : Nat) (l0 : List ByteArray) (a1 : ByteArray) (r : Bool) (H : slices_Contains_string_string.f k l0 a1 = some r) : ACalls Try.prog 120 [.dat false [.sl none 1 (List.flatMap eS l0)], .dat false [.sc (.string a1)]] [(false, [.sc (.bool r)])] [.dat false [.sl none 1 (List.flatMap eS l0)], .dat false [.sc (.string a1)]] := by
 refine ACalls.enter Try.func120 (by kernel_rfl) rfl (by rw [Try.ntmps120]; exact Nat.le_of_ble_eq_true rfl) (fun C F hC hP hf hn hx => ?_)
 rw [Try.ntmps120] at hn
 have hF : Try.prog.funcs[C.fid]? = some Try.f120 := hf ▸ Try.func120
 replace hC := Hold.mk hC
 replace hx : C.fx = [] := hx
 simp only [entry, entE, enumM, rwA, rwC, Nat.reduceAdd] at ⊢
 simp only [slices_Contains_string_string.f, List.length_append, List.length_cons, List.length_nil, Nat.zero_add, beq_dec, bne_dec, Bool.or_eq_true, Bool.and_eq_true, Bool.not_eq_true', decide_eq_true_eq, decide_eq_false_iff_not, ite_or', ite_and', ite_not', ge_iff_le, gt_iff_lt] at H
 repeat' first
  | (with_reducible replace H := sBindA H (by assumption))
  | (with_reducible replace H := sBindS H)
  | (with_reducible replace H := sBind H); obtain ⟨t, hA, H⟩ := H
  | (with_reducible replace H := sBool H); obtain ⟨c, H⟩ | ⟨c, H⟩ := H
  | (with_reducible replace H := sEq H); obtain ⟨c, c', H⟩ | ⟨c, c', H⟩ := H
  | (with_reducible replace H := sEqL H); obtain ⟨c, H⟩ | ⟨c, H⟩ := H
  | (with_reducible replace H := sIte H); obtain ⟨c, H⟩ | ⟨c, H⟩ := H
  | (with_reducible replace H := sAnd H); obtain ⟨c, H⟩ | ⟨c, H⟩ := H
  | (with_reducible replace H := sOr H); obtain ⟨c, H⟩ | ⟨c, H⟩ := H
 all_goals first
  | cases H
  | replace H := Hold.mk H
 all_goals repeat (first
  | apply Ok.seq
  | apply Ok.skip
  | (apply Ok.rN [0, 1, 4] hP hn hx; exact BR.go; exact BV.go)
  | (apply Ok.gS)
  | (apply Ok.cn; exact BS.go)
  | apply Ok.block
  | apply Ok.inBlock
  | (apply Ok.ex; exact BR.go)
  | (apply goE.e [0, 1, 4] hP hn hx; exact BR.go; exact BV.go)
  | (apply goE.n hP hn hx; exact BR.go; exact BJ.go; exact BU.go)
  | (apply goE.q; exact BR.go; exact BG.go; exact BW.go)
  | (apply goQ.t hP; exact BR.go; exact BR.go; exact BS.go)
  | (apply goQ.f hn hx; exact BR.go; exact BR.go; exact BE.go)
  | (apply goK.k hP hn hx; exact slices_Index_string_string.link _ _ _ _ (by assumption); exact BS.go)
  | (apply Ok.bk #[.tmp 4] hC.out hP hx hF; exact BR.go; exact BF.go; exact BF.go; exact BF.go; exact BM.go; exact BR.go; exact BR.go; exact BR.go; exact B1.go; exact BR.go))
end Go.Proofs.Ytmbkcbgbienjoaa.PFnExactProgramOk
