/- Functions' walks: each computes what its plain form says. No condition. -/
import Derived.Test.YtegeahiflkjhmaaLkFnExactSameProgramh
import Derived.Test.YtegeahiflkjhmaaLkFnExactSameProgramb
import Derived.Test.YtegeahiflkjhmaaLkFnExactSameProgramd
import Derived.Test.YtegeahiflkjhmaaLkFnExactSamePrograme
import Derived.Test.YtegeahiflkjhmaaLkFnExactSameProgramf
open Go Go.Proofs Go.Proofs.Ytegeahiflkjhmaa.Abs
namespace Go.Proofs.Ytegeahiflkjhmaa.PFnExactSameProgram
open Go.RowKit Go.Proofs.YtegeahiflkjhmaaW.PrintWords Go.Proofs.YtegeahiflkjhmaaW.PrintLast Go.Proofs.YtegeahiflkjhmaaW.PrintMore
set_option linter.unusedVariables false
set_option linter.unusedSimpArgs false
set_option maxRecDepth 100000
attribute [local irreducible] evK evQ evM evF evW evH goE goK goKD goQ goQD goD Ok ACalls
set_option maxHeartbeats 8000000 in
theorem laws_FnExactSameProgram.link (k : Nat) (l0_0 : List (S148)) (l0_1 : List (S152)) (l0_2 : List (S154)) (l1_0 : List (S148)) (l1_1 : List (S152)) (l1_2 : List (S154)) (r : Bool) (H : laws_FnExactSameProgram.f k l0_0 l0_1 l0_2 l1_0 l1_1 l1_2 = some r) : ACalls Try.prog 12 [.dat true [.sl none 6 (List.flatMap e148 l0_0), .sl none 4 (List.flatMap e152 l0_1), .sl none 4 (List.flatMap e154 l0_2)], .dat true [.sl none 6 (List.flatMap e148 l1_0), .sl none 4 (List.flatMap e152 l1_1), .sl none 4 (List.flatMap e154 l1_2)]] [(false, [.sc (.bool r)])] [.dat true [.sl none 6 (List.flatMap e148 l0_0), .sl none 4 (List.flatMap e152 l0_1), .sl none 4 (List.flatMap e154 l0_2)], .dat true [.sl none 6 (List.flatMap e148 l1_0), .sl none 4 (List.flatMap e152 l1_1), .sl none 4 (List.flatMap e154 l1_2)]] := by
 refine ACalls.enter Try.func12 (by kernel_rfl) rfl (by rw [Try.ntmps12]; exact Nat.le_of_ble_eq_true rfl) (fun C F hC hP hf hn hx => ?_)
 rw [Try.ntmps12] at hn
 have hF : Try.prog.funcs[C.fid]? = some Try.f12 := hf ▸ Try.func12
 replace hx : C.fx = [] := hx
 simp only [entry, entE, enumM, rwA, rwC, Nat.reduceAdd] at ⊢
 simp only [laws_FnExactSameProgram.f, beq_dec, bne_dec, Bool.or_eq_true, Bool.and_eq_true, Bool.not_eq_true', decide_eq_true_eq, decide_eq_false_iff_not, ite_or', ite_and', ite_not', ge_iff_le, gt_iff_lt] at H
 repeat' first
  | (with_reducible replace H := sBindA H (by assumption))
  | (with_reducible replace H := sBind H); obtain ⟨t, hA, H⟩ := H
  | (with_reducible replace H := sBool H); obtain ⟨c, H⟩ | ⟨c, H⟩ := H
  | (with_reducible replace H := sEq H); obtain ⟨c, c', H⟩ | ⟨c, c', H⟩ := H
  | (with_reducible replace H := sEqL H); obtain ⟨c, H⟩ | ⟨c, H⟩ := H
  | (with_reducible replace H := sIte H); obtain ⟨c, H⟩ | ⟨c, H⟩ := H
  | (with_reducible replace H := sAnd H); obtain ⟨c, H⟩ | ⟨c, H⟩ := H
  | (with_reducible replace H := sOr H); obtain ⟨c, H⟩ | ⟨c, H⟩ := H
 all_goals first
  | cases H
  | replace H := Hold.mk H
 all_goals repeat (first
  | apply Ok.seq
  | apply Ok.skip
  | (apply Ok.rN [0, 1, 2, 3, 4, 5, 6, 7, 8, 9, 14, 19, 34, 39, 44] hP hn hx; exact BR.go; exact BV.go)
  | (apply Ok.gS)
  | (apply Ok.cn; exact BS.go)
  | apply Ok.block
  | apply Ok.inBlock
  | refine Ok.exit ?_ rfl
  | (apply Ok.gD 8 (noneL [0, 2] ++ ((1, some [2]) :: ((3, some []) :: ((4, some []) :: (noneL [5] ++ []))))) hP mo; exact BK.go)
  | (apply Ok.gD 14 (noneL [0, 1] ++ ((2, some [0]) :: ((3, some []) :: (noneL [4] ++ [])))) hP mo; exact BK.go)
  | (apply Ok.gD 16 (noneL [0, 1] ++ ((2, some [0]) :: ((3, some []) :: (noneL [4] ++ [])))) hP mo; exact BK.go)
  | (apply Ok.rD [0, 1, 2, 3, 4, 5, 6, 7, 8, 9, 14, 19, 34, 39, 44] hP hn hx mo; exact BK.go; exact BX.go)
  | (apply goE.e [0, 1, 2, 3, 4, 5, 6, 7, 8, 9, 14, 19, 34, 39, 44] hP hn hx; exact BR.go; exact BV.go)
  | (apply goE.n hP hn hx; exact BR.go; exact BJ.go; exact BU.go)
  | (apply goE.q; exact BR.go; exact BG.go; exact BW.go)
  | (apply goQ.t hP; exact BR.go; exact BR.go; exact BS.go)
  | (apply goQ.f hx; exact BR.go; exact BR.go; exact BE.go)
  | (apply goD.z [0, 1, 2, 3, 4, 5, 6, 7, 8, 9, 14, 19, 34, 39, 44]; exact BT.go)
  | (apply goD.n hP hn hx; exact BN.go)
  | (apply goD.q; exact BR.go; exact BG.go; exact BW.go)
  | (apply goQD.t hP; exact BR.go; exact BR.go; exact BS.go)
  | (apply goQD.f hP hn hx; exact BR.go; exact BR.go; exact BE.go; exact BQ.go)
  | (apply goD.x hP hn hx; exact BR.go; exact BG.go; exact BR.go; exact BW.go; exact BS.go; exact BQ.go)
  | (apply goK.k hP hn hx; exact laws_szProgram.link _ _ _ _ _ _ (by assumption); exact BS.go)
  | (apply goKD.k hP hn hx; exact laws_szProgram.link _ _ _ _ _ _ (by assumption); exact BS.go; exact BQ.go)
  | (apply goK.k hP hn hx; exact laws_toProgram.link _ _ _ _ _ (by assumption); exact BS.go)
  | (apply goKD.k hP hn hx; exact laws_toProgram.link _ _ _ _ _ (by assumption); exact BS.go; exact BQ.go)
  | (apply goK.k hP hn hx; exact laws_eqProgram.link _ _ _ _ _ _ _ _ (by assumption); exact BS.go)
  | (apply goKD.k hP hn hx; exact laws_eqProgram.link _ _ _ _ _ _ _ _ (by assumption); exact BS.go; exact BQ.go)
  | (apply goK.k hP hn hx; exact spec_SameProgram.link _ _ _ _ _ _ _ _ (by assumption); exact BS.go)
  | (apply goKD.k hP hn hx; exact spec_SameProgram.link _ _ _ _ _ _ _ _ (by assumption); exact BS.go; exact BQ.go)
  | (apply goK.k hP hn hx; exact impl_SameProgram.link _ _ _ _ _ _ _ _ (by assumption); exact BS.go)
  | (apply goKD.k hP hn hx; exact impl_SameProgram.link _ _ _ _ _ _ _ _ (by assumption); exact BS.go; exact BQ.go)
  | (apply Ok.bk #[.tmp 4] hC hP hx hF; exact BR.go; exact BF.go; exact BF.go; exact BF.go; exact BM.go; exact BR.go; exact BR.go; exact BR.go; exact B1.go; exact BR.go))
end Go.Proofs.Ytegeahiflkjhmaa.PFnExactSameProgram
