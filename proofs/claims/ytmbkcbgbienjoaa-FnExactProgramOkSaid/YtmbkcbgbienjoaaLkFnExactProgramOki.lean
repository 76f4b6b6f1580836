/- Functions' walks: each computes what its plain form says. No condition. -/
import Derived.Test.YtmbkcbgbienjoaaLkFnExactProgramOkh
import Derived.Test.YtmbkcbgbienjoaaLkFnExactProgramOkf
import Derived.Test.YtmbkcbgbienjoaaLkFnExactProgramOkg
open Go Go.Proofs Go.Proofs.Ytmbkcbgbienjoaa.Abs
namespace Go.Proofs.Ytmbkcbgbienjoaa.PFnExactProgramOk
open Go.RowKit Go.Proofs.YtmbkcbgbienjoaaW.PrintWords Go.Proofs.YtmbkcbgbienjoaaW.PrintLast Go.Proofs.YtmbkcbgbienjoaaW.PrintMore
set_option linter.unusedVariables false
set_option linter.unusedSimpArgs false
set_option maxRecDepth 100000
attribute [local irreducible] evK evQ evM evF evW evH goE goK goKD goQ goQD goD Ok ACalls
set_option maxHeartbeats 8000000 in
theorem impl_namesOk.link (k : Nat) (a0_0 : Int) (a0_1 : Int) (a0_2 : ByteArray) (a0_3 : ByteArray) (a0_4 : ByteArray) (l0_5 : List Int) (r : Bool) (H : impl_namesOk.f k a0_0 a0_1 a0_2 a0_3 a0_4 l0_5 = some r) : ACalls Try.prog 82 [.dat true [.sc (.int .i64 a0_0), .sc (.int .i64 a0_1), .sc (.string a0_2), .sc (.string a0_3), .sc (.string a0_4), .sl none 1 (List.flatMap eI l0_5)]] [(false, [.sc (.bool r)])] [.dat true [.sc (.int .i64 a0_0), .sc (.int .i64 a0_1), .sc (.string a0_2), .sc (.string a0_3), .sc (.string a0_4), .sl none 1 (List.flatMap eI l0_5)]] := by
 refine ACalls.enter Try.func82 (by kernel_rfl) rfl (by rw [Try.ntmps82]; exact Nat.le_of_ble_eq_true rfl) (fun C F hC hP hf hn hx => ?_)
 rw [Try.ntmps82] at hn
 have hF : Try.prog.funcs[C.fid]? = some Try.f82 := hf ▸ Try.func82
 replace hC := Hold.mk hC
 replace hx : C.fx = [] := hx
 simp only [entry, entE, enumM, rwA, rwC, Nat.reduceAdd] at ⊢
 simp only [impl_namesOk.f] at H
 replace H := Hold.mk H
 repeat (first
  | refine Ok.cutI 15 (fun X => ∃ x3, ∃ x4, ∃ x5, ∃ x6, ∃ x14, ∃ x15, ∃ x454000, ∃ x454001, ∃ x454002, ∃ x454003, ∃ x454004, ∃ x454005, ∃ q, X = ⟨[(1, .pl 0 none 0), (3, .dat false [.sc (.bool x3)]), (4, .dat false [.sc (.bool x4)]), (5, .dat false [.sc (.bool x5)]), (6, .dat false [.sc (.bool x6)]), (14, .dat false [.sc (.int .i64 x14)]), (15, .dat false [.sc (.bool x15)])], [(0, .mem [.sc (.int .i64 x454000), .sc (.int .i64 x454001), .sc (.string x454002), .sc (.string x454003), .sc (.string x454004), .sl none 1 (List.flatMap eI x454005)])]⟩ ∧ q ≤ k ∧ impl_namesOk.j0 q x3 x4 x5 x6 x14 x15 x454000 x454001 x454002 x454003 x454004 x454005 = some r) ?_ ?_
  | apply Ok.seq
  | apply Ok.skip
  | (apply Ok.rN [0, 1, 2, 3, 4, 5, 6, 14, 15, 21, 29, 34] hP hn hx; exact BR.go; exact BV.go)
  | (apply Ok.gS)
  | (apply Ok.cn; exact BS.go)
  | apply Ok.block
  | apply Ok.inBlock
  | (apply Ok.ex; exact BR.go)
  | (apply Ok.rD [0, 1, 2, 3, 4, 5, 6, 14, 15, 21, 29, 34] hP hn hx mo; exact BK.go; exact BX.go)
  | (apply goE.e [0, 1, 2, 3, 4, 5, 6, 14, 15, 21, 29, 34] hP hn hx; exact BR.go; exact BV.go)
  | (apply goE.n hP hn hx; exact BR.go; exact BJ.go; exact BU.go)
  | (apply goE.q; exact BR.go; exact BG.go; exact BW.go)
  | (apply goQ.t hP; exact BR.go; exact BR.go; exact BS.go)
  | (apply goQ.f hn hx; exact BR.go; exact BR.go; exact BE.go)
  | (apply goK.k hP hn hx; exact impl_within.link _ _ _ _ (by assumption); exact BS.go)
  | (apply goK.k hP hn hx; exact impl_NameOk.link _ _ _ (by assumption); exact BS.go)
  | (apply Ok.bk #[.tmp 2] hC.out hP hx hF; exact BR.go; exact BF.go; exact BF.go; exact BF.go; exact BM.go; exact BR.go; exact BR.go; exact BR.go; exact B1.go; exact BR.go))
 · intro hjj0
   replace H := H.out
   (try simp only [List.length_append, List.length_cons, List.length_nil, Nat.zero_add, beq_dec, bne_dec, Bool.or_eq_true, Bool.and_eq_true, Bool.not_eq_true', decide_eq_true_eq, decide_eq_false_iff_not, ite_or', ite_and', ite_not', ge_iff_le, gt_iff_lt] at H)
   repeat' first
    | (with_reducible replace H := sBindA H (by assumption))
    | (with_reducible replace H := sBindS H)
    | (with_reducible replace H := sBind H); obtain ⟨t, hA, H⟩ := H
    | (with_reducible replace H := sBool H); obtain ⟨c, H⟩ | ⟨c, H⟩ := H
    | (with_reducible replace H := sEq H); obtain ⟨c, c', H⟩ | ⟨c, c', H⟩ := H
    | (with_reducible replace H := sEqL H); obtain ⟨c, H⟩ | ⟨c, H⟩ := H
    | (with_reducible replace H := sIte H); obtain ⟨c, H⟩ | ⟨c, H⟩ := H
    | (with_reducible replace H := sAnd H); obtain ⟨c, H⟩ | ⟨c, H⟩ := H
    | (with_reducible replace H := sOr H); obtain ⟨c, H⟩ | ⟨c, H⟩ := H
   all_goals first
    | cases H
    | replace H := Hold.mk H
   all_goals repeat (first
    | (apply Ok.mt [1, 3, 4, 5, 6, 14, 15] hjj0; exact BT.go; exact ⟨_, _, _, _, _, _, _, _, _, _, _, _, k, by first | rfl | (simp (disch := omega) only [go_sem, ↓reduceIte, eq_self, and_self]; done), by omega, by first | exact H.out | (have h0 := H.out; simp only [*, go_sem, ↓reduceIte, reduceCtorEq] at h0 ⊢; exact h0)⟩; done)
    | apply Ok.seq
    | apply Ok.skip
    | (apply Ok.rN [0, 1, 2, 3, 4, 5, 6, 14, 15, 21, 29, 34] hP hn hx; exact BR.go; exact BV.go)
    | (apply Ok.gS)
    | (apply Ok.cn; exact BS.go)
    | apply Ok.block
    | apply Ok.inBlock
    | (apply Ok.ex; exact BR.go)
    | (apply Ok.rD [0, 1, 2, 3, 4, 5, 6, 14, 15, 21, 29, 34] hP hn hx mo; exact BK.go; exact BX.go)
    | (apply goE.e [0, 1, 2, 3, 4, 5, 6, 14, 15, 21, 29, 34] hP hn hx; exact BR.go; exact BV.go)
    | (apply goE.n hP hn hx; exact BR.go; exact BJ.go; exact BU.go)
    | (apply goE.q; exact BR.go; exact BG.go; exact BW.go)
    | (apply goQ.t hP; exact BR.go; exact BR.go; exact BS.go)
    | (apply goQ.f hn hx; exact BR.go; exact BR.go; exact BE.go)
    | (apply goK.k hP hn hx; exact impl_within.link _ _ _ _ (by assumption); exact BS.go)
    | (apply goK.k hP hn hx; exact impl_NameOk.link _ _ _ (by assumption); exact BS.go)
    | (apply Ok.bk #[.tmp 2] hC.out hP hx hF; exact BR.go; exact BF.go; exact BF.go; exact BF.go; exact BM.go; exact BR.go; exact BR.go; exact BR.go; exact B1.go; exact BR.go))
 · clear H
   intro X hJ
   obtain ⟨x3, x4, x5, x6, x14, x15, x454000, x454001, x454002, x454003, x454004, x454005, qj0_1, rfl, hq, H⟩ := hJ
   (cases qj0_1 with
    | zero => (simp only [impl_namesOk.j0] at H; cases H)
    | succ kqj0_1 =>
     simp only [impl_namesOk.j0, List.length_append, List.length_cons, List.length_nil, Nat.zero_add, beq_dec, bne_dec, Bool.or_eq_true, Bool.and_eq_true, Bool.not_eq_true', decide_eq_true_eq, decide_eq_false_iff_not, ite_or', ite_and', ite_not', ge_iff_le, gt_iff_lt] at H
     repeat' first
      | (with_reducible replace H := sBindA H (by assumption))
      | (with_reducible replace H := sBindS H)
      | (with_reducible replace H := sBind H); obtain ⟨t, hA, H⟩ := H
      | (with_reducible replace H := sBool H); obtain ⟨c, H⟩ | ⟨c, H⟩ := H
      | (with_reducible replace H := sEq H); obtain ⟨c, c', H⟩ | ⟨c, c', H⟩ := H
      | (with_reducible replace H := sEqL H); obtain ⟨c, H⟩ | ⟨c, H⟩ := H
      | (with_reducible replace H := sIte H); obtain ⟨c, H⟩ | ⟨c, H⟩ := H
      | (with_reducible replace H := sAnd H); obtain ⟨c, H⟩ | ⟨c, H⟩ := H
      | (with_reducible replace H := sOr H); obtain ⟨c, H⟩ | ⟨c, H⟩ := H
     all_goals first
      | cases H
      | replace H := Hold.mk H
     all_goals repeat (first
      | apply Ok.seq
      | apply Ok.skip
      | (apply Ok.rN [0, 1, 2, 3, 4, 5, 6, 14, 15, 21, 29, 34] hP hn hx; exact BR.go; exact BV.go)
      | (apply Ok.gS)
      | (apply Ok.cn; exact BS.go)
      | apply Ok.block
      | apply Ok.inBlock
      | (apply Ok.ex; exact BR.go)
      | (apply Ok.rD [0, 1, 2, 3, 4, 5, 6, 14, 15, 21, 29, 34] hP hn hx mo; exact BK.go; exact BX.go)
      | (apply goE.e [0, 1, 2, 3, 4, 5, 6, 14, 15, 21, 29, 34] hP hn hx; exact BR.go; exact BV.go)
      | (apply goE.n hP hn hx; exact BR.go; exact BJ.go; exact BU.go)
      | (apply goE.q; exact BR.go; exact BG.go; exact BW.go)
      | (apply goQ.t hP; exact BR.go; exact BR.go; exact BS.go)
      | (apply goQ.f hn hx; exact BR.go; exact BR.go; exact BE.go)
      | (apply goK.k hP hn hx; exact impl_within.link _ _ _ _ (by assumption); exact BS.go)
      | (apply goK.k hP hn hx; exact impl_NameOk.link _ _ _ (by assumption); exact BS.go)
      | (apply Ok.bk #[.tmp 2] hC.out hP hx hF; exact BR.go; exact BF.go; exact BF.go; exact BF.go; exact BM.go; exact BR.go; exact BR.go; exact BR.go; exact B1.go; exact BR.go)))
end Go.Proofs.Ytmbkcbgbienjoaa.PFnExactProgramOk
