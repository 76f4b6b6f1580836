/- What values are in cells; facts on the program's types. No condition. -/
import Derived.Test.YtegeahiflkjhmaaChecked
import Derived.KernelRfl
import Derived.Test.YtegeahiflkjhmaaStFnExactSameProgram
import Derived.Test.YtegeahiflkjhmaaA5
open Go Go.Proofs Go.Proofs.Ytegeahiflkjhmaa.Abs
namespace Go.Proofs.Ytegeahiflkjhmaa.PFnExactSameProgram
open Go.RowKit Go.Proofs.YtegeahiflkjhmaaW.PrintWords Go.Proofs.YtegeahiflkjhmaaW.PrintLast Go.Proofs.YtegeahiflkjhmaaW.PrintMore
set_option linter.unusedVariables false
set_option linter.unusedSimpArgs false
set_option maxRecDepth 100000
theorem eI_at (l : List Int) (i : Int) (h0 : 0 ≤ i) (h1 : i < l.length) : idx 1 (List.flatMap eI l) i = some (eI (rd l i)) := idx_map eI_len _ l i h0 h1
theorem eI_ln (l : List Int) : (List.flatMap eI l).length = l.length := by rw [len_map eI_len]; exact Nat.mul_one _
theorem eI_row (l : List Int) (n : Nat) (h : n < l.length) : List.take 1 (List.drop (n) (List.flatMap eI l)) = eI (l.getD n 0) := by have := row_map eI_len 0 l n h; simpa using this
theorem eI_cp (l : List Int) : cpyL (List.flatMap eI l) = true := cpyL_map eI_cpy l
theorem eI_nms (l : List Int) : noMutL (List.flatMap eI l) = true := noMutL_map eI_nm l
theorem eI_pu (l : List Int) : pureL (List.flatMap eI l) = true := pureL_map eI_pure l
theorem eI_sh (l : List Int) : shrL (List.flatMap eI l) = List.flatMap eI l := shrL_map eI_shr l
theorem eI_rep (x : Int) (n : Nat) : List.flatMap eI (List.replicate n x) = (List.replicate n (eI x)).flatten := (replicate_map x n).symm
theorem eI_sd (l : List Int) (n : Nat) : List.take ((l.length - n)) (List.drop (n) (List.flatMap eI l)) = List.flatMap eI (l.drop n) := by have := slD_map eI_len l n; simpa using this
theorem eI_st (l : List Int) (n : Nat) : List.take (n) (List.flatMap eI l) = List.flatMap eI (l.take n) := by have := take_map eI_len l n; simpa using this
theorem eI_sb (l : List Int) (h n : Nat) : List.take ((h - n)) (List.drop (n) (List.flatMap eI l)) = List.flatMap eI ((l.drop n).take (h - n)) := by have := slB_map eI_len l h n; simpa using this
theorem eI_set (l : List Int) (n : Nat) (x : Int) (h : n < l.length) : List.flatMap eI (l.set n x) = (List.flatMap eI l).take (n * 1) ++ eI x ++ (List.flatMap eI l).drop ((n + 1) * 1) := (set_map eI_len l n h x).symm
attribute [go_sem] eI_at eI_ln eI_row eI_nms eI_sh eI_rep eI_set eI_sd eI_st eI_sb eI_cp eI_pu
theorem eS_at (l : List ByteArray) (i : Int) (h0 : 0 ≤ i) (h1 : i < l.length) : idx 1 (List.flatMap eS l) i = some (eS (rdOf ByteArray.empty l i)) := idx_map eS_len _ l i h0 h1
theorem eS_ln (l : List ByteArray) : (List.flatMap eS l).length = l.length := by rw [len_map eS_len]; exact Nat.mul_one _
theorem eS_row (l : List ByteArray) (n : Nat) (h : n < l.length) : List.take 1 (List.drop (n) (List.flatMap eS l)) = eS (l.getD n ByteArray.empty) := by have := row_map eS_len ByteArray.empty l n h; simpa using this
theorem eS_cp (l : List ByteArray) : cpyL (List.flatMap eS l) = true := cpyL_map eS_cpy l
theorem eS_nms (l : List ByteArray) : noMutL (List.flatMap eS l) = true := noMutL_map eS_nm l
theorem eS_pu (l : List ByteArray) : pureL (List.flatMap eS l) = true := pureL_map eS_pure l
theorem eS_sh (l : List ByteArray) : shrL (List.flatMap eS l) = List.flatMap eS l := shrL_map eS_shr l
theorem eS_rep (x : ByteArray) (n : Nat) : List.flatMap eS (List.replicate n x) = (List.replicate n (eS x)).flatten := (replicate_map x n).symm
theorem eS_sd (l : List ByteArray) (n : Nat) : List.take ((l.length - n)) (List.drop (n) (List.flatMap eS l)) = List.flatMap eS (l.drop n) := by have := slD_map eS_len l n; simpa using this
theorem eS_st (l : List ByteArray) (n : Nat) : List.take (n) (List.flatMap eS l) = List.flatMap eS (l.take n) := by have := take_map eS_len l n; simpa using this
theorem eS_sb (l : List ByteArray) (h n : Nat) : List.take ((h - n)) (List.drop (n) (List.flatMap eS l)) = List.flatMap eS ((l.drop n).take (h - n)) := by have := slB_map eS_len l h n; simpa using this
theorem eS_set (l : List ByteArray) (n : Nat) (x : ByteArray) (h : n < l.length) : List.flatMap eS (l.set n x) = (List.flatMap eS l).take (n * 1) ++ eS x ++ (List.flatMap eS l).drop ((n + 1) * 1) := (set_map eS_len l n h x).symm
attribute [go_sem] eS_at eS_ln eS_row eS_nms eS_sh eS_rep eS_set eS_sd eS_st eS_sb eS_cp eS_pu
def e148 (x : S148) : List Cell := [.sc (.int .i64 x.f0), .sc (.int .i64 x.f1), .sc (.string x.f2), .sc (.string x.f3), .sc (.string x.f4), .sl none 1 (List.flatMap eI x.f5)]
def o148 (x : S148) : List Cell := [.sc (.int .i64 x.f0), .sc (.int .i64 x.f1), .sc (.string x.f2), .sc (.string x.f3), .sc (.string x.f4), .sl (some 0) 1 (List.flatMap eI x.f5)]
theorem e148_len : ∀ x, (e148 x).length = 6 := fun _ => rfl
theorem e148_nm : ∀ x, noMutL (e148 x) = true := by intro x; simp [e148, go_sem]
theorem e148_cpy : ∀ x, cpyL (e148 x) = true := by intro x; simp [e148, go_sem]
theorem e148_shr : ∀ x, shrL (e148 x) = e148 x := by intro x; simp [e148, go_sem]
theorem e148_at (l : List S148) (i : Int) (h0 : 0 ≤ i) (h1 : i < l.length) : idx 6 (List.flatMap e148 l) i = some (e148 (rd_T148 l i)) := idx_map e148_len _ l i h0 h1
theorem e148_ln (l : List S148) : (List.flatMap e148 l).length = (l.length) * 6 := by rw [len_map e148_len]
theorem e148_row (l : List S148) (n : Nat) (h : n < l.length) : List.take 6 (List.drop ((n) * 6) (List.flatMap e148 l)) = e148 (l.getD n z148) := by have := row_map e148_len z148 l n h; simpa using this
theorem e148_cp (l : List S148) : cpyL (List.flatMap e148 l) = true := cpyL_map e148_cpy l
theorem e148_nms (l : List S148) : noMutL (List.flatMap e148 l) = true := noMutL_map e148_nm l
theorem e148_sh (l : List S148) : shrL (List.flatMap e148 l) = List.flatMap e148 l := shrL_map e148_shr l
theorem e148_rep (x : S148) (n : Nat) : List.flatMap e148 (List.replicate n x) = (List.replicate n (e148 x)).flatten := (replicate_map x n).symm
theorem e148_sd (l : List S148) (n : Nat) : List.take (((l.length - n)) * 6) (List.drop ((n) * 6) (List.flatMap e148 l)) = List.flatMap e148 (l.drop n) := by have := slD_map e148_len l n; simpa using this
theorem e148_st (l : List S148) (n : Nat) : List.take ((n) * 6) (List.flatMap e148 l) = List.flatMap e148 (l.take n) := by have := take_map e148_len l n; simpa using this
theorem e148_sb (l : List S148) (h n : Nat) : List.take (((h - n)) * 6) (List.drop ((n) * 6) (List.flatMap e148 l)) = List.flatMap e148 ((l.drop n).take (h - n)) := by have := slB_map e148_len l h n; simpa using this
theorem e148_set (l : List S148) (n : Nat) (x : S148) (h : n < l.length) : List.flatMap e148 (l.set n x) = (List.flatMap e148 l).take (n * 6) ++ e148 x ++ (List.flatMap e148 l).drop ((n + 1) * 6) := (set_map e148_len l n h x).symm
attribute [go_sem] e148_at e148_ln e148_row e148_nms e148_sh e148_rep e148_set e148_sd e148_st e148_sb e148_cp e148
theorem o148_len : ∀ x, (o148 x).length = 6 := fun _ => rfl
theorem o148_nm : ∀ x, noMutL (o148 x) = true := by intro x; simp [o148, go_sem]
theorem o148_shr : ∀ x, shrL (o148 x) = e148 x := by intro x; simp [o148, e148, go_sem]
theorem o148_pure : ∀ x, pureL (o148 x) = true := by intro x; simp [o148, go_sem]
theorem o148_at (l : List S148) (i : Int) (h0 : 0 ≤ i) (h1 : i < l.length) : idx 6 (List.flatMap o148 l) i = some (o148 (rd_T148 l i)) := idx_map o148_len _ l i h0 h1
theorem o148_ln (l : List S148) : (List.flatMap o148 l).length = (l.length) * 6 := by rw [len_map o148_len]
theorem o148_row (l : List S148) (n : Nat) (h : n < l.length) : List.take 6 (List.drop ((n) * 6) (List.flatMap o148 l)) = o148 (l.getD n z148) := by have := row_map o148_len z148 l n h; simpa using this
theorem o148_nms (l : List S148) : noMutL (List.flatMap o148 l) = true := noMutL_map o148_nm l
theorem o148_pu (l : List S148) : pureL (List.flatMap o148 l) = true := pureL_map o148_pure l
theorem o148_sh (l : List S148) : shrL (List.flatMap o148 l) = List.flatMap e148 l := shrL_map o148_shr l
theorem o148_rep (x : S148) (n : Nat) : List.flatMap o148 (List.replicate n x) = (List.replicate n (o148 x)).flatten := (replicate_map x n).symm
theorem o148_sd (l : List S148) (n : Nat) : List.take (((l.length - n)) * 6) (List.drop ((n) * 6) (List.flatMap o148 l)) = List.flatMap o148 (l.drop n) := by have := slD_map o148_len l n; simpa using this
theorem o148_st (l : List S148) (n : Nat) : List.take ((n) * 6) (List.flatMap o148 l) = List.flatMap o148 (l.take n) := by have := take_map o148_len l n; simpa using this
theorem o148_sb (l : List S148) (h n : Nat) : List.take (((h - n)) * 6) (List.drop ((n) * 6) (List.flatMap o148 l)) = List.flatMap o148 ((l.drop n).take (h - n)) := by have := slB_map o148_len l h n; simpa using this
theorem o148_set (l : List S148) (n : Nat) (x : S148) (h : n < l.length) : List.flatMap o148 (l.set n x) = (List.flatMap o148 l).take (n * 6) ++ o148 x ++ (List.flatMap o148 l).drop ((n + 1) * 6) := (set_map o148_len l n h x).symm
attribute [go_sem] o148_at o148_ln o148_row o148_nms o148_sh o148_rep o148_set o148_sd o148_st o148_sb o148_pu o148
def e163 (x : S163) : List Cell := [.sc (.string x.f0), .sc (.string x.f1), .sc (.int .i64 x.f2)]
abbrev o163 := e163
theorem e163_len : ∀ x, (e163 x).length = 3 := fun _ => rfl
theorem e163_nm : ∀ x, noMutL (e163 x) = true := by intro x; simp [e163, go_sem]
theorem e163_cpy : ∀ x, cpyL (e163 x) = true := by intro x; simp [e163, go_sem]
theorem e163_shr : ∀ x, shrL (e163 x) = e163 x := by intro x; simp [e163, go_sem]
theorem e163_pure : ∀ x, pureL (e163 x) = true := by intro x; rfl
theorem e163_at (l : List S163) (i : Int) (h0 : 0 ≤ i) (h1 : i < l.length) : idx 3 (List.flatMap e163 l) i = some (e163 (rd_T163 l i)) := idx_map e163_len _ l i h0 h1
theorem e163_ln (l : List S163) : (List.flatMap e163 l).length = (l.length) * 3 := by rw [len_map e163_len]
theorem e163_row (l : List S163) (n : Nat) (h : n < l.length) : List.take 3 (List.drop ((n) * 3) (List.flatMap e163 l)) = e163 (l.getD n z163) := by have := row_map e163_len z163 l n h; simpa using this
theorem e163_cp (l : List S163) : cpyL (List.flatMap e163 l) = true := cpyL_map e163_cpy l
theorem e163_nms (l : List S163) : noMutL (List.flatMap e163 l) = true := noMutL_map e163_nm l
theorem e163_pu (l : List S163) : pureL (List.flatMap e163 l) = true := pureL_map e163_pure l
theorem e163_sh (l : List S163) : shrL (List.flatMap e163 l) = List.flatMap e163 l := shrL_map e163_shr l
theorem e163_rep (x : S163) (n : Nat) : List.flatMap e163 (List.replicate n x) = (List.replicate n (e163 x)).flatten := (replicate_map x n).symm
theorem e163_sd (l : List S163) (n : Nat) : List.take (((l.length - n)) * 3) (List.drop ((n) * 3) (List.flatMap e163 l)) = List.flatMap e163 (l.drop n) := by have := slD_map e163_len l n; simpa using this
theorem e163_st (l : List S163) (n : Nat) : List.take ((n) * 3) (List.flatMap e163 l) = List.flatMap e163 (l.take n) := by have := take_map e163_len l n; simpa using this
theorem e163_sb (l : List S163) (h n : Nat) : List.take (((h - n)) * 3) (List.drop ((n) * 3) (List.flatMap e163 l)) = List.flatMap e163 ((l.drop n).take (h - n)) := by have := slB_map e163_len l h n; simpa using this
theorem e163_set (l : List S163) (n : Nat) (x : S163) (h : n < l.length) : List.flatMap e163 (l.set n x) = (List.flatMap e163 l).take (n * 3) ++ e163 x ++ (List.flatMap e163 l).drop ((n + 1) * 3) := (set_map e163_len l n h x).symm
attribute [go_sem] e163_at e163_ln e163_row e163_nms e163_sh e163_rep e163_set e163_sd e163_st e163_sb e163_cp e163_pu e163
def e152 (x : S152) : List Cell := [.sc (.string x.f0), .sl none 1 (List.flatMap eS x.f1), .sl none 1 (List.flatMap eS x.f2), .sl none 3 (List.flatMap e163 x.f3)]
def o152 (x : S152) : List Cell := [.sc (.string x.f0), .sl (some 0) 1 (List.flatMap eS x.f1), .sl (some 0) 1 (List.flatMap eS x.f2), .sl (some 0) 3 (List.flatMap o163 x.f3)]
theorem e152_len : ∀ x, (e152 x).length = 4 := fun _ => rfl
theorem e152_nm : ∀ x, noMutL (e152 x) = true := by intro x; simp [e152, go_sem]
theorem e152_cpy : ∀ x, cpyL (e152 x) = true := by intro x; simp [e152, go_sem]
theorem e152_shr : ∀ x, shrL (e152 x) = e152 x := by intro x; simp [e152, go_sem]
theorem e152_at (l : List S152) (i : Int) (h0 : 0 ≤ i) (h1 : i < l.length) : idx 4 (List.flatMap e152 l) i = some (e152 (rd_T152 l i)) := idx_map e152_len _ l i h0 h1
theorem e152_ln (l : List S152) : (List.flatMap e152 l).length = (l.length) * 4 := by rw [len_map e152_len]
theorem e152_row (l : List S152) (n : Nat) (h : n < l.length) : List.take 4 (List.drop ((n) * 4) (List.flatMap e152 l)) = e152 (l.getD n z152) := by have := row_map e152_len z152 l n h; simpa using this
theorem e152_cp (l : List S152) : cpyL (List.flatMap e152 l) = true := cpyL_map e152_cpy l
theorem e152_nms (l : List S152) : noMutL (List.flatMap e152 l) = true := noMutL_map e152_nm l
theorem e152_sh (l : List S152) : shrL (List.flatMap e152 l) = List.flatMap e152 l := shrL_map e152_shr l
theorem e152_rep (x : S152) (n : Nat) : List.flatMap e152 (List.replicate n x) = (List.replicate n (e152 x)).flatten := (replicate_map x n).symm
theorem e152_sd (l : List S152) (n : Nat) : List.take (((l.length - n)) * 4) (List.drop ((n) * 4) (List.flatMap e152 l)) = List.flatMap e152 (l.drop n) := by have := slD_map e152_len l n; simpa using this
theorem e152_st (l : List S152) (n : Nat) : List.take ((n) * 4) (List.flatMap e152 l) = List.flatMap e152 (l.take n) := by have := take_map e152_len l n; simpa using this
theorem e152_sb (l : List S152) (h n : Nat) : List.take (((h - n)) * 4) (List.drop ((n) * 4) (List.flatMap e152 l)) = List.flatMap e152 ((l.drop n).take (h - n)) := by have := slB_map e152_len l h n; simpa using this
theorem e152_set (l : List S152) (n : Nat) (x : S152) (h : n < l.length) : List.flatMap e152 (l.set n x) = (List.flatMap e152 l).take (n * 4) ++ e152 x ++ (List.flatMap e152 l).drop ((n + 1) * 4) := (set_map e152_len l n h x).symm
attribute [go_sem] e152_at e152_ln e152_row e152_nms e152_sh e152_rep e152_set e152_sd e152_st e152_sb e152_cp e152
theorem o152_len : ∀ x, (o152 x).length = 4 := fun _ => rfl
theorem o152_nm : ∀ x, noMutL (o152 x) = true := by intro x; simp [o152, go_sem]
theorem o152_shr : ∀ x, shrL (o152 x) = e152 x := by intro x; simp [o152, e152, go_sem]
theorem o152_pure : ∀ x, pureL (o152 x) = true := by intro x; simp [o152, go_sem]
theorem o152_at (l : List S152) (i : Int) (h0 : 0 ≤ i) (h1 : i < l.length) : idx 4 (List.flatMap o152 l) i = some (o152 (rd_T152 l i)) := idx_map o152_len _ l i h0 h1
theorem o152_ln (l : List S152) : (List.flatMap o152 l).length = (l.length) * 4 := by rw [len_map o152_len]
theorem o152_row (l : List S152) (n : Nat) (h : n < l.length) : List.take 4 (List.drop ((n) * 4) (List.flatMap o152 l)) = o152 (l.getD n z152) := by have := row_map o152_len z152 l n h; simpa using this
theorem o152_nms (l : List S152) : noMutL (List.flatMap o152 l) = true := noMutL_map o152_nm l
theorem o152_pu (l : List S152) : pureL (List.flatMap o152 l) = true := pureL_map o152_pure l
theorem o152_sh (l : List S152) : shrL (List.flatMap o152 l) = List.flatMap e152 l := shrL_map o152_shr l
theorem o152_rep (x : S152) (n : Nat) : List.flatMap o152 (List.replicate n x) = (List.replicate n (o152 x)).flatten := (replicate_map x n).symm
theorem o152_sd (l : List S152) (n : Nat) : List.take (((l.length - n)) * 4) (List.drop ((n) * 4) (List.flatMap o152 l)) = List.flatMap o152 (l.drop n) := by have := slD_map o152_len l n; simpa using this
theorem o152_st (l : List S152) (n : Nat) : List.take ((n) * 4) (List.flatMap o152 l) = List.flatMap o152 (l.take n) := by have := take_map o152_len l n; simpa using this
theorem o152_sb (l : List S152) (h n : Nat) : List.take (((h - n)) * 4) (List.drop ((n) * 4) (List.flatMap o152 l)) = List.flatMap o152 ((l.drop n).take (h - n)) := by have := slB_map o152_len l h n; simpa using this
theorem o152_set (l : List S152) (n : Nat) (x : S152) (h : n < l.length) : List.flatMap o152 (l.set n x) = (List.flatMap o152 l).take (n * 4) ++ o152 x ++ (List.flatMap o152 l).drop ((n + 1) * 4) := (set_map o152_len l n h x).symm
attribute [go_sem] o152_at o152_ln o152_row o152_nms o152_sh o152_rep o152_set o152_sd o152_st o152_sb o152_pu o152
def e154 (x : S154) : List Cell := [.sc (.string x.f0), .sl none 1 (List.flatMap eS x.f1), .sl none 1 (List.flatMap eS x.f2), .sc (.int .i64 x.f3)]
def o154 (x : S154) : List Cell := [.sc (.string x.f0), .sl (some 0) 1 (List.flatMap eS x.f1), .sl (some 0) 1 (List.flatMap eS x.f2), .sc (.int .i64 x.f3)]
theorem e154_len : ∀ x, (e154 x).length = 4 := fun _ => rfl
theorem e154_nm : ∀ x, noMutL (e154 x) = true := by intro x; simp [e154, go_sem]
theorem e154_cpy : ∀ x, cpyL (e154 x) = true := by intro x; simp [e154, go_sem]
theorem e154_shr : ∀ x, shrL (e154 x) = e154 x := by intro x; simp [e154, go_sem]
theorem e154_at (l : List S154) (i : Int) (h0 : 0 ≤ i) (h1 : i < l.length) : idx 4 (List.flatMap e154 l) i = some (e154 (rd_T154 l i)) := idx_map e154_len _ l i h0 h1
theorem e154_ln (l : List S154) : (List.flatMap e154 l).length = (l.length) * 4 := by rw [len_map e154_len]
theorem e154_row (l : List S154) (n : Nat) (h : n < l.length) : List.take 4 (List.drop ((n) * 4) (List.flatMap e154 l)) = e154 (l.getD n z154) := by have := row_map e154_len z154 l n h; simpa using this
theorem e154_cp (l : List S154) : cpyL (List.flatMap e154 l) = true := cpyL_map e154_cpy l
theorem e154_nms (l : List S154) : noMutL (List.flatMap e154 l) = true := noMutL_map e154_nm l
theorem e154_sh (l : List S154) : shrL (List.flatMap e154 l) = List.flatMap e154 l := shrL_map e154_shr l
theorem e154_rep (x : S154) (n : Nat) : List.flatMap e154 (List.replicate n x) = (List.replicate n (e154 x)).flatten := (replicate_map x n).symm
theorem e154_sd (l : List S154) (n : Nat) : List.take (((l.length - n)) * 4) (List.drop ((n) * 4) (List.flatMap e154 l)) = List.flatMap e154 (l.drop n) := by have := slD_map e154_len l n; simpa using this
theorem e154_st (l : List S154) (n : Nat) : List.take ((n) * 4) (List.flatMap e154 l) = List.flatMap e154 (l.take n) := by have := take_map e154_len l n; simpa using this
theorem e154_sb (l : List S154) (h n : Nat) : List.take (((h - n)) * 4) (List.drop ((n) * 4) (List.flatMap e154 l)) = List.flatMap e154 ((l.drop n).take (h - n)) := by have := slB_map e154_len l h n; simpa using this
theorem e154_set (l : List S154) (n : Nat) (x : S154) (h : n < l.length) : List.flatMap e154 (l.set n x) = (List.flatMap e154 l).take (n * 4) ++ e154 x ++ (List.flatMap e154 l).drop ((n + 1) * 4) := (set_map e154_len l n h x).symm
attribute [go_sem] e154_at e154_ln e154_row e154_nms e154_sh e154_rep e154_set e154_sd e154_st e154_sb e154_cp e154
theorem o154_len : ∀ x, (o154 x).length = 4 := fun _ => rfl
theorem o154_nm : ∀ x, noMutL (o154 x) = true := by intro x; simp [o154, go_sem]
theorem o154_shr : ∀ x, shrL (o154 x) = e154 x := by intro x; simp [o154, e154, go_sem]
theorem o154_pure : ∀ x, pureL (o154 x) = true := by intro x; simp [o154, go_sem]
theorem o154_at (l : List S154) (i : Int) (h0 : 0 ≤ i) (h1 : i < l.length) : idx 4 (List.flatMap o154 l) i = some (o154 (rd_T154 l i)) := idx_map o154_len _ l i h0 h1
theorem o154_ln (l : List S154) : (List.flatMap o154 l).length = (l.length) * 4 := by rw [len_map o154_len]
theorem o154_row (l : List S154) (n : Nat) (h : n < l.length) : List.take 4 (List.drop ((n) * 4) (List.flatMap o154 l)) = o154 (l.getD n z154) := by have := row_map o154_len z154 l n h; simpa using this
theorem o154_nms (l : List S154) : noMutL (List.flatMap o154 l) = true := noMutL_map o154_nm l
theorem o154_pu (l : List S154) : pureL (List.flatMap o154 l) = true := pureL_map o154_pure l
theorem o154_sh (l : List S154) : shrL (List.flatMap o154 l) = List.flatMap e154 l := shrL_map o154_shr l
theorem o154_rep (x : S154) (n : Nat) : List.flatMap o154 (List.replicate n x) = (List.replicate n (o154 x)).flatten := (replicate_map x n).symm
theorem o154_sd (l : List S154) (n : Nat) : List.take (((l.length - n)) * 4) (List.drop ((n) * 4) (List.flatMap o154 l)) = List.flatMap o154 (l.drop n) := by have := slD_map o154_len l n; simpa using this
theorem o154_st (l : List S154) (n : Nat) : List.take ((n) * 4) (List.flatMap o154 l) = List.flatMap o154 (l.take n) := by have := take_map o154_len l n; simpa using this
theorem o154_sb (l : List S154) (h n : Nat) : List.take (((h - n)) * 4) (List.drop ((n) * 4) (List.flatMap o154 l)) = List.flatMap o154 ((l.drop n).take (h - n)) := by have := slB_map o154_len l h n; simpa using this
theorem o154_set (l : List S154) (n : Nat) (x : S154) (h : n < l.length) : List.flatMap o154 (l.set n x) = (List.flatMap o154 l).take (n * 4) ++ o154 x ++ (List.flatMap o154 l).drop ((n + 1) * 4) := (set_map o154_len l n h x).symm
attribute [go_sem] o154_at o154_ln o154_row o154_nms o154_sh o154_rep o154_set o154_sd o154_st o154_sb o154_pu o154
def e132 (x : S132) : List Cell := [.sc (.int .i64 x.f0), .sc (.int .i64 x.f1), .sc (.string x.f2), .sc (.string x.f3), .sc (.string x.f4), .sl none 1 (List.flatMap eI x.f5)]
def o132 (x : S132) : List Cell := [.sc (.int .i64 x.f0), .sc (.int .i64 x.f1), .sc (.string x.f2), .sc (.string x.f3), .sc (.string x.f4), .sl (some 0) 1 (List.flatMap eI x.f5)]
theorem e132_len : ∀ x, (e132 x).length = 6 := fun _ => rfl
theorem e132_nm : ∀ x, noMutL (e132 x) = true := by intro x; simp [e132, go_sem]
theorem e132_cpy : ∀ x, cpyL (e132 x) = true := by intro x; simp [e132, go_sem]
theorem e132_shr : ∀ x, shrL (e132 x) = e132 x := by intro x; simp [e132, go_sem]
theorem e132_at (l : List S132) (i : Int) (h0 : 0 ≤ i) (h1 : i < l.length) : idx 6 (List.flatMap e132 l) i = some (e132 (rd_T132 l i)) := idx_map e132_len _ l i h0 h1
theorem e132_ln (l : List S132) : (List.flatMap e132 l).length = (l.length) * 6 := by rw [len_map e132_len]
theorem e132_row (l : List S132) (n : Nat) (h : n < l.length) : List.take 6 (List.drop ((n) * 6) (List.flatMap e132 l)) = e132 (l.getD n z132) := by have := row_map e132_len z132 l n h; simpa using this
theorem e132_cp (l : List S132) : cpyL (List.flatMap e132 l) = true := cpyL_map e132_cpy l
theorem e132_nms (l : List S132) : noMutL (List.flatMap e132 l) = true := noMutL_map e132_nm l
theorem e132_sh (l : List S132) : shrL (List.flatMap e132 l) = List.flatMap e132 l := shrL_map e132_shr l
theorem e132_rep (x : S132) (n : Nat) : List.flatMap e132 (List.replicate n x) = (List.replicate n (e132 x)).flatten := (replicate_map x n).symm
theorem e132_sd (l : List S132) (n : Nat) : List.take (((l.length - n)) * 6) (List.drop ((n) * 6) (List.flatMap e132 l)) = List.flatMap e132 (l.drop n) := by have := slD_map e132_len l n; simpa using this
theorem e132_st (l : List S132) (n : Nat) : List.take ((n) * 6) (List.flatMap e132 l) = List.flatMap e132 (l.take n) := by have := take_map e132_len l n; simpa using this
theorem e132_sb (l : List S132) (h n : Nat) : List.take (((h - n)) * 6) (List.drop ((n) * 6) (List.flatMap e132 l)) = List.flatMap e132 ((l.drop n).take (h - n)) := by have := slB_map e132_len l h n; simpa using this
theorem e132_set (l : List S132) (n : Nat) (x : S132) (h : n < l.length) : List.flatMap e132 (l.set n x) = (List.flatMap e132 l).take (n * 6) ++ e132 x ++ (List.flatMap e132 l).drop ((n + 1) * 6) := (set_map e132_len l n h x).symm
attribute [go_sem] e132_at e132_ln e132_row e132_nms e132_sh e132_rep e132_set e132_sd e132_st e132_sb e132_cp e132
theorem o132_len : ∀ x, (o132 x).length = 6 := fun _ => rfl
theorem o132_nm : ∀ x, noMutL (o132 x) = true := by intro x; simp [o132, go_sem]
theorem o132_shr : ∀ x, shrL (o132 x) = e132 x := by intro x; simp [o132, e132, go_sem]
theorem o132_pure : ∀ x, pureL (o132 x) = true := by intro x; simp [o132, go_sem]
theorem o132_at (l : List S132) (i : Int) (h0 : 0 ≤ i) (h1 : i < l.length) : idx 6 (List.flatMap o132 l) i = some (o132 (rd_T132 l i)) := idx_map o132_len _ l i h0 h1
theorem o132_ln (l : List S132) : (List.flatMap o132 l).length = (l.length) * 6 := by rw [len_map o132_len]
theorem o132_row (l : List S132) (n : Nat) (h : n < l.length) : List.take 6 (List.drop ((n) * 6) (List.flatMap o132 l)) = o132 (l.getD n z132) := by have := row_map o132_len z132 l n h; simpa using this
theorem o132_nms (l : List S132) : noMutL (List.flatMap o132 l) = true := noMutL_map o132_nm l
theorem o132_pu (l : List S132) : pureL (List.flatMap o132 l) = true := pureL_map o132_pure l
theorem o132_sh (l : List S132) : shrL (List.flatMap o132 l) = List.flatMap e132 l := shrL_map o132_shr l
theorem o132_rep (x : S132) (n : Nat) : List.flatMap o132 (List.replicate n x) = (List.replicate n (o132 x)).flatten := (replicate_map x n).symm
theorem o132_sd (l : List S132) (n : Nat) : List.take (((l.length - n)) * 6) (List.drop ((n) * 6) (List.flatMap o132 l)) = List.flatMap o132 (l.drop n) := by have := slD_map o132_len l n; simpa using this
theorem o132_st (l : List S132) (n : Nat) : List.take ((n) * 6) (List.flatMap o132 l) = List.flatMap o132 (l.take n) := by have := take_map o132_len l n; simpa using this
theorem o132_sb (l : List S132) (h n : Nat) : List.take (((h - n)) * 6) (List.drop ((n) * 6) (List.flatMap o132 l)) = List.flatMap o132 ((l.drop n).take (h - n)) := by have := slB_map o132_len l h n; simpa using this
theorem o132_set (l : List S132) (n : Nat) (x : S132) (h : n < l.length) : List.flatMap o132 (l.set n x) = (List.flatMap o132 l).take (n * 6) ++ o132 x ++ (List.flatMap o132 l).drop ((n + 1) * 6) := (set_map o132_len l n h x).symm
attribute [go_sem] o132_at o132_ln o132_row o132_nms o132_sh o132_rep o132_set o132_sd o132_st o132_sb o132_pu o132
def e125 (x : S125) : List Cell := [.sc (.string x.f0), .sc (.string x.f1), .sc (.int .i64 x.f2)]
abbrev o125 := e125
theorem e125_len : ∀ x, (e125 x).length = 3 := fun _ => rfl
theorem e125_nm : ∀ x, noMutL (e125 x) = true := by intro x; simp [e125, go_sem]
theorem e125_cpy : ∀ x, cpyL (e125 x) = true := by intro x; simp [e125, go_sem]
theorem e125_shr : ∀ x, shrL (e125 x) = e125 x := by intro x; simp [e125, go_sem]
theorem e125_pure : ∀ x, pureL (e125 x) = true := by intro x; rfl
theorem e125_at (l : List S125) (i : Int) (h0 : 0 ≤ i) (h1 : i < l.length) : idx 3 (List.flatMap e125 l) i = some (e125 (rd_T125 l i)) := idx_map e125_len _ l i h0 h1
theorem e125_ln (l : List S125) : (List.flatMap e125 l).length = (l.length) * 3 := by rw [len_map e125_len]
theorem e125_row (l : List S125) (n : Nat) (h : n < l.length) : List.take 3 (List.drop ((n) * 3) (List.flatMap e125 l)) = e125 (l.getD n z125) := by have := row_map e125_len z125 l n h; simpa using this
theorem e125_cp (l : List S125) : cpyL (List.flatMap e125 l) = true := cpyL_map e125_cpy l
theorem e125_nms (l : List S125) : noMutL (List.flatMap e125 l) = true := noMutL_map e125_nm l
theorem e125_pu (l : List S125) : pureL (List.flatMap e125 l) = true := pureL_map e125_pure l
theorem e125_sh (l : List S125) : shrL (List.flatMap e125 l) = List.flatMap e125 l := shrL_map e125_shr l
theorem e125_rep (x : S125) (n : Nat) : List.flatMap e125 (List.replicate n x) = (List.replicate n (e125 x)).flatten := (replicate_map x n).symm
theorem e125_sd (l : List S125) (n : Nat) : List.take (((l.length - n)) * 3) (List.drop ((n) * 3) (List.flatMap e125 l)) = List.flatMap e125 (l.drop n) := by have := slD_map e125_len l n; simpa using this
theorem e125_st (l : List S125) (n : Nat) : List.take ((n) * 3) (List.flatMap e125 l) = List.flatMap e125 (l.take n) := by have := take_map e125_len l n; simpa using this
theorem e125_sb (l : List S125) (h n : Nat) : List.take (((h - n)) * 3) (List.drop ((n) * 3) (List.flatMap e125 l)) = List.flatMap e125 ((l.drop n).take (h - n)) := by have := slB_map e125_len l h n; simpa using this
theorem e125_set (l : List S125) (n : Nat) (x : S125) (h : n < l.length) : List.flatMap e125 (l.set n x) = (List.flatMap e125 l).take (n * 3) ++ e125 x ++ (List.flatMap e125 l).drop ((n + 1) * 3) := (set_map e125_len l n h x).symm
attribute [go_sem] e125_at e125_ln e125_row e125_nms e125_sh e125_rep e125_set e125_sd e125_st e125_sb e125_cp e125_pu e125
def e114 (x : S114) : List Cell := [.sc (.string x.f0), .sl none 1 (List.flatMap eS x.f1), .sl none 1 (List.flatMap eS x.f2), .sl none 3 (List.flatMap e125 x.f3)]
def o114 (x : S114) : List Cell := [.sc (.string x.f0), .sl (some 0) 1 (List.flatMap eS x.f1), .sl (some 0) 1 (List.flatMap eS x.f2), .sl (some 0) 3 (List.flatMap o125 x.f3)]
theorem e114_len : ∀ x, (e114 x).length = 4 := fun _ => rfl
theorem e114_nm : ∀ x, noMutL (e114 x) = true := by intro x; simp [e114, go_sem]
theorem e114_cpy : ∀ x, cpyL (e114 x) = true := by intro x; simp [e114, go_sem]
theorem e114_shr : ∀ x, shrL (e114 x) = e114 x := by intro x; simp [e114, go_sem]
theorem e114_at (l : List S114) (i : Int) (h0 : 0 ≤ i) (h1 : i < l.length) : idx 4 (List.flatMap e114 l) i = some (e114 (rd_T114 l i)) := idx_map e114_len _ l i h0 h1
theorem e114_ln (l : List S114) : (List.flatMap e114 l).length = (l.length) * 4 := by rw [len_map e114_len]
theorem e114_row (l : List S114) (n : Nat) (h : n < l.length) : List.take 4 (List.drop ((n) * 4) (List.flatMap e114 l)) = e114 (l.getD n z114) := by have := row_map e114_len z114 l n h; simpa using this
theorem e114_cp (l : List S114) : cpyL (List.flatMap e114 l) = true := cpyL_map e114_cpy l
theorem e114_nms (l : List S114) : noMutL (List.flatMap e114 l) = true := noMutL_map e114_nm l
theorem e114_sh (l : List S114) : shrL (List.flatMap e114 l) = List.flatMap e114 l := shrL_map e114_shr l
theorem e114_rep (x : S114) (n : Nat) : List.flatMap e114 (List.replicate n x) = (List.replicate n (e114 x)).flatten := (replicate_map x n).symm
theorem e114_sd (l : List S114) (n : Nat) : List.take (((l.length - n)) * 4) (List.drop ((n) * 4) (List.flatMap e114 l)) = List.flatMap e114 (l.drop n) := by have := slD_map e114_len l n; simpa using this
theorem e114_st (l : List S114) (n : Nat) : List.take ((n) * 4) (List.flatMap e114 l) = List.flatMap e114 (l.take n) := by have := take_map e114_len l n; simpa using this
theorem e114_sb (l : List S114) (h n : Nat) : List.take (((h - n)) * 4) (List.drop ((n) * 4) (List.flatMap e114 l)) = List.flatMap e114 ((l.drop n).take (h - n)) := by have := slB_map e114_len l h n; simpa using this
theorem e114_set (l : List S114) (n : Nat) (x : S114) (h : n < l.length) : List.flatMap e114 (l.set n x) = (List.flatMap e114 l).take (n * 4) ++ e114 x ++ (List.flatMap e114 l).drop ((n + 1) * 4) := (set_map e114_len l n h x).symm
attribute [go_sem] e114_at e114_ln e114_row e114_nms e114_sh e114_rep e114_set e114_sd e114_st e114_sb e114_cp e114
theorem o114_len : ∀ x, (o114 x).length = 4 := fun _ => rfl
theorem o114_nm : ∀ x, noMutL (o114 x) = true := by intro x; simp [o114, go_sem]
theorem o114_shr : ∀ x, shrL (o114 x) = e114 x := by intro x; simp [o114, e114, go_sem]
theorem o114_pure : ∀ x, pureL (o114 x) = true := by intro x; simp [o114, go_sem]
theorem o114_at (l : List S114) (i : Int) (h0 : 0 ≤ i) (h1 : i < l.length) : idx 4 (List.flatMap o114 l) i = some (o114 (rd_T114 l i)) := idx_map o114_len _ l i h0 h1
theorem o114_ln (l : List S114) : (List.flatMap o114 l).length = (l.length) * 4 := by rw [len_map o114_len]
theorem o114_row (l : List S114) (n : Nat) (h : n < l.length) : List.take 4 (List.drop ((n) * 4) (List.flatMap o114 l)) = o114 (l.getD n z114) := by have := row_map o114_len z114 l n h; simpa using this
theorem o114_nms (l : List S114) : noMutL (List.flatMap o114 l) = true := noMutL_map o114_nm l
theorem o114_pu (l : List S114) : pureL (List.flatMap o114 l) = true := pureL_map o114_pure l
theorem o114_sh (l : List S114) : shrL (List.flatMap o114 l) = List.flatMap e114 l := shrL_map o114_shr l
theorem o114_rep (x : S114) (n : Nat) : List.flatMap o114 (List.replicate n x) = (List.replicate n (o114 x)).flatten := (replicate_map x n).symm
theorem o114_sd (l : List S114) (n : Nat) : List.take (((l.length - n)) * 4) (List.drop ((n) * 4) (List.flatMap o114 l)) = List.flatMap o114 (l.drop n) := by have := slD_map o114_len l n; simpa using this
theorem o114_st (l : List S114) (n : Nat) : List.take ((n) * 4) (List.flatMap o114 l) = List.flatMap o114 (l.take n) := by have := take_map o114_len l n; simpa using this
theorem o114_sb (l : List S114) (h n : Nat) : List.take (((h - n)) * 4) (List.drop ((n) * 4) (List.flatMap o114 l)) = List.flatMap o114 ((l.drop n).take (h - n)) := by have := slB_map o114_len l h n; simpa using this
theorem o114_set (l : List S114) (n : Nat) (x : S114) (h : n < l.length) : List.flatMap o114 (l.set n x) = (List.flatMap o114 l).take (n * 4) ++ o114 x ++ (List.flatMap o114 l).drop ((n + 1) * 4) := (set_map o114_len l n h x).symm
attribute [go_sem] o114_at o114_ln o114_row o114_nms o114_sh o114_rep o114_set o114_sd o114_st o114_sb o114_pu o114
def e130 (x : S130) : List Cell := [.sc (.string x.f0), .sl none 1 (List.flatMap eS x.f1), .sl none 1 (List.flatMap eS x.f2), .sc (.int .i64 x.f3)]
def o130 (x : S130) : List Cell := [.sc (.string x.f0), .sl (some 0) 1 (List.flatMap eS x.f1), .sl (some 0) 1 (List.flatMap eS x.f2), .sc (.int .i64 x.f3)]
theorem e130_len : ∀ x, (e130 x).length = 4 := fun _ => rfl
theorem e130_nm : ∀ x, noMutL (e130 x) = true := by intro x; simp [e130, go_sem]
theorem e130_cpy : ∀ x, cpyL (e130 x) = true := by intro x; simp [e130, go_sem]
theorem e130_shr : ∀ x, shrL (e130 x) = e130 x := by intro x; simp [e130, go_sem]
theorem e130_at (l : List S130) (i : Int) (h0 : 0 ≤ i) (h1 : i < l.length) : idx 4 (List.flatMap e130 l) i = some (e130 (rd_T130 l i)) := idx_map e130_len _ l i h0 h1
theorem e130_ln (l : List S130) : (List.flatMap e130 l).length = (l.length) * 4 := by rw [len_map e130_len]
theorem e130_row (l : List S130) (n : Nat) (h : n < l.length) : List.take 4 (List.drop ((n) * 4) (List.flatMap e130 l)) = e130 (l.getD n z130) := by have := row_map e130_len z130 l n h; simpa using this
theorem e130_cp (l : List S130) : cpyL (List.flatMap e130 l) = true := cpyL_map e130_cpy l
theorem e130_nms (l : List S130) : noMutL (List.flatMap e130 l) = true := noMutL_map e130_nm l
theorem e130_sh (l : List S130) : shrL (List.flatMap e130 l) = List.flatMap e130 l := shrL_map e130_shr l
theorem e130_rep (x : S130) (n : Nat) : List.flatMap e130 (List.replicate n x) = (List.replicate n (e130 x)).flatten := (replicate_map x n).symm
theorem e130_sd (l : List S130) (n : Nat) : List.take (((l.length - n)) * 4) (List.drop ((n) * 4) (List.flatMap e130 l)) = List.flatMap e130 (l.drop n) := by have := slD_map e130_len l n; simpa using this
theorem e130_st (l : List S130) (n : Nat) : List.take ((n) * 4) (List.flatMap e130 l) = List.flatMap e130 (l.take n) := by have := take_map e130_len l n; simpa using this
theorem e130_sb (l : List S130) (h n : Nat) : List.take (((h - n)) * 4) (List.drop ((n) * 4) (List.flatMap e130 l)) = List.flatMap e130 ((l.drop n).take (h - n)) := by have := slB_map e130_len l h n; simpa using this
theorem e130_set (l : List S130) (n : Nat) (x : S130) (h : n < l.length) : List.flatMap e130 (l.set n x) = (List.flatMap e130 l).take (n * 4) ++ e130 x ++ (List.flatMap e130 l).drop ((n + 1) * 4) := (set_map e130_len l n h x).symm
attribute [go_sem] e130_at e130_ln e130_row e130_nms e130_sh e130_rep e130_set e130_sd e130_st e130_sb e130_cp e130
theorem o130_len : ∀ x, (o130 x).length = 4 := fun _ => rfl
theorem o130_nm : ∀ x, noMutL (o130 x) = true := by intro x; simp [o130, go_sem]
theorem o130_shr : ∀ x, shrL (o130 x) = e130 x := by intro x; simp [o130, e130, go_sem]
theorem o130_pure : ∀ x, pureL (o130 x) = true := by intro x; simp [o130, go_sem]
theorem o130_at (l : List S130) (i : Int) (h0 : 0 ≤ i) (h1 : i < l.length) : idx 4 (List.flatMap o130 l) i = some (o130 (rd_T130 l i)) := idx_map o130_len _ l i h0 h1
theorem o130_ln (l : List S130) : (List.flatMap o130 l).length = (l.length) * 4 := by rw [len_map o130_len]
theorem o130_row (l : List S130) (n : Nat) (h : n < l.length) : List.take 4 (List.drop ((n) * 4) (List.flatMap o130 l)) = o130 (l.getD n z130) := by have := row_map o130_len z130 l n h; simpa using this
theorem o130_nms (l : List S130) : noMutL (List.flatMap o130 l) = true := noMutL_map o130_nm l
theorem o130_pu (l : List S130) : pureL (List.flatMap o130 l) = true := pureL_map o130_pure l
theorem o130_sh (l : List S130) : shrL (List.flatMap o130 l) = List.flatMap e130 l := shrL_map o130_shr l
theorem o130_rep (x : S130) (n : Nat) : List.flatMap o130 (List.replicate n x) = (List.replicate n (o130 x)).flatten := (replicate_map x n).symm
theorem o130_sd (l : List S130) (n : Nat) : List.take (((l.length - n)) * 4) (List.drop ((n) * 4) (List.flatMap o130 l)) = List.flatMap o130 (l.drop n) := by have := slD_map o130_len l n; simpa using this
theorem o130_st (l : List S130) (n : Nat) : List.take ((n) * 4) (List.flatMap o130 l) = List.flatMap o130 (l.take n) := by have := take_map o130_len l n; simpa using this
theorem o130_sb (l : List S130) (h n : Nat) : List.take (((h - n)) * 4) (List.drop ((n) * 4) (List.flatMap o130 l)) = List.flatMap o130 ((l.drop n).take (h - n)) := by have := slB_map o130_len l h n; simpa using this
theorem o130_set (l : List S130) (n : Nat) (x : S130) (h : n < l.length) : List.flatMap o130 (l.set n x) = (List.flatMap o130 l).take (n * 4) ++ o130 x ++ (List.flatMap o130 l).drop ((n + 1) * 4) := (set_map o130_len l n h x).symm
attribute [go_sem] o130_at o130_ln o130_row o130_nms o130_sh o130_rep o130_set o130_sd o130_st o130_sb o130_pu o130
theorem es9 : elemSz Try.prog 9 = none := by kernel_rfl
theorem is9 : isStr Try.prog 9 = true := by kernel_rfl
theorem es22 : elemSz Try.prog 22 = some 1 := by kernel_rfl
theorem es23 : elemSz Try.prog 23 = some 1 := by kernel_rfl
theorem es62 : elemSz Try.prog 62 = some 6 := by kernel_rfl
theorem es63 : elemSz Try.prog 63 = some 4 := by kernel_rfl
theorem es64 : elemSz Try.prog 64 = some 4 := by kernel_rfl
theorem es69 : elemSz Try.prog 69 = some 6 := by kernel_rfl
theorem es70 : elemSz Try.prog 70 = some 4 := by kernel_rfl
theorem es71 : elemSz Try.prog 71 = some 4 := by kernel_rfl
theorem es112 : elemSz Try.prog 112 = some 3 := by kernel_rfl
theorem es150 : elemSz Try.prog 150 = some 3 := by kernel_rfl
theorem vz3 : vsz Try.prog 3 = some (false, 1) := by kernel_rfl
theorem vz9 : vsz Try.prog 9 = some (false, 1) := by kernel_rfl
theorem vz22 : vsz Try.prog 22 = some (false, 1) := by kernel_rfl
theorem vz23 : vsz Try.prog 23 = some (false, 1) := by kernel_rfl
theorem vz62 : vsz Try.prog 62 = some (false, 1) := by kernel_rfl
theorem vz63 : vsz Try.prog 63 = some (false, 1) := by kernel_rfl
theorem vz64 : vsz Try.prog 64 = some (false, 1) := by kernel_rfl
theorem vz66 : vsz Try.prog 66 = some (true, 3) := by kernel_rfl
theorem vz69 : vsz Try.prog 69 = some (false, 1) := by kernel_rfl
theorem vz70 : vsz Try.prog 70 = some (false, 1) := by kernel_rfl
theorem vz71 : vsz Try.prog 71 = some (false, 1) := by kernel_rfl
theorem vz73 : vsz Try.prog 73 = some (true, 3) := by kernel_rfl
theorem vz112 : vsz Try.prog 112 = some (false, 1) := by kernel_rfl
theorem vz114 : vsz Try.prog 114 = some (true, 4) := by kernel_rfl
theorem vz125 : vsz Try.prog 125 = some (true, 3) := by kernel_rfl
theorem vz130 : vsz Try.prog 130 = some (true, 4) := by kernel_rfl
theorem vz132 : vsz Try.prog 132 = some (true, 6) := by kernel_rfl
theorem vz148 : vsz Try.prog 148 = some (true, 6) := by kernel_rfl
theorem vz150 : vsz Try.prog 150 = some (false, 1) := by kernel_rfl
theorem vz152 : vsz Try.prog 152 = some (true, 4) := by kernel_rfl
theorem vz154 : vsz Try.prog 154 = some (true, 4) := by kernel_rfl
theorem vz163 : vsz Try.prog 163 = some (true, 3) := by kernel_rfl
theorem fo66_0 : fldOff Try.prog 66 0 = some 0 := by kernel_rfl
theorem fo66_1 : fldOff Try.prog 66 1 = some 1 := by kernel_rfl
theorem fo66_2 : fldOff Try.prog 66 2 = some 2 := by kernel_rfl
theorem fo73_0 : fldOff Try.prog 73 0 = some 0 := by kernel_rfl
theorem fo73_1 : fldOff Try.prog 73 1 = some 1 := by kernel_rfl
theorem fo73_2 : fldOff Try.prog 73 2 = some 2 := by kernel_rfl
theorem fo114_0 : fldOff Try.prog 114 0 = some 0 := by kernel_rfl
theorem fo114_1 : fldOff Try.prog 114 1 = some 1 := by kernel_rfl
theorem fo114_2 : fldOff Try.prog 114 2 = some 2 := by kernel_rfl
theorem fo114_3 : fldOff Try.prog 114 3 = some 3 := by kernel_rfl
theorem fo125_0 : fldOff Try.prog 125 0 = some 0 := by kernel_rfl
theorem fo125_1 : fldOff Try.prog 125 1 = some 1 := by kernel_rfl
theorem fo125_2 : fldOff Try.prog 125 2 = some 2 := by kernel_rfl
theorem fo130_0 : fldOff Try.prog 130 0 = some 0 := by kernel_rfl
theorem fo130_1 : fldOff Try.prog 130 1 = some 1 := by kernel_rfl
theorem fo130_2 : fldOff Try.prog 130 2 = some 2 := by kernel_rfl
theorem fo130_3 : fldOff Try.prog 130 3 = some 3 := by kernel_rfl
theorem fo132_0 : fldOff Try.prog 132 0 = some 0 := by kernel_rfl
theorem fo132_1 : fldOff Try.prog 132 1 = some 1 := by kernel_rfl
theorem fo132_2 : fldOff Try.prog 132 2 = some 2 := by kernel_rfl
theorem fo132_3 : fldOff Try.prog 132 3 = some 3 := by kernel_rfl
theorem fo132_4 : fldOff Try.prog 132 4 = some 4 := by kernel_rfl
theorem fo132_5 : fldOff Try.prog 132 5 = some 5 := by kernel_rfl
theorem fo148_0 : fldOff Try.prog 148 0 = some 0 := by kernel_rfl
theorem fo148_1 : fldOff Try.prog 148 1 = some 1 := by kernel_rfl
theorem fo148_2 : fldOff Try.prog 148 2 = some 2 := by kernel_rfl
theorem fo148_3 : fldOff Try.prog 148 3 = some 3 := by kernel_rfl
theorem fo148_4 : fldOff Try.prog 148 4 = some 4 := by kernel_rfl
theorem fo148_5 : fldOff Try.prog 148 5 = some 5 := by kernel_rfl
theorem fo152_0 : fldOff Try.prog 152 0 = some 0 := by kernel_rfl
theorem fo152_1 : fldOff Try.prog 152 1 = some 1 := by kernel_rfl
theorem fo152_2 : fldOff Try.prog 152 2 = some 2 := by kernel_rfl
theorem fo152_3 : fldOff Try.prog 152 3 = some 3 := by kernel_rfl
theorem fo154_0 : fldOff Try.prog 154 0 = some 0 := by kernel_rfl
theorem fo154_1 : fldOff Try.prog 154 1 = some 1 := by kernel_rfl
theorem fo154_2 : fldOff Try.prog 154 2 = some 2 := by kernel_rfl
theorem fo154_3 : fldOff Try.prog 154 3 = some 3 := by kernel_rfl
theorem fo163_0 : fldOff Try.prog 163 0 = some 0 := by kernel_rfl
theorem fo163_1 : fldOff Try.prog 163 1 = some 1 := by kernel_rfl
theorem fo163_2 : fldOff Try.prog 163 2 = some 2 := by kernel_rfl
attribute [go_sem] Try.underlying22
theorem bo9_22 : Try.prog.bytesOf 9 = 16 := by kernel_rfl
attribute [go_sem] Try.underlying23
theorem bo3_23 : Try.prog.bytesOf 3 = 8 := by kernel_rfl
attribute [go_sem] Try.underlying69
theorem bo132_69 : Try.prog.bytesOf 132 = 88 := by kernel_rfl
attribute [go_sem] Try.underlying70
theorem bo114_70 : Try.prog.bytesOf 114 = 88 := by kernel_rfl
attribute [go_sem] Try.underlying71
theorem bo130_71 : Try.prog.bytesOf 130 = 72 := by kernel_rfl
attribute [go_sem] Try.underlying112
theorem bo125_112 : Try.prog.bytesOf 125 = 40 := by kernel_rfl
theorem zc3 : zcell Try.prog 3 = some [.sc (.int .i64 0)] := by kernel_rfl
theorem zc9 : zcell Try.prog 9 = some [.sc (.string .empty)] := by kernel_rfl
theorem zc73 : zcell Try.prog 73 = some [.sl (some 0) 6 [], .sl (some 0) 4 [], .sl (some 0) 4 []] := by kernel_rfl
theorem zc114 : zcell Try.prog 114 = some [.sc (.string .empty), .sl (some 0) 1 [], .sl (some 0) 1 [], .sl (some 0) 3 []] := by kernel_rfl
theorem zc125 : zcell Try.prog 125 = some [.sc (.string .empty), .sc (.string .empty), .sc (.int .i64 0)] := by kernel_rfl
theorem zc130 : zcell Try.prog 130 = some [.sc (.string .empty), .sl (some 0) 1 [], .sl (some 0) 1 [], .sc (.int .i64 0)] := by kernel_rfl
theorem zc132 : zcell Try.prog 132 = some [.sc (.int .i64 0), .sc (.int .i64 0), .sc (.string .empty), .sc (.string .empty), .sc (.string .empty), .sl (some 0) 1 []] := by kernel_rfl
attribute [go_sem] Try.underlying4
theorem eqt125 (a0 : ByteArray) (a1 : ByteArray) (a2 : Int) (b0 : ByteArray) (b1 : ByteArray) (b2 : Int) : eqSc Try.prog 125 [.sc (.string a0), .sc (.string a1), .sc (.int .i64 a2)] [.sc (.string b0), .sc (.string b1), .sc (.int .i64 b2)] = some ((decide (a0 = b0) && (decide (a1 = b1) && (decide (a2 = b2) && true)))) := by
  have h1 : Try.prog.stoodInHeld 125 = false := by kernel_rfl
  have h2 : Try.prog.eqGuardType Try.prog.depth 125 = false := by kernel_rfl
  simp [eqSc, h1, h2, eqFs, scEq, Try.underlying3, Try.underlying9, Try.underlying125]
theorem dv3 (n : Nat) : n * 3 / 3 = n := Nat.mul_div_cancel _ (by decide)
theorem dv4 (n : Nat) : n * 4 / 4 = n := Nat.mul_div_cancel _ (by decide)
theorem dv6 (n : Nat) : n * 6 / 6 = n := Nat.mul_div_cancel _ (by decide)
attribute [go_sem] Nat.div_one
theorem ba_empty : (⟨#[]⟩ : ByteArray) = ByteArray.empty := rfl
attribute [go_sem] z148 z163 z152 z154 z132 z125 z114 z130
theorem mo : Try.prog.follows .mixedOrders = true := by kernel_rfl
attribute [go_sem] es9 is9 es22 es23 es62 es63 es64 es69 es70 es71 es112 es150 vz3 vz9 vz22 vz23 vz62 vz63 vz64 vz66 vz69 vz70 vz71 vz73 vz112 vz114 vz125 vz130 vz132 vz148 vz150 vz152 vz154 vz163 fo66_0 fo66_1 fo66_2 fo73_0 fo73_1 fo73_2 fo114_0 fo114_1 fo114_2 fo114_3 fo125_0 fo125_1 fo125_2 fo130_0 fo130_1 fo130_2 fo130_3 fo132_0 fo132_1 fo132_2 fo132_3 fo132_4 fo132_5 fo148_0 fo148_1 fo148_2 fo148_3 fo148_4 fo148_5 fo152_0 fo152_1 fo152_2 fo152_3 fo154_0 fo154_1 fo154_2 fo154_3 fo163_0 fo163_1 fo163_2 bo9_22 bo3_23 bo132_69 bo114_70 bo130_71 bo125_112 zc3 zc9 zc73 zc114 zc125 zc130 zc132 eqt125 dv3 dv4 dv6 ba_empty
end Go.Proofs.Ytegeahiflkjhmaa.PFnExactSameProgram
