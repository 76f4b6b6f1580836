/- What values are in cells; facts on the program's types. No condition. -/
import Derived.Test.YtjjhknklnclokaaGreatChecked
import Derived.KernelRfl
import Derived.Test.YtjjhknklnclokaaGreatStFnExactStepThread
import Derived.Test.YtjjhknklnclokaaGreatA5
open Go Go.Proofs Go.Proofs.YtjjhknklnclokaaGreat.Abs
namespace Go.Proofs.YtjjhknklnclokaaGreat.PFnExactStepThread
open Go.RowKit Go.Proofs.YtjjhknklnclokaaGreatW.PrintWords Go.Proofs.YtjjhknklnclokaaGreatW.PrintLast Go.Proofs.YtjjhknklnclokaaGreatW.PrintMore
set_option linter.unusedVariables false
set_option linter.unusedSimpArgs false
set_option maxRecDepth 100000
theorem eI_at (l : List Int) (i : Int) (h0 : 0 ≤ i) (h1 : i < l.length) : idx 1 (List.flatMap eI l) i = some (eI (rd l i)) := idx_map eI_len _ l i h0 h1
theorem eI_gd (l : List Int) (i : Int) : l.getD i.toNat 0 = rd l i := rfl
theorem eI_ln (l : List Int) : (List.flatMap eI l).length = l.length := by rw [len_map eI_len]; exact Nat.mul_one _
theorem eI_row (l : List Int) (n : Nat) (h : n < l.length) : List.take 1 (List.drop (n) (List.flatMap eI l)) = eI (l.getD n 0) := by have := row_map eI_len 0 l n h; simpa using this
theorem eI_cp (l : List Int) : cpyL (List.flatMap eI l) = true := cpyL_map eI_cpy l
theorem eI_nms (l : List Int) : noMutL (List.flatMap eI l) = true := noMutL_map eI_nm l
theorem eI_pu (l : List Int) : pureL (List.flatMap eI l) = true := pureL_map eI_pure l
theorem eI_sh (l : List Int) : shrL (List.flatMap eI l) = List.flatMap eI l := shrL_map eI_shr l
theorem eI_rep (x : Int) (n : Nat) : List.flatMap eI (List.replicate n x) = (List.replicate n (eI x)).flatten := (replicate_map x n).symm
theorem eI_sd (l : List Int) (n : Nat) : List.take ((l.length - n)) (List.drop (n) (List.flatMap eI l)) = List.flatMap eI (l.drop n) := by have := slD_map eI_len l n; simpa using this
theorem eI_st (l : List Int) (n : Nat) : List.take (n) (List.flatMap eI l) = List.flatMap eI (l.take n) := by have := take_map eI_len l n; simpa using this
theorem eI_sb (l : List Int) (h n : Nat) : List.take ((h - n)) (List.drop (n) (List.flatMap eI l)) = List.flatMap eI ((l.drop n).take (h - n)) := by have := slB_map eI_len l h n; simpa using this
theorem eI_set (l : List Int) (n : Nat) (x : Int) (h : n < l.length) : List.flatMap eI (l.set n x) = (List.flatMap eI l).take (n * 1) ++ eI x ++ (List.flatMap eI l).drop ((n + 1) * 1) := (set_map eI_len l n h x).symm
attribute [go_sem] eI_at eI_ln eI_row eI_nms eI_sh eI_rep eI_set eI_sd eI_st eI_sb eI_gd eI_cp eI_pu
theorem eS_at (l : List ByteArray) (i : Int) (h0 : 0 ≤ i) (h1 : i < l.length) : idx 1 (List.flatMap eS l) i = some (eS (rdOf ByteArray.empty l i)) := idx_map eS_len _ l i h0 h1
theorem eS_gd (l : List ByteArray) (i : Int) : l.getD i.toNat ByteArray.empty = rdOf ByteArray.empty l i := rfl
theorem eS_ln (l : List ByteArray) : (List.flatMap eS l).length = l.length := by rw [len_map eS_len]; exact Nat.mul_one _
theorem eS_row (l : List ByteArray) (n : Nat) (h : n < l.length) : List.take 1 (List.drop (n) (List.flatMap eS l)) = eS (l.getD n ByteArray.empty) := by have := row_map eS_len ByteArray.empty l n h; simpa using this
theorem eS_cp (l : List ByteArray) : cpyL (List.flatMap eS l) = true := cpyL_map eS_cpy l
theorem eS_nms (l : List ByteArray) : noMutL (List.flatMap eS l) = true := noMutL_map eS_nm l
theorem eS_pu (l : List ByteArray) : pureL (List.flatMap eS l) = true := pureL_map eS_pure l
theorem eS_sh (l : List ByteArray) : shrL (List.flatMap eS l) = List.flatMap eS l := shrL_map eS_shr l
theorem eS_rep (x : ByteArray) (n : Nat) : List.flatMap eS (List.replicate n x) = (List.replicate n (eS x)).flatten := (replicate_map x n).symm
theorem eS_sd (l : List ByteArray) (n : Nat) : List.take ((l.length - n)) (List.drop (n) (List.flatMap eS l)) = List.flatMap eS (l.drop n) := by have := slD_map eS_len l n; simpa using this
theorem eS_st (l : List ByteArray) (n : Nat) : List.take (n) (List.flatMap eS l) = List.flatMap eS (l.take n) := by have := take_map eS_len l n; simpa using this
theorem eS_sb (l : List ByteArray) (h n : Nat) : List.take ((h - n)) (List.drop (n) (List.flatMap eS l)) = List.flatMap eS ((l.drop n).take (h - n)) := by have := slB_map eS_len l h n; simpa using this
theorem eS_set (l : List ByteArray) (n : Nat) (x : ByteArray) (h : n < l.length) : List.flatMap eS (l.set n x) = (List.flatMap eS l).take (n * 1) ++ eS x ++ (List.flatMap eS l).drop ((n + 1) * 1) := (set_map eS_len l n h x).symm
attribute [go_sem] eS_at eS_ln eS_row eS_nms eS_sh eS_rep eS_set eS_sd eS_st eS_sb eS_gd eS_cp eS_pu
def e99 (x : S99) : List Cell := [.sc (.int .i64 x.f0), .sc (.int .i64 x.f1), .sc (.string x.f2), .sc (.string x.f3), .sc (.string x.f4), .sl none 1 (List.flatMap eI x.f5)]
def o99 (x : S99) : List Cell := [.sc (.int .i64 x.f0), .sc (.int .i64 x.f1), .sc (.string x.f2), .sc (.string x.f3), .sc (.string x.f4), .sl (some 0) 1 (List.flatMap eI x.f5)]
theorem e99_len : ∀ x, (e99 x).length = 6 := fun _ => rfl
theorem e99_nm : ∀ x, noMutL (e99 x) = true := by intro x; simp [e99, go_sem]
theorem e99_cpy : ∀ x, cpyL (e99 x) = true := by intro x; simp [e99, go_sem]
theorem e99_shr : ∀ x, shrL (e99 x) = e99 x := by intro x; simp [e99, go_sem]
theorem e99_at (l : List S99) (i : Int) (h0 : 0 ≤ i) (h1 : i < l.length) : idx 6 (List.flatMap e99 l) i = some (e99 (rd_T99 l i)) := idx_map e99_len _ l i h0 h1
theorem e99_gd (l : List S99) (i : Int) : l.getD i.toNat z99 = rd_T99 l i := rfl
theorem e99_ln (l : List S99) : (List.flatMap e99 l).length = (l.length) * 6 := by rw [len_map e99_len]
theorem e99_row (l : List S99) (n : Nat) (h : n < l.length) : List.take 6 (List.drop ((n) * 6) (List.flatMap e99 l)) = e99 (l.getD n z99) := by have := row_map e99_len z99 l n h; simpa using this
theorem e99_cp (l : List S99) : cpyL (List.flatMap e99 l) = true := cpyL_map e99_cpy l
theorem e99_nms (l : List S99) : noMutL (List.flatMap e99 l) = true := noMutL_map e99_nm l
theorem e99_sh (l : List S99) : shrL (List.flatMap e99 l) = List.flatMap e99 l := shrL_map e99_shr l
theorem e99_rep (x : S99) (n : Nat) : List.flatMap e99 (List.replicate n x) = (List.replicate n (e99 x)).flatten := (replicate_map x n).symm
theorem e99_sd (l : List S99) (n : Nat) : List.take (((l.length - n)) * 6) (List.drop ((n) * 6) (List.flatMap e99 l)) = List.flatMap e99 (l.drop n) := by have := slD_map e99_len l n; simpa using this
theorem e99_st (l : List S99) (n : Nat) : List.take ((n) * 6) (List.flatMap e99 l) = List.flatMap e99 (l.take n) := by have := take_map e99_len l n; simpa using this
theorem e99_sb (l : List S99) (h n : Nat) : List.take (((h - n)) * 6) (List.drop ((n) * 6) (List.flatMap e99 l)) = List.flatMap e99 ((l.drop n).take (h - n)) := by have := slB_map e99_len l h n; simpa using this
theorem e99_set (l : List S99) (n : Nat) (x : S99) (h : n < l.length) : List.flatMap e99 (l.set n x) = (List.flatMap e99 l).take (n * 6) ++ e99 x ++ (List.flatMap e99 l).drop ((n + 1) * 6) := (set_map e99_len l n h x).symm
attribute [go_sem] e99_at e99_ln e99_row e99_nms e99_sh e99_rep e99_set e99_sd e99_st e99_sb e99_gd e99_cp e99
theorem o99_len : ∀ x, (o99 x).length = 6 := fun _ => rfl
theorem o99_nm : ∀ x, noMutL (o99 x) = true := by intro x; simp [o99, go_sem]
theorem o99_shr : ∀ x, shrL (o99 x) = e99 x := by intro x; simp [o99, e99, go_sem]
theorem o99_pure : ∀ x, pureL (o99 x) = true := by intro x; simp [o99, go_sem]
theorem o99_at (l : List S99) (i : Int) (h0 : 0 ≤ i) (h1 : i < l.length) : idx 6 (List.flatMap o99 l) i = some (o99 (rd_T99 l i)) := idx_map o99_len _ l i h0 h1
theorem o99_gd (l : List S99) (i : Int) : l.getD i.toNat z99 = rd_T99 l i := rfl
theorem o99_ln (l : List S99) : (List.flatMap o99 l).length = (l.length) * 6 := by rw [len_map o99_len]
theorem o99_row (l : List S99) (n : Nat) (h : n < l.length) : List.take 6 (List.drop ((n) * 6) (List.flatMap o99 l)) = o99 (l.getD n z99) := by have := row_map o99_len z99 l n h; simpa using this
theorem o99_nms (l : List S99) : noMutL (List.flatMap o99 l) = true := noMutL_map o99_nm l
theorem o99_pu (l : List S99) : pureL (List.flatMap o99 l) = true := pureL_map o99_pure l
theorem o99_sh (l : List S99) : shrL (List.flatMap o99 l) = List.flatMap e99 l := shrL_map o99_shr l
theorem o99_rep (x : S99) (n : Nat) : List.flatMap o99 (List.replicate n x) = (List.replicate n (o99 x)).flatten := (replicate_map x n).symm
theorem o99_sd (l : List S99) (n : Nat) : List.take (((l.length - n)) * 6) (List.drop ((n) * 6) (List.flatMap o99 l)) = List.flatMap o99 (l.drop n) := by have := slD_map o99_len l n; simpa using this
theorem o99_st (l : List S99) (n : Nat) : List.take ((n) * 6) (List.flatMap o99 l) = List.flatMap o99 (l.take n) := by have := take_map o99_len l n; simpa using this
theorem o99_sb (l : List S99) (h n : Nat) : List.take (((h - n)) * 6) (List.drop ((n) * 6) (List.flatMap o99 l)) = List.flatMap o99 ((l.drop n).take (h - n)) := by have := slB_map o99_len l h n; simpa using this
theorem o99_set (l : List S99) (n : Nat) (x : S99) (h : n < l.length) : List.flatMap o99 (l.set n x) = (List.flatMap o99 l).take (n * 6) ++ o99 x ++ (List.flatMap o99 l).drop ((n + 1) * 6) := (set_map o99_len l n h x).symm
attribute [go_sem] o99_at o99_ln o99_row o99_nms o99_sh o99_rep o99_set o99_sd o99_st o99_sb o99_pu o99
def e171 (x : S171) : List Cell := [.sc (.string x.f0), .sc (.string x.f1), .sc (.int .i64 x.f2)]
abbrev o171 := e171
theorem e171_len : ∀ x, (e171 x).length = 3 := fun _ => rfl
theorem e171_nm : ∀ x, noMutL (e171 x) = true := by intro x; simp [e171, go_sem]
theorem e171_cpy : ∀ x, cpyL (e171 x) = true := by intro x; simp [e171, go_sem]
theorem e171_shr : ∀ x, shrL (e171 x) = e171 x := by intro x; simp [e171, go_sem]
theorem e171_pure : ∀ x, pureL (e171 x) = true := by intro x; rfl
theorem e171_at (l : List S171) (i : Int) (h0 : 0 ≤ i) (h1 : i < l.length) : idx 3 (List.flatMap e171 l) i = some (e171 (rd_T171 l i)) := idx_map e171_len _ l i h0 h1
theorem e171_gd (l : List S171) (i : Int) : l.getD i.toNat z171 = rd_T171 l i := rfl
theorem e171_ln (l : List S171) : (List.flatMap e171 l).length = (l.length) * 3 := by rw [len_map e171_len]
theorem e171_row (l : List S171) (n : Nat) (h : n < l.length) : List.take 3 (List.drop ((n) * 3) (List.flatMap e171 l)) = e171 (l.getD n z171) := by have := row_map e171_len z171 l n h; simpa using this
theorem e171_cp (l : List S171) : cpyL (List.flatMap e171 l) = true := cpyL_map e171_cpy l
theorem e171_nms (l : List S171) : noMutL (List.flatMap e171 l) = true := noMutL_map e171_nm l
theorem e171_pu (l : List S171) : pureL (List.flatMap e171 l) = true := pureL_map e171_pure l
theorem e171_sh (l : List S171) : shrL (List.flatMap e171 l) = List.flatMap e171 l := shrL_map e171_shr l
theorem e171_rep (x : S171) (n : Nat) : List.flatMap e171 (List.replicate n x) = (List.replicate n (e171 x)).flatten := (replicate_map x n).symm
theorem e171_sd (l : List S171) (n : Nat) : List.take (((l.length - n)) * 3) (List.drop ((n) * 3) (List.flatMap e171 l)) = List.flatMap e171 (l.drop n) := by have := slD_map e171_len l n; simpa using this
theorem e171_st (l : List S171) (n : Nat) : List.take ((n) * 3) (List.flatMap e171 l) = List.flatMap e171 (l.take n) := by have := take_map e171_len l n; simpa using this
theorem e171_sb (l : List S171) (h n : Nat) : List.take (((h - n)) * 3) (List.drop ((n) * 3) (List.flatMap e171 l)) = List.flatMap e171 ((l.drop n).take (h - n)) := by have := slB_map e171_len l h n; simpa using this
theorem e171_set (l : List S171) (n : Nat) (x : S171) (h : n < l.length) : List.flatMap e171 (l.set n x) = (List.flatMap e171 l).take (n * 3) ++ e171 x ++ (List.flatMap e171 l).drop ((n + 1) * 3) := (set_map e171_len l n h x).symm
attribute [go_sem] e171_at e171_ln e171_row e171_nms e171_sh e171_rep e171_set e171_sd e171_st e171_sb e171_gd e171_cp e171_pu e171
def e103 (x : S103) : List Cell := [.sc (.string x.f0), .sl none 1 (List.flatMap eS x.f1), .sl none 1 (List.flatMap eS x.f2), .sl none 3 (List.flatMap e171 x.f3)]
def o103 (x : S103) : List Cell := [.sc (.string x.f0), .sl (some 0) 1 (List.flatMap eS x.f1), .sl (some 0) 1 (List.flatMap eS x.f2), .sl (some 0) 3 (List.flatMap e171 x.f3)]
theorem e103_len : ∀ x, (e103 x).length = 4 := fun _ => rfl
theorem e103_nm : ∀ x, noMutL (e103 x) = true := by intro x; simp [e103, go_sem]
theorem e103_cpy : ∀ x, cpyL (e103 x) = true := by intro x; simp [e103, go_sem]
theorem e103_shr : ∀ x, shrL (e103 x) = e103 x := by intro x; simp [e103, go_sem]
theorem e103_at (l : List S103) (i : Int) (h0 : 0 ≤ i) (h1 : i < l.length) : idx 4 (List.flatMap e103 l) i = some (e103 (rd_T103 l i)) := idx_map e103_len _ l i h0 h1
theorem e103_gd (l : List S103) (i : Int) : l.getD i.toNat z103 = rd_T103 l i := rfl
theorem e103_ln (l : List S103) : (List.flatMap e103 l).length = (l.length) * 4 := by rw [len_map e103_len]
theorem e103_row (l : List S103) (n : Nat) (h : n < l.length) : List.take 4 (List.drop ((n) * 4) (List.flatMap e103 l)) = e103 (l.getD n z103) := by have := row_map e103_len z103 l n h; simpa using this
theorem e103_cp (l : List S103) : cpyL (List.flatMap e103 l) = true := cpyL_map e103_cpy l
theorem e103_nms (l : List S103) : noMutL (List.flatMap e103 l) = true := noMutL_map e103_nm l
theorem e103_sh (l : List S103) : shrL (List.flatMap e103 l) = List.flatMap e103 l := shrL_map e103_shr l
theorem e103_rep (x : S103) (n : Nat) : List.flatMap e103 (List.replicate n x) = (List.replicate n (e103 x)).flatten := (replicate_map x n).symm
theorem e103_sd (l : List S103) (n : Nat) : List.take (((l.length - n)) * 4) (List.drop ((n) * 4) (List.flatMap e103 l)) = List.flatMap e103 (l.drop n) := by have := slD_map e103_len l n; simpa using this
theorem e103_st (l : List S103) (n : Nat) : List.take ((n) * 4) (List.flatMap e103 l) = List.flatMap e103 (l.take n) := by have := take_map e103_len l n; simpa using this
theorem e103_sb (l : List S103) (h n : Nat) : List.take (((h - n)) * 4) (List.drop ((n) * 4) (List.flatMap e103 l)) = List.flatMap e103 ((l.drop n).take (h - n)) := by have := slB_map e103_len l h n; simpa using this
theorem e103_set (l : List S103) (n : Nat) (x : S103) (h : n < l.length) : List.flatMap e103 (l.set n x) = (List.flatMap e103 l).take (n * 4) ++ e103 x ++ (List.flatMap e103 l).drop ((n + 1) * 4) := (set_map e103_len l n h x).symm
attribute [go_sem] e103_at e103_ln e103_row e103_nms e103_sh e103_rep e103_set e103_sd e103_st e103_sb e103_gd e103_cp e103
theorem o103_len : ∀ x, (o103 x).length = 4 := fun _ => rfl
theorem o103_nm : ∀ x, noMutL (o103 x) = true := by intro x; simp [o103, go_sem]
theorem o103_shr : ∀ x, shrL (o103 x) = e103 x := by intro x; simp [o103, e103, go_sem]
theorem o103_pure : ∀ x, pureL (o103 x) = true := by intro x; simp [o103, go_sem]
theorem o103_at (l : List S103) (i : Int) (h0 : 0 ≤ i) (h1 : i < l.length) : idx 4 (List.flatMap o103 l) i = some (o103 (rd_T103 l i)) := idx_map o103_len _ l i h0 h1
theorem o103_gd (l : List S103) (i : Int) : l.getD i.toNat z103 = rd_T103 l i := rfl
theorem o103_ln (l : List S103) : (List.flatMap o103 l).length = (l.length) * 4 := by rw [len_map o103_len]
theorem o103_row (l : List S103) (n : Nat) (h : n < l.length) : List.take 4 (List.drop ((n) * 4) (List.flatMap o103 l)) = o103 (l.getD n z103) := by have := row_map o103_len z103 l n h; simpa using this
theorem o103_nms (l : List S103) : noMutL (List.flatMap o103 l) = true := noMutL_map o103_nm l
theorem o103_pu (l : List S103) : pureL (List.flatMap o103 l) = true := pureL_map o103_pure l
theorem o103_sh (l : List S103) : shrL (List.flatMap o103 l) = List.flatMap e103 l := shrL_map o103_shr l
theorem o103_rep (x : S103) (n : Nat) : List.flatMap o103 (List.replicate n x) = (List.replicate n (o103 x)).flatten := (replicate_map x n).symm
theorem o103_sd (l : List S103) (n : Nat) : List.take (((l.length - n)) * 4) (List.drop ((n) * 4) (List.flatMap o103 l)) = List.flatMap o103 (l.drop n) := by have := slD_map o103_len l n; simpa using this
theorem o103_st (l : List S103) (n : Nat) : List.take ((n) * 4) (List.flatMap o103 l) = List.flatMap o103 (l.take n) := by have := take_map o103_len l n; simpa using this
theorem o103_sb (l : List S103) (h n : Nat) : List.take (((h - n)) * 4) (List.drop ((n) * 4) (List.flatMap o103 l)) = List.flatMap o103 ((l.drop n).take (h - n)) := by have := slB_map o103_len l h n; simpa using this
theorem o103_set (l : List S103) (n : Nat) (x : S103) (h : n < l.length) : List.flatMap o103 (l.set n x) = (List.flatMap o103 l).take (n * 4) ++ o103 x ++ (List.flatMap o103 l).drop ((n + 1) * 4) := (set_map o103_len l n h x).symm
attribute [go_sem] o103_at o103_ln o103_row o103_nms o103_sh o103_rep o103_set o103_sd o103_st o103_sb o103_pu o103
def e106 (x : S106) : List Cell := [.sc (.string x.f0), .sl none 1 (List.flatMap eS x.f1), .sl none 1 (List.flatMap eS x.f2), .sc (.int .i64 x.f3)]
def o106 (x : S106) : List Cell := [.sc (.string x.f0), .sl (some 0) 1 (List.flatMap eS x.f1), .sl (some 0) 1 (List.flatMap eS x.f2), .sc (.int .i64 x.f3)]
theorem e106_len : ∀ x, (e106 x).length = 4 := fun _ => rfl
theorem e106_nm : ∀ x, noMutL (e106 x) = true := by intro x; simp [e106, go_sem]
theorem e106_cpy : ∀ x, cpyL (e106 x) = true := by intro x; simp [e106, go_sem]
theorem e106_shr : ∀ x, shrL (e106 x) = e106 x := by intro x; simp [e106, go_sem]
theorem e106_at (l : List S106) (i : Int) (h0 : 0 ≤ i) (h1 : i < l.length) : idx 4 (List.flatMap e106 l) i = some (e106 (rd_T106 l i)) := idx_map e106_len _ l i h0 h1
theorem e106_gd (l : List S106) (i : Int) : l.getD i.toNat z106 = rd_T106 l i := rfl
theorem e106_ln (l : List S106) : (List.flatMap e106 l).length = (l.length) * 4 := by rw [len_map e106_len]
theorem e106_row (l : List S106) (n : Nat) (h : n < l.length) : List.take 4 (List.drop ((n) * 4) (List.flatMap e106 l)) = e106 (l.getD n z106) := by have := row_map e106_len z106 l n h; simpa using this
theorem e106_cp (l : List S106) : cpyL (List.flatMap e106 l) = true := cpyL_map e106_cpy l
theorem e106_nms (l : List S106) : noMutL (List.flatMap e106 l) = true := noMutL_map e106_nm l
theorem e106_sh (l : List S106) : shrL (List.flatMap e106 l) = List.flatMap e106 l := shrL_map e106_shr l
theorem e106_rep (x : S106) (n : Nat) : List.flatMap e106 (List.replicate n x) = (List.replicate n (e106 x)).flatten := (replicate_map x n).symm
theorem e106_sd (l : List S106) (n : Nat) : List.take (((l.length - n)) * 4) (List.drop ((n) * 4) (List.flatMap e106 l)) = List.flatMap e106 (l.drop n) := by have := slD_map e106_len l n; simpa using this
theorem e106_st (l : List S106) (n : Nat) : List.take ((n) * 4) (List.flatMap e106 l) = List.flatMap e106 (l.take n) := by have := take_map e106_len l n; simpa using this
theorem e106_sb (l : List S106) (h n : Nat) : List.take (((h - n)) * 4) (List.drop ((n) * 4) (List.flatMap e106 l)) = List.flatMap e106 ((l.drop n).take (h - n)) := by have := slB_map e106_len l h n; simpa using this
theorem e106_set (l : List S106) (n : Nat) (x : S106) (h : n < l.length) : List.flatMap e106 (l.set n x) = (List.flatMap e106 l).take (n * 4) ++ e106 x ++ (List.flatMap e106 l).drop ((n + 1) * 4) := (set_map e106_len l n h x).symm
attribute [go_sem] e106_at e106_ln e106_row e106_nms e106_sh e106_rep e106_set e106_sd e106_st e106_sb e106_gd e106_cp e106
theorem o106_len : ∀ x, (o106 x).length = 4 := fun _ => rfl
theorem o106_nm : ∀ x, noMutL (o106 x) = true := by intro x; simp [o106, go_sem]
theorem o106_shr : ∀ x, shrL (o106 x) = e106 x := by intro x; simp [o106, e106, go_sem]
theorem o106_pure : ∀ x, pureL (o106 x) = true := by intro x; simp [o106, go_sem]
theorem o106_at (l : List S106) (i : Int) (h0 : 0 ≤ i) (h1 : i < l.length) : idx 4 (List.flatMap o106 l) i = some (o106 (rd_T106 l i)) := idx_map o106_len _ l i h0 h1
theorem o106_gd (l : List S106) (i : Int) : l.getD i.toNat z106 = rd_T106 l i := rfl
theorem o106_ln (l : List S106) : (List.flatMap o106 l).length = (l.length) * 4 := by rw [len_map o106_len]
theorem o106_row (l : List S106) (n : Nat) (h : n < l.length) : List.take 4 (List.drop ((n) * 4) (List.flatMap o106 l)) = o106 (l.getD n z106) := by have := row_map o106_len z106 l n h; simpa using this
theorem o106_nms (l : List S106) : noMutL (List.flatMap o106 l) = true := noMutL_map o106_nm l
theorem o106_pu (l : List S106) : pureL (List.flatMap o106 l) = true := pureL_map o106_pure l
theorem o106_sh (l : List S106) : shrL (List.flatMap o106 l) = List.flatMap e106 l := shrL_map o106_shr l
theorem o106_rep (x : S106) (n : Nat) : List.flatMap o106 (List.replicate n x) = (List.replicate n (o106 x)).flatten := (replicate_map x n).symm
theorem o106_sd (l : List S106) (n : Nat) : List.take (((l.length - n)) * 4) (List.drop ((n) * 4) (List.flatMap o106 l)) = List.flatMap o106 (l.drop n) := by have := slD_map o106_len l n; simpa using this
theorem o106_st (l : List S106) (n : Nat) : List.take ((n) * 4) (List.flatMap o106 l) = List.flatMap o106 (l.take n) := by have := take_map o106_len l n; simpa using this
theorem o106_sb (l : List S106) (h n : Nat) : List.take (((h - n)) * 4) (List.drop ((n) * 4) (List.flatMap o106 l)) = List.flatMap o106 ((l.drop n).take (h - n)) := by have := slB_map o106_len l h n; simpa using this
theorem o106_set (l : List S106) (n : Nat) (x : S106) (h : n < l.length) : List.flatMap o106 (l.set n x) = (List.flatMap o106 l).take (n * 4) ++ o106 x ++ (List.flatMap o106 l).drop ((n + 1) * 4) := (set_map o106_len l n h x).symm
attribute [go_sem] o106_at o106_ln o106_row o106_nms o106_sh o106_rep o106_set o106_sd o106_st o106_sb o106_pu o106
def e71 (x : S71) : List Cell := [.sc (.int .i64 x.f0), .sc (.int .i64 x.f1), .sc (.string x.f2), .sc (.string x.f3), .sc (.string x.f4), .sl none 1 (List.flatMap eI x.f5)]
def o71 (x : S71) : List Cell := [.sc (.int .i64 x.f0), .sc (.int .i64 x.f1), .sc (.string x.f2), .sc (.string x.f3), .sc (.string x.f4), .sl (some 0) 1 (List.flatMap eI x.f5)]
theorem e71_len : ∀ x, (e71 x).length = 6 := fun _ => rfl
theorem e71_nm : ∀ x, noMutL (e71 x) = true := by intro x; simp [e71, go_sem]
theorem e71_cpy : ∀ x, cpyL (e71 x) = true := by intro x; simp [e71, go_sem]
theorem e71_shr : ∀ x, shrL (e71 x) = e71 x := by intro x; simp [e71, go_sem]
theorem e71_at (l : List S71) (i : Int) (h0 : 0 ≤ i) (h1 : i < l.length) : idx 6 (List.flatMap e71 l) i = some (e71 (rd_T71 l i)) := idx_map e71_len _ l i h0 h1
theorem e71_gd (l : List S71) (i : Int) : l.getD i.toNat z71 = rd_T71 l i := rfl
theorem e71_ln (l : List S71) : (List.flatMap e71 l).length = (l.length) * 6 := by rw [len_map e71_len]
theorem e71_row (l : List S71) (n : Nat) (h : n < l.length) : List.take 6 (List.drop ((n) * 6) (List.flatMap e71 l)) = e71 (l.getD n z71) := by have := row_map e71_len z71 l n h; simpa using this
theorem e71_cp (l : List S71) : cpyL (List.flatMap e71 l) = true := cpyL_map e71_cpy l
theorem e71_nms (l : List S71) : noMutL (List.flatMap e71 l) = true := noMutL_map e71_nm l
theorem e71_sh (l : List S71) : shrL (List.flatMap e71 l) = List.flatMap e71 l := shrL_map e71_shr l
theorem e71_rep (x : S71) (n : Nat) : List.flatMap e71 (List.replicate n x) = (List.replicate n (e71 x)).flatten := (replicate_map x n).symm
theorem e71_sd (l : List S71) (n : Nat) : List.take (((l.length - n)) * 6) (List.drop ((n) * 6) (List.flatMap e71 l)) = List.flatMap e71 (l.drop n) := by have := slD_map e71_len l n; simpa using this
theorem e71_st (l : List S71) (n : Nat) : List.take ((n) * 6) (List.flatMap e71 l) = List.flatMap e71 (l.take n) := by have := take_map e71_len l n; simpa using this
theorem e71_sb (l : List S71) (h n : Nat) : List.take (((h - n)) * 6) (List.drop ((n) * 6) (List.flatMap e71 l)) = List.flatMap e71 ((l.drop n).take (h - n)) := by have := slB_map e71_len l h n; simpa using this
theorem e71_set (l : List S71) (n : Nat) (x : S71) (h : n < l.length) : List.flatMap e71 (l.set n x) = (List.flatMap e71 l).take (n * 6) ++ e71 x ++ (List.flatMap e71 l).drop ((n + 1) * 6) := (set_map e71_len l n h x).symm
attribute [go_sem] e71_at e71_ln e71_row e71_nms e71_sh e71_rep e71_set e71_sd e71_st e71_sb e71_gd e71_cp e71
theorem o71_len : ∀ x, (o71 x).length = 6 := fun _ => rfl
theorem o71_nm : ∀ x, noMutL (o71 x) = true := by intro x; simp [o71, go_sem]
theorem o71_shr : ∀ x, shrL (o71 x) = e71 x := by intro x; simp [o71, e71, go_sem]
theorem o71_pure : ∀ x, pureL (o71 x) = true := by intro x; simp [o71, go_sem]
theorem o71_at (l : List S71) (i : Int) (h0 : 0 ≤ i) (h1 : i < l.length) : idx 6 (List.flatMap o71 l) i = some (o71 (rd_T71 l i)) := idx_map o71_len _ l i h0 h1
theorem o71_gd (l : List S71) (i : Int) : l.getD i.toNat z71 = rd_T71 l i := rfl
theorem o71_ln (l : List S71) : (List.flatMap o71 l).length = (l.length) * 6 := by rw [len_map o71_len]
theorem o71_row (l : List S71) (n : Nat) (h : n < l.length) : List.take 6 (List.drop ((n) * 6) (List.flatMap o71 l)) = o71 (l.getD n z71) := by have := row_map o71_len z71 l n h; simpa using this
theorem o71_nms (l : List S71) : noMutL (List.flatMap o71 l) = true := noMutL_map o71_nm l
theorem o71_pu (l : List S71) : pureL (List.flatMap o71 l) = true := pureL_map o71_pure l
theorem o71_sh (l : List S71) : shrL (List.flatMap o71 l) = List.flatMap e71 l := shrL_map o71_shr l
theorem o71_rep (x : S71) (n : Nat) : List.flatMap o71 (List.replicate n x) = (List.replicate n (o71 x)).flatten := (replicate_map x n).symm
theorem o71_sd (l : List S71) (n : Nat) : List.take (((l.length - n)) * 6) (List.drop ((n) * 6) (List.flatMap o71 l)) = List.flatMap o71 (l.drop n) := by have := slD_map o71_len l n; simpa using this
theorem o71_st (l : List S71) (n : Nat) : List.take ((n) * 6) (List.flatMap o71 l) = List.flatMap o71 (l.take n) := by have := take_map o71_len l n; simpa using this
theorem o71_sb (l : List S71) (h n : Nat) : List.take (((h - n)) * 6) (List.drop ((n) * 6) (List.flatMap o71 l)) = List.flatMap o71 ((l.drop n).take (h - n)) := by have := slB_map o71_len l h n; simpa using this
theorem o71_set (l : List S71) (n : Nat) (x : S71) (h : n < l.length) : List.flatMap o71 (l.set n x) = (List.flatMap o71 l).take (n * 6) ++ o71 x ++ (List.flatMap o71 l).drop ((n + 1) * 6) := (set_map o71_len l n h x).symm
attribute [go_sem] o71_at o71_ln o71_row o71_nms o71_sh o71_rep o71_set o71_sd o71_st o71_sb o71_pu o71
def e113 (x : S113) : List Cell := [.sc (.string x.f0), .sc (.string x.f1), .sc (.int .i64 x.f2)]
abbrev o113 := e113
theorem e113_len : ∀ x, (e113 x).length = 3 := fun _ => rfl
theorem e113_nm : ∀ x, noMutL (e113 x) = true := by intro x; simp [e113, go_sem]
theorem e113_cpy : ∀ x, cpyL (e113 x) = true := by intro x; simp [e113, go_sem]
theorem e113_shr : ∀ x, shrL (e113 x) = e113 x := by intro x; simp [e113, go_sem]
theorem e113_pure : ∀ x, pureL (e113 x) = true := by intro x; rfl
theorem e113_at (l : List S113) (i : Int) (h0 : 0 ≤ i) (h1 : i < l.length) : idx 3 (List.flatMap e113 l) i = some (e113 (rd_T113 l i)) := idx_map e113_len _ l i h0 h1
theorem e113_gd (l : List S113) (i : Int) : l.getD i.toNat z113 = rd_T113 l i := rfl
theorem e113_ln (l : List S113) : (List.flatMap e113 l).length = (l.length) * 3 := by rw [len_map e113_len]
theorem e113_row (l : List S113) (n : Nat) (h : n < l.length) : List.take 3 (List.drop ((n) * 3) (List.flatMap e113 l)) = e113 (l.getD n z113) := by have := row_map e113_len z113 l n h; simpa using this
theorem e113_cp (l : List S113) : cpyL (List.flatMap e113 l) = true := cpyL_map e113_cpy l
theorem e113_nms (l : List S113) : noMutL (List.flatMap e113 l) = true := noMutL_map e113_nm l
theorem e113_pu (l : List S113) : pureL (List.flatMap e113 l) = true := pureL_map e113_pure l
theorem e113_sh (l : List S113) : shrL (List.flatMap e113 l) = List.flatMap e113 l := shrL_map e113_shr l
theorem e113_rep (x : S113) (n : Nat) : List.flatMap e113 (List.replicate n x) = (List.replicate n (e113 x)).flatten := (replicate_map x n).symm
theorem e113_sd (l : List S113) (n : Nat) : List.take (((l.length - n)) * 3) (List.drop ((n) * 3) (List.flatMap e113 l)) = List.flatMap e113 (l.drop n) := by have := slD_map e113_len l n; simpa using this
theorem e113_st (l : List S113) (n : Nat) : List.take ((n) * 3) (List.flatMap e113 l) = List.flatMap e113 (l.take n) := by have := take_map e113_len l n; simpa using this
theorem e113_sb (l : List S113) (h n : Nat) : List.take (((h - n)) * 3) (List.drop ((n) * 3) (List.flatMap e113 l)) = List.flatMap e113 ((l.drop n).take (h - n)) := by have := slB_map e113_len l h n; simpa using this
theorem e113_set (l : List S113) (n : Nat) (x : S113) (h : n < l.length) : List.flatMap e113 (l.set n x) = (List.flatMap e113 l).take (n * 3) ++ e113 x ++ (List.flatMap e113 l).drop ((n + 1) * 3) := (set_map e113_len l n h x).symm
attribute [go_sem] e113_at e113_ln e113_row e113_nms e113_sh e113_rep e113_set e113_sd e113_st e113_sb e113_gd e113_cp e113_pu e113
def e111 (x : S111) : List Cell := [.sc (.string x.f0), .sl none 1 (List.flatMap eS x.f1), .sl none 1 (List.flatMap eS x.f2), .sl none 3 (List.flatMap e113 x.f3)]
def o111 (x : S111) : List Cell := [.sc (.string x.f0), .sl (some 0) 1 (List.flatMap eS x.f1), .sl (some 0) 1 (List.flatMap eS x.f2), .sl (some 0) 3 (List.flatMap e113 x.f3)]
theorem e111_len : ∀ x, (e111 x).length = 4 := fun _ => rfl
theorem e111_nm : ∀ x, noMutL (e111 x) = true := by intro x; simp [e111, go_sem]
theorem e111_cpy : ∀ x, cpyL (e111 x) = true := by intro x; simp [e111, go_sem]
theorem e111_shr : ∀ x, shrL (e111 x) = e111 x := by intro x; simp [e111, go_sem]
theorem e111_at (l : List S111) (i : Int) (h0 : 0 ≤ i) (h1 : i < l.length) : idx 4 (List.flatMap e111 l) i = some (e111 (rd_T111 l i)) := idx_map e111_len _ l i h0 h1
theorem e111_gd (l : List S111) (i : Int) : l.getD i.toNat z111 = rd_T111 l i := rfl
theorem e111_ln (l : List S111) : (List.flatMap e111 l).length = (l.length) * 4 := by rw [len_map e111_len]
theorem e111_row (l : List S111) (n : Nat) (h : n < l.length) : List.take 4 (List.drop ((n) * 4) (List.flatMap e111 l)) = e111 (l.getD n z111) := by have := row_map e111_len z111 l n h; simpa using this
theorem e111_cp (l : List S111) : cpyL (List.flatMap e111 l) = true := cpyL_map e111_cpy l
theorem e111_nms (l : List S111) : noMutL (List.flatMap e111 l) = true := noMutL_map e111_nm l
theorem e111_sh (l : List S111) : shrL (List.flatMap e111 l) = List.flatMap e111 l := shrL_map e111_shr l
theorem e111_rep (x : S111) (n : Nat) : List.flatMap e111 (List.replicate n x) = (List.replicate n (e111 x)).flatten := (replicate_map x n).symm
theorem e111_sd (l : List S111) (n : Nat) : List.take (((l.length - n)) * 4) (List.drop ((n) * 4) (List.flatMap e111 l)) = List.flatMap e111 (l.drop n) := by have := slD_map e111_len l n; simpa using this
theorem e111_st (l : List S111) (n : Nat) : List.take ((n) * 4) (List.flatMap e111 l) = List.flatMap e111 (l.take n) := by have := take_map e111_len l n; simpa using this
theorem e111_sb (l : List S111) (h n : Nat) : List.take (((h - n)) * 4) (List.drop ((n) * 4) (List.flatMap e111 l)) = List.flatMap e111 ((l.drop n).take (h - n)) := by have := slB_map e111_len l h n; simpa using this
theorem e111_set (l : List S111) (n : Nat) (x : S111) (h : n < l.length) : List.flatMap e111 (l.set n x) = (List.flatMap e111 l).take (n * 4) ++ e111 x ++ (List.flatMap e111 l).drop ((n + 1) * 4) := (set_map e111_len l n h x).symm
attribute [go_sem] e111_at e111_ln e111_row e111_nms e111_sh e111_rep e111_set e111_sd e111_st e111_sb e111_gd e111_cp e111
theorem o111_len : ∀ x, (o111 x).length = 4 := fun _ => rfl
theorem o111_nm : ∀ x, noMutL (o111 x) = true := by intro x; simp [o111, go_sem]
theorem o111_shr : ∀ x, shrL (o111 x) = e111 x := by intro x; simp [o111, e111, go_sem]
theorem o111_pure : ∀ x, pureL (o111 x) = true := by intro x; simp [o111, go_sem]
theorem o111_at (l : List S111) (i : Int) (h0 : 0 ≤ i) (h1 : i < l.length) : idx 4 (List.flatMap o111 l) i = some (o111 (rd_T111 l i)) := idx_map o111_len _ l i h0 h1
theorem o111_gd (l : List S111) (i : Int) : l.getD i.toNat z111 = rd_T111 l i := rfl
theorem o111_ln (l : List S111) : (List.flatMap o111 l).length = (l.length) * 4 := by rw [len_map o111_len]
theorem o111_row (l : List S111) (n : Nat) (h : n < l.length) : List.take 4 (List.drop ((n) * 4) (List.flatMap o111 l)) = o111 (l.getD n z111) := by have := row_map o111_len z111 l n h; simpa using this
theorem o111_nms (l : List S111) : noMutL (List.flatMap o111 l) = true := noMutL_map o111_nm l
theorem o111_pu (l : List S111) : pureL (List.flatMap o111 l) = true := pureL_map o111_pure l
theorem o111_sh (l : List S111) : shrL (List.flatMap o111 l) = List.flatMap e111 l := shrL_map o111_shr l
theorem o111_rep (x : S111) (n : Nat) : List.flatMap o111 (List.replicate n x) = (List.replicate n (o111 x)).flatten := (replicate_map x n).symm
theorem o111_sd (l : List S111) (n : Nat) : List.take (((l.length - n)) * 4) (List.drop ((n) * 4) (List.flatMap o111 l)) = List.flatMap o111 (l.drop n) := by have := slD_map o111_len l n; simpa using this
theorem o111_st (l : List S111) (n : Nat) : List.take ((n) * 4) (List.flatMap o111 l) = List.flatMap o111 (l.take n) := by have := take_map o111_len l n; simpa using this
theorem o111_sb (l : List S111) (h n : Nat) : List.take (((h - n)) * 4) (List.drop ((n) * 4) (List.flatMap o111 l)) = List.flatMap o111 ((l.drop n).take (h - n)) := by have := slB_map o111_len l h n; simpa using this
theorem o111_set (l : List S111) (n : Nat) (x : S111) (h : n < l.length) : List.flatMap o111 (l.set n x) = (List.flatMap o111 l).take (n * 4) ++ o111 x ++ (List.flatMap o111 l).drop ((n + 1) * 4) := (set_map o111_len l n h x).symm
attribute [go_sem] o111_at o111_ln o111_row o111_nms o111_sh o111_rep o111_set o111_sd o111_st o111_sb o111_pu o111
def e115 (x : S115) : List Cell := [.sc (.string x.f0), .sl none 1 (List.flatMap eS x.f1), .sl none 1 (List.flatMap eS x.f2), .sc (.int .i64 x.f3)]
def o115 (x : S115) : List Cell := [.sc (.string x.f0), .sl (some 0) 1 (List.flatMap eS x.f1), .sl (some 0) 1 (List.flatMap eS x.f2), .sc (.int .i64 x.f3)]
theorem e115_len : ∀ x, (e115 x).length = 4 := fun _ => rfl
theorem e115_nm : ∀ x, noMutL (e115 x) = true := by intro x; simp [e115, go_sem]
theorem e115_cpy : ∀ x, cpyL (e115 x) = true := by intro x; simp [e115, go_sem]
theorem e115_shr : ∀ x, shrL (e115 x) = e115 x := by intro x; simp [e115, go_sem]
theorem e115_at (l : List S115) (i : Int) (h0 : 0 ≤ i) (h1 : i < l.length) : idx 4 (List.flatMap e115 l) i = some (e115 (rd_T115 l i)) := idx_map e115_len _ l i h0 h1
theorem e115_gd (l : List S115) (i : Int) : l.getD i.toNat z115 = rd_T115 l i := rfl
theorem e115_ln (l : List S115) : (List.flatMap e115 l).length = (l.length) * 4 := by rw [len_map e115_len]
theorem e115_row (l : List S115) (n : Nat) (h : n < l.length) : List.take 4 (List.drop ((n) * 4) (List.flatMap e115 l)) = e115 (l.getD n z115) := by have := row_map e115_len z115 l n h; simpa using this
theorem e115_cp (l : List S115) : cpyL (List.flatMap e115 l) = true := cpyL_map e115_cpy l
theorem e115_nms (l : List S115) : noMutL (List.flatMap e115 l) = true := noMutL_map e115_nm l
theorem e115_sh (l : List S115) : shrL (List.flatMap e115 l) = List.flatMap e115 l := shrL_map e115_shr l
theorem e115_rep (x : S115) (n : Nat) : List.flatMap e115 (List.replicate n x) = (List.replicate n (e115 x)).flatten := (replicate_map x n).symm
theorem e115_sd (l : List S115) (n : Nat) : List.take (((l.length - n)) * 4) (List.drop ((n) * 4) (List.flatMap e115 l)) = List.flatMap e115 (l.drop n) := by have := slD_map e115_len l n; simpa using this
theorem e115_st (l : List S115) (n : Nat) : List.take ((n) * 4) (List.flatMap e115 l) = List.flatMap e115 (l.take n) := by have := take_map e115_len l n; simpa using this
theorem e115_sb (l : List S115) (h n : Nat) : List.take (((h - n)) * 4) (List.drop ((n) * 4) (List.flatMap e115 l)) = List.flatMap e115 ((l.drop n).take (h - n)) := by have := slB_map e115_len l h n; simpa using this
theorem e115_set (l : List S115) (n : Nat) (x : S115) (h : n < l.length) : List.flatMap e115 (l.set n x) = (List.flatMap e115 l).take (n * 4) ++ e115 x ++ (List.flatMap e115 l).drop ((n + 1) * 4) := (set_map e115_len l n h x).symm
attribute [go_sem] e115_at e115_ln e115_row e115_nms e115_sh e115_rep e115_set e115_sd e115_st e115_sb e115_gd e115_cp e115
theorem o115_len : ∀ x, (o115 x).length = 4 := fun _ => rfl
theorem o115_nm : ∀ x, noMutL (o115 x) = true := by intro x; simp [o115, go_sem]
theorem o115_shr : ∀ x, shrL (o115 x) = e115 x := by intro x; simp [o115, e115, go_sem]
theorem o115_pure : ∀ x, pureL (o115 x) = true := by intro x; simp [o115, go_sem]
theorem o115_at (l : List S115) (i : Int) (h0 : 0 ≤ i) (h1 : i < l.length) : idx 4 (List.flatMap o115 l) i = some (o115 (rd_T115 l i)) := idx_map o115_len _ l i h0 h1
theorem o115_gd (l : List S115) (i : Int) : l.getD i.toNat z115 = rd_T115 l i := rfl
theorem o115_ln (l : List S115) : (List.flatMap o115 l).length = (l.length) * 4 := by rw [len_map o115_len]
theorem o115_row (l : List S115) (n : Nat) (h : n < l.length) : List.take 4 (List.drop ((n) * 4) (List.flatMap o115 l)) = o115 (l.getD n z115) := by have := row_map o115_len z115 l n h; simpa using this
theorem o115_nms (l : List S115) : noMutL (List.flatMap o115 l) = true := noMutL_map o115_nm l
theorem o115_pu (l : List S115) : pureL (List.flatMap o115 l) = true := pureL_map o115_pure l
theorem o115_sh (l : List S115) : shrL (List.flatMap o115 l) = List.flatMap e115 l := shrL_map o115_shr l
theorem o115_rep (x : S115) (n : Nat) : List.flatMap o115 (List.replicate n x) = (List.replicate n (o115 x)).flatten := (replicate_map x n).symm
theorem o115_sd (l : List S115) (n : Nat) : List.take (((l.length - n)) * 4) (List.drop ((n) * 4) (List.flatMap o115 l)) = List.flatMap o115 (l.drop n) := by have := slD_map o115_len l n; simpa using this
theorem o115_st (l : List S115) (n : Nat) : List.take ((n) * 4) (List.flatMap o115 l) = List.flatMap o115 (l.take n) := by have := take_map o115_len l n; simpa using this
theorem o115_sb (l : List S115) (h n : Nat) : List.take (((h - n)) * 4) (List.drop ((n) * 4) (List.flatMap o115 l)) = List.flatMap o115 ((l.drop n).take (h - n)) := by have := slB_map o115_len l h n; simpa using this
theorem o115_set (l : List S115) (n : Nat) (x : S115) (h : n < l.length) : List.flatMap o115 (l.set n x) = (List.flatMap o115 l).take (n * 4) ++ o115 x ++ (List.flatMap o115 l).drop ((n + 1) * 4) := (set_map o115_len l n h x).symm
attribute [go_sem] o115_at o115_ln o115_row o115_nms o115_sh o115_rep o115_set o115_sd o115_st o115_sb o115_pu o115
theorem es9 : elemSz Tryz.prog 9 = none := by kernel_rfl
theorem is9 : isStr Tryz.prog 9 = true := by kernel_rfl
theorem es22 : elemSz Tryz.prog 22 = some 6 := by kernel_rfl
theorem es23 : elemSz Tryz.prog 23 = some 4 := by kernel_rfl
theorem es24 : elemSz Tryz.prog 24 = some 4 := by kernel_rfl
theorem es29 : elemSz Tryz.prog 29 = some 6 := by kernel_rfl
theorem es30 : elemSz Tryz.prog 30 = some 4 := by kernel_rfl
theorem es31 : elemSz Tryz.prog 31 = some 4 := by kernel_rfl
theorem es38 : elemSz Tryz.prog 38 = some 1 := by kernel_rfl
theorem es39 : elemSz Tryz.prog 39 = some 1 := by kernel_rfl
theorem es101 : elemSz Tryz.prog 101 = some 3 := by kernel_rfl
theorem es109 : elemSz Tryz.prog 109 = some 3 := by kernel_rfl
theorem es169 : elemSz Tryz.prog 169 = some 1 := by kernel_rfl
theorem vz3 : vsz Tryz.prog 3 = some (false, 1) := by kernel_rfl
theorem vz9 : vsz Tryz.prog 9 = some (false, 1) := by kernel_rfl
theorem vz22 : vsz Tryz.prog 22 = some (false, 1) := by kernel_rfl
theorem vz23 : vsz Tryz.prog 23 = some (false, 1) := by kernel_rfl
theorem vz24 : vsz Tryz.prog 24 = some (false, 1) := by kernel_rfl
theorem vz26 : vsz Tryz.prog 26 = some (true, 3) := by kernel_rfl
theorem vz29 : vsz Tryz.prog 29 = some (false, 1) := by kernel_rfl
theorem vz30 : vsz Tryz.prog 30 = some (false, 1) := by kernel_rfl
theorem vz31 : vsz Tryz.prog 31 = some (false, 1) := by kernel_rfl
theorem vz33 : vsz Tryz.prog 33 = some (true, 3) := by kernel_rfl
theorem vz38 : vsz Tryz.prog 38 = some (false, 1) := by kernel_rfl
theorem vz39 : vsz Tryz.prog 39 = some (false, 1) := by kernel_rfl
theorem vz41 : vsz Tryz.prog 41 = some (true, 2) := by kernel_rfl
theorem vz43 : vsz Tryz.prog 43 = some (true, 4) := by kernel_rfl
theorem vz45 : vsz Tryz.prog 45 = some (true, 2) := by kernel_rfl
theorem vz47 : vsz Tryz.prog 47 = some (true, 4) := by kernel_rfl
theorem vz71 : vsz Tryz.prog 71 = some (true, 6) := by kernel_rfl
theorem vz99 : vsz Tryz.prog 99 = some (true, 6) := by kernel_rfl
theorem vz101 : vsz Tryz.prog 101 = some (false, 1) := by kernel_rfl
theorem vz103 : vsz Tryz.prog 103 = some (true, 4) := by kernel_rfl
theorem vz106 : vsz Tryz.prog 106 = some (true, 4) := by kernel_rfl
theorem vz109 : vsz Tryz.prog 109 = some (false, 1) := by kernel_rfl
theorem vz111 : vsz Tryz.prog 111 = some (true, 4) := by kernel_rfl
theorem vz113 : vsz Tryz.prog 113 = some (true, 3) := by kernel_rfl
theorem vz115 : vsz Tryz.prog 115 = some (true, 4) := by kernel_rfl
theorem vz171 : vsz Tryz.prog 171 = some (true, 3) := by kernel_rfl
theorem fo26_0 : fldOff Tryz.prog 26 0 = some 0 := by kernel_rfl
theorem fo26_1 : fldOff Tryz.prog 26 1 = some 1 := by kernel_rfl
theorem fo26_2 : fldOff Tryz.prog 26 2 = some 2 := by kernel_rfl
theorem fo33_0 : fldOff Tryz.prog 33 0 = some 0 := by kernel_rfl
theorem fo33_1 : fldOff Tryz.prog 33 1 = some 1 := by kernel_rfl
theorem fo33_2 : fldOff Tryz.prog 33 2 = some 2 := by kernel_rfl
theorem fo41_0 : fldOff Tryz.prog 41 0 = some 0 := by kernel_rfl
theorem fo41_1 : fldOff Tryz.prog 41 1 = some 1 := by kernel_rfl
theorem fo43_0 : fldOff Tryz.prog 43 0 = some 0 := by kernel_rfl
theorem fo43_1 : fldOff Tryz.prog 43 1 = some 1 := by kernel_rfl
theorem fo43_2 : fldOff Tryz.prog 43 2 = some 3 := by kernel_rfl
theorem fo45_0 : fldOff Tryz.prog 45 0 = some 0 := by kernel_rfl
theorem fo45_1 : fldOff Tryz.prog 45 1 = some 1 := by kernel_rfl
theorem fo47_0 : fldOff Tryz.prog 47 0 = some 0 := by kernel_rfl
theorem fo47_1 : fldOff Tryz.prog 47 1 = some 1 := by kernel_rfl
theorem fo47_2 : fldOff Tryz.prog 47 2 = some 3 := by kernel_rfl
theorem fo71_0 : fldOff Tryz.prog 71 0 = some 0 := by kernel_rfl
theorem fo71_1 : fldOff Tryz.prog 71 1 = some 1 := by kernel_rfl
theorem fo71_2 : fldOff Tryz.prog 71 2 = some 2 := by kernel_rfl
theorem fo71_3 : fldOff Tryz.prog 71 3 = some 3 := by kernel_rfl
theorem fo71_4 : fldOff Tryz.prog 71 4 = some 4 := by kernel_rfl
theorem fo71_5 : fldOff Tryz.prog 71 5 = some 5 := by kernel_rfl
theorem fo99_0 : fldOff Tryz.prog 99 0 = some 0 := by kernel_rfl
theorem fo99_1 : fldOff Tryz.prog 99 1 = some 1 := by kernel_rfl
theorem fo99_2 : fldOff Tryz.prog 99 2 = some 2 := by kernel_rfl
theorem fo99_3 : fldOff Tryz.prog 99 3 = some 3 := by kernel_rfl
theorem fo99_4 : fldOff Tryz.prog 99 4 = some 4 := by kernel_rfl
theorem fo99_5 : fldOff Tryz.prog 99 5 = some 5 := by kernel_rfl
theorem fo103_0 : fldOff Tryz.prog 103 0 = some 0 := by kernel_rfl
theorem fo103_1 : fldOff Tryz.prog 103 1 = some 1 := by kernel_rfl
theorem fo103_2 : fldOff Tryz.prog 103 2 = some 2 := by kernel_rfl
theorem fo103_3 : fldOff Tryz.prog 103 3 = some 3 := by kernel_rfl
theorem fo106_0 : fldOff Tryz.prog 106 0 = some 0 := by kernel_rfl
theorem fo106_1 : fldOff Tryz.prog 106 1 = some 1 := by kernel_rfl
theorem fo106_2 : fldOff Tryz.prog 106 2 = some 2 := by kernel_rfl
theorem fo106_3 : fldOff Tryz.prog 106 3 = some 3 := by kernel_rfl
theorem fo111_0 : fldOff Tryz.prog 111 0 = some 0 := by kernel_rfl
theorem fo111_1 : fldOff Tryz.prog 111 1 = some 1 := by kernel_rfl
theorem fo111_2 : fldOff Tryz.prog 111 2 = some 2 := by kernel_rfl
theorem fo111_3 : fldOff Tryz.prog 111 3 = some 3 := by kernel_rfl
theorem fo113_0 : fldOff Tryz.prog 113 0 = some 0 := by kernel_rfl
theorem fo113_1 : fldOff Tryz.prog 113 1 = some 1 := by kernel_rfl
theorem fo113_2 : fldOff Tryz.prog 113 2 = some 2 := by kernel_rfl
theorem fo115_0 : fldOff Tryz.prog 115 0 = some 0 := by kernel_rfl
theorem fo115_1 : fldOff Tryz.prog 115 1 = some 1 := by kernel_rfl
theorem fo115_2 : fldOff Tryz.prog 115 2 = some 2 := by kernel_rfl
theorem fo115_3 : fldOff Tryz.prog 115 3 = some 3 := by kernel_rfl
theorem fo171_0 : fldOff Tryz.prog 171 0 = some 0 := by kernel_rfl
theorem fo171_1 : fldOff Tryz.prog 171 1 = some 1 := by kernel_rfl
theorem fo171_2 : fldOff Tryz.prog 171 2 = some 2 := by kernel_rfl
theorem bp45 : bplaces Tryz.prog 45 = some [(0, 1), (1, 1)] := by kernel_rfl
attribute [go_sem] bp45
theorem bp47 : bplaces Tryz.prog 47 = some [(0, 1), (1, 2), (3, 1)] := by kernel_rfl
attribute [go_sem] bp47
theorem bp71 : bplaces Tryz.prog 71 = some [(0, 1), (1, 1), (2, 1), (3, 1), (4, 1), (5, 1)] := by kernel_rfl
attribute [go_sem] bp71
attribute [go_sem] Tryz.underlying29
theorem bo71_29 : Tryz.prog.bytesOf 71 = 88 := by kernel_rfl
attribute [go_sem] Tryz.underlying30
theorem bo111_30 : Tryz.prog.bytesOf 111 = 88 := by kernel_rfl
attribute [go_sem] Tryz.underlying31
theorem bo115_31 : Tryz.prog.bytesOf 115 = 72 := by kernel_rfl
attribute [go_sem] Tryz.underlying38
theorem bo3_38 : Tryz.prog.bytesOf 3 = 8 := by kernel_rfl
attribute [go_sem] Tryz.underlying39
theorem bo9_39 : Tryz.prog.bytesOf 9 = 16 := by kernel_rfl
attribute [go_sem] Tryz.underlying109
theorem bo113_109 : Tryz.prog.bytesOf 113 = 40 := by kernel_rfl
attribute [go_sem] Tryz.underlying169
theorem bo5_169 : Tryz.prog.bytesOf 5 = 1 := by kernel_rfl
theorem zc3 : zcell Tryz.prog 3 = some [.sc (.int .i64 0)] := by kernel_rfl
theorem zc5 : zcell Tryz.prog 5 = some [.sc (.int .u8 0)] := by kernel_rfl
theorem zc9 : zcell Tryz.prog 9 = some [.sc (.string .empty)] := by kernel_rfl
theorem zc33 : zcell Tryz.prog 33 = some [.sl (some 0) 6 [], .sl (some 0) 4 [], .sl (some 0) 4 []] := by kernel_rfl
theorem zc45 : zcell Tryz.prog 45 = some [.sl (some 0) 1 [], .sl (some 0) 1 []] := by kernel_rfl
theorem zc47 : zcell Tryz.prog 47 = some [.sl (some 0) 1 [], .sl (some 0) 1 [], .sl (some 0) 1 [], .sc (.int .i64 0)] := by kernel_rfl
theorem zc71 : zcell Tryz.prog 71 = some [.sc (.int .i64 0), .sc (.int .i64 0), .sc (.string .empty), .sc (.string .empty), .sc (.string .empty), .sl (some 0) 1 []] := by kernel_rfl
theorem zc111 : zcell Tryz.prog 111 = some [.sc (.string .empty), .sl (some 0) 1 [], .sl (some 0) 1 [], .sl (some 0) 3 []] := by kernel_rfl
theorem zc113 : zcell Tryz.prog 113 = some [.sc (.string .empty), .sc (.string .empty), .sc (.int .i64 0)] := by kernel_rfl
theorem zc115 : zcell Tryz.prog 115 = some [.sc (.string .empty), .sl (some 0) 1 [], .sl (some 0) 1 [], .sc (.int .i64 0)] := by kernel_rfl
attribute [go_sem] Tryz.underlying3
attribute [go_sem] Tryz.underlying5
attribute [go_sem] Tryz.underlying9
attribute [go_sem] Tryz.underlying169
theorem dv3 (n : Nat) : n * 3 / 3 = n := Nat.mul_div_cancel _ (by decide)
theorem dv4 (n : Nat) : n * 4 / 4 = n := Nat.mul_div_cancel _ (by decide)
theorem dv6 (n : Nat) : n * 6 / 6 = n := Nat.mul_div_cancel _ (by decide)
attribute [go_sem] Nat.div_one
def byteAt (s : ByteArray) (i : Int) : UInt8 := if h : i.toNat < s.size then s[i.toNat] else 0
theorem byteAt_get (s : ByteArray) (i : Int) (h0 : 0 ≤ i) (h1 : i < s.size) : s[i.toNat]? = some (byteAt s i) := by
  have h : i.toNat < s.size := by omega
  rw [getElem?_pos s i.toNat h]
  simp [byteAt, h]
theorem byteAt_bt (s : ByteArray) (i : Int) : ((byteAt s i).toNat : Int) = bt s i := by
  unfold byteAt bt
  split <;> simp
attribute [go_sem] evStrIx
theorem ba_empty : (⟨#[]⟩ : ByteArray) = ByteArray.empty := rfl
attribute [go_sem] z99 z171 z103 z106 z71 z113 z111 z115
theorem mo : Tryz.prog.follows .mixedOrders = true := by kernel_rfl
attribute [go_sem] es9 is9 es22 es23 es24 es29 es30 es31 es38 es39 es101 es109 es169 vz3 vz9 vz22 vz23 vz24 vz26 vz29 vz30 vz31 vz33 vz38 vz39 vz41 vz43 vz45 vz47 vz71 vz99 vz101 vz103 vz106 vz109 vz111 vz113 vz115 vz171 fo26_0 fo26_1 fo26_2 fo33_0 fo33_1 fo33_2 fo41_0 fo41_1 fo43_0 fo43_1 fo43_2 fo45_0 fo45_1 fo47_0 fo47_1 fo47_2 fo71_0 fo71_1 fo71_2 fo71_3 fo71_4 fo71_5 fo99_0 fo99_1 fo99_2 fo99_3 fo99_4 fo99_5 fo103_0 fo103_1 fo103_2 fo103_3 fo106_0 fo106_1 fo106_2 fo106_3 fo111_0 fo111_1 fo111_2 fo111_3 fo113_0 fo113_1 fo113_2 fo115_0 fo115_1 fo115_2 fo115_3 fo171_0 fo171_1 fo171_2 bo71_29 bo111_30 bo115_31 bo3_38 bo9_39 bo113_109 bo5_169 zc3 zc5 zc9 zc33 zc45 zc47 zc71 zc111 zc113 zc115 dv3 dv4 dv6 byteAt_bt byteAt_get ba_empty
theorem eI_per (x : Int) (n : Nat) : (List.replicate n [Cell.sc (.int .i64 x)]).flatten = List.flatMap eI (List.replicate n x) := replicate_map (e := eI) x n
theorem o71_fold (l : List S71) (n : Nat) (y0 : Int) (y1 : Int) (y2 : ByteArray) (y3 : ByteArray) (y4 : ByteArray) (y5 : List Int) (h : n < l.length) : List.take (n * 6) (List.flatMap o71 l) ++ (.sc (.int .i64 y0) :: .sc (.int .i64 y1) :: .sc (.string y2) :: .sc (.string y3) :: .sc (.string y4) :: .sl (some 0) 1 (List.flatMap eI y5) :: List.drop ((n + 1) * 6) (List.flatMap o71 l)) = List.flatMap o71 (l.set n ⟨y0, y1, y2, y3, y4, y5⟩) := by rw [← set_map o71_len l n h]; simp [o71]
theorem o71_fold2 (l : List S71) (n : Nat) (z : S71) (y0 : Int) (y1 : Int) (y2 : ByteArray) (y3 : ByteArray) (y4 : ByteArray) (y5 : List Int) (h : n < l.length) : List.take (n * 6) (List.flatMap o71 (l.set n z)) ++ (.sc (.int .i64 y0) :: .sc (.int .i64 y1) :: .sc (.string y2) :: .sc (.string y3) :: .sc (.string y4) :: .sl (some 0) 1 (List.flatMap eI y5) :: List.drop ((n + 1) * 6) (List.flatMap o71 (l.set n z))) = List.flatMap o71 (l.set n ⟨y0, y1, y2, y3, y4, y5⟩) := by rw [o71_fold _ _ y0 y1 y2 y3 y4 y5 (by rw [List.length_set]; exact h), List.set_set]
theorem o71_ats (l : List S71) (n : Nat) (z : S71) (i : Int) (h0 : 0 ≤ i) (h1 : i < l.length) : idx 6 (List.flatMap o71 (l.set n z)) i = some (o71 (rd_T71 (l.set n z) i)) := o71_at _ i h0 (by rw [List.length_set]; exact h1)
theorem o71_rows (l : List S71) (m n : Nat) (z : S71) (h : n < l.length) : List.take 6 (List.drop ((n) * 6) (List.flatMap o71 (l.set m z))) = o71 ((l.set m z).getD n z71) := o71_row _ n (by rw [List.length_set]; exact h)
theorem o71_get (l : List S71) (n : Nat) (x z : S71) (h : n < l.length) : (l.set n x).getD n z = x := by rw [List.getD_eq_getElem?_getD, List.getElem?_set_self h]; rfl
theorem o71_rd (l : List S71) (i : Int) (x : S71) (h : i.toNat < l.length) : rd_T71 (l.set i.toNat x) i = x := o71_get l i.toNat x _ h
theorem o111_fold (l : List S111) (n : Nat) (y0 : ByteArray) (y1 : List ByteArray) (y2 : List ByteArray) (y3 : List S113) (h : n < l.length) : List.take (n * 4) (List.flatMap o111 l) ++ (.sc (.string y0) :: .sl (some 0) 1 (List.flatMap eS y1) :: .sl (some 0) 1 (List.flatMap eS y2) :: .sl (some 0) 3 (List.flatMap e113 y3) :: List.drop ((n + 1) * 4) (List.flatMap o111 l)) = List.flatMap o111 (l.set n ⟨y0, y1, y2, y3⟩) := by rw [← set_map o111_len l n h]; simp [o111]
theorem o111_fold2 (l : List S111) (n : Nat) (z : S111) (y0 : ByteArray) (y1 : List ByteArray) (y2 : List ByteArray) (y3 : List S113) (h : n < l.length) : List.take (n * 4) (List.flatMap o111 (l.set n z)) ++ (.sc (.string y0) :: .sl (some 0) 1 (List.flatMap eS y1) :: .sl (some 0) 1 (List.flatMap eS y2) :: .sl (some 0) 3 (List.flatMap e113 y3) :: List.drop ((n + 1) * 4) (List.flatMap o111 (l.set n z))) = List.flatMap o111 (l.set n ⟨y0, y1, y2, y3⟩) := by rw [o111_fold _ _ y0 y1 y2 y3 (by rw [List.length_set]; exact h), List.set_set]
theorem o111_ats (l : List S111) (n : Nat) (z : S111) (i : Int) (h0 : 0 ≤ i) (h1 : i < l.length) : idx 4 (List.flatMap o111 (l.set n z)) i = some (o111 (rd_T111 (l.set n z) i)) := o111_at _ i h0 (by rw [List.length_set]; exact h1)
theorem o111_rows (l : List S111) (m n : Nat) (z : S111) (h : n < l.length) : List.take 4 (List.drop ((n) * 4) (List.flatMap o111 (l.set m z))) = o111 ((l.set m z).getD n z111) := o111_row _ n (by rw [List.length_set]; exact h)
theorem o111_get (l : List S111) (n : Nat) (x z : S111) (h : n < l.length) : (l.set n x).getD n z = x := by rw [List.getD_eq_getElem?_getD, List.getElem?_set_self h]; rfl
theorem o111_rd (l : List S111) (i : Int) (x : S111) (h : i.toNat < l.length) : rd_T111 (l.set i.toNat x) i = x := o111_get l i.toNat x _ h
theorem e113_fold (l : List S113) (n : Nat) (y0 : ByteArray) (y1 : ByteArray) (y2 : Int) (h : n < l.length) : List.take (n * 3) (List.flatMap e113 l) ++ (.sc (.string y0) :: .sc (.string y1) :: .sc (.int .i64 y2) :: List.drop ((n + 1) * 3) (List.flatMap e113 l)) = List.flatMap e113 (l.set n ⟨y0, y1, y2⟩) := by rw [← set_map e113_len l n h]; simp [e113]
theorem e113_fold2 (l : List S113) (n : Nat) (z : S113) (y0 : ByteArray) (y1 : ByteArray) (y2 : Int) (h : n < l.length) : List.take (n * 3) (List.flatMap e113 (l.set n z)) ++ (.sc (.string y0) :: .sc (.string y1) :: .sc (.int .i64 y2) :: List.drop ((n + 1) * 3) (List.flatMap e113 (l.set n z))) = List.flatMap e113 (l.set n ⟨y0, y1, y2⟩) := by rw [e113_fold _ _ y0 y1 y2 (by rw [List.length_set]; exact h), List.set_set]
theorem e113_ats (l : List S113) (n : Nat) (z : S113) (i : Int) (h0 : 0 ≤ i) (h1 : i < l.length) : idx 3 (List.flatMap e113 (l.set n z)) i = some (e113 (rd_T113 (l.set n z) i)) := e113_at _ i h0 (by rw [List.length_set]; exact h1)
theorem e113_rows (l : List S113) (m n : Nat) (z : S113) (h : n < l.length) : List.take 3 (List.drop ((n) * 3) (List.flatMap e113 (l.set m z))) = e113 ((l.set m z).getD n z113) := e113_row _ n (by rw [List.length_set]; exact h)
theorem e113_get (l : List S113) (n : Nat) (x z : S113) (h : n < l.length) : (l.set n x).getD n z = x := by rw [List.getD_eq_getElem?_getD, List.getElem?_set_self h]; rfl
theorem e113_rd (l : List S113) (i : Int) (x : S113) (h : i.toNat < l.length) : rd_T113 (l.set i.toNat x) i = x := e113_get l i.toNat x _ h
theorem o115_fold (l : List S115) (n : Nat) (y0 : ByteArray) (y1 : List ByteArray) (y2 : List ByteArray) (y3 : Int) (h : n < l.length) : List.take (n * 4) (List.flatMap o115 l) ++ (.sc (.string y0) :: .sl (some 0) 1 (List.flatMap eS y1) :: .sl (some 0) 1 (List.flatMap eS y2) :: .sc (.int .i64 y3) :: List.drop ((n + 1) * 4) (List.flatMap o115 l)) = List.flatMap o115 (l.set n ⟨y0, y1, y2, y3⟩) := by rw [← set_map o115_len l n h]; simp [o115]
theorem o115_fold2 (l : List S115) (n : Nat) (z : S115) (y0 : ByteArray) (y1 : List ByteArray) (y2 : List ByteArray) (y3 : Int) (h : n < l.length) : List.take (n * 4) (List.flatMap o115 (l.set n z)) ++ (.sc (.string y0) :: .sl (some 0) 1 (List.flatMap eS y1) :: .sl (some 0) 1 (List.flatMap eS y2) :: .sc (.int .i64 y3) :: List.drop ((n + 1) * 4) (List.flatMap o115 (l.set n z))) = List.flatMap o115 (l.set n ⟨y0, y1, y2, y3⟩) := by rw [o115_fold _ _ y0 y1 y2 y3 (by rw [List.length_set]; exact h), List.set_set]
theorem o115_ats (l : List S115) (n : Nat) (z : S115) (i : Int) (h0 : 0 ≤ i) (h1 : i < l.length) : idx 4 (List.flatMap o115 (l.set n z)) i = some (o115 (rd_T115 (l.set n z) i)) := o115_at _ i h0 (by rw [List.length_set]; exact h1)
theorem o115_rows (l : List S115) (m n : Nat) (z : S115) (h : n < l.length) : List.take 4 (List.drop ((n) * 4) (List.flatMap o115 (l.set m z))) = o115 ((l.set m z).getD n z115) := o115_row _ n (by rw [List.length_set]; exact h)
theorem o115_get (l : List S115) (n : Nat) (x z : S115) (h : n < l.length) : (l.set n x).getD n z = x := by rw [List.getD_eq_getElem?_getD, List.getElem?_set_self h]; rfl
theorem o115_rd (l : List S115) (i : Int) (x : S115) (h : i.toNat < l.length) : rd_T115 (l.set i.toNat x) i = x := o115_get l i.toNat x _ h
theorem noMutL_drop : ∀ {cs : List Cell} {n : Nat}, noMutL cs = true → noMutL (cs.drop n) = true
  | cs, 0, h => h
  | [], n + 1, h => h
  | c :: cs, n + 1, h => noMutL_drop (cs := cs) (n := n) (by simp only [noMutL, Bool.and_eq_true] at h; exact h.2)
theorem eI_setI (l : List Int) (i x : Int) (h0 : 0 ≤ i) (h : i < l.length) : List.flatMap eI (l.set i.toNat x) = List.flatMap eI (l.take i.toNat) ++ .sc (.int .i64 x) :: List.drop (i.toNat + 1) (List.flatMap eI l) := by rw [eI_set l i.toNat x (by omega), Nat.mul_one, Nat.mul_one, eI_st]; simp [eI]
end Go.Proofs.YtjjhknklnclokaaGreat.PFnExactStepThread
