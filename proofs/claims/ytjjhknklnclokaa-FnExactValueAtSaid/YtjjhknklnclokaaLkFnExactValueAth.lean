/- What values are in cells; facts on the program's types. No condition. -/
import Derived.Test.YtjjhknklnclokaaChecked
import Derived.KernelRfl
import Derived.Test.YtjjhknklnclokaaStFnExactValueAt
import Derived.Test.YtjjhknklnclokaaA5
open Go Go.Proofs Go.Proofs.Ytjjhknklnclokaa.Abs
namespace Go.Proofs.Ytjjhknklnclokaa.PFnExactValueAt
open Go.RowKit Go.Proofs.YtjjhknklnclokaaW.PrintWords Go.Proofs.YtjjhknklnclokaaW.PrintLast Go.Proofs.YtjjhknklnclokaaW.PrintMore
set_option linter.unusedVariables false
set_option linter.unusedSimpArgs false
set_option maxRecDepth 100000
theorem eI_at (l : List Int) (i : Int) (h0 : 0 ≤ i) (h1 : i < l.length) : idx 1 (List.flatMap eI l) i = some (eI (rd l i)) := idx_map eI_len _ l i h0 h1
theorem eI_gd (l : List Int) (i : Int) : l.getD i.toNat 0 = rd l i := rfl
theorem eI_ln (l : List Int) : (List.flatMap eI l).length = l.length := by rw [len_map eI_len]; exact Nat.mul_one _
theorem eI_row (l : List Int) (n : Nat) (h : n < l.length) : List.take 1 (List.drop (n) (List.flatMap eI l)) = eI (l.getD n 0) := by have := row_map eI_len 0 l n h; simpa using this
theorem eI_cp (l : List Int) : cpyL (List.flatMap eI l) = true := cpyL_map eI_cpy l
theorem eI_nms (l : List Int) : noMutL (List.flatMap eI l) = true := noMutL_map eI_nm l
theorem eI_pu (l : List Int) : pureL (List.flatMap eI l) = true := pureL_map eI_pure l
theorem eI_sh (l : List Int) : shrL (List.flatMap eI l) = List.flatMap eI l := shrL_map eI_shr l
theorem eI_rep (x : Int) (n : Nat) : List.flatMap eI (List.replicate n x) = (List.replicate n (eI x)).flatten := (replicate_map x n).symm
theorem eI_sd (l : List Int) (n : Nat) : List.take ((l.length - n)) (List.drop (n) (List.flatMap eI l)) = List.flatMap eI (l.drop n) := by have := slD_map eI_len l n; simpa using this
theorem eI_st (l : List Int) (n : Nat) : List.take (n) (List.flatMap eI l) = List.flatMap eI (l.take n) := by have := take_map eI_len l n; simpa using this
theorem eI_sb (l : List Int) (h n : Nat) : List.take ((h - n)) (List.drop (n) (List.flatMap eI l)) = List.flatMap eI ((l.drop n).take (h - n)) := by have := slB_map eI_len l h n; simpa using this
theorem eI_set (l : List Int) (n : Nat) (x : Int) (h : n < l.length) : List.flatMap eI (l.set n x) = (List.flatMap eI l).take (n * 1) ++ eI x ++ (List.flatMap eI l).drop ((n + 1) * 1) := (set_map eI_len l n h x).symm
attribute [go_sem] eI_at eI_ln eI_row eI_nms eI_sh eI_rep eI_set eI_sd eI_st eI_sb eI_gd eI_cp eI_pu
theorem eS_at (l : List ByteArray) (i : Int) (h0 : 0 ≤ i) (h1 : i < l.length) : idx 1 (List.flatMap eS l) i = some (eS (rdOf ByteArray.empty l i)) := idx_map eS_len _ l i h0 h1
theorem eS_gd (l : List ByteArray) (i : Int) : l.getD i.toNat ByteArray.empty = rdOf ByteArray.empty l i := rfl
theorem eS_ln (l : List ByteArray) : (List.flatMap eS l).length = l.length := by rw [len_map eS_len]; exact Nat.mul_one _
theorem eS_row (l : List ByteArray) (n : Nat) (h : n < l.length) : List.take 1 (List.drop (n) (List.flatMap eS l)) = eS (l.getD n ByteArray.empty) := by have := row_map eS_len ByteArray.empty l n h; simpa using this
theorem eS_cp (l : List ByteArray) : cpyL (List.flatMap eS l) = true := cpyL_map eS_cpy l
theorem eS_nms (l : List ByteArray) : noMutL (List.flatMap eS l) = true := noMutL_map eS_nm l
theorem eS_pu (l : List ByteArray) : pureL (List.flatMap eS l) = true := pureL_map eS_pure l
theorem eS_sh (l : List ByteArray) : shrL (List.flatMap eS l) = List.flatMap eS l := shrL_map eS_shr l
theorem eS_rep (x : ByteArray) (n : Nat) : List.flatMap eS (List.replicate n x) = (List.replicate n (eS x)).flatten := (replicate_map x n).symm
theorem eS_sd (l : List ByteArray) (n : Nat) : List.take ((l.length - n)) (List.drop (n) (List.flatMap eS l)) = List.flatMap eS (l.drop n) := by have := slD_map eS_len l n; simpa using this
theorem eS_st (l : List ByteArray) (n : Nat) : List.take (n) (List.flatMap eS l) = List.flatMap eS (l.take n) := by have := take_map eS_len l n; simpa using this
theorem eS_sb (l : List ByteArray) (h n : Nat) : List.take ((h - n)) (List.drop (n) (List.flatMap eS l)) = List.flatMap eS ((l.drop n).take (h - n)) := by have := slB_map eS_len l h n; simpa using this
theorem eS_set (l : List ByteArray) (n : Nat) (x : ByteArray) (h : n < l.length) : List.flatMap eS (l.set n x) = (List.flatMap eS l).take (n * 1) ++ eS x ++ (List.flatMap eS l).drop ((n + 1) * 1) := (set_map eS_len l n h x).symm
attribute [go_sem] eS_at eS_ln eS_row eS_nms eS_sh eS_rep eS_set eS_sd eS_st eS_sb eS_gd eS_cp eS_pu
def e72 (x : S72) : List Cell := [.sc (.int .i64 x.f0), .sc (.int .i64 x.f1), .sc (.string x.f2), .sc (.string x.f3), .sc (.string x.f4), .sl none 1 (List.flatMap eI x.f5)]
def o72 (x : S72) : List Cell := [.sc (.int .i64 x.f0), .sc (.int .i64 x.f1), .sc (.string x.f2), .sc (.string x.f3), .sc (.string x.f4), .sl (some 0) 1 (List.flatMap eI x.f5)]
theorem e72_len : ∀ x, (e72 x).length = 6 := fun _ => rfl
theorem e72_nm : ∀ x, noMutL (e72 x) = true := by intro x; simp [e72, go_sem]
theorem e72_cpy : ∀ x, cpyL (e72 x) = true := by intro x; simp [e72, go_sem]
theorem e72_shr : ∀ x, shrL (e72 x) = e72 x := by intro x; simp [e72, go_sem]
theorem e72_at (l : List S72) (i : Int) (h0 : 0 ≤ i) (h1 : i < l.length) : idx 6 (List.flatMap e72 l) i = some (e72 (rd_T72 l i)) := idx_map e72_len _ l i h0 h1
theorem e72_gd (l : List S72) (i : Int) : l.getD i.toNat z72 = rd_T72 l i := rfl
theorem e72_ln (l : List S72) : (List.flatMap e72 l).length = (l.length) * 6 := by rw [len_map e72_len]
theorem e72_row (l : List S72) (n : Nat) (h : n < l.length) : List.take 6 (List.drop ((n) * 6) (List.flatMap e72 l)) = e72 (l.getD n z72) := by have := row_map e72_len z72 l n h; simpa using this
theorem e72_cp (l : List S72) : cpyL (List.flatMap e72 l) = true := cpyL_map e72_cpy l
theorem e72_nms (l : List S72) : noMutL (List.flatMap e72 l) = true := noMutL_map e72_nm l
theorem e72_sh (l : List S72) : shrL (List.flatMap e72 l) = List.flatMap e72 l := shrL_map e72_shr l
theorem e72_rep (x : S72) (n : Nat) : List.flatMap e72 (List.replicate n x) = (List.replicate n (e72 x)).flatten := (replicate_map x n).symm
theorem e72_sd (l : List S72) (n : Nat) : List.take (((l.length - n)) * 6) (List.drop ((n) * 6) (List.flatMap e72 l)) = List.flatMap e72 (l.drop n) := by have := slD_map e72_len l n; simpa using this
theorem e72_st (l : List S72) (n : Nat) : List.take ((n) * 6) (List.flatMap e72 l) = List.flatMap e72 (l.take n) := by have := take_map e72_len l n; simpa using this
theorem e72_sb (l : List S72) (h n : Nat) : List.take (((h - n)) * 6) (List.drop ((n) * 6) (List.flatMap e72 l)) = List.flatMap e72 ((l.drop n).take (h - n)) := by have := slB_map e72_len l h n; simpa using this
theorem e72_set (l : List S72) (n : Nat) (x : S72) (h : n < l.length) : List.flatMap e72 (l.set n x) = (List.flatMap e72 l).take (n * 6) ++ e72 x ++ (List.flatMap e72 l).drop ((n + 1) * 6) := (set_map e72_len l n h x).symm
attribute [go_sem] e72_at e72_ln e72_row e72_nms e72_sh e72_rep e72_set e72_sd e72_st e72_sb e72_gd e72_cp e72
theorem o72_len : ∀ x, (o72 x).length = 6 := fun _ => rfl
theorem o72_nm : ∀ x, noMutL (o72 x) = true := by intro x; simp [o72, go_sem]
theorem o72_shr : ∀ x, shrL (o72 x) = e72 x := by intro x; simp [o72, e72, go_sem]
theorem o72_pure : ∀ x, pureL (o72 x) = true := by intro x; simp [o72, go_sem]
theorem o72_at (l : List S72) (i : Int) (h0 : 0 ≤ i) (h1 : i < l.length) : idx 6 (List.flatMap o72 l) i = some (o72 (rd_T72 l i)) := idx_map o72_len _ l i h0 h1
theorem o72_gd (l : List S72) (i : Int) : l.getD i.toNat z72 = rd_T72 l i := rfl
theorem o72_ln (l : List S72) : (List.flatMap o72 l).length = (l.length) * 6 := by rw [len_map o72_len]
theorem o72_row (l : List S72) (n : Nat) (h : n < l.length) : List.take 6 (List.drop ((n) * 6) (List.flatMap o72 l)) = o72 (l.getD n z72) := by have := row_map o72_len z72 l n h; simpa using this
theorem o72_nms (l : List S72) : noMutL (List.flatMap o72 l) = true := noMutL_map o72_nm l
theorem o72_pu (l : List S72) : pureL (List.flatMap o72 l) = true := pureL_map o72_pure l
theorem o72_sh (l : List S72) : shrL (List.flatMap o72 l) = List.flatMap e72 l := shrL_map o72_shr l
theorem o72_rep (x : S72) (n : Nat) : List.flatMap o72 (List.replicate n x) = (List.replicate n (o72 x)).flatten := (replicate_map x n).symm
theorem o72_sd (l : List S72) (n : Nat) : List.take (((l.length - n)) * 6) (List.drop ((n) * 6) (List.flatMap o72 l)) = List.flatMap o72 (l.drop n) := by have := slD_map o72_len l n; simpa using this
theorem o72_st (l : List S72) (n : Nat) : List.take ((n) * 6) (List.flatMap o72 l) = List.flatMap o72 (l.take n) := by have := take_map o72_len l n; simpa using this
theorem o72_sb (l : List S72) (h n : Nat) : List.take (((h - n)) * 6) (List.drop ((n) * 6) (List.flatMap o72 l)) = List.flatMap o72 ((l.drop n).take (h - n)) := by have := slB_map o72_len l h n; simpa using this
theorem o72_set (l : List S72) (n : Nat) (x : S72) (h : n < l.length) : List.flatMap o72 (l.set n x) = (List.flatMap o72 l).take (n * 6) ++ o72 x ++ (List.flatMap o72 l).drop ((n + 1) * 6) := (set_map o72_len l n h x).symm
attribute [go_sem] o72_at o72_ln o72_row o72_nms o72_sh o72_rep o72_set o72_sd o72_st o72_sb o72_pu o72
def e109 (x : S109) : List Cell := [.sc (.string x.f0), .sc (.string x.f1), .sc (.int .i64 x.f2)]
abbrev o109 := e109
theorem e109_len : ∀ x, (e109 x).length = 3 := fun _ => rfl
theorem e109_nm : ∀ x, noMutL (e109 x) = true := by intro x; simp [e109, go_sem]
theorem e109_cpy : ∀ x, cpyL (e109 x) = true := by intro x; simp [e109, go_sem]
theorem e109_shr : ∀ x, shrL (e109 x) = e109 x := by intro x; simp [e109, go_sem]
theorem e109_pure : ∀ x, pureL (e109 x) = true := by intro x; rfl
theorem e109_at (l : List S109) (i : Int) (h0 : 0 ≤ i) (h1 : i < l.length) : idx 3 (List.flatMap e109 l) i = some (e109 (rd_T109 l i)) := idx_map e109_len _ l i h0 h1
theorem e109_gd (l : List S109) (i : Int) : l.getD i.toNat z109 = rd_T109 l i := rfl
theorem e109_ln (l : List S109) : (List.flatMap e109 l).length = (l.length) * 3 := by rw [len_map e109_len]
theorem e109_row (l : List S109) (n : Nat) (h : n < l.length) : List.take 3 (List.drop ((n) * 3) (List.flatMap e109 l)) = e109 (l.getD n z109) := by have := row_map e109_len z109 l n h; simpa using this
theorem e109_cp (l : List S109) : cpyL (List.flatMap e109 l) = true := cpyL_map e109_cpy l
theorem e109_nms (l : List S109) : noMutL (List.flatMap e109 l) = true := noMutL_map e109_nm l
theorem e109_pu (l : List S109) : pureL (List.flatMap e109 l) = true := pureL_map e109_pure l
theorem e109_sh (l : List S109) : shrL (List.flatMap e109 l) = List.flatMap e109 l := shrL_map e109_shr l
theorem e109_rep (x : S109) (n : Nat) : List.flatMap e109 (List.replicate n x) = (List.replicate n (e109 x)).flatten := (replicate_map x n).symm
theorem e109_sd (l : List S109) (n : Nat) : List.take (((l.length - n)) * 3) (List.drop ((n) * 3) (List.flatMap e109 l)) = List.flatMap e109 (l.drop n) := by have := slD_map e109_len l n; simpa using this
theorem e109_st (l : List S109) (n : Nat) : List.take ((n) * 3) (List.flatMap e109 l) = List.flatMap e109 (l.take n) := by have := take_map e109_len l n; simpa using this
theorem e109_sb (l : List S109) (h n : Nat) : List.take (((h - n)) * 3) (List.drop ((n) * 3) (List.flatMap e109 l)) = List.flatMap e109 ((l.drop n).take (h - n)) := by have := slB_map e109_len l h n; simpa using this
theorem e109_set (l : List S109) (n : Nat) (x : S109) (h : n < l.length) : List.flatMap e109 (l.set n x) = (List.flatMap e109 l).take (n * 3) ++ e109 x ++ (List.flatMap e109 l).drop ((n + 1) * 3) := (set_map e109_len l n h x).symm
attribute [go_sem] e109_at e109_ln e109_row e109_nms e109_sh e109_rep e109_set e109_sd e109_st e109_sb e109_gd e109_cp e109_pu e109
def e76 (x : S76) : List Cell := [.sc (.string x.f0), .sl none 1 (List.flatMap eS x.f1), .sl none 1 (List.flatMap eS x.f2), .sl none 3 (List.flatMap e109 x.f3)]
def o76 (x : S76) : List Cell := [.sc (.string x.f0), .sl (some 0) 1 (List.flatMap eS x.f1), .sl (some 0) 1 (List.flatMap eS x.f2), .sl (some 0) 3 (List.flatMap e109 x.f3)]
theorem e76_len : ∀ x, (e76 x).length = 4 := fun _ => rfl
theorem e76_nm : ∀ x, noMutL (e76 x) = true := by intro x; simp [e76, go_sem]
theorem e76_cpy : ∀ x, cpyL (e76 x) = true := by intro x; simp [e76, go_sem]
theorem e76_shr : ∀ x, shrL (e76 x) = e76 x := by intro x; simp [e76, go_sem]
theorem e76_at (l : List S76) (i : Int) (h0 : 0 ≤ i) (h1 : i < l.length) : idx 4 (List.flatMap e76 l) i = some (e76 (rd_T76 l i)) := idx_map e76_len _ l i h0 h1
theorem e76_gd (l : List S76) (i : Int) : l.getD i.toNat z76 = rd_T76 l i := rfl
theorem e76_ln (l : List S76) : (List.flatMap e76 l).length = (l.length) * 4 := by rw [len_map e76_len]
theorem e76_row (l : List S76) (n : Nat) (h : n < l.length) : List.take 4 (List.drop ((n) * 4) (List.flatMap e76 l)) = e76 (l.getD n z76) := by have := row_map e76_len z76 l n h; simpa using this
theorem e76_cp (l : List S76) : cpyL (List.flatMap e76 l) = true := cpyL_map e76_cpy l
theorem e76_nms (l : List S76) : noMutL (List.flatMap e76 l) = true := noMutL_map e76_nm l
theorem e76_sh (l : List S76) : shrL (List.flatMap e76 l) = List.flatMap e76 l := shrL_map e76_shr l
theorem e76_rep (x : S76) (n : Nat) : List.flatMap e76 (List.replicate n x) = (List.replicate n (e76 x)).flatten := (replicate_map x n).symm
theorem e76_sd (l : List S76) (n : Nat) : List.take (((l.length - n)) * 4) (List.drop ((n) * 4) (List.flatMap e76 l)) = List.flatMap e76 (l.drop n) := by have := slD_map e76_len l n; simpa using this
theorem e76_st (l : List S76) (n : Nat) : List.take ((n) * 4) (List.flatMap e76 l) = List.flatMap e76 (l.take n) := by have := take_map e76_len l n; simpa using this
theorem e76_sb (l : List S76) (h n : Nat) : List.take (((h - n)) * 4) (List.drop ((n) * 4) (List.flatMap e76 l)) = List.flatMap e76 ((l.drop n).take (h - n)) := by have := slB_map e76_len l h n; simpa using this
theorem e76_set (l : List S76) (n : Nat) (x : S76) (h : n < l.length) : List.flatMap e76 (l.set n x) = (List.flatMap e76 l).take (n * 4) ++ e76 x ++ (List.flatMap e76 l).drop ((n + 1) * 4) := (set_map e76_len l n h x).symm
attribute [go_sem] e76_at e76_ln e76_row e76_nms e76_sh e76_rep e76_set e76_sd e76_st e76_sb e76_gd e76_cp e76
theorem o76_len : ∀ x, (o76 x).length = 4 := fun _ => rfl
theorem o76_nm : ∀ x, noMutL (o76 x) = true := by intro x; simp [o76, go_sem]
theorem o76_shr : ∀ x, shrL (o76 x) = e76 x := by intro x; simp [o76, e76, go_sem]
theorem o76_pure : ∀ x, pureL (o76 x) = true := by intro x; simp [o76, go_sem]
theorem o76_at (l : List S76) (i : Int) (h0 : 0 ≤ i) (h1 : i < l.length) : idx 4 (List.flatMap o76 l) i = some (o76 (rd_T76 l i)) := idx_map o76_len _ l i h0 h1
theorem o76_gd (l : List S76) (i : Int) : l.getD i.toNat z76 = rd_T76 l i := rfl
theorem o76_ln (l : List S76) : (List.flatMap o76 l).length = (l.length) * 4 := by rw [len_map o76_len]
theorem o76_row (l : List S76) (n : Nat) (h : n < l.length) : List.take 4 (List.drop ((n) * 4) (List.flatMap o76 l)) = o76 (l.getD n z76) := by have := row_map o76_len z76 l n h; simpa using this
theorem o76_nms (l : List S76) : noMutL (List.flatMap o76 l) = true := noMutL_map o76_nm l
theorem o76_pu (l : List S76) : pureL (List.flatMap o76 l) = true := pureL_map o76_pure l
theorem o76_sh (l : List S76) : shrL (List.flatMap o76 l) = List.flatMap e76 l := shrL_map o76_shr l
theorem o76_rep (x : S76) (n : Nat) : List.flatMap o76 (List.replicate n x) = (List.replicate n (o76 x)).flatten := (replicate_map x n).symm
theorem o76_sd (l : List S76) (n : Nat) : List.take (((l.length - n)) * 4) (List.drop ((n) * 4) (List.flatMap o76 l)) = List.flatMap o76 (l.drop n) := by have := slD_map o76_len l n; simpa using this
theorem o76_st (l : List S76) (n : Nat) : List.take ((n) * 4) (List.flatMap o76 l) = List.flatMap o76 (l.take n) := by have := take_map o76_len l n; simpa using this
theorem o76_sb (l : List S76) (h n : Nat) : List.take (((h - n)) * 4) (List.drop ((n) * 4) (List.flatMap o76 l)) = List.flatMap o76 ((l.drop n).take (h - n)) := by have := slB_map o76_len l h n; simpa using this
theorem o76_set (l : List S76) (n : Nat) (x : S76) (h : n < l.length) : List.flatMap o76 (l.set n x) = (List.flatMap o76 l).take (n * 4) ++ o76 x ++ (List.flatMap o76 l).drop ((n + 1) * 4) := (set_map o76_len l n h x).symm
attribute [go_sem] o76_at o76_ln o76_row o76_nms o76_sh o76_rep o76_set o76_sd o76_st o76_sb o76_pu o76
def e79 (x : S79) : List Cell := [.sc (.string x.f0), .sl none 1 (List.flatMap eS x.f1), .sl none 1 (List.flatMap eS x.f2), .sc (.int .i64 x.f3)]
def o79 (x : S79) : List Cell := [.sc (.string x.f0), .sl (some 0) 1 (List.flatMap eS x.f1), .sl (some 0) 1 (List.flatMap eS x.f2), .sc (.int .i64 x.f3)]
theorem e79_len : ∀ x, (e79 x).length = 4 := fun _ => rfl
theorem e79_nm : ∀ x, noMutL (e79 x) = true := by intro x; simp [e79, go_sem]
theorem e79_cpy : ∀ x, cpyL (e79 x) = true := by intro x; simp [e79, go_sem]
theorem e79_shr : ∀ x, shrL (e79 x) = e79 x := by intro x; simp [e79, go_sem]
theorem e79_at (l : List S79) (i : Int) (h0 : 0 ≤ i) (h1 : i < l.length) : idx 4 (List.flatMap e79 l) i = some (e79 (rd_T79 l i)) := idx_map e79_len _ l i h0 h1
theorem e79_gd (l : List S79) (i : Int) : l.getD i.toNat z79 = rd_T79 l i := rfl
theorem e79_ln (l : List S79) : (List.flatMap e79 l).length = (l.length) * 4 := by rw [len_map e79_len]
theorem e79_row (l : List S79) (n : Nat) (h : n < l.length) : List.take 4 (List.drop ((n) * 4) (List.flatMap e79 l)) = e79 (l.getD n z79) := by have := row_map e79_len z79 l n h; simpa using this
theorem e79_cp (l : List S79) : cpyL (List.flatMap e79 l) = true := cpyL_map e79_cpy l
theorem e79_nms (l : List S79) : noMutL (List.flatMap e79 l) = true := noMutL_map e79_nm l
theorem e79_sh (l : List S79) : shrL (List.flatMap e79 l) = List.flatMap e79 l := shrL_map e79_shr l
theorem e79_rep (x : S79) (n : Nat) : List.flatMap e79 (List.replicate n x) = (List.replicate n (e79 x)).flatten := (replicate_map x n).symm
theorem e79_sd (l : List S79) (n : Nat) : List.take (((l.length - n)) * 4) (List.drop ((n) * 4) (List.flatMap e79 l)) = List.flatMap e79 (l.drop n) := by have := slD_map e79_len l n; simpa using this
theorem e79_st (l : List S79) (n : Nat) : List.take ((n) * 4) (List.flatMap e79 l) = List.flatMap e79 (l.take n) := by have := take_map e79_len l n; simpa using this
theorem e79_sb (l : List S79) (h n : Nat) : List.take (((h - n)) * 4) (List.drop ((n) * 4) (List.flatMap e79 l)) = List.flatMap e79 ((l.drop n).take (h - n)) := by have := slB_map e79_len l h n; simpa using this
theorem e79_set (l : List S79) (n : Nat) (x : S79) (h : n < l.length) : List.flatMap e79 (l.set n x) = (List.flatMap e79 l).take (n * 4) ++ e79 x ++ (List.flatMap e79 l).drop ((n + 1) * 4) := (set_map e79_len l n h x).symm
attribute [go_sem] e79_at e79_ln e79_row e79_nms e79_sh e79_rep e79_set e79_sd e79_st e79_sb e79_gd e79_cp e79
theorem o79_len : ∀ x, (o79 x).length = 4 := fun _ => rfl
theorem o79_nm : ∀ x, noMutL (o79 x) = true := by intro x; simp [o79, go_sem]
theorem o79_shr : ∀ x, shrL (o79 x) = e79 x := by intro x; simp [o79, e79, go_sem]
theorem o79_pure : ∀ x, pureL (o79 x) = true := by intro x; simp [o79, go_sem]
theorem o79_at (l : List S79) (i : Int) (h0 : 0 ≤ i) (h1 : i < l.length) : idx 4 (List.flatMap o79 l) i = some (o79 (rd_T79 l i)) := idx_map o79_len _ l i h0 h1
theorem o79_gd (l : List S79) (i : Int) : l.getD i.toNat z79 = rd_T79 l i := rfl
theorem o79_ln (l : List S79) : (List.flatMap o79 l).length = (l.length) * 4 := by rw [len_map o79_len]
theorem o79_row (l : List S79) (n : Nat) (h : n < l.length) : List.take 4 (List.drop ((n) * 4) (List.flatMap o79 l)) = o79 (l.getD n z79) := by have := row_map o79_len z79 l n h; simpa using this
theorem o79_nms (l : List S79) : noMutL (List.flatMap o79 l) = true := noMutL_map o79_nm l
theorem o79_pu (l : List S79) : pureL (List.flatMap o79 l) = true := pureL_map o79_pure l
theorem o79_sh (l : List S79) : shrL (List.flatMap o79 l) = List.flatMap e79 l := shrL_map o79_shr l
theorem o79_rep (x : S79) (n : Nat) : List.flatMap o79 (List.replicate n x) = (List.replicate n (o79 x)).flatten := (replicate_map x n).symm
theorem o79_sd (l : List S79) (n : Nat) : List.take (((l.length - n)) * 4) (List.drop ((n) * 4) (List.flatMap o79 l)) = List.flatMap o79 (l.drop n) := by have := slD_map o79_len l n; simpa using this
theorem o79_st (l : List S79) (n : Nat) : List.take ((n) * 4) (List.flatMap o79 l) = List.flatMap o79 (l.take n) := by have := take_map o79_len l n; simpa using this
theorem o79_sb (l : List S79) (h n : Nat) : List.take (((h - n)) * 4) (List.drop ((n) * 4) (List.flatMap o79 l)) = List.flatMap o79 ((l.drop n).take (h - n)) := by have := slB_map o79_len l h n; simpa using this
theorem o79_set (l : List S79) (n : Nat) (x : S79) (h : n < l.length) : List.flatMap o79 (l.set n x) = (List.flatMap o79 l).take (n * 4) ++ o79 x ++ (List.flatMap o79 l).drop ((n + 1) * 4) := (set_map o79_len l n h x).symm
attribute [go_sem] o79_at o79_ln o79_row o79_nms o79_sh o79_rep o79_set o79_sd o79_st o79_sb o79_pu o79
def e57 (x : S57) : List Cell := [.sc (.int .i64 x.f0), .sc (.int .i64 x.f1), .sc (.string x.f2), .sc (.string x.f3), .sc (.string x.f4), .sl none 1 (List.flatMap eI x.f5)]
def o57 (x : S57) : List Cell := [.sc (.int .i64 x.f0), .sc (.int .i64 x.f1), .sc (.string x.f2), .sc (.string x.f3), .sc (.string x.f4), .sl (some 0) 1 (List.flatMap eI x.f5)]
theorem e57_len : ∀ x, (e57 x).length = 6 := fun _ => rfl
theorem e57_nm : ∀ x, noMutL (e57 x) = true := by intro x; simp [e57, go_sem]
theorem e57_cpy : ∀ x, cpyL (e57 x) = true := by intro x; simp [e57, go_sem]
theorem e57_shr : ∀ x, shrL (e57 x) = e57 x := by intro x; simp [e57, go_sem]
theorem e57_at (l : List S57) (i : Int) (h0 : 0 ≤ i) (h1 : i < l.length) : idx 6 (List.flatMap e57 l) i = some (e57 (rd_T57 l i)) := idx_map e57_len _ l i h0 h1
theorem e57_gd (l : List S57) (i : Int) : l.getD i.toNat z57 = rd_T57 l i := rfl
theorem e57_ln (l : List S57) : (List.flatMap e57 l).length = (l.length) * 6 := by rw [len_map e57_len]
theorem e57_row (l : List S57) (n : Nat) (h : n < l.length) : List.take 6 (List.drop ((n) * 6) (List.flatMap e57 l)) = e57 (l.getD n z57) := by have := row_map e57_len z57 l n h; simpa using this
theorem e57_cp (l : List S57) : cpyL (List.flatMap e57 l) = true := cpyL_map e57_cpy l
theorem e57_nms (l : List S57) : noMutL (List.flatMap e57 l) = true := noMutL_map e57_nm l
theorem e57_sh (l : List S57) : shrL (List.flatMap e57 l) = List.flatMap e57 l := shrL_map e57_shr l
theorem e57_rep (x : S57) (n : Nat) : List.flatMap e57 (List.replicate n x) = (List.replicate n (e57 x)).flatten := (replicate_map x n).symm
theorem e57_sd (l : List S57) (n : Nat) : List.take (((l.length - n)) * 6) (List.drop ((n) * 6) (List.flatMap e57 l)) = List.flatMap e57 (l.drop n) := by have := slD_map e57_len l n; simpa using this
theorem e57_st (l : List S57) (n : Nat) : List.take ((n) * 6) (List.flatMap e57 l) = List.flatMap e57 (l.take n) := by have := take_map e57_len l n; simpa using this
theorem e57_sb (l : List S57) (h n : Nat) : List.take (((h - n)) * 6) (List.drop ((n) * 6) (List.flatMap e57 l)) = List.flatMap e57 ((l.drop n).take (h - n)) := by have := slB_map e57_len l h n; simpa using this
theorem e57_set (l : List S57) (n : Nat) (x : S57) (h : n < l.length) : List.flatMap e57 (l.set n x) = (List.flatMap e57 l).take (n * 6) ++ e57 x ++ (List.flatMap e57 l).drop ((n + 1) * 6) := (set_map e57_len l n h x).symm
attribute [go_sem] e57_at e57_ln e57_row e57_nms e57_sh e57_rep e57_set e57_sd e57_st e57_sb e57_gd e57_cp e57
theorem o57_len : ∀ x, (o57 x).length = 6 := fun _ => rfl
theorem o57_nm : ∀ x, noMutL (o57 x) = true := by intro x; simp [o57, go_sem]
theorem o57_shr : ∀ x, shrL (o57 x) = e57 x := by intro x; simp [o57, e57, go_sem]
theorem o57_pure : ∀ x, pureL (o57 x) = true := by intro x; simp [o57, go_sem]
theorem o57_at (l : List S57) (i : Int) (h0 : 0 ≤ i) (h1 : i < l.length) : idx 6 (List.flatMap o57 l) i = some (o57 (rd_T57 l i)) := idx_map o57_len _ l i h0 h1
theorem o57_gd (l : List S57) (i : Int) : l.getD i.toNat z57 = rd_T57 l i := rfl
theorem o57_ln (l : List S57) : (List.flatMap o57 l).length = (l.length) * 6 := by rw [len_map o57_len]
theorem o57_row (l : List S57) (n : Nat) (h : n < l.length) : List.take 6 (List.drop ((n) * 6) (List.flatMap o57 l)) = o57 (l.getD n z57) := by have := row_map o57_len z57 l n h; simpa using this
theorem o57_nms (l : List S57) : noMutL (List.flatMap o57 l) = true := noMutL_map o57_nm l
theorem o57_pu (l : List S57) : pureL (List.flatMap o57 l) = true := pureL_map o57_pure l
theorem o57_sh (l : List S57) : shrL (List.flatMap o57 l) = List.flatMap e57 l := shrL_map o57_shr l
theorem o57_rep (x : S57) (n : Nat) : List.flatMap o57 (List.replicate n x) = (List.replicate n (o57 x)).flatten := (replicate_map x n).symm
theorem o57_sd (l : List S57) (n : Nat) : List.take (((l.length - n)) * 6) (List.drop ((n) * 6) (List.flatMap o57 l)) = List.flatMap o57 (l.drop n) := by have := slD_map o57_len l n; simpa using this
theorem o57_st (l : List S57) (n : Nat) : List.take ((n) * 6) (List.flatMap o57 l) = List.flatMap o57 (l.take n) := by have := take_map o57_len l n; simpa using this
theorem o57_sb (l : List S57) (h n : Nat) : List.take (((h - n)) * 6) (List.drop ((n) * 6) (List.flatMap o57 l)) = List.flatMap o57 ((l.drop n).take (h - n)) := by have := slB_map o57_len l h n; simpa using this
theorem o57_set (l : List S57) (n : Nat) (x : S57) (h : n < l.length) : List.flatMap o57 (l.set n x) = (List.flatMap o57 l).take (n * 6) ++ o57 x ++ (List.flatMap o57 l).drop ((n + 1) * 6) := (set_map o57_len l n h x).symm
attribute [go_sem] o57_at o57_ln o57_row o57_nms o57_sh o57_rep o57_set o57_sd o57_st o57_sb o57_pu o57
def e110 (x : S110) : List Cell := [.sc (.string x.f0), .sc (.string x.f1), .sc (.int .i64 x.f2)]
abbrev o110 := e110
theorem e110_len : ∀ x, (e110 x).length = 3 := fun _ => rfl
theorem e110_nm : ∀ x, noMutL (e110 x) = true := by intro x; simp [e110, go_sem]
theorem e110_cpy : ∀ x, cpyL (e110 x) = true := by intro x; simp [e110, go_sem]
theorem e110_shr : ∀ x, shrL (e110 x) = e110 x := by intro x; simp [e110, go_sem]
theorem e110_pure : ∀ x, pureL (e110 x) = true := by intro x; rfl
theorem e110_at (l : List S110) (i : Int) (h0 : 0 ≤ i) (h1 : i < l.length) : idx 3 (List.flatMap e110 l) i = some (e110 (rd_T110 l i)) := idx_map e110_len _ l i h0 h1
theorem e110_gd (l : List S110) (i : Int) : l.getD i.toNat z110 = rd_T110 l i := rfl
theorem e110_ln (l : List S110) : (List.flatMap e110 l).length = (l.length) * 3 := by rw [len_map e110_len]
theorem e110_row (l : List S110) (n : Nat) (h : n < l.length) : List.take 3 (List.drop ((n) * 3) (List.flatMap e110 l)) = e110 (l.getD n z110) := by have := row_map e110_len z110 l n h; simpa using this
theorem e110_cp (l : List S110) : cpyL (List.flatMap e110 l) = true := cpyL_map e110_cpy l
theorem e110_nms (l : List S110) : noMutL (List.flatMap e110 l) = true := noMutL_map e110_nm l
theorem e110_pu (l : List S110) : pureL (List.flatMap e110 l) = true := pureL_map e110_pure l
theorem e110_sh (l : List S110) : shrL (List.flatMap e110 l) = List.flatMap e110 l := shrL_map e110_shr l
theorem e110_rep (x : S110) (n : Nat) : List.flatMap e110 (List.replicate n x) = (List.replicate n (e110 x)).flatten := (replicate_map x n).symm
theorem e110_sd (l : List S110) (n : Nat) : List.take (((l.length - n)) * 3) (List.drop ((n) * 3) (List.flatMap e110 l)) = List.flatMap e110 (l.drop n) := by have := slD_map e110_len l n; simpa using this
theorem e110_st (l : List S110) (n : Nat) : List.take ((n) * 3) (List.flatMap e110 l) = List.flatMap e110 (l.take n) := by have := take_map e110_len l n; simpa using this
theorem e110_sb (l : List S110) (h n : Nat) : List.take (((h - n)) * 3) (List.drop ((n) * 3) (List.flatMap e110 l)) = List.flatMap e110 ((l.drop n).take (h - n)) := by have := slB_map e110_len l h n; simpa using this
theorem e110_set (l : List S110) (n : Nat) (x : S110) (h : n < l.length) : List.flatMap e110 (l.set n x) = (List.flatMap e110 l).take (n * 3) ++ e110 x ++ (List.flatMap e110 l).drop ((n + 1) * 3) := (set_map e110_len l n h x).symm
attribute [go_sem] e110_at e110_ln e110_row e110_nms e110_sh e110_rep e110_set e110_sd e110_st e110_sb e110_gd e110_cp e110_pu e110
def e86 (x : S86) : List Cell := [.sc (.string x.f0), .sl none 1 (List.flatMap eS x.f1), .sl none 1 (List.flatMap eS x.f2), .sl none 3 (List.flatMap e110 x.f3)]
def o86 (x : S86) : List Cell := [.sc (.string x.f0), .sl (some 0) 1 (List.flatMap eS x.f1), .sl (some 0) 1 (List.flatMap eS x.f2), .sl (some 0) 3 (List.flatMap e110 x.f3)]
theorem e86_len : ∀ x, (e86 x).length = 4 := fun _ => rfl
theorem e86_nm : ∀ x, noMutL (e86 x) = true := by intro x; simp [e86, go_sem]
theorem e86_cpy : ∀ x, cpyL (e86 x) = true := by intro x; simp [e86, go_sem]
theorem e86_shr : ∀ x, shrL (e86 x) = e86 x := by intro x; simp [e86, go_sem]
theorem e86_at (l : List S86) (i : Int) (h0 : 0 ≤ i) (h1 : i < l.length) : idx 4 (List.flatMap e86 l) i = some (e86 (rd_T86 l i)) := idx_map e86_len _ l i h0 h1
theorem e86_gd (l : List S86) (i : Int) : l.getD i.toNat z86 = rd_T86 l i := rfl
theorem e86_ln (l : List S86) : (List.flatMap e86 l).length = (l.length) * 4 := by rw [len_map e86_len]
theorem e86_row (l : List S86) (n : Nat) (h : n < l.length) : List.take 4 (List.drop ((n) * 4) (List.flatMap e86 l)) = e86 (l.getD n z86) := by have := row_map e86_len z86 l n h; simpa using this
theorem e86_cp (l : List S86) : cpyL (List.flatMap e86 l) = true := cpyL_map e86_cpy l
theorem e86_nms (l : List S86) : noMutL (List.flatMap e86 l) = true := noMutL_map e86_nm l
theorem e86_sh (l : List S86) : shrL (List.flatMap e86 l) = List.flatMap e86 l := shrL_map e86_shr l
theorem e86_rep (x : S86) (n : Nat) : List.flatMap e86 (List.replicate n x) = (List.replicate n (e86 x)).flatten := (replicate_map x n).symm
theorem e86_sd (l : List S86) (n : Nat) : List.take (((l.length - n)) * 4) (List.drop ((n) * 4) (List.flatMap e86 l)) = List.flatMap e86 (l.drop n) := by have := slD_map e86_len l n; simpa using this
theorem e86_st (l : List S86) (n : Nat) : List.take ((n) * 4) (List.flatMap e86 l) = List.flatMap e86 (l.take n) := by have := take_map e86_len l n; simpa using this
theorem e86_sb (l : List S86) (h n : Nat) : List.take (((h - n)) * 4) (List.drop ((n) * 4) (List.flatMap e86 l)) = List.flatMap e86 ((l.drop n).take (h - n)) := by have := slB_map e86_len l h n; simpa using this
theorem e86_set (l : List S86) (n : Nat) (x : S86) (h : n < l.length) : List.flatMap e86 (l.set n x) = (List.flatMap e86 l).take (n * 4) ++ e86 x ++ (List.flatMap e86 l).drop ((n + 1) * 4) := (set_map e86_len l n h x).symm
attribute [go_sem] e86_at e86_ln e86_row e86_nms e86_sh e86_rep e86_set e86_sd e86_st e86_sb e86_gd e86_cp e86
theorem o86_len : ∀ x, (o86 x).length = 4 := fun _ => rfl
theorem o86_nm : ∀ x, noMutL (o86 x) = true := by intro x; simp [o86, go_sem]
theorem o86_shr : ∀ x, shrL (o86 x) = e86 x := by intro x; simp [o86, e86, go_sem]
theorem o86_pure : ∀ x, pureL (o86 x) = true := by intro x; simp [o86, go_sem]
theorem o86_at (l : List S86) (i : Int) (h0 : 0 ≤ i) (h1 : i < l.length) : idx 4 (List.flatMap o86 l) i = some (o86 (rd_T86 l i)) := idx_map o86_len _ l i h0 h1
theorem o86_gd (l : List S86) (i : Int) : l.getD i.toNat z86 = rd_T86 l i := rfl
theorem o86_ln (l : List S86) : (List.flatMap o86 l).length = (l.length) * 4 := by rw [len_map o86_len]
theorem o86_row (l : List S86) (n : Nat) (h : n < l.length) : List.take 4 (List.drop ((n) * 4) (List.flatMap o86 l)) = o86 (l.getD n z86) := by have := row_map o86_len z86 l n h; simpa using this
theorem o86_nms (l : List S86) : noMutL (List.flatMap o86 l) = true := noMutL_map o86_nm l
theorem o86_pu (l : List S86) : pureL (List.flatMap o86 l) = true := pureL_map o86_pure l
theorem o86_sh (l : List S86) : shrL (List.flatMap o86 l) = List.flatMap e86 l := shrL_map o86_shr l
theorem o86_rep (x : S86) (n : Nat) : List.flatMap o86 (List.replicate n x) = (List.replicate n (o86 x)).flatten := (replicate_map x n).symm
theorem o86_sd (l : List S86) (n : Nat) : List.take (((l.length - n)) * 4) (List.drop ((n) * 4) (List.flatMap o86 l)) = List.flatMap o86 (l.drop n) := by have := slD_map o86_len l n; simpa using this
theorem o86_st (l : List S86) (n : Nat) : List.take ((n) * 4) (List.flatMap o86 l) = List.flatMap o86 (l.take n) := by have := take_map o86_len l n; simpa using this
theorem o86_sb (l : List S86) (h n : Nat) : List.take (((h - n)) * 4) (List.drop ((n) * 4) (List.flatMap o86 l)) = List.flatMap o86 ((l.drop n).take (h - n)) := by have := slB_map o86_len l h n; simpa using this
theorem o86_set (l : List S86) (n : Nat) (x : S86) (h : n < l.length) : List.flatMap o86 (l.set n x) = (List.flatMap o86 l).take (n * 4) ++ o86 x ++ (List.flatMap o86 l).drop ((n + 1) * 4) := (set_map o86_len l n h x).symm
attribute [go_sem] o86_at o86_ln o86_row o86_nms o86_sh o86_rep o86_set o86_sd o86_st o86_sb o86_pu o86
def e88 (x : S88) : List Cell := [.sc (.string x.f0), .sl none 1 (List.flatMap eS x.f1), .sl none 1 (List.flatMap eS x.f2), .sc (.int .i64 x.f3)]
def o88 (x : S88) : List Cell := [.sc (.string x.f0), .sl (some 0) 1 (List.flatMap eS x.f1), .sl (some 0) 1 (List.flatMap eS x.f2), .sc (.int .i64 x.f3)]
theorem e88_len : ∀ x, (e88 x).length = 4 := fun _ => rfl
theorem e88_nm : ∀ x, noMutL (e88 x) = true := by intro x; simp [e88, go_sem]
theorem e88_cpy : ∀ x, cpyL (e88 x) = true := by intro x; simp [e88, go_sem]
theorem e88_shr : ∀ x, shrL (e88 x) = e88 x := by intro x; simp [e88, go_sem]
theorem e88_at (l : List S88) (i : Int) (h0 : 0 ≤ i) (h1 : i < l.length) : idx 4 (List.flatMap e88 l) i = some (e88 (rd_T88 l i)) := idx_map e88_len _ l i h0 h1
theorem e88_gd (l : List S88) (i : Int) : l.getD i.toNat z88 = rd_T88 l i := rfl
theorem e88_ln (l : List S88) : (List.flatMap e88 l).length = (l.length) * 4 := by rw [len_map e88_len]
theorem e88_row (l : List S88) (n : Nat) (h : n < l.length) : List.take 4 (List.drop ((n) * 4) (List.flatMap e88 l)) = e88 (l.getD n z88) := by have := row_map e88_len z88 l n h; simpa using this
theorem e88_cp (l : List S88) : cpyL (List.flatMap e88 l) = true := cpyL_map e88_cpy l
theorem e88_nms (l : List S88) : noMutL (List.flatMap e88 l) = true := noMutL_map e88_nm l
theorem e88_sh (l : List S88) : shrL (List.flatMap e88 l) = List.flatMap e88 l := shrL_map e88_shr l
theorem e88_rep (x : S88) (n : Nat) : List.flatMap e88 (List.replicate n x) = (List.replicate n (e88 x)).flatten := (replicate_map x n).symm
theorem e88_sd (l : List S88) (n : Nat) : List.take (((l.length - n)) * 4) (List.drop ((n) * 4) (List.flatMap e88 l)) = List.flatMap e88 (l.drop n) := by have := slD_map e88_len l n; simpa using this
theorem e88_st (l : List S88) (n : Nat) : List.take ((n) * 4) (List.flatMap e88 l) = List.flatMap e88 (l.take n) := by have := take_map e88_len l n; simpa using this
theorem e88_sb (l : List S88) (h n : Nat) : List.take (((h - n)) * 4) (List.drop ((n) * 4) (List.flatMap e88 l)) = List.flatMap e88 ((l.drop n).take (h - n)) := by have := slB_map e88_len l h n; simpa using this
theorem e88_set (l : List S88) (n : Nat) (x : S88) (h : n < l.length) : List.flatMap e88 (l.set n x) = (List.flatMap e88 l).take (n * 4) ++ e88 x ++ (List.flatMap e88 l).drop ((n + 1) * 4) := (set_map e88_len l n h x).symm
attribute [go_sem] e88_at e88_ln e88_row e88_nms e88_sh e88_rep e88_set e88_sd e88_st e88_sb e88_gd e88_cp e88
theorem o88_len : ∀ x, (o88 x).length = 4 := fun _ => rfl
theorem o88_nm : ∀ x, noMutL (o88 x) = true := by intro x; simp [o88, go_sem]
theorem o88_shr : ∀ x, shrL (o88 x) = e88 x := by intro x; simp [o88, e88, go_sem]
theorem o88_pure : ∀ x, pureL (o88 x) = true := by intro x; simp [o88, go_sem]
theorem o88_at (l : List S88) (i : Int) (h0 : 0 ≤ i) (h1 : i < l.length) : idx 4 (List.flatMap o88 l) i = some (o88 (rd_T88 l i)) := idx_map o88_len _ l i h0 h1
theorem o88_gd (l : List S88) (i : Int) : l.getD i.toNat z88 = rd_T88 l i := rfl
theorem o88_ln (l : List S88) : (List.flatMap o88 l).length = (l.length) * 4 := by rw [len_map o88_len]
theorem o88_row (l : List S88) (n : Nat) (h : n < l.length) : List.take 4 (List.drop ((n) * 4) (List.flatMap o88 l)) = o88 (l.getD n z88) := by have := row_map o88_len z88 l n h; simpa using this
theorem o88_nms (l : List S88) : noMutL (List.flatMap o88 l) = true := noMutL_map o88_nm l
theorem o88_pu (l : List S88) : pureL (List.flatMap o88 l) = true := pureL_map o88_pure l
theorem o88_sh (l : List S88) : shrL (List.flatMap o88 l) = List.flatMap e88 l := shrL_map o88_shr l
theorem o88_rep (x : S88) (n : Nat) : List.flatMap o88 (List.replicate n x) = (List.replicate n (o88 x)).flatten := (replicate_map x n).symm
theorem o88_sd (l : List S88) (n : Nat) : List.take (((l.length - n)) * 4) (List.drop ((n) * 4) (List.flatMap o88 l)) = List.flatMap o88 (l.drop n) := by have := slD_map o88_len l n; simpa using this
theorem o88_st (l : List S88) (n : Nat) : List.take ((n) * 4) (List.flatMap o88 l) = List.flatMap o88 (l.take n) := by have := take_map o88_len l n; simpa using this
theorem o88_sb (l : List S88) (h n : Nat) : List.take (((h - n)) * 4) (List.drop ((n) * 4) (List.flatMap o88 l)) = List.flatMap o88 ((l.drop n).take (h - n)) := by have := slB_map o88_len l h n; simpa using this
theorem o88_set (l : List S88) (n : Nat) (x : S88) (h : n < l.length) : List.flatMap o88 (l.set n x) = (List.flatMap o88 l).take (n * 4) ++ o88 x ++ (List.flatMap o88 l).drop ((n + 1) * 4) := (set_map o88_len l n h x).symm
attribute [go_sem] o88_at o88_ln o88_row o88_nms o88_sh o88_rep o88_set o88_sd o88_st o88_sb o88_pu o88
theorem es9 : elemSz Try.prog 9 = none := by kernel_rfl
theorem is9 : isStr Try.prog 9 = true := by kernel_rfl
theorem es22 : elemSz Try.prog 22 = some 6 := by kernel_rfl
theorem es23 : elemSz Try.prog 23 = some 4 := by kernel_rfl
theorem es24 : elemSz Try.prog 24 = some 4 := by kernel_rfl
theorem es27 : elemSz Try.prog 27 = some 1 := by kernel_rfl
theorem es28 : elemSz Try.prog 28 = some 1 := by kernel_rfl
theorem es37 : elemSz Try.prog 37 = some 6 := by kernel_rfl
theorem es38 : elemSz Try.prog 38 = some 4 := by kernel_rfl
theorem es39 : elemSz Try.prog 39 = some 4 := by kernel_rfl
theorem es74 : elemSz Try.prog 74 = some 3 := by kernel_rfl
theorem es84 : elemSz Try.prog 84 = some 3 := by kernel_rfl
theorem vz3 : vsz Try.prog 3 = some (false, 1) := by kernel_rfl
theorem vz9 : vsz Try.prog 9 = some (false, 1) := by kernel_rfl
theorem vz22 : vsz Try.prog 22 = some (false, 1) := by kernel_rfl
theorem vz23 : vsz Try.prog 23 = some (false, 1) := by kernel_rfl
theorem vz24 : vsz Try.prog 24 = some (false, 1) := by kernel_rfl
theorem vz26 : vsz Try.prog 26 = some (true, 3) := by kernel_rfl
theorem vz27 : vsz Try.prog 27 = some (false, 1) := by kernel_rfl
theorem vz28 : vsz Try.prog 28 = some (false, 1) := by kernel_rfl
theorem vz30 : vsz Try.prog 30 = some (true, 2) := by kernel_rfl
theorem vz32 : vsz Try.prog 32 = some (true, 4) := by kernel_rfl
theorem vz37 : vsz Try.prog 37 = some (false, 1) := by kernel_rfl
theorem vz38 : vsz Try.prog 38 = some (false, 1) := by kernel_rfl
theorem vz39 : vsz Try.prog 39 = some (false, 1) := by kernel_rfl
theorem vz41 : vsz Try.prog 41 = some (true, 3) := by kernel_rfl
theorem vz43 : vsz Try.prog 43 = some (true, 2) := by kernel_rfl
theorem vz45 : vsz Try.prog 45 = some (true, 4) := by kernel_rfl
theorem vz57 : vsz Try.prog 57 = some (true, 6) := by kernel_rfl
theorem vz72 : vsz Try.prog 72 = some (true, 6) := by kernel_rfl
theorem vz74 : vsz Try.prog 74 = some (false, 1) := by kernel_rfl
theorem vz76 : vsz Try.prog 76 = some (true, 4) := by kernel_rfl
theorem vz79 : vsz Try.prog 79 = some (true, 4) := by kernel_rfl
theorem vz84 : vsz Try.prog 84 = some (false, 1) := by kernel_rfl
theorem vz86 : vsz Try.prog 86 = some (true, 4) := by kernel_rfl
theorem vz88 : vsz Try.prog 88 = some (true, 4) := by kernel_rfl
theorem vz109 : vsz Try.prog 109 = some (true, 3) := by kernel_rfl
theorem vz110 : vsz Try.prog 110 = some (true, 3) := by kernel_rfl
theorem fo26_0 : fldOff Try.prog 26 0 = some 0 := by kernel_rfl
theorem fo26_1 : fldOff Try.prog 26 1 = some 1 := by kernel_rfl
theorem fo26_2 : fldOff Try.prog 26 2 = some 2 := by kernel_rfl
theorem fo30_0 : fldOff Try.prog 30 0 = some 0 := by kernel_rfl
theorem fo30_1 : fldOff Try.prog 30 1 = some 1 := by kernel_rfl
theorem fo32_0 : fldOff Try.prog 32 0 = some 0 := by kernel_rfl
theorem fo32_1 : fldOff Try.prog 32 1 = some 1 := by kernel_rfl
theorem fo32_2 : fldOff Try.prog 32 2 = some 3 := by kernel_rfl
theorem fo41_0 : fldOff Try.prog 41 0 = some 0 := by kernel_rfl
theorem fo41_1 : fldOff Try.prog 41 1 = some 1 := by kernel_rfl
theorem fo41_2 : fldOff Try.prog 41 2 = some 2 := by kernel_rfl
theorem fo43_0 : fldOff Try.prog 43 0 = some 0 := by kernel_rfl
theorem fo43_1 : fldOff Try.prog 43 1 = some 1 := by kernel_rfl
theorem fo45_0 : fldOff Try.prog 45 0 = some 0 := by kernel_rfl
theorem fo45_1 : fldOff Try.prog 45 1 = some 1 := by kernel_rfl
theorem fo45_2 : fldOff Try.prog 45 2 = some 3 := by kernel_rfl
theorem fo57_0 : fldOff Try.prog 57 0 = some 0 := by kernel_rfl
theorem fo57_1 : fldOff Try.prog 57 1 = some 1 := by kernel_rfl
theorem fo57_2 : fldOff Try.prog 57 2 = some 2 := by kernel_rfl
theorem fo57_3 : fldOff Try.prog 57 3 = some 3 := by kernel_rfl
theorem fo57_4 : fldOff Try.prog 57 4 = some 4 := by kernel_rfl
theorem fo57_5 : fldOff Try.prog 57 5 = some 5 := by kernel_rfl
theorem fo72_0 : fldOff Try.prog 72 0 = some 0 := by kernel_rfl
theorem fo72_1 : fldOff Try.prog 72 1 = some 1 := by kernel_rfl
theorem fo72_2 : fldOff Try.prog 72 2 = some 2 := by kernel_rfl
theorem fo72_3 : fldOff Try.prog 72 3 = some 3 := by kernel_rfl
theorem fo72_4 : fldOff Try.prog 72 4 = some 4 := by kernel_rfl
theorem fo72_5 : fldOff Try.prog 72 5 = some 5 := by kernel_rfl
theorem fo76_0 : fldOff Try.prog 76 0 = some 0 := by kernel_rfl
theorem fo76_1 : fldOff Try.prog 76 1 = some 1 := by kernel_rfl
theorem fo76_2 : fldOff Try.prog 76 2 = some 2 := by kernel_rfl
theorem fo76_3 : fldOff Try.prog 76 3 = some 3 := by kernel_rfl
theorem fo79_0 : fldOff Try.prog 79 0 = some 0 := by kernel_rfl
theorem fo79_1 : fldOff Try.prog 79 1 = some 1 := by kernel_rfl
theorem fo79_2 : fldOff Try.prog 79 2 = some 2 := by kernel_rfl
theorem fo79_3 : fldOff Try.prog 79 3 = some 3 := by kernel_rfl
theorem fo86_0 : fldOff Try.prog 86 0 = some 0 := by kernel_rfl
theorem fo86_1 : fldOff Try.prog 86 1 = some 1 := by kernel_rfl
theorem fo86_2 : fldOff Try.prog 86 2 = some 2 := by kernel_rfl
theorem fo86_3 : fldOff Try.prog 86 3 = some 3 := by kernel_rfl
theorem fo88_0 : fldOff Try.prog 88 0 = some 0 := by kernel_rfl
theorem fo88_1 : fldOff Try.prog 88 1 = some 1 := by kernel_rfl
theorem fo88_2 : fldOff Try.prog 88 2 = some 2 := by kernel_rfl
theorem fo88_3 : fldOff Try.prog 88 3 = some 3 := by kernel_rfl
theorem fo109_0 : fldOff Try.prog 109 0 = some 0 := by kernel_rfl
theorem fo109_1 : fldOff Try.prog 109 1 = some 1 := by kernel_rfl
theorem fo109_2 : fldOff Try.prog 109 2 = some 2 := by kernel_rfl
theorem fo110_0 : fldOff Try.prog 110 0 = some 0 := by kernel_rfl
theorem fo110_1 : fldOff Try.prog 110 1 = some 1 := by kernel_rfl
theorem fo110_2 : fldOff Try.prog 110 2 = some 2 := by kernel_rfl
attribute [go_sem] Try.underlying27
theorem bo3_27 : Try.prog.bytesOf 3 = 8 := by kernel_rfl
attribute [go_sem] Try.underlying28
theorem bo9_28 : Try.prog.bytesOf 9 = 16 := by kernel_rfl
attribute [go_sem] Try.underlying37
theorem bo57_37 : Try.prog.bytesOf 57 = 88 := by kernel_rfl
attribute [go_sem] Try.underlying38
theorem bo86_38 : Try.prog.bytesOf 86 = 88 := by kernel_rfl
attribute [go_sem] Try.underlying39
theorem bo88_39 : Try.prog.bytesOf 88 = 72 := by kernel_rfl
attribute [go_sem] Try.underlying84
theorem bo110_84 : Try.prog.bytesOf 110 = 40 := by kernel_rfl
theorem zc3 : zcell Try.prog 3 = some [.sc (.int .i64 0)] := by kernel_rfl
theorem zc9 : zcell Try.prog 9 = some [.sc (.string .empty)] := by kernel_rfl
theorem zc41 : zcell Try.prog 41 = some [.sl (some 0) 6 [], .sl (some 0) 4 [], .sl (some 0) 4 []] := by kernel_rfl
theorem zc43 : zcell Try.prog 43 = some [.sl (some 0) 1 [], .sl (some 0) 1 []] := by kernel_rfl
theorem zc45 : zcell Try.prog 45 = some [.sl (some 0) 1 [], .sl (some 0) 1 [], .sl (some 0) 1 [], .sc (.int .i64 0)] := by kernel_rfl
theorem zc57 : zcell Try.prog 57 = some [.sc (.int .i64 0), .sc (.int .i64 0), .sc (.string .empty), .sc (.string .empty), .sc (.string .empty), .sl (some 0) 1 []] := by kernel_rfl
theorem zc86 : zcell Try.prog 86 = some [.sc (.string .empty), .sl (some 0) 1 [], .sl (some 0) 1 [], .sl (some 0) 3 []] := by kernel_rfl
theorem zc88 : zcell Try.prog 88 = some [.sc (.string .empty), .sl (some 0) 1 [], .sl (some 0) 1 [], .sc (.int .i64 0)] := by kernel_rfl
theorem zc110 : zcell Try.prog 110 = some [.sc (.string .empty), .sc (.string .empty), .sc (.int .i64 0)] := by kernel_rfl
theorem dv3 (n : Nat) : n * 3 / 3 = n := Nat.mul_div_cancel _ (by decide)
theorem dv4 (n : Nat) : n * 4 / 4 = n := Nat.mul_div_cancel _ (by decide)
theorem dv6 (n : Nat) : n * 6 / 6 = n := Nat.mul_div_cancel _ (by decide)
attribute [go_sem] Nat.div_one
def byteAt (s : ByteArray) (i : Int) : UInt8 := if h : i.toNat < s.size then s[i.toNat] else 0
theorem byteAt_get (s : ByteArray) (i : Int) (h0 : 0 ≤ i) (h1 : i < s.size) : s[i.toNat]? = some (byteAt s i) := by
  have h : i.toNat < s.size := by omega
  rw [getElem?_pos s i.toNat h]
  simp [byteAt, h]
theorem byteAt_bt (s : ByteArray) (i : Int) : ((byteAt s i).toNat : Int) = bt s i := by
  unfold byteAt bt
  split <;> simp
attribute [go_sem] evStrIx
theorem ba_empty : (⟨#[]⟩ : ByteArray) = ByteArray.empty := rfl
attribute [go_sem] z72 z109 z76 z79 z57 z110 z86 z88
theorem mo : Try.prog.follows .mixedOrders = true := by kernel_rfl
attribute [go_sem] es9 is9 es22 es23 es24 es27 es28 es37 es38 es39 es74 es84 vz3 vz9 vz22 vz23 vz24 vz26 vz27 vz28 vz30 vz32 vz37 vz38 vz39 vz41 vz43 vz45 vz57 vz72 vz74 vz76 vz79 vz84 vz86 vz88 vz109 vz110 fo26_0 fo26_1 fo26_2 fo30_0 fo30_1 fo32_0 fo32_1 fo32_2 fo41_0 fo41_1 fo41_2 fo43_0 fo43_1 fo45_0 fo45_1 fo45_2 fo57_0 fo57_1 fo57_2 fo57_3 fo57_4 fo57_5 fo72_0 fo72_1 fo72_2 fo72_3 fo72_4 fo72_5 fo76_0 fo76_1 fo76_2 fo76_3 fo79_0 fo79_1 fo79_2 fo79_3 fo86_0 fo86_1 fo86_2 fo86_3 fo88_0 fo88_1 fo88_2 fo88_3 fo109_0 fo109_1 fo109_2 fo110_0 fo110_1 fo110_2 bo3_27 bo9_28 bo57_37 bo86_38 bo88_39 bo110_84 zc3 zc9 zc41 zc43 zc45 zc57 zc86 zc88 zc110 dv3 dv4 dv6 byteAt_bt byteAt_get ba_empty
end Go.Proofs.Ytjjhknklnclokaa.PFnExactValueAt
