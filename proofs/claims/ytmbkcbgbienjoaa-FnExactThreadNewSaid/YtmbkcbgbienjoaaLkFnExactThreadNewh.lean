/- What values are in cells; facts on the program's types. No condition. -/
import Derived.Test.YtmbkcbgbienjoaaChecked
import Derived.KernelRfl
import Derived.Test.YtmbkcbgbienjoaaStFnExactThreadNew
import Derived.Test.YtmbkcbgbienjoaaA5
open Go Go.Proofs Go.Proofs.Ytmbkcbgbienjoaa.Abs
namespace Go.Proofs.Ytmbkcbgbienjoaa.PFnExactThreadNew
open Go.RowKit Go.Proofs.YtmbkcbgbienjoaaW.PrintWords Go.Proofs.YtmbkcbgbienjoaaW.PrintLast Go.Proofs.YtmbkcbgbienjoaaW.PrintMore
set_option linter.unusedVariables false
set_option linter.unusedSimpArgs false
set_option maxRecDepth 100000
theorem eI_at (l : List Int) (i : Int) (h0 : 0 ≤ i) (h1 : i < l.length) : idx 1 (List.flatMap eI l) i = some (eI (rd l i)) := idx_map eI_len _ l i h0 h1
theorem eI_gd (l : List Int) (i : Int) : l.getD i.toNat 0 = rd l i := rfl
theorem eI_ln (l : List Int) : (List.flatMap eI l).length = l.length := by rw [len_map eI_len]; exact Nat.mul_one _
theorem eI_row (l : List Int) (n : Nat) (h : n < l.length) : List.take 1 (List.drop (n) (List.flatMap eI l)) = eI (l.getD n 0) := by have := row_map eI_len 0 l n h; simpa using this
theorem eI_cp (l : List Int) : cpyL (List.flatMap eI l) = true := cpyL_map eI_cpy l
theorem eI_nms (l : List Int) : noMutL (List.flatMap eI l) = true := noMutL_map eI_nm l
theorem eI_pu (l : List Int) : pureL (List.flatMap eI l) = true := pureL_map eI_pure l
theorem eI_sh (l : List Int) : shrL (List.flatMap eI l) = List.flatMap eI l := shrL_map eI_shr l
theorem eI_rep (x : Int) (n : Nat) : List.flatMap eI (List.replicate n x) = (List.replicate n (eI x)).flatten := (replicate_map x n).symm
theorem eI_sd (l : List Int) (n : Nat) : List.take ((l.length - n)) (List.drop (n) (List.flatMap eI l)) = List.flatMap eI (l.drop n) := by have := slD_map eI_len l n; simpa using this
theorem eI_st (l : List Int) (n : Nat) : List.take (n) (List.flatMap eI l) = List.flatMap eI (l.take n) := by have := take_map eI_len l n; simpa using this
theorem eI_sb (l : List Int) (h n : Nat) : List.take ((h - n)) (List.drop (n) (List.flatMap eI l)) = List.flatMap eI ((l.drop n).take (h - n)) := by have := slB_map eI_len l h n; simpa using this
theorem eI_set (l : List Int) (n : Nat) (x : Int) (h : n < l.length) : List.flatMap eI (l.set n x) = (List.flatMap eI l).take (n * 1) ++ eI x ++ (List.flatMap eI l).drop ((n + 1) * 1) := (set_map eI_len l n h x).symm
attribute [go_sem] eI_at eI_ln eI_row eI_nms eI_sh eI_rep eI_set eI_sd eI_st eI_sb eI_gd eI_cp eI_pu
theorem eS_at (l : List ByteArray) (i : Int) (h0 : 0 ≤ i) (h1 : i < l.length) : idx 1 (List.flatMap eS l) i = some (eS (rdOf ByteArray.empty l i)) := idx_map eS_len _ l i h0 h1
theorem eS_gd (l : List ByteArray) (i : Int) : l.getD i.toNat ByteArray.empty = rdOf ByteArray.empty l i := rfl
theorem eS_ln (l : List ByteArray) : (List.flatMap eS l).length = l.length := by rw [len_map eS_len]; exact Nat.mul_one _
theorem eS_row (l : List ByteArray) (n : Nat) (h : n < l.length) : List.take 1 (List.drop (n) (List.flatMap eS l)) = eS (l.getD n ByteArray.empty) := by have := row_map eS_len ByteArray.empty l n h; simpa using this
theorem eS_cp (l : List ByteArray) : cpyL (List.flatMap eS l) = true := cpyL_map eS_cpy l
theorem eS_nms (l : List ByteArray) : noMutL (List.flatMap eS l) = true := noMutL_map eS_nm l
theorem eS_pu (l : List ByteArray) : pureL (List.flatMap eS l) = true := pureL_map eS_pure l
theorem eS_sh (l : List ByteArray) : shrL (List.flatMap eS l) = List.flatMap eS l := shrL_map eS_shr l
theorem eS_rep (x : ByteArray) (n : Nat) : List.flatMap eS (List.replicate n x) = (List.replicate n (eS x)).flatten := (replicate_map x n).symm
theorem eS_sd (l : List ByteArray) (n : Nat) : List.take ((l.length - n)) (List.drop (n) (List.flatMap eS l)) = List.flatMap eS (l.drop n) := by have := slD_map eS_len l n; simpa using this
theorem eS_st (l : List ByteArray) (n : Nat) : List.take (n) (List.flatMap eS l) = List.flatMap eS (l.take n) := by have := take_map eS_len l n; simpa using this
theorem eS_sb (l : List ByteArray) (h n : Nat) : List.take ((h - n)) (List.drop (n) (List.flatMap eS l)) = List.flatMap eS ((l.drop n).take (h - n)) := by have := slB_map eS_len l h n; simpa using this
theorem eS_set (l : List ByteArray) (n : Nat) (x : ByteArray) (h : n < l.length) : List.flatMap eS (l.set n x) = (List.flatMap eS l).take (n * 1) ++ eS x ++ (List.flatMap eS l).drop ((n + 1) * 1) := (set_map eS_len l n h x).symm
attribute [go_sem] eS_at eS_ln eS_row eS_nms eS_sh eS_rep eS_set eS_sd eS_st eS_sb eS_gd eS_cp eS_pu
def e113 (x : S113) : List Cell := [.sc (.int .i64 x.f0), .sc (.int .i64 x.f1), .sc (.string x.f2), .sc (.string x.f3), .sc (.string x.f4), .sl none 1 (List.flatMap eI x.f5)]
def o113 (x : S113) : List Cell := [.sc (.int .i64 x.f0), .sc (.int .i64 x.f1), .sc (.string x.f2), .sc (.string x.f3), .sc (.string x.f4), .sl (some 0) 1 (List.flatMap eI x.f5)]
theorem e113_len : ∀ x, (e113 x).length = 6 := fun _ => rfl
theorem e113_nm : ∀ x, noMutL (e113 x) = true := by intro x; simp [e113, go_sem]
theorem e113_cpy : ∀ x, cpyL (e113 x) = true := by intro x; simp [e113, go_sem]
theorem e113_shr : ∀ x, shrL (e113 x) = e113 x := by intro x; simp [e113, go_sem]
theorem e113_at (l : List S113) (i : Int) (h0 : 0 ≤ i) (h1 : i < l.length) : idx 6 (List.flatMap e113 l) i = some (e113 (rd_T113 l i)) := idx_map e113_len _ l i h0 h1
theorem e113_gd (l : List S113) (i : Int) : l.getD i.toNat z113 = rd_T113 l i := rfl
theorem e113_ln (l : List S113) : (List.flatMap e113 l).length = (l.length) * 6 := by rw [len_map e113_len]
theorem e113_row (l : List S113) (n : Nat) (h : n < l.length) : List.take 6 (List.drop ((n) * 6) (List.flatMap e113 l)) = e113 (l.getD n z113) := by have := row_map e113_len z113 l n h; simpa using this
theorem e113_cp (l : List S113) : cpyL (List.flatMap e113 l) = true := cpyL_map e113_cpy l
theorem e113_nms (l : List S113) : noMutL (List.flatMap e113 l) = true := noMutL_map e113_nm l
theorem e113_sh (l : List S113) : shrL (List.flatMap e113 l) = List.flatMap e113 l := shrL_map e113_shr l
theorem e113_rep (x : S113) (n : Nat) : List.flatMap e113 (List.replicate n x) = (List.replicate n (e113 x)).flatten := (replicate_map x n).symm
theorem e113_sd (l : List S113) (n : Nat) : List.take (((l.length - n)) * 6) (List.drop ((n) * 6) (List.flatMap e113 l)) = List.flatMap e113 (l.drop n) := by have := slD_map e113_len l n; simpa using this
theorem e113_st (l : List S113) (n : Nat) : List.take ((n) * 6) (List.flatMap e113 l) = List.flatMap e113 (l.take n) := by have := take_map e113_len l n; simpa using this
theorem e113_sb (l : List S113) (h n : Nat) : List.take (((h - n)) * 6) (List.drop ((n) * 6) (List.flatMap e113 l)) = List.flatMap e113 ((l.drop n).take (h - n)) := by have := slB_map e113_len l h n; simpa using this
theorem e113_set (l : List S113) (n : Nat) (x : S113) (h : n < l.length) : List.flatMap e113 (l.set n x) = (List.flatMap e113 l).take (n * 6) ++ e113 x ++ (List.flatMap e113 l).drop ((n + 1) * 6) := (set_map e113_len l n h x).symm
attribute [go_sem] e113_at e113_ln e113_row e113_nms e113_sh e113_rep e113_set e113_sd e113_st e113_sb e113_gd e113_cp e113
theorem o113_len : ∀ x, (o113 x).length = 6 := fun _ => rfl
theorem o113_nm : ∀ x, noMutL (o113 x) = true := by intro x; simp [o113, go_sem]
theorem o113_shr : ∀ x, shrL (o113 x) = e113 x := by intro x; simp [o113, e113, go_sem]
theorem o113_pure : ∀ x, pureL (o113 x) = true := by intro x; simp [o113, go_sem]
theorem o113_at (l : List S113) (i : Int) (h0 : 0 ≤ i) (h1 : i < l.length) : idx 6 (List.flatMap o113 l) i = some (o113 (rd_T113 l i)) := idx_map o113_len _ l i h0 h1
theorem o113_gd (l : List S113) (i : Int) : l.getD i.toNat z113 = rd_T113 l i := rfl
theorem o113_ln (l : List S113) : (List.flatMap o113 l).length = (l.length) * 6 := by rw [len_map o113_len]
theorem o113_row (l : List S113) (n : Nat) (h : n < l.length) : List.take 6 (List.drop ((n) * 6) (List.flatMap o113 l)) = o113 (l.getD n z113) := by have := row_map o113_len z113 l n h; simpa using this
theorem o113_nms (l : List S113) : noMutL (List.flatMap o113 l) = true := noMutL_map o113_nm l
theorem o113_pu (l : List S113) : pureL (List.flatMap o113 l) = true := pureL_map o113_pure l
theorem o113_sh (l : List S113) : shrL (List.flatMap o113 l) = List.flatMap e113 l := shrL_map o113_shr l
theorem o113_rep (x : S113) (n : Nat) : List.flatMap o113 (List.replicate n x) = (List.replicate n (o113 x)).flatten := (replicate_map x n).symm
theorem o113_sd (l : List S113) (n : Nat) : List.take (((l.length - n)) * 6) (List.drop ((n) * 6) (List.flatMap o113 l)) = List.flatMap o113 (l.drop n) := by have := slD_map o113_len l n; simpa using this
theorem o113_st (l : List S113) (n : Nat) : List.take ((n) * 6) (List.flatMap o113 l) = List.flatMap o113 (l.take n) := by have := take_map o113_len l n; simpa using this
theorem o113_sb (l : List S113) (h n : Nat) : List.take (((h - n)) * 6) (List.drop ((n) * 6) (List.flatMap o113 l)) = List.flatMap o113 ((l.drop n).take (h - n)) := by have := slB_map o113_len l h n; simpa using this
theorem o113_set (l : List S113) (n : Nat) (x : S113) (h : n < l.length) : List.flatMap o113 (l.set n x) = (List.flatMap o113 l).take (n * 6) ++ o113 x ++ (List.flatMap o113 l).drop ((n + 1) * 6) := (set_map o113_len l n h x).symm
attribute [go_sem] o113_at o113_ln o113_row o113_nms o113_sh o113_rep o113_set o113_sd o113_st o113_sb o113_pu o113
def e143 (x : S143) : List Cell := [.sc (.string x.f0), .sc (.string x.f1), .sc (.int .i64 x.f2)]
abbrev o143 := e143
theorem e143_len : ∀ x, (e143 x).length = 3 := fun _ => rfl
theorem e143_nm : ∀ x, noMutL (e143 x) = true := by intro x; simp [e143, go_sem]
theorem e143_cpy : ∀ x, cpyL (e143 x) = true := by intro x; simp [e143, go_sem]
theorem e143_shr : ∀ x, shrL (e143 x) = e143 x := by intro x; simp [e143, go_sem]
theorem e143_pure : ∀ x, pureL (e143 x) = true := by intro x; rfl
theorem e143_at (l : List S143) (i : Int) (h0 : 0 ≤ i) (h1 : i < l.length) : idx 3 (List.flatMap e143 l) i = some (e143 (rd_T143 l i)) := idx_map e143_len _ l i h0 h1
theorem e143_gd (l : List S143) (i : Int) : l.getD i.toNat z143 = rd_T143 l i := rfl
theorem e143_ln (l : List S143) : (List.flatMap e143 l).length = (l.length) * 3 := by rw [len_map e143_len]
theorem e143_row (l : List S143) (n : Nat) (h : n < l.length) : List.take 3 (List.drop ((n) * 3) (List.flatMap e143 l)) = e143 (l.getD n z143) := by have := row_map e143_len z143 l n h; simpa using this
theorem e143_cp (l : List S143) : cpyL (List.flatMap e143 l) = true := cpyL_map e143_cpy l
theorem e143_nms (l : List S143) : noMutL (List.flatMap e143 l) = true := noMutL_map e143_nm l
theorem e143_pu (l : List S143) : pureL (List.flatMap e143 l) = true := pureL_map e143_pure l
theorem e143_sh (l : List S143) : shrL (List.flatMap e143 l) = List.flatMap e143 l := shrL_map e143_shr l
theorem e143_rep (x : S143) (n : Nat) : List.flatMap e143 (List.replicate n x) = (List.replicate n (e143 x)).flatten := (replicate_map x n).symm
theorem e143_sd (l : List S143) (n : Nat) : List.take (((l.length - n)) * 3) (List.drop ((n) * 3) (List.flatMap e143 l)) = List.flatMap e143 (l.drop n) := by have := slD_map e143_len l n; simpa using this
theorem e143_st (l : List S143) (n : Nat) : List.take ((n) * 3) (List.flatMap e143 l) = List.flatMap e143 (l.take n) := by have := take_map e143_len l n; simpa using this
theorem e143_sb (l : List S143) (h n : Nat) : List.take (((h - n)) * 3) (List.drop ((n) * 3) (List.flatMap e143 l)) = List.flatMap e143 ((l.drop n).take (h - n)) := by have := slB_map e143_len l h n; simpa using this
theorem e143_set (l : List S143) (n : Nat) (x : S143) (h : n < l.length) : List.flatMap e143 (l.set n x) = (List.flatMap e143 l).take (n * 3) ++ e143 x ++ (List.flatMap e143 l).drop ((n + 1) * 3) := (set_map e143_len l n h x).symm
attribute [go_sem] e143_at e143_ln e143_row e143_nms e143_sh e143_rep e143_set e143_sd e143_st e143_sb e143_gd e143_cp e143_pu e143
def e117 (x : S117) : List Cell := [.sc (.string x.f0), .sl none 1 (List.flatMap eS x.f1), .sl none 1 (List.flatMap eS x.f2), .sl none 3 (List.flatMap e143 x.f3)]
def o117 (x : S117) : List Cell := [.sc (.string x.f0), .sl (some 0) 1 (List.flatMap eS x.f1), .sl (some 0) 1 (List.flatMap eS x.f2), .sl (some 0) 3 (List.flatMap e143 x.f3)]
theorem e117_len : ∀ x, (e117 x).length = 4 := fun _ => rfl
theorem e117_nm : ∀ x, noMutL (e117 x) = true := by intro x; simp [e117, go_sem]
theorem e117_cpy : ∀ x, cpyL (e117 x) = true := by intro x; simp [e117, go_sem]
theorem e117_shr : ∀ x, shrL (e117 x) = e117 x := by intro x; simp [e117, go_sem]
theorem e117_at (l : List S117) (i : Int) (h0 : 0 ≤ i) (h1 : i < l.length) : idx 4 (List.flatMap e117 l) i = some (e117 (rd_T117 l i)) := idx_map e117_len _ l i h0 h1
theorem e117_gd (l : List S117) (i : Int) : l.getD i.toNat z117 = rd_T117 l i := rfl
theorem e117_ln (l : List S117) : (List.flatMap e117 l).length = (l.length) * 4 := by rw [len_map e117_len]
theorem e117_row (l : List S117) (n : Nat) (h : n < l.length) : List.take 4 (List.drop ((n) * 4) (List.flatMap e117 l)) = e117 (l.getD n z117) := by have := row_map e117_len z117 l n h; simpa using this
theorem e117_cp (l : List S117) : cpyL (List.flatMap e117 l) = true := cpyL_map e117_cpy l
theorem e117_nms (l : List S117) : noMutL (List.flatMap e117 l) = true := noMutL_map e117_nm l
theorem e117_sh (l : List S117) : shrL (List.flatMap e117 l) = List.flatMap e117 l := shrL_map e117_shr l
theorem e117_rep (x : S117) (n : Nat) : List.flatMap e117 (List.replicate n x) = (List.replicate n (e117 x)).flatten := (replicate_map x n).symm
theorem e117_sd (l : List S117) (n : Nat) : List.take (((l.length - n)) * 4) (List.drop ((n) * 4) (List.flatMap e117 l)) = List.flatMap e117 (l.drop n) := by have := slD_map e117_len l n; simpa using this
theorem e117_st (l : List S117) (n : Nat) : List.take ((n) * 4) (List.flatMap e117 l) = List.flatMap e117 (l.take n) := by have := take_map e117_len l n; simpa using this
theorem e117_sb (l : List S117) (h n : Nat) : List.take (((h - n)) * 4) (List.drop ((n) * 4) (List.flatMap e117 l)) = List.flatMap e117 ((l.drop n).take (h - n)) := by have := slB_map e117_len l h n; simpa using this
theorem e117_set (l : List S117) (n : Nat) (x : S117) (h : n < l.length) : List.flatMap e117 (l.set n x) = (List.flatMap e117 l).take (n * 4) ++ e117 x ++ (List.flatMap e117 l).drop ((n + 1) * 4) := (set_map e117_len l n h x).symm
attribute [go_sem] e117_at e117_ln e117_row e117_nms e117_sh e117_rep e117_set e117_sd e117_st e117_sb e117_gd e117_cp e117
theorem o117_len : ∀ x, (o117 x).length = 4 := fun _ => rfl
theorem o117_nm : ∀ x, noMutL (o117 x) = true := by intro x; simp [o117, go_sem]
theorem o117_shr : ∀ x, shrL (o117 x) = e117 x := by intro x; simp [o117, e117, go_sem]
theorem o117_pure : ∀ x, pureL (o117 x) = true := by intro x; simp [o117, go_sem]
theorem o117_at (l : List S117) (i : Int) (h0 : 0 ≤ i) (h1 : i < l.length) : idx 4 (List.flatMap o117 l) i = some (o117 (rd_T117 l i)) := idx_map o117_len _ l i h0 h1
theorem o117_gd (l : List S117) (i : Int) : l.getD i.toNat z117 = rd_T117 l i := rfl
theorem o117_ln (l : List S117) : (List.flatMap o117 l).length = (l.length) * 4 := by rw [len_map o117_len]
theorem o117_row (l : List S117) (n : Nat) (h : n < l.length) : List.take 4 (List.drop ((n) * 4) (List.flatMap o117 l)) = o117 (l.getD n z117) := by have := row_map o117_len z117 l n h; simpa using this
theorem o117_nms (l : List S117) : noMutL (List.flatMap o117 l) = true := noMutL_map o117_nm l
theorem o117_pu (l : List S117) : pureL (List.flatMap o117 l) = true := pureL_map o117_pure l
theorem o117_sh (l : List S117) : shrL (List.flatMap o117 l) = List.flatMap e117 l := shrL_map o117_shr l
theorem o117_rep (x : S117) (n : Nat) : List.flatMap o117 (List.replicate n x) = (List.replicate n (o117 x)).flatten := (replicate_map x n).symm
theorem o117_sd (l : List S117) (n : Nat) : List.take (((l.length - n)) * 4) (List.drop ((n) * 4) (List.flatMap o117 l)) = List.flatMap o117 (l.drop n) := by have := slD_map o117_len l n; simpa using this
theorem o117_st (l : List S117) (n : Nat) : List.take ((n) * 4) (List.flatMap o117 l) = List.flatMap o117 (l.take n) := by have := take_map o117_len l n; simpa using this
theorem o117_sb (l : List S117) (h n : Nat) : List.take (((h - n)) * 4) (List.drop ((n) * 4) (List.flatMap o117 l)) = List.flatMap o117 ((l.drop n).take (h - n)) := by have := slB_map o117_len l h n; simpa using this
theorem o117_set (l : List S117) (n : Nat) (x : S117) (h : n < l.length) : List.flatMap o117 (l.set n x) = (List.flatMap o117 l).take (n * 4) ++ o117 x ++ (List.flatMap o117 l).drop ((n + 1) * 4) := (set_map o117_len l n h x).symm
attribute [go_sem] o117_at o117_ln o117_row o117_nms o117_sh o117_rep o117_set o117_sd o117_st o117_sb o117_pu o117
def e119 (x : S119) : List Cell := [.sc (.string x.f0), .sl none 1 (List.flatMap eS x.f1), .sl none 1 (List.flatMap eS x.f2), .sc (.int .i64 x.f3)]
def o119 (x : S119) : List Cell := [.sc (.string x.f0), .sl (some 0) 1 (List.flatMap eS x.f1), .sl (some 0) 1 (List.flatMap eS x.f2), .sc (.int .i64 x.f3)]
theorem e119_len : ∀ x, (e119 x).length = 4 := fun _ => rfl
theorem e119_nm : ∀ x, noMutL (e119 x) = true := by intro x; simp [e119, go_sem]
theorem e119_cpy : ∀ x, cpyL (e119 x) = true := by intro x; simp [e119, go_sem]
theorem e119_shr : ∀ x, shrL (e119 x) = e119 x := by intro x; simp [e119, go_sem]
theorem e119_at (l : List S119) (i : Int) (h0 : 0 ≤ i) (h1 : i < l.length) : idx 4 (List.flatMap e119 l) i = some (e119 (rd_T119 l i)) := idx_map e119_len _ l i h0 h1
theorem e119_gd (l : List S119) (i : Int) : l.getD i.toNat z119 = rd_T119 l i := rfl
theorem e119_ln (l : List S119) : (List.flatMap e119 l).length = (l.length) * 4 := by rw [len_map e119_len]
theorem e119_row (l : List S119) (n : Nat) (h : n < l.length) : List.take 4 (List.drop ((n) * 4) (List.flatMap e119 l)) = e119 (l.getD n z119) := by have := row_map e119_len z119 l n h; simpa using this
theorem e119_cp (l : List S119) : cpyL (List.flatMap e119 l) = true := cpyL_map e119_cpy l
theorem e119_nms (l : List S119) : noMutL (List.flatMap e119 l) = true := noMutL_map e119_nm l
theorem e119_sh (l : List S119) : shrL (List.flatMap e119 l) = List.flatMap e119 l := shrL_map e119_shr l
theorem e119_rep (x : S119) (n : Nat) : List.flatMap e119 (List.replicate n x) = (List.replicate n (e119 x)).flatten := (replicate_map x n).symm
theorem e119_sd (l : List S119) (n : Nat) : List.take (((l.length - n)) * 4) (List.drop ((n) * 4) (List.flatMap e119 l)) = List.flatMap e119 (l.drop n) := by have := slD_map e119_len l n; simpa using this
theorem e119_st (l : List S119) (n : Nat) : List.take ((n) * 4) (List.flatMap e119 l) = List.flatMap e119 (l.take n) := by have := take_map e119_len l n; simpa using this
theorem e119_sb (l : List S119) (h n : Nat) : List.take (((h - n)) * 4) (List.drop ((n) * 4) (List.flatMap e119 l)) = List.flatMap e119 ((l.drop n).take (h - n)) := by have := slB_map e119_len l h n; simpa using this
theorem e119_set (l : List S119) (n : Nat) (x : S119) (h : n < l.length) : List.flatMap e119 (l.set n x) = (List.flatMap e119 l).take (n * 4) ++ e119 x ++ (List.flatMap e119 l).drop ((n + 1) * 4) := (set_map e119_len l n h x).symm
attribute [go_sem] e119_at e119_ln e119_row e119_nms e119_sh e119_rep e119_set e119_sd e119_st e119_sb e119_gd e119_cp e119
theorem o119_len : ∀ x, (o119 x).length = 4 := fun _ => rfl
theorem o119_nm : ∀ x, noMutL (o119 x) = true := by intro x; simp [o119, go_sem]
theorem o119_shr : ∀ x, shrL (o119 x) = e119 x := by intro x; simp [o119, e119, go_sem]
theorem o119_pure : ∀ x, pureL (o119 x) = true := by intro x; simp [o119, go_sem]
theorem o119_at (l : List S119) (i : Int) (h0 : 0 ≤ i) (h1 : i < l.length) : idx 4 (List.flatMap o119 l) i = some (o119 (rd_T119 l i)) := idx_map o119_len _ l i h0 h1
theorem o119_gd (l : List S119) (i : Int) : l.getD i.toNat z119 = rd_T119 l i := rfl
theorem o119_ln (l : List S119) : (List.flatMap o119 l).length = (l.length) * 4 := by rw [len_map o119_len]
theorem o119_row (l : List S119) (n : Nat) (h : n < l.length) : List.take 4 (List.drop ((n) * 4) (List.flatMap o119 l)) = o119 (l.getD n z119) := by have := row_map o119_len z119 l n h; simpa using this
theorem o119_nms (l : List S119) : noMutL (List.flatMap o119 l) = true := noMutL_map o119_nm l
theorem o119_pu (l : List S119) : pureL (List.flatMap o119 l) = true := pureL_map o119_pure l
theorem o119_sh (l : List S119) : shrL (List.flatMap o119 l) = List.flatMap e119 l := shrL_map o119_shr l
theorem o119_rep (x : S119) (n : Nat) : List.flatMap o119 (List.replicate n x) = (List.replicate n (o119 x)).flatten := (replicate_map x n).symm
theorem o119_sd (l : List S119) (n : Nat) : List.take (((l.length - n)) * 4) (List.drop ((n) * 4) (List.flatMap o119 l)) = List.flatMap o119 (l.drop n) := by have := slD_map o119_len l n; simpa using this
theorem o119_st (l : List S119) (n : Nat) : List.take ((n) * 4) (List.flatMap o119 l) = List.flatMap o119 (l.take n) := by have := take_map o119_len l n; simpa using this
theorem o119_sb (l : List S119) (h n : Nat) : List.take (((h - n)) * 4) (List.drop ((n) * 4) (List.flatMap o119 l)) = List.flatMap o119 ((l.drop n).take (h - n)) := by have := slB_map o119_len l h n; simpa using this
theorem o119_set (l : List S119) (n : Nat) (x : S119) (h : n < l.length) : List.flatMap o119 (l.set n x) = (List.flatMap o119 l).take (n * 4) ++ o119 x ++ (List.flatMap o119 l).drop ((n + 1) * 4) := (set_map o119_len l n h x).symm
attribute [go_sem] o119_at o119_ln o119_row o119_nms o119_sh o119_rep o119_set o119_sd o119_st o119_sb o119_pu o119
def e77 (x : S77) : List Cell := [.sc (.int .i64 x.f0), .sc (.int .i64 x.f1), .sc (.string x.f2), .sc (.string x.f3), .sc (.string x.f4), .sl none 1 (List.flatMap eI x.f5)]
def o77 (x : S77) : List Cell := [.sc (.int .i64 x.f0), .sc (.int .i64 x.f1), .sc (.string x.f2), .sc (.string x.f3), .sc (.string x.f4), .sl (some 0) 1 (List.flatMap eI x.f5)]
theorem e77_len : ∀ x, (e77 x).length = 6 := fun _ => rfl
theorem e77_nm : ∀ x, noMutL (e77 x) = true := by intro x; simp [e77, go_sem]
theorem e77_cpy : ∀ x, cpyL (e77 x) = true := by intro x; simp [e77, go_sem]
theorem e77_shr : ∀ x, shrL (e77 x) = e77 x := by intro x; simp [e77, go_sem]
theorem e77_at (l : List S77) (i : Int) (h0 : 0 ≤ i) (h1 : i < l.length) : idx 6 (List.flatMap e77 l) i = some (e77 (rd_T77 l i)) := idx_map e77_len _ l i h0 h1
theorem e77_gd (l : List S77) (i : Int) : l.getD i.toNat z77 = rd_T77 l i := rfl
theorem e77_ln (l : List S77) : (List.flatMap e77 l).length = (l.length) * 6 := by rw [len_map e77_len]
theorem e77_row (l : List S77) (n : Nat) (h : n < l.length) : List.take 6 (List.drop ((n) * 6) (List.flatMap e77 l)) = e77 (l.getD n z77) := by have := row_map e77_len z77 l n h; simpa using this
theorem e77_cp (l : List S77) : cpyL (List.flatMap e77 l) = true := cpyL_map e77_cpy l
theorem e77_nms (l : List S77) : noMutL (List.flatMap e77 l) = true := noMutL_map e77_nm l
theorem e77_sh (l : List S77) : shrL (List.flatMap e77 l) = List.flatMap e77 l := shrL_map e77_shr l
theorem e77_rep (x : S77) (n : Nat) : List.flatMap e77 (List.replicate n x) = (List.replicate n (e77 x)).flatten := (replicate_map x n).symm
theorem e77_sd (l : List S77) (n : Nat) : List.take (((l.length - n)) * 6) (List.drop ((n) * 6) (List.flatMap e77 l)) = List.flatMap e77 (l.drop n) := by have := slD_map e77_len l n; simpa using this
theorem e77_st (l : List S77) (n : Nat) : List.take ((n) * 6) (List.flatMap e77 l) = List.flatMap e77 (l.take n) := by have := take_map e77_len l n; simpa using this
theorem e77_sb (l : List S77) (h n : Nat) : List.take (((h - n)) * 6) (List.drop ((n) * 6) (List.flatMap e77 l)) = List.flatMap e77 ((l.drop n).take (h - n)) := by have := slB_map e77_len l h n; simpa using this
theorem e77_set (l : List S77) (n : Nat) (x : S77) (h : n < l.length) : List.flatMap e77 (l.set n x) = (List.flatMap e77 l).take (n * 6) ++ e77 x ++ (List.flatMap e77 l).drop ((n + 1) * 6) := (set_map e77_len l n h x).symm
attribute [go_sem] e77_at e77_ln e77_row e77_nms e77_sh e77_rep e77_set e77_sd e77_st e77_sb e77_gd e77_cp e77
theorem o77_len : ∀ x, (o77 x).length = 6 := fun _ => rfl
theorem o77_nm : ∀ x, noMutL (o77 x) = true := by intro x; simp [o77, go_sem]
theorem o77_shr : ∀ x, shrL (o77 x) = e77 x := by intro x; simp [o77, e77, go_sem]
theorem o77_pure : ∀ x, pureL (o77 x) = true := by intro x; simp [o77, go_sem]
theorem o77_at (l : List S77) (i : Int) (h0 : 0 ≤ i) (h1 : i < l.length) : idx 6 (List.flatMap o77 l) i = some (o77 (rd_T77 l i)) := idx_map o77_len _ l i h0 h1
theorem o77_gd (l : List S77) (i : Int) : l.getD i.toNat z77 = rd_T77 l i := rfl
theorem o77_ln (l : List S77) : (List.flatMap o77 l).length = (l.length) * 6 := by rw [len_map o77_len]
theorem o77_row (l : List S77) (n : Nat) (h : n < l.length) : List.take 6 (List.drop ((n) * 6) (List.flatMap o77 l)) = o77 (l.getD n z77) := by have := row_map o77_len z77 l n h; simpa using this
theorem o77_nms (l : List S77) : noMutL (List.flatMap o77 l) = true := noMutL_map o77_nm l
theorem o77_pu (l : List S77) : pureL (List.flatMap o77 l) = true := pureL_map o77_pure l
theorem o77_sh (l : List S77) : shrL (List.flatMap o77 l) = List.flatMap e77 l := shrL_map o77_shr l
theorem o77_rep (x : S77) (n : Nat) : List.flatMap o77 (List.replicate n x) = (List.replicate n (o77 x)).flatten := (replicate_map x n).symm
theorem o77_sd (l : List S77) (n : Nat) : List.take (((l.length - n)) * 6) (List.drop ((n) * 6) (List.flatMap o77 l)) = List.flatMap o77 (l.drop n) := by have := slD_map o77_len l n; simpa using this
theorem o77_st (l : List S77) (n : Nat) : List.take ((n) * 6) (List.flatMap o77 l) = List.flatMap o77 (l.take n) := by have := take_map o77_len l n; simpa using this
theorem o77_sb (l : List S77) (h n : Nat) : List.take (((h - n)) * 6) (List.drop ((n) * 6) (List.flatMap o77 l)) = List.flatMap o77 ((l.drop n).take (h - n)) := by have := slB_map o77_len l h n; simpa using this
theorem o77_set (l : List S77) (n : Nat) (x : S77) (h : n < l.length) : List.flatMap o77 (l.set n x) = (List.flatMap o77 l).take (n * 6) ++ o77 x ++ (List.flatMap o77 l).drop ((n + 1) * 6) := (set_map o77_len l n h x).symm
attribute [go_sem] o77_at o77_ln o77_row o77_nms o77_sh o77_rep o77_set o77_sd o77_st o77_sb o77_pu o77
def e131 (x : S131) : List Cell := [.sc (.string x.f0), .sc (.string x.f1), .sc (.int .i64 x.f2)]
abbrev o131 := e131
theorem e131_len : ∀ x, (e131 x).length = 3 := fun _ => rfl
theorem e131_nm : ∀ x, noMutL (e131 x) = true := by intro x; simp [e131, go_sem]
theorem e131_cpy : ∀ x, cpyL (e131 x) = true := by intro x; simp [e131, go_sem]
theorem e131_shr : ∀ x, shrL (e131 x) = e131 x := by intro x; simp [e131, go_sem]
theorem e131_pure : ∀ x, pureL (e131 x) = true := by intro x; rfl
theorem e131_at (l : List S131) (i : Int) (h0 : 0 ≤ i) (h1 : i < l.length) : idx 3 (List.flatMap e131 l) i = some (e131 (rd_T131 l i)) := idx_map e131_len _ l i h0 h1
theorem e131_gd (l : List S131) (i : Int) : l.getD i.toNat z131 = rd_T131 l i := rfl
theorem e131_ln (l : List S131) : (List.flatMap e131 l).length = (l.length) * 3 := by rw [len_map e131_len]
theorem e131_row (l : List S131) (n : Nat) (h : n < l.length) : List.take 3 (List.drop ((n) * 3) (List.flatMap e131 l)) = e131 (l.getD n z131) := by have := row_map e131_len z131 l n h; simpa using this
theorem e131_cp (l : List S131) : cpyL (List.flatMap e131 l) = true := cpyL_map e131_cpy l
theorem e131_nms (l : List S131) : noMutL (List.flatMap e131 l) = true := noMutL_map e131_nm l
theorem e131_pu (l : List S131) : pureL (List.flatMap e131 l) = true := pureL_map e131_pure l
theorem e131_sh (l : List S131) : shrL (List.flatMap e131 l) = List.flatMap e131 l := shrL_map e131_shr l
theorem e131_rep (x : S131) (n : Nat) : List.flatMap e131 (List.replicate n x) = (List.replicate n (e131 x)).flatten := (replicate_map x n).symm
theorem e131_sd (l : List S131) (n : Nat) : List.take (((l.length - n)) * 3) (List.drop ((n) * 3) (List.flatMap e131 l)) = List.flatMap e131 (l.drop n) := by have := slD_map e131_len l n; simpa using this
theorem e131_st (l : List S131) (n : Nat) : List.take ((n) * 3) (List.flatMap e131 l) = List.flatMap e131 (l.take n) := by have := take_map e131_len l n; simpa using this
theorem e131_sb (l : List S131) (h n : Nat) : List.take (((h - n)) * 3) (List.drop ((n) * 3) (List.flatMap e131 l)) = List.flatMap e131 ((l.drop n).take (h - n)) := by have := slB_map e131_len l h n; simpa using this
theorem e131_set (l : List S131) (n : Nat) (x : S131) (h : n < l.length) : List.flatMap e131 (l.set n x) = (List.flatMap e131 l).take (n * 3) ++ e131 x ++ (List.flatMap e131 l).drop ((n + 1) * 3) := (set_map e131_len l n h x).symm
attribute [go_sem] e131_at e131_ln e131_row e131_nms e131_sh e131_rep e131_set e131_sd e131_st e131_sb e131_gd e131_cp e131_pu e131
def e106 (x : S106) : List Cell := [.sc (.string x.f0), .sl none 1 (List.flatMap eS x.f1), .sl none 1 (List.flatMap eS x.f2), .sl none 3 (List.flatMap e131 x.f3)]
def o106 (x : S106) : List Cell := [.sc (.string x.f0), .sl (some 0) 1 (List.flatMap eS x.f1), .sl (some 0) 1 (List.flatMap eS x.f2), .sl (some 0) 3 (List.flatMap e131 x.f3)]
theorem e106_len : ∀ x, (e106 x).length = 4 := fun _ => rfl
theorem e106_nm : ∀ x, noMutL (e106 x) = true := by intro x; simp [e106, go_sem]
theorem e106_cpy : ∀ x, cpyL (e106 x) = true := by intro x; simp [e106, go_sem]
theorem e106_shr : ∀ x, shrL (e106 x) = e106 x := by intro x; simp [e106, go_sem]
theorem e106_at (l : List S106) (i : Int) (h0 : 0 ≤ i) (h1 : i < l.length) : idx 4 (List.flatMap e106 l) i = some (e106 (rd_T106 l i)) := idx_map e106_len _ l i h0 h1
theorem e106_gd (l : List S106) (i : Int) : l.getD i.toNat z106 = rd_T106 l i := rfl
theorem e106_ln (l : List S106) : (List.flatMap e106 l).length = (l.length) * 4 := by rw [len_map e106_len]
theorem e106_row (l : List S106) (n : Nat) (h : n < l.length) : List.take 4 (List.drop ((n) * 4) (List.flatMap e106 l)) = e106 (l.getD n z106) := by have := row_map e106_len z106 l n h; simpa using this
theorem e106_cp (l : List S106) : cpyL (List.flatMap e106 l) = true := cpyL_map e106_cpy l
theorem e106_nms (l : List S106) : noMutL (List.flatMap e106 l) = true := noMutL_map e106_nm l
theorem e106_sh (l : List S106) : shrL (List.flatMap e106 l) = List.flatMap e106 l := shrL_map e106_shr l
theorem e106_rep (x : S106) (n : Nat) : List.flatMap e106 (List.replicate n x) = (List.replicate n (e106 x)).flatten := (replicate_map x n).symm
theorem e106_sd (l : List S106) (n : Nat) : List.take (((l.length - n)) * 4) (List.drop ((n) * 4) (List.flatMap e106 l)) = List.flatMap e106 (l.drop n) := by have := slD_map e106_len l n; simpa using this
theorem e106_st (l : List S106) (n : Nat) : List.take ((n) * 4) (List.flatMap e106 l) = List.flatMap e106 (l.take n) := by have := take_map e106_len l n; simpa using this
theorem e106_sb (l : List S106) (h n : Nat) : List.take (((h - n)) * 4) (List.drop ((n) * 4) (List.flatMap e106 l)) = List.flatMap e106 ((l.drop n).take (h - n)) := by have := slB_map e106_len l h n; simpa using this
theorem e106_set (l : List S106) (n : Nat) (x : S106) (h : n < l.length) : List.flatMap e106 (l.set n x) = (List.flatMap e106 l).take (n * 4) ++ e106 x ++ (List.flatMap e106 l).drop ((n + 1) * 4) := (set_map e106_len l n h x).symm
attribute [go_sem] e106_at e106_ln e106_row e106_nms e106_sh e106_rep e106_set e106_sd e106_st e106_sb e106_gd e106_cp e106
theorem o106_len : ∀ x, (o106 x).length = 4 := fun _ => rfl
theorem o106_nm : ∀ x, noMutL (o106 x) = true := by intro x; simp [o106, go_sem]
theorem o106_shr : ∀ x, shrL (o106 x) = e106 x := by intro x; simp [o106, e106, go_sem]
theorem o106_pure : ∀ x, pureL (o106 x) = true := by intro x; simp [o106, go_sem]
theorem o106_at (l : List S106) (i : Int) (h0 : 0 ≤ i) (h1 : i < l.length) : idx 4 (List.flatMap o106 l) i = some (o106 (rd_T106 l i)) := idx_map o106_len _ l i h0 h1
theorem o106_gd (l : List S106) (i : Int) : l.getD i.toNat z106 = rd_T106 l i := rfl
theorem o106_ln (l : List S106) : (List.flatMap o106 l).length = (l.length) * 4 := by rw [len_map o106_len]
theorem o106_row (l : List S106) (n : Nat) (h : n < l.length) : List.take 4 (List.drop ((n) * 4) (List.flatMap o106 l)) = o106 (l.getD n z106) := by have := row_map o106_len z106 l n h; simpa using this
theorem o106_nms (l : List S106) : noMutL (List.flatMap o106 l) = true := noMutL_map o106_nm l
theorem o106_pu (l : List S106) : pureL (List.flatMap o106 l) = true := pureL_map o106_pure l
theorem o106_sh (l : List S106) : shrL (List.flatMap o106 l) = List.flatMap e106 l := shrL_map o106_shr l
theorem o106_rep (x : S106) (n : Nat) : List.flatMap o106 (List.replicate n x) = (List.replicate n (o106 x)).flatten := (replicate_map x n).symm
theorem o106_sd (l : List S106) (n : Nat) : List.take (((l.length - n)) * 4) (List.drop ((n) * 4) (List.flatMap o106 l)) = List.flatMap o106 (l.drop n) := by have := slD_map o106_len l n; simpa using this
theorem o106_st (l : List S106) (n : Nat) : List.take ((n) * 4) (List.flatMap o106 l) = List.flatMap o106 (l.take n) := by have := take_map o106_len l n; simpa using this
theorem o106_sb (l : List S106) (h n : Nat) : List.take (((h - n)) * 4) (List.drop ((n) * 4) (List.flatMap o106 l)) = List.flatMap o106 ((l.drop n).take (h - n)) := by have := slB_map o106_len l h n; simpa using this
theorem o106_set (l : List S106) (n : Nat) (x : S106) (h : n < l.length) : List.flatMap o106 (l.set n x) = (List.flatMap o106 l).take (n * 4) ++ o106 x ++ (List.flatMap o106 l).drop ((n + 1) * 4) := (set_map o106_len l n h x).symm
attribute [go_sem] o106_at o106_ln o106_row o106_nms o106_sh o106_rep o106_set o106_sd o106_st o106_sb o106_pu o106
def e103 (x : S103) : List Cell := [.sc (.string x.f0), .sl none 1 (List.flatMap eS x.f1), .sl none 1 (List.flatMap eS x.f2), .sc (.int .i64 x.f3)]
def o103 (x : S103) : List Cell := [.sc (.string x.f0), .sl (some 0) 1 (List.flatMap eS x.f1), .sl (some 0) 1 (List.flatMap eS x.f2), .sc (.int .i64 x.f3)]
theorem e103_len : ∀ x, (e103 x).length = 4 := fun _ => rfl
theorem e103_nm : ∀ x, noMutL (e103 x) = true := by intro x; simp [e103, go_sem]
theorem e103_cpy : ∀ x, cpyL (e103 x) = true := by intro x; simp [e103, go_sem]
theorem e103_shr : ∀ x, shrL (e103 x) = e103 x := by intro x; simp [e103, go_sem]
theorem e103_at (l : List S103) (i : Int) (h0 : 0 ≤ i) (h1 : i < l.length) : idx 4 (List.flatMap e103 l) i = some (e103 (rd_T103 l i)) := idx_map e103_len _ l i h0 h1
theorem e103_gd (l : List S103) (i : Int) : l.getD i.toNat z103 = rd_T103 l i := rfl
theorem e103_ln (l : List S103) : (List.flatMap e103 l).length = (l.length) * 4 := by rw [len_map e103_len]
theorem e103_row (l : List S103) (n : Nat) (h : n < l.length) : List.take 4 (List.drop ((n) * 4) (List.flatMap e103 l)) = e103 (l.getD n z103) := by have := row_map e103_len z103 l n h; simpa using this
theorem e103_cp (l : List S103) : cpyL (List.flatMap e103 l) = true := cpyL_map e103_cpy l
theorem e103_nms (l : List S103) : noMutL (List.flatMap e103 l) = true := noMutL_map e103_nm l
theorem e103_sh (l : List S103) : shrL (List.flatMap e103 l) = List.flatMap e103 l := shrL_map e103_shr l
theorem e103_rep (x : S103) (n : Nat) : List.flatMap e103 (List.replicate n x) = (List.replicate n (e103 x)).flatten := (replicate_map x n).symm
theorem e103_sd (l : List S103) (n : Nat) : List.take (((l.length - n)) * 4) (List.drop ((n) * 4) (List.flatMap e103 l)) = List.flatMap e103 (l.drop n) := by have := slD_map e103_len l n; simpa using this
theorem e103_st (l : List S103) (n : Nat) : List.take ((n) * 4) (List.flatMap e103 l) = List.flatMap e103 (l.take n) := by have := take_map e103_len l n; simpa using this
theorem e103_sb (l : List S103) (h n : Nat) : List.take (((h - n)) * 4) (List.drop ((n) * 4) (List.flatMap e103 l)) = List.flatMap e103 ((l.drop n).take (h - n)) := by have := slB_map e103_len l h n; simpa using this
theorem e103_set (l : List S103) (n : Nat) (x : S103) (h : n < l.length) : List.flatMap e103 (l.set n x) = (List.flatMap e103 l).take (n * 4) ++ e103 x ++ (List.flatMap e103 l).drop ((n + 1) * 4) := (set_map e103_len l n h x).symm
attribute [go_sem] e103_at e103_ln e103_row e103_nms e103_sh e103_rep e103_set e103_sd e103_st e103_sb e103_gd e103_cp e103
theorem o103_len : ∀ x, (o103 x).length = 4 := fun _ => rfl
theorem o103_nm : ∀ x, noMutL (o103 x) = true := by intro x; simp [o103, go_sem]
theorem o103_shr : ∀ x, shrL (o103 x) = e103 x := by intro x; simp [o103, e103, go_sem]
theorem o103_pure : ∀ x, pureL (o103 x) = true := by intro x; simp [o103, go_sem]
theorem o103_at (l : List S103) (i : Int) (h0 : 0 ≤ i) (h1 : i < l.length) : idx 4 (List.flatMap o103 l) i = some (o103 (rd_T103 l i)) := idx_map o103_len _ l i h0 h1
theorem o103_gd (l : List S103) (i : Int) : l.getD i.toNat z103 = rd_T103 l i := rfl
theorem o103_ln (l : List S103) : (List.flatMap o103 l).length = (l.length) * 4 := by rw [len_map o103_len]
theorem o103_row (l : List S103) (n : Nat) (h : n < l.length) : List.take 4 (List.drop ((n) * 4) (List.flatMap o103 l)) = o103 (l.getD n z103) := by have := row_map o103_len z103 l n h; simpa using this
theorem o103_nms (l : List S103) : noMutL (List.flatMap o103 l) = true := noMutL_map o103_nm l
theorem o103_pu (l : List S103) : pureL (List.flatMap o103 l) = true := pureL_map o103_pure l
theorem o103_sh (l : List S103) : shrL (List.flatMap o103 l) = List.flatMap e103 l := shrL_map o103_shr l
theorem o103_rep (x : S103) (n : Nat) : List.flatMap o103 (List.replicate n x) = (List.replicate n (o103 x)).flatten := (replicate_map x n).symm
theorem o103_sd (l : List S103) (n : Nat) : List.take (((l.length - n)) * 4) (List.drop ((n) * 4) (List.flatMap o103 l)) = List.flatMap o103 (l.drop n) := by have := slD_map o103_len l n; simpa using this
theorem o103_st (l : List S103) (n : Nat) : List.take ((n) * 4) (List.flatMap o103 l) = List.flatMap o103 (l.take n) := by have := take_map o103_len l n; simpa using this
theorem o103_sb (l : List S103) (h n : Nat) : List.take (((h - n)) * 4) (List.drop ((n) * 4) (List.flatMap o103 l)) = List.flatMap o103 ((l.drop n).take (h - n)) := by have := slB_map o103_len l h n; simpa using this
theorem o103_set (l : List S103) (n : Nat) (x : S103) (h : n < l.length) : List.flatMap o103 (l.set n x) = (List.flatMap o103 l).take (n * 4) ++ o103 x ++ (List.flatMap o103 l).drop ((n + 1) * 4) := (set_map o103_len l n h x).symm
attribute [go_sem] o103_at o103_ln o103_row o103_nms o103_sh o103_rep o103_set o103_sd o103_st o103_sb o103_pu o103
theorem es9 : elemSz Try.prog 9 = none := by kernel_rfl
theorem is9 : isStr Try.prog 9 = true := by kernel_rfl
theorem es22 : elemSz Try.prog 22 = some 6 := by kernel_rfl
theorem es23 : elemSz Try.prog 23 = some 4 := by kernel_rfl
theorem es24 : elemSz Try.prog 24 = some 4 := by kernel_rfl
theorem es27 : elemSz Try.prog 27 = some 1 := by kernel_rfl
theorem es28 : elemSz Try.prog 28 = some 1 := by kernel_rfl
theorem es36 : elemSz Try.prog 36 = some 6 := by kernel_rfl
theorem es37 : elemSz Try.prog 37 = some 4 := by kernel_rfl
theorem es38 : elemSz Try.prog 38 = some 4 := by kernel_rfl
theorem es104 : elemSz Try.prog 104 = some 3 := by kernel_rfl
theorem es115 : elemSz Try.prog 115 = some 3 := by kernel_rfl
theorem es128 : elemSz Try.prog 128 = some 1 := by kernel_rfl
theorem vz3 : vsz Try.prog 3 = some (false, 1) := by kernel_rfl
theorem vz9 : vsz Try.prog 9 = some (false, 1) := by kernel_rfl
theorem vz22 : vsz Try.prog 22 = some (false, 1) := by kernel_rfl
theorem vz23 : vsz Try.prog 23 = some (false, 1) := by kernel_rfl
theorem vz24 : vsz Try.prog 24 = some (false, 1) := by kernel_rfl
theorem vz26 : vsz Try.prog 26 = some (true, 3) := by kernel_rfl
theorem vz27 : vsz Try.prog 27 = some (false, 1) := by kernel_rfl
theorem vz28 : vsz Try.prog 28 = some (false, 1) := by kernel_rfl
theorem vz36 : vsz Try.prog 36 = some (false, 1) := by kernel_rfl
theorem vz37 : vsz Try.prog 37 = some (false, 1) := by kernel_rfl
theorem vz38 : vsz Try.prog 38 = some (false, 1) := by kernel_rfl
theorem vz40 : vsz Try.prog 40 = some (true, 3) := by kernel_rfl
theorem vz42 : vsz Try.prog 42 = some (true, 2) := by kernel_rfl
theorem vz44 : vsz Try.prog 44 = some (true, 4) := by kernel_rfl
theorem vz77 : vsz Try.prog 77 = some (true, 6) := by kernel_rfl
theorem vz103 : vsz Try.prog 103 = some (true, 4) := by kernel_rfl
theorem vz104 : vsz Try.prog 104 = some (false, 1) := by kernel_rfl
theorem vz106 : vsz Try.prog 106 = some (true, 4) := by kernel_rfl
theorem vz113 : vsz Try.prog 113 = some (true, 6) := by kernel_rfl
theorem vz115 : vsz Try.prog 115 = some (false, 1) := by kernel_rfl
theorem vz117 : vsz Try.prog 117 = some (true, 4) := by kernel_rfl
theorem vz119 : vsz Try.prog 119 = some (true, 4) := by kernel_rfl
theorem vz131 : vsz Try.prog 131 = some (true, 3) := by kernel_rfl
theorem vz143 : vsz Try.prog 143 = some (true, 3) := by kernel_rfl
theorem fo26_0 : fldOff Try.prog 26 0 = some 0 := by kernel_rfl
theorem fo26_1 : fldOff Try.prog 26 1 = some 1 := by kernel_rfl
theorem fo26_2 : fldOff Try.prog 26 2 = some 2 := by kernel_rfl
theorem fo40_0 : fldOff Try.prog 40 0 = some 0 := by kernel_rfl
theorem fo40_1 : fldOff Try.prog 40 1 = some 1 := by kernel_rfl
theorem fo40_2 : fldOff Try.prog 40 2 = some 2 := by kernel_rfl
theorem fo42_0 : fldOff Try.prog 42 0 = some 0 := by kernel_rfl
theorem fo42_1 : fldOff Try.prog 42 1 = some 1 := by kernel_rfl
theorem fo44_0 : fldOff Try.prog 44 0 = some 0 := by kernel_rfl
theorem fo44_1 : fldOff Try.prog 44 1 = some 1 := by kernel_rfl
theorem fo44_2 : fldOff Try.prog 44 2 = some 3 := by kernel_rfl
theorem fo77_0 : fldOff Try.prog 77 0 = some 0 := by kernel_rfl
theorem fo77_1 : fldOff Try.prog 77 1 = some 1 := by kernel_rfl
theorem fo77_2 : fldOff Try.prog 77 2 = some 2 := by kernel_rfl
theorem fo77_3 : fldOff Try.prog 77 3 = some 3 := by kernel_rfl
theorem fo77_4 : fldOff Try.prog 77 4 = some 4 := by kernel_rfl
theorem fo77_5 : fldOff Try.prog 77 5 = some 5 := by kernel_rfl
theorem fo103_0 : fldOff Try.prog 103 0 = some 0 := by kernel_rfl
theorem fo103_1 : fldOff Try.prog 103 1 = some 1 := by kernel_rfl
theorem fo103_2 : fldOff Try.prog 103 2 = some 2 := by kernel_rfl
theorem fo103_3 : fldOff Try.prog 103 3 = some 3 := by kernel_rfl
theorem fo106_0 : fldOff Try.prog 106 0 = some 0 := by kernel_rfl
theorem fo106_1 : fldOff Try.prog 106 1 = some 1 := by kernel_rfl
theorem fo106_2 : fldOff Try.prog 106 2 = some 2 := by kernel_rfl
theorem fo106_3 : fldOff Try.prog 106 3 = some 3 := by kernel_rfl
theorem fo113_0 : fldOff Try.prog 113 0 = some 0 := by kernel_rfl
theorem fo113_1 : fldOff Try.prog 113 1 = some 1 := by kernel_rfl
theorem fo113_2 : fldOff Try.prog 113 2 = some 2 := by kernel_rfl
theorem fo113_3 : fldOff Try.prog 113 3 = some 3 := by kernel_rfl
theorem fo113_4 : fldOff Try.prog 113 4 = some 4 := by kernel_rfl
theorem fo113_5 : fldOff Try.prog 113 5 = some 5 := by kernel_rfl
theorem fo117_0 : fldOff Try.prog 117 0 = some 0 := by kernel_rfl
theorem fo117_1 : fldOff Try.prog 117 1 = some 1 := by kernel_rfl
theorem fo117_2 : fldOff Try.prog 117 2 = some 2 := by kernel_rfl
theorem fo117_3 : fldOff Try.prog 117 3 = some 3 := by kernel_rfl
theorem fo119_0 : fldOff Try.prog 119 0 = some 0 := by kernel_rfl
theorem fo119_1 : fldOff Try.prog 119 1 = some 1 := by kernel_rfl
theorem fo119_2 : fldOff Try.prog 119 2 = some 2 := by kernel_rfl
theorem fo119_3 : fldOff Try.prog 119 3 = some 3 := by kernel_rfl
theorem fo131_0 : fldOff Try.prog 131 0 = some 0 := by kernel_rfl
theorem fo131_1 : fldOff Try.prog 131 1 = some 1 := by kernel_rfl
theorem fo131_2 : fldOff Try.prog 131 2 = some 2 := by kernel_rfl
theorem fo143_0 : fldOff Try.prog 143 0 = some 0 := by kernel_rfl
theorem fo143_1 : fldOff Try.prog 143 1 = some 1 := by kernel_rfl
theorem fo143_2 : fldOff Try.prog 143 2 = some 2 := by kernel_rfl
theorem bp42 : bplaces Try.prog 42 = some [(0, 1), (1, 1)] := by kernel_rfl
attribute [go_sem] bp42
theorem bp44 : bplaces Try.prog 44 = some [(0, 1), (1, 2), (3, 1)] := by kernel_rfl
attribute [go_sem] bp44
attribute [go_sem] Try.underlying27
theorem bo3_27 : Try.prog.bytesOf 3 = 8 := by kernel_rfl
attribute [go_sem] Try.underlying28
theorem bo9_28 : Try.prog.bytesOf 9 = 16 := by kernel_rfl
attribute [go_sem] Try.underlying36
theorem bo77_36 : Try.prog.bytesOf 77 = 88 := by kernel_rfl
attribute [go_sem] Try.underlying37
theorem bo106_37 : Try.prog.bytesOf 106 = 88 := by kernel_rfl
attribute [go_sem] Try.underlying38
theorem bo103_38 : Try.prog.bytesOf 103 = 72 := by kernel_rfl
attribute [go_sem] Try.underlying104
theorem bo131_104 : Try.prog.bytesOf 131 = 40 := by kernel_rfl
attribute [go_sem] Try.underlying128
theorem bo5_128 : Try.prog.bytesOf 5 = 1 := by kernel_rfl
theorem zc3 : zcell Try.prog 3 = some [.sc (.int .i64 0)] := by kernel_rfl
theorem zc5 : zcell Try.prog 5 = some [.sc (.int .u8 0)] := by kernel_rfl
theorem zc9 : zcell Try.prog 9 = some [.sc (.string .empty)] := by kernel_rfl
theorem zc40 : zcell Try.prog 40 = some [.sl (some 0) 6 [], .sl (some 0) 4 [], .sl (some 0) 4 []] := by kernel_rfl
theorem zc42 : zcell Try.prog 42 = some [.sl (some 0) 1 [], .sl (some 0) 1 []] := by kernel_rfl
theorem zc44 : zcell Try.prog 44 = some [.sl (some 0) 1 [], .sl (some 0) 1 [], .sl (some 0) 1 [], .sc (.int .i64 0)] := by kernel_rfl
theorem zc77 : zcell Try.prog 77 = some [.sc (.int .i64 0), .sc (.int .i64 0), .sc (.string .empty), .sc (.string .empty), .sc (.string .empty), .sl (some 0) 1 []] := by kernel_rfl
theorem zc103 : zcell Try.prog 103 = some [.sc (.string .empty), .sl (some 0) 1 [], .sl (some 0) 1 [], .sc (.int .i64 0)] := by kernel_rfl
theorem zc106 : zcell Try.prog 106 = some [.sc (.string .empty), .sl (some 0) 1 [], .sl (some 0) 1 [], .sl (some 0) 3 []] := by kernel_rfl
theorem zc131 : zcell Try.prog 131 = some [.sc (.string .empty), .sc (.string .empty), .sc (.int .i64 0)] := by kernel_rfl
attribute [go_sem] Try.underlying3
attribute [go_sem] Try.underlying5
attribute [go_sem] Try.underlying9
attribute [go_sem] Try.underlying128
theorem dv3 (n : Nat) : n * 3 / 3 = n := Nat.mul_div_cancel _ (by decide)
theorem dv4 (n : Nat) : n * 4 / 4 = n := Nat.mul_div_cancel _ (by decide)
theorem dv6 (n : Nat) : n * 6 / 6 = n := Nat.mul_div_cancel _ (by decide)
attribute [go_sem] Nat.div_one
def byteAt (s : ByteArray) (i : Int) : UInt8 := if h : i.toNat < s.size then s[i.toNat] else 0
theorem byteAt_get (s : ByteArray) (i : Int) (h0 : 0 ≤ i) (h1 : i < s.size) : s[i.toNat]? = some (byteAt s i) := by
  have h : i.toNat < s.size := by omega
  rw [getElem?_pos s i.toNat h]
  simp [byteAt, h]
attribute [go_sem] evStrIx
theorem ba_empty : (⟨#[]⟩ : ByteArray) = ByteArray.empty := rfl
attribute [go_sem] z113 z143 z117 z119 z77 z131 z106 z103
theorem mo : Try.prog.follows .mixedOrders = true := by kernel_rfl
attribute [go_sem] es9 is9 es22 es23 es24 es27 es28 es36 es37 es38 es104 es115 es128 vz3 vz9 vz22 vz23 vz24 vz26 vz27 vz28 vz36 vz37 vz38 vz40 vz42 vz44 vz77 vz103 vz104 vz106 vz113 vz115 vz117 vz119 vz131 vz143 fo26_0 fo26_1 fo26_2 fo40_0 fo40_1 fo40_2 fo42_0 fo42_1 fo44_0 fo44_1 fo44_2 fo77_0 fo77_1 fo77_2 fo77_3 fo77_4 fo77_5 fo103_0 fo103_1 fo103_2 fo103_3 fo106_0 fo106_1 fo106_2 fo106_3 fo113_0 fo113_1 fo113_2 fo113_3 fo113_4 fo113_5 fo117_0 fo117_1 fo117_2 fo117_3 fo119_0 fo119_1 fo119_2 fo119_3 fo131_0 fo131_1 fo131_2 fo143_0 fo143_1 fo143_2 bo3_27 bo9_28 bo77_36 bo106_37 bo103_38 bo131_104 bo5_128 zc3 zc5 zc9 zc40 zc42 zc44 zc77 zc103 zc106 zc131 dv3 dv4 dv6 byteAt_get ba_empty
theorem eI_per (x : Int) (n : Nat) : (List.replicate n [Cell.sc (.int .i64 x)]).flatten = List.flatMap eI (List.replicate n x) := replicate_map (e := eI) x n
theorem o77_fold (l : List S77) (n : Nat) (y0 : Int) (y1 : Int) (y2 : ByteArray) (y3 : ByteArray) (y4 : ByteArray) (y5 : List Int) (h : n < l.length) : List.take (n * 6) (List.flatMap o77 l) ++ (.sc (.int .i64 y0) :: .sc (.int .i64 y1) :: .sc (.string y2) :: .sc (.string y3) :: .sc (.string y4) :: .sl (some 0) 1 (List.flatMap eI y5) :: List.drop ((n + 1) * 6) (List.flatMap o77 l)) = List.flatMap o77 (l.set n ⟨y0, y1, y2, y3, y4, y5⟩) := by rw [← set_map o77_len l n h]; simp [o77]
theorem o77_fold2 (l : List S77) (n : Nat) (z : S77) (y0 : Int) (y1 : Int) (y2 : ByteArray) (y3 : ByteArray) (y4 : ByteArray) (y5 : List Int) (h : n < l.length) : List.take (n * 6) (List.flatMap o77 (l.set n z)) ++ (.sc (.int .i64 y0) :: .sc (.int .i64 y1) :: .sc (.string y2) :: .sc (.string y3) :: .sc (.string y4) :: .sl (some 0) 1 (List.flatMap eI y5) :: List.drop ((n + 1) * 6) (List.flatMap o77 (l.set n z))) = List.flatMap o77 (l.set n ⟨y0, y1, y2, y3, y4, y5⟩) := by rw [o77_fold _ _ y0 y1 y2 y3 y4 y5 (by rw [List.length_set]; exact h), List.set_set]
theorem o77_ats (l : List S77) (n : Nat) (z : S77) (i : Int) (h0 : 0 ≤ i) (h1 : i < l.length) : idx 6 (List.flatMap o77 (l.set n z)) i = some (o77 (rd_T77 (l.set n z) i)) := o77_at _ i h0 (by rw [List.length_set]; exact h1)
theorem o77_rows (l : List S77) (m n : Nat) (z : S77) (h : n < l.length) : List.take 6 (List.drop ((n) * 6) (List.flatMap o77 (l.set m z))) = o77 ((l.set m z).getD n z77) := o77_row _ n (by rw [List.length_set]; exact h)
theorem o77_get (l : List S77) (n : Nat) (x z : S77) (h : n < l.length) : (l.set n x).getD n z = x := by rw [List.getD_eq_getElem?_getD, List.getElem?_set_self h]; rfl
theorem o77_rd (l : List S77) (i : Int) (x : S77) (h : i.toNat < l.length) : rd_T77 (l.set i.toNat x) i = x := o77_get l i.toNat x _ h
theorem o103_fold (l : List S103) (n : Nat) (y0 : ByteArray) (y1 : List ByteArray) (y2 : List ByteArray) (y3 : Int) (h : n < l.length) : List.take (n * 4) (List.flatMap o103 l) ++ (.sc (.string y0) :: .sl (some 0) 1 (List.flatMap eS y1) :: .sl (some 0) 1 (List.flatMap eS y2) :: .sc (.int .i64 y3) :: List.drop ((n + 1) * 4) (List.flatMap o103 l)) = List.flatMap o103 (l.set n ⟨y0, y1, y2, y3⟩) := by rw [← set_map o103_len l n h]; simp [o103]
theorem o103_fold2 (l : List S103) (n : Nat) (z : S103) (y0 : ByteArray) (y1 : List ByteArray) (y2 : List ByteArray) (y3 : Int) (h : n < l.length) : List.take (n * 4) (List.flatMap o103 (l.set n z)) ++ (.sc (.string y0) :: .sl (some 0) 1 (List.flatMap eS y1) :: .sl (some 0) 1 (List.flatMap eS y2) :: .sc (.int .i64 y3) :: List.drop ((n + 1) * 4) (List.flatMap o103 (l.set n z))) = List.flatMap o103 (l.set n ⟨y0, y1, y2, y3⟩) := by rw [o103_fold _ _ y0 y1 y2 y3 (by rw [List.length_set]; exact h), List.set_set]
theorem o103_ats (l : List S103) (n : Nat) (z : S103) (i : Int) (h0 : 0 ≤ i) (h1 : i < l.length) : idx 4 (List.flatMap o103 (l.set n z)) i = some (o103 (rd_T103 (l.set n z) i)) := o103_at _ i h0 (by rw [List.length_set]; exact h1)
theorem o103_rows (l : List S103) (m n : Nat) (z : S103) (h : n < l.length) : List.take 4 (List.drop ((n) * 4) (List.flatMap o103 (l.set m z))) = o103 ((l.set m z).getD n z103) := o103_row _ n (by rw [List.length_set]; exact h)
theorem o103_get (l : List S103) (n : Nat) (x z : S103) (h : n < l.length) : (l.set n x).getD n z = x := by rw [List.getD_eq_getElem?_getD, List.getElem?_set_self h]; rfl
theorem o103_rd (l : List S103) (i : Int) (x : S103) (h : i.toNat < l.length) : rd_T103 (l.set i.toNat x) i = x := o103_get l i.toNat x _ h
theorem o106_fold (l : List S106) (n : Nat) (y0 : ByteArray) (y1 : List ByteArray) (y2 : List ByteArray) (y3 : List S131) (h : n < l.length) : List.take (n * 4) (List.flatMap o106 l) ++ (.sc (.string y0) :: .sl (some 0) 1 (List.flatMap eS y1) :: .sl (some 0) 1 (List.flatMap eS y2) :: .sl (some 0) 3 (List.flatMap e131 y3) :: List.drop ((n + 1) * 4) (List.flatMap o106 l)) = List.flatMap o106 (l.set n ⟨y0, y1, y2, y3⟩) := by rw [← set_map o106_len l n h]; simp [o106]
theorem o106_fold2 (l : List S106) (n : Nat) (z : S106) (y0 : ByteArray) (y1 : List ByteArray) (y2 : List ByteArray) (y3 : List S131) (h : n < l.length) : List.take (n * 4) (List.flatMap o106 (l.set n z)) ++ (.sc (.string y0) :: .sl (some 0) 1 (List.flatMap eS y1) :: .sl (some 0) 1 (List.flatMap eS y2) :: .sl (some 0) 3 (List.flatMap e131 y3) :: List.drop ((n + 1) * 4) (List.flatMap o106 (l.set n z))) = List.flatMap o106 (l.set n ⟨y0, y1, y2, y3⟩) := by rw [o106_fold _ _ y0 y1 y2 y3 (by rw [List.length_set]; exact h), List.set_set]
theorem o106_ats (l : List S106) (n : Nat) (z : S106) (i : Int) (h0 : 0 ≤ i) (h1 : i < l.length) : idx 4 (List.flatMap o106 (l.set n z)) i = some (o106 (rd_T106 (l.set n z) i)) := o106_at _ i h0 (by rw [List.length_set]; exact h1)
theorem o106_rows (l : List S106) (m n : Nat) (z : S106) (h : n < l.length) : List.take 4 (List.drop ((n) * 4) (List.flatMap o106 (l.set m z))) = o106 ((l.set m z).getD n z106) := o106_row _ n (by rw [List.length_set]; exact h)
theorem o106_get (l : List S106) (n : Nat) (x z : S106) (h : n < l.length) : (l.set n x).getD n z = x := by rw [List.getD_eq_getElem?_getD, List.getElem?_set_self h]; rfl
theorem o106_rd (l : List S106) (i : Int) (x : S106) (h : i.toNat < l.length) : rd_T106 (l.set i.toNat x) i = x := o106_get l i.toNat x _ h
theorem e131_fold (l : List S131) (n : Nat) (y0 : ByteArray) (y1 : ByteArray) (y2 : Int) (h : n < l.length) : List.take (n * 3) (List.flatMap e131 l) ++ (.sc (.string y0) :: .sc (.string y1) :: .sc (.int .i64 y2) :: List.drop ((n + 1) * 3) (List.flatMap e131 l)) = List.flatMap e131 (l.set n ⟨y0, y1, y2⟩) := by rw [← set_map e131_len l n h]; simp [e131]
theorem e131_fold2 (l : List S131) (n : Nat) (z : S131) (y0 : ByteArray) (y1 : ByteArray) (y2 : Int) (h : n < l.length) : List.take (n * 3) (List.flatMap e131 (l.set n z)) ++ (.sc (.string y0) :: .sc (.string y1) :: .sc (.int .i64 y2) :: List.drop ((n + 1) * 3) (List.flatMap e131 (l.set n z))) = List.flatMap e131 (l.set n ⟨y0, y1, y2⟩) := by rw [e131_fold _ _ y0 y1 y2 (by rw [List.length_set]; exact h), List.set_set]
theorem e131_ats (l : List S131) (n : Nat) (z : S131) (i : Int) (h0 : 0 ≤ i) (h1 : i < l.length) : idx 3 (List.flatMap e131 (l.set n z)) i = some (e131 (rd_T131 (l.set n z) i)) := e131_at _ i h0 (by rw [List.length_set]; exact h1)
theorem e131_rows (l : List S131) (m n : Nat) (z : S131) (h : n < l.length) : List.take 3 (List.drop ((n) * 3) (List.flatMap e131 (l.set m z))) = e131 ((l.set m z).getD n z131) := e131_row _ n (by rw [List.length_set]; exact h)
theorem e131_get (l : List S131) (n : Nat) (x z : S131) (h : n < l.length) : (l.set n x).getD n z = x := by rw [List.getD_eq_getElem?_getD, List.getElem?_set_self h]; rfl
theorem e131_rd (l : List S131) (i : Int) (x : S131) (h : i.toNat < l.length) : rd_T131 (l.set i.toNat x) i = x := e131_get l i.toNat x _ h
end Go.Proofs.Ytmbkcbgbienjoaa.PFnExactThreadNew
