/- The arguments of the law FnExactPast, opened: what they read as is a value of its kind. No condition beyond what the row gives. -/
import Derived.Test.YtegeahiflkjhmaaPFnExactPastx5
import Derived.Test.YtegeahiflkjhmaaOpn
set_option linter.unusedVariables false
set_option linter.unusedSimpArgs false
namespace Go.Proofs.Ytegeahiflkjhmaa.OpnFnExactPast
open Go.RowKit Go.Proofs.Ytegeahiflkjhmaa.PFnExactPast Go.Proofs.Ytegeahiflkjhmaa.Opn Go.Proofs.YtegeahiflkjhmaaW.PrintWords Go.Proofs.YtegeahiflkjhmaaW.PrintLast Go.Proofs.YtegeahiflkjhmaaW.PrintMore

/-! #### struct type 25 -/
structure S25 where
  f0 : (List ByteArray)
  f1 : (List Int)
def z25 : S25 := ⟨([] : List ByteArray), ([] : List Int)⟩
def k25 : Kd S25 := Kd.iso (Kd.pair (Kd.slice 9 Kd.string) (Kd.slice 3 (Kd.int .i64))) (fun x : S25 => (x.f0, x.f1))
theorem k25_open {w : World} {x : S25} {cs : List Value} (h : k25.K w x cs) : ∃ A0 c0 A1 c1, cs = [.slice A0 x.f0.length c0, .slice A1 x.f1.length c1] ∧ x.f0.length ≤ c0 ∧ Kd.string.C w A0 x.f0.length x.f0 ∧ x.f1.length ≤ c1 ∧ (Kd.int .i64).C w A1 x.f1.length x.f1 := by
  obtain ⟨_, _, rfl, ⟨A0, c0, rfl, l0, g0⟩, ⟨A1, c1, rfl, l1, g1⟩⟩ := h
  exact ⟨A0, c0, A1, c1, rfl, l0, g0, l1, g1⟩
theorem k25_openM {w : World} {base : Nat} {ok : Nat → Prop} {x : S25} {cs : List Value} (h : k25.M w base ok x cs) : ∃ v0 v1, cs = [v0, v1] ∧ Kd.string.R 9 w base ok v0 x.f0 ∧ (Kd.int .i64).R 3 w base ok v1 x.f1 := by
  obtain ⟨_, _, rfl, ⟨v0, rfl, g0⟩, ⟨v1, rfl, g1⟩⟩ := h
  exact ⟨v0, v1, rfl, g0, g1⟩
theorem k25_mk (w : World) (x : S25) {A0 : Option Addr} {c0 : Nat} (l0 : x.f0.length ≤ c0) (g0 : Kd.string.C w A0 x.f0.length x.f0) {A1 : Option Addr} {c1 : Nat} (l1 : x.f1.length ≤ c1) (g1 : (Kd.int .i64).C w A1 x.f1.length x.f1) : k25.K w x [.slice A0 x.f0.length c0, .slice A1 x.f1.length c1] := ⟨[.slice A0 x.f0.length c0], [.slice A1 x.f1.length c1], rfl, ⟨A0, c0, rfl, l0, g0⟩, ⟨A1, c1, rfl, l1, g1⟩⟩
theorem k25_mkM (w : World) (base : Nat) (ok : Nat → Prop) (x : S25) {v0 : Value} (g0 : Kd.string.R 9 w base ok v0 x.f0) {v1 : Value} (g1 : (Kd.int .i64).R 3 w base ok v1 x.f1) : k25.M w base ok x [v0, v1] := ⟨[v0], [v1], rfl, ⟨v0, rfl, g0⟩, ⟨v1, rfl, g1⟩⟩
def rd_T25 (xs : List S25) (i : Int) : S25 := xs.getD i.toNat z25
theorem at_T25 {w : World} {A : Option Addr} {n : Nat} {xs : List S25} (h : Kd.C k25 w A n xs) (i : Int) (h0 : 0 ≤ i) (h1 : i < n) : ∃ ad A0 c0 A1 c1, A = some ad ∧ w.cell? (ad.add (i.toNat * 2)) = some (.slice A0 (rd_T25 xs i).f0.length c0) ∧ w.cell? ⟨(ad.add (i.toNat * 2)).block, (ad.add (i.toNat * 2)).off + 1, none⟩ = some (.slice A1 (rd_T25 xs i).f1.length c1) ∧ (rd_T25 xs i).f0.length ≤ c0 ∧ Kd.string.C w A0 (rd_T25 xs i).f0.length (rd_T25 xs i).f0 ∧ (rd_T25 xs i).f1.length ≤ c1 ∧ (Kd.int .i64).C w A1 (rd_T25 xs i).f1.length (rd_T25 xs i).f1 := by
  obtain ⟨ad, c, e, _, hK, hc0⟩ := Kd.C_get h z25 i h0 h1
  have hc : ∀ j u, c[j]? = some u → w.cell? (ad.add (i.toNat * 2 + j)) = some u := hc0
  obtain ⟨A0, c0, A1, c1, rfl, l0, g0, l1, g1⟩ := k25_open hK
  exact ⟨ad, A0, c0, A1, c1, e, hc 0 _ rfl, by rw [← add_field _ _ 1 (by omega)]; exact hc 1 _ rfl, l0, g0, l1, g1⟩

/-! #### struct type 38 -/
structure S38 where
  f0 : (List Int)
  f1 : S25
  f2 : Int
def z38 : S38 := ⟨([] : List Int), z25, (0 : Int)⟩
def k38 : Kd S38 := Kd.iso (Kd.pair (Kd.slice 3 (Kd.int .i64)) (Kd.pair k25 (Kd.int .i64))) (fun x : S38 => (x.f0, x.f1, x.f2))
theorem k38_open {w : World} {x : S38} {cs : List Value} (h : k38.K w x cs) : ∃ A0 c0 A1 c1 A2 c2, cs = [.slice A0 x.f0.length c0, .slice A1 x.f1.f0.length c1, .slice A2 x.f1.f1.length c2, .int .i64 x.f2] ∧ x.f0.length ≤ c0 ∧ (Kd.int .i64).C w A0 x.f0.length x.f0 ∧ x.f1.f0.length ≤ c1 ∧ Kd.string.C w A1 x.f1.f0.length x.f1.f0 ∧ x.f1.f1.length ≤ c2 ∧ (Kd.int .i64).C w A2 x.f1.f1.length x.f1.f1 := by
  obtain ⟨_, _, rfl, ⟨A0, c0, rfl, l0, g0⟩, ⟨_, _, rfl, s1, rfl⟩⟩ := h
  obtain ⟨A1, c1, A2, c2, rfl, l1, g1, l2, g2⟩ := k25_open s1
  exact ⟨A0, c0, A1, c1, A2, c2, rfl, l0, g0, l1, g1, l2, g2⟩
theorem k38_openM {w : World} {base : Nat} {ok : Nat → Prop} {x : S38} {cs : List Value} (h : k38.M w base ok x cs) : ∃ v0 v1 v2, cs = [v0, v1, v2, .int .i64 x.f2] ∧ (Kd.int .i64).R 3 w base ok v0 x.f0 ∧ Kd.string.R 9 w base ok v1 x.f1.f0 ∧ (Kd.int .i64).R 3 w base ok v2 x.f1.f1 := by
  obtain ⟨_, _, rfl, ⟨v0, rfl, g0⟩, ⟨_, _, rfl, s1, rfl⟩⟩ := h
  obtain ⟨v1, v2, rfl, g1, g2⟩ := k25_openM s1
  exact ⟨v0, v1, v2, rfl, g0, g1, g2⟩
theorem k38_mk (w : World) (x : S38) {A0 : Option Addr} {c0 : Nat} (l0 : x.f0.length ≤ c0) (g0 : (Kd.int .i64).C w A0 x.f0.length x.f0) {A1 : Option Addr} {c1 : Nat} (l1 : x.f1.f0.length ≤ c1) (g1 : Kd.string.C w A1 x.f1.f0.length x.f1.f0) {A2 : Option Addr} {c2 : Nat} (l2 : x.f1.f1.length ≤ c2) (g2 : (Kd.int .i64).C w A2 x.f1.f1.length x.f1.f1) : k38.K w x [.slice A0 x.f0.length c0, .slice A1 x.f1.f0.length c1, .slice A2 x.f1.f1.length c2, .int .i64 x.f2] := ⟨[.slice A0 x.f0.length c0], [.slice A1 x.f1.f0.length c1, .slice A2 x.f1.f1.length c2, .int .i64 x.f2], rfl, ⟨A0, c0, rfl, l0, g0⟩, ⟨[.slice A1 x.f1.f0.length c1, .slice A2 x.f1.f1.length c2], [.int .i64 x.f2], rfl, (k25_mk w x.f1 l1 g1 l2 g2), rfl⟩⟩
theorem k38_mkM (w : World) (base : Nat) (ok : Nat → Prop) (x : S38) {v0 : Value} (g0 : (Kd.int .i64).R 3 w base ok v0 x.f0) {v1 : Value} (g1 : Kd.string.R 9 w base ok v1 x.f1.f0) {v2 : Value} (g2 : (Kd.int .i64).R 3 w base ok v2 x.f1.f1) : k38.M w base ok x [v0, v1, v2, .int .i64 x.f2] := ⟨[v0], [v1, v2, .int .i64 x.f2], rfl, ⟨v0, rfl, g0⟩, ⟨[v1, v2], [.int .i64 x.f2], rfl, (k25_mkM w base ok x.f1 g1 g2), rfl⟩⟩
def rd_T38 (xs : List S38) (i : Int) : S38 := xs.getD i.toNat z38
theorem at_T38 {w : World} {A : Option Addr} {n : Nat} {xs : List S38} (h : Kd.C k38 w A n xs) (i : Int) (h0 : 0 ≤ i) (h1 : i < n) : ∃ ad A0 c0 A1 c1 A2 c2, A = some ad ∧ w.cell? (ad.add (i.toNat * 4)) = some (.slice A0 (rd_T38 xs i).f0.length c0) ∧ w.cell? ⟨(ad.add (i.toNat * 4)).block, (ad.add (i.toNat * 4)).off + 1, none⟩ = some (.slice A1 (rd_T38 xs i).f1.f0.length c1) ∧ w.cell? ⟨(ad.add (i.toNat * 4)).block, (ad.add (i.toNat * 4)).off + 2, none⟩ = some (.slice A2 (rd_T38 xs i).f1.f1.length c2) ∧ w.cell? ⟨(ad.add (i.toNat * 4)).block, (ad.add (i.toNat * 4)).off + 3, none⟩ = some (.int .i64 (rd_T38 xs i).f2) ∧ (rd_T38 xs i).f0.length ≤ c0 ∧ (Kd.int .i64).C w A0 (rd_T38 xs i).f0.length (rd_T38 xs i).f0 ∧ (rd_T38 xs i).f1.f0.length ≤ c1 ∧ Kd.string.C w A1 (rd_T38 xs i).f1.f0.length (rd_T38 xs i).f1.f0 ∧ (rd_T38 xs i).f1.f1.length ≤ c2 ∧ (Kd.int .i64).C w A2 (rd_T38 xs i).f1.f1.length (rd_T38 xs i).f1.f1 := by
  obtain ⟨ad, c, e, _, hK, hc0⟩ := Kd.C_get h z38 i h0 h1
  have hc : ∀ j u, c[j]? = some u → w.cell? (ad.add (i.toNat * 4 + j)) = some u := hc0
  obtain ⟨A0, c0, A1, c1, A2, c2, rfl, l0, g0, l1, g1, l2, g2⟩ := k38_open hK
  exact ⟨ad, A0, c0, A1, c1, A2, c2, e, hc 0 _ rfl, by rw [← add_field _ _ 1 (by omega)]; exact hc 1 _ rfl, by rw [← add_field _ _ 2 (by omega)]; exact hc 2 _ rfl, by rw [← add_field _ _ 3 (by omega)]; exact hc 3 _ rfl, l0, g0, l1, g1, l2, g2⟩

def G25 (x : S25) : Prop := (GL GS) x.f0 ∧ (GL (GI .i64)) x.f1
theorem opn25 {H : Type} {enc : TypeId × Value → H} {w : World} : Opn enc Try.prog w 25 k25 G25 :=
  opn_struct (fun x : S25 => (x.f0, x.f1)) (fun y => (⟨y.1, y.2⟩ : S25)) (fun _ => rfl) Try.underlying25 (by kernel_rfl) (opnF_cons rfl (by kernel_rfl) (opn_slice 9 Try.underlying22 (by kernel_rfl) (opn_str Try.underlying9)) rfl (opnF_one rfl (by kernel_rfl) (opn_slice 3 Try.underlying23 (by kernel_rfl) (opn_int Try.underlying3))))
def G38 (x : S38) : Prop := (GL (GI .i64)) x.f0 ∧ G25 x.f1 ∧ (GI .i64) x.f2
theorem opn38 {H : Type} {enc : TypeId × Value → H} {w : World} : Opn enc Try.prog w 38 k38 G38 :=
  opn_struct (fun x : S38 => (x.f0, x.f1, x.f2)) (fun y => (⟨y.1, y.2.1, y.2.2⟩ : S38)) (fun _ => rfl) Try.underlying38 (by kernel_rfl) (opnF_cons rfl (by kernel_rfl) (opn_slice 3 Try.underlying23 (by kernel_rfl) (opn_int Try.underlying3)) rfl (opnF_cons rfl (by kernel_rfl) opn25 rfl (opnF_one rfl (by kernel_rfl) (opn_int Try.underlying3))))
/-- THE PURE STATEMENT of FnExactPast. -/
def Pure : Prop := ∀ (l0_0 : List Int) (l0_1 : List ByteArray) (l0_2 : List Int) (a0_3 : Int), (GL (GI .i64)) l0_0 → (GL GS) l0_1 → (GL (GI .i64)) l0_2 → (GI .i64) a0_3 → ∃ k, laws_FnExactPast.f k l0_0 l0_1 l0_2 a0_3 = some true
end Go.Proofs.Ytegeahiflkjhmaa.OpnFnExactPast
