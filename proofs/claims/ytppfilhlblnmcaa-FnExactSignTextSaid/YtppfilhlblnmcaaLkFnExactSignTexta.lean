/- Functions' walks: each computes what its plain form says. No condition. -/
import Derived.Test.YtppfilhlblnmcaaLkFnExactSignTexth
open Go Go.Proofs Go.Proofs.Ytppfilhlblnmcaa.Abs
namespace Go.Proofs.Ytppfilhlblnmcaa.PFnExactSignText
open Go.RowKit Go.Proofs.YtppfilhlblnmcaaW.PrintWords Go.Proofs.YtppfilhlblnmcaaW.PrintLast Go.Proofs.YtppfilhlblnmcaaW.PrintMore
set_option linter.unusedVariables false
set_option linter.unusedSimpArgs false
set_option maxRecDepth 100000
attribute [local irreducible] evK evQ evM evF evW evH goE goK goKD goQ goQD goD Ok ACalls
theorem strings_Join.cells {w : World} {A : Nat → Prop} : ∀ (l : List ByteArray) (vs : List Value) (G : List Nat), RepL w A hv0 (List.flatMap eS l) vs G → vs = l.map Value.string
  | [], vs, G, h => h.1
  | x :: l, vs, G, h => by
    obtain ⟨v, us, F1, F2, rfl, _, ⟨rfl, _, _⟩, h2⟩ := h
    rw [strings_Join.cells l us F2 h2]
    rfl
theorem strings_Join.link {l0 : List ByteArray} {a1 r : ByteArray} (H : strings_Join.f l0 a1 = some r) : ACalls Try.prog 30 [.dat false [.sl none 1 (List.flatMap eS l0)], .dat false [.sc (.string a1)]] [(false, [.sc (.string r)])] [.dat false [.sl none 1 (List.flatMap eS l0)], .dat false [.sc (.string a1)]] := by
  unfold strings_Join.f at H
  split at H
  · rename_i hc
    obtain rfl := Option.some.inj H
    refine ACalls.dat2 ⟨_, Try.func30, by kernel_rfl, by kernel_rfl⟩ rfl (fun w A v1 v2 h1 h2 hA => ?_)
    obtain rfl := VRep.sc h2
    obtain ⟨vs, ⟨v, us, F1, F2, rfl, hF, ⟨base, len, cap, rfl, _, hl, hle, _, hb⟩, rfl, _⟩, hm⟩ := h1
    obtain rfl := (List.cons.inj hm).1
    have hl0 : len = l0.length := by
      rw [Nat.mul_one] at hl
      have hlen : ∀ l : List ByteArray, (List.flatMap eS l).length = l.length := by
        intro l
        induction l with
        | nil => rfl
        | cons x l ih =>
          rw [List.flatMap_cons, List.length_append, ih, List.length_cons]
          show 1 + l.length = l.length + 1
          omega
      rw [hl, hlen]
    subst hl0
    cases l0 with
    | nil =>
      refine (Try.strings_Join_none base cap a1 w).mono ?_
      rintro e w' ⟨rfl, rfl⟩
      exact ⟨rfl, Below.refl _ _⟩
    | cons x l =>
      cases base with
      | none => exact absurd hb.1 (by simp at hle; omega)
      | some ad =>
        obtain ⟨hsp, ws, G, hR, hcell, _, _, hAb⟩ := hb
        have hws := strings_Join.cells _ _ _ hR
        subst hws
        obtain ⟨b, o, sp⟩ := ad
        obtain rfl : sp = none := hsp (.inr (by simp [eS]))
        refine (Try.strings_Join b o cap (x :: l) a1 w (fun j y hj => hcell j (.string y) (by rw [List.getElem?_map, hj]; rfl)) (hA _ (hAb (by simp [eS]))) (by omega) hle hc.2).mono ?_
        rintro e w' ⟨rfl, hB⟩
        exact ⟨rfl, hB⟩
  · cases H

set_option maxHeartbeats 8000000 in
theorem laws_eqSign.link {a0_0 : Int} {a0_1 : ByteArray} {a0_2 : Int} {a0_3 : Int} {a1_0 : Int} {a1_1 : ByteArray} {a1_2 : Int} {a1_3 : Int} {r : Bool} (H : laws_eqSign.f a0_0 a0_1 a0_2 a0_3 a1_0 a1_1 a1_2 a1_3 = some r) : ACalls Try.prog 26 [.dat true [.sc (.int .i64 a0_0), .sc (.string a0_1), .sc (.int .i64 a0_2), .sc (.int .i64 a0_3)], .dat true [.sc (.int .i64 a1_0), .sc (.string a1_1), .sc (.int .i64 a1_2), .sc (.int .i64 a1_3)]] [(false, [.sc (.bool r)])] [.dat true [.sc (.int .i64 a0_0), .sc (.string a0_1), .sc (.int .i64 a0_2), .sc (.int .i64 a0_3)], .dat true [.sc (.int .i64 a1_0), .sc (.string a1_1), .sc (.int .i64 a1_2), .sc (.int .i64 a1_3)]] := by
 refine ACalls.en Try.func26 Try.ntmps26 .go .go .go .go ?_
 intro C F hC hP hF hn (hx : C.fx = [])
 have kp : KL [0, 1, 2, 3, 4, 9, 14, 19, 24] := ⟨⟩
 have kr : KR #[.tmp 4] := ⟨⟩
 simp only [laws_eqSign.f] at H
 apply BZ.out
 exact BZ.go
set_option maxHeartbeats 8000000 in
theorem laws_eqSignS.link {k : Nat} {l0 : List (S50)} {l1 : List (S50)} {r : Bool} (H : laws_eqSignS.f k l0 l1 = some r) : ACalls Try.prog 8 [.dat false [.sl none 4 (List.flatMap e50 l0)], .dat false [.sl none 4 (List.flatMap e50 l1)]] [(false, [.sc (.bool r)])] [.dat false [.sl none 4 (List.flatMap e50 l0)], .dat false [.sl none 4 (List.flatMap e50 l1)]] := by
 refine ACalls.en Try.func8 Try.ntmps8 .go .go .go .go ?_
 intro C F hC hP hF hn (hx : C.fx = [])
 have kp : KL [0, 1, 4, 5, 10, 14, 26] := ⟨⟩
 have kr : KR #[.tmp 4] := ⟨⟩
 have kd0 : KD 6 (noneL [0, 1, 2, 3, 4, 5, 6, 7] ++ ((8, some []) :: (noneL [9] ++ []))) := ⟨⟩
 have c0 := Hold.mk @laws_eqSign.link
 simp only [laws_eqSignS.f] at H
 have w0 : LJ [0, 1, 5] (fun q X => ∃ x0, ∃ x1, ∃ x5, X = ⟨[(0, .dat false [.sl none 4 (List.flatMap e50 x0)]), (1, .dat false [.sl none 4 (List.flatMap e50 x1)]), (5, .dat false [.sc (.int .i64 x5)])], []⟩ ∧ q ≤ k ∧ laws_eqSignS.l0 q x0 x1 x5 = some r) := ⟨⟩
 apply late
 · intro lp0
   apply BZ.out
   exact BZ.go
 · intro q1 X hJ ih0
   clear H
   obtain ⟨x0, x1, x5, rfl, hq, H⟩ := hJ
   cases q1 with
   | zero => (simp only [laws_eqSignS.l0] at H; cases H)
   | succ kq1 =>
    simp only [laws_eqSignS.l0] at H
    apply BZn.out
    exact BZn.go
set_option maxHeartbeats 8000000 in
theorem laws_szSign.link {a0_0 : Int} {a0_1 : ByteArray} {a0_2 : Int} {a0_3 : Int} {a1 : Int} {r : Int} (H : laws_szSign.f a0_0 a0_1 a0_2 a0_3 a1 = some r) : ACalls Try.prog 28 [.dat true [.sc (.int .i64 a0_0), .sc (.string a0_1), .sc (.int .i64 a0_2), .sc (.int .i64 a0_3)], .dat false [.sc (.int .i64 a1)]] [(false, [.sc (.int .i64 r)])] [.dat true [.sc (.int .i64 a0_0), .sc (.string a0_1), .sc (.int .i64 a0_2), .sc (.int .i64 a0_3)], .dat false [.sc (.int .i64 a1)]] := by
 refine ACalls.en Try.func28 Try.ntmps28 .go .go .go .go ?_
 intro C F hC hP hF hn (hx : C.fx = [])
 have kp : KL [0, 1, 2, 4, 11] := ⟨⟩
 have kr : KR #[.tmp 4] := ⟨⟩
 simp only [laws_szSign.f] at H
 apply BZ.out
 exact BZ.go
set_option maxHeartbeats 8000000 in
theorem laws_szSignS.link {k : Nat} {l0 : List (S56)} {a1 : Int} {r : Int} (H : laws_szSignS.f k l0 a1 = some r) : ACalls Try.prog 11 [.dat false [.sl none 4 (List.flatMap e56 l0)], .dat false [.sc (.int .i64 a1)]] [(false, [.sc (.int .i64 r)])] [.dat false [.sl none 4 (List.flatMap e56 l0)], .dat false [.sc (.int .i64 a1)]] := by
 refine ACalls.en Try.func11 Try.ntmps11 .go .go .go .go ?_
 intro C F hC hP hF hn (hx : C.fx = [])
 have kp : KL [0, 1, 4, 5, 11, 15, 25] := ⟨⟩
 have kr : KR #[.tmp 4] := ⟨⟩
 have c0 := Hold.mk @laws_szSign.link
 simp only [laws_szSignS.f] at H
 have w0 : LJ [0, 1, 5] (fun q X => ∃ x0, ∃ x1, ∃ x5, X = ⟨[(0, .dat false [.sl none 4 (List.flatMap e56 x0)]), (1, .dat false [.sc (.int .i64 x1)]), (5, .dat false [.sc (.int .i64 x5)])], []⟩ ∧ q ≤ k ∧ laws_szSignS.l0 q x0 x1 x5 = some r) := ⟨⟩
 apply late
 · intro lp0
   apply BZ.out
   exact BZ.go
 · intro q1 X hJ ih0
   clear H
   obtain ⟨x0, x1, x5, rfl, hq, H⟩ := hJ
   cases q1 with
   | zero => (simp only [laws_szSignS.l0] at H; cases H)
   | succ kq1 =>
    simp only [laws_szSignS.l0] at H
    apply BZn.out
    exact BZn.go
set_option maxHeartbeats 8000000 in
theorem spec_SignText.link {k : Nat} {l0 : List (S50)} {r : ByteArray} (H : spec_SignText.f k l0 = some r) : ACalls Try.prog 12 [.dat false [.sl none 4 (List.flatMap e50 l0)]] [(false, [.sc (.string r)])] [.dat false [.sl none 4 (List.flatMap e50 l0)]] := by
 refine ACalls.en Try.func12 Try.ntmps12 .go .go .go .go ?_
 intro C F hC hP hF hn (hx : C.fx = [])
 have kp : KL [0, 2, 3, 4, 8, 12] := ⟨⟩
 have kr : KR #[.tmp 2] := ⟨⟩
 simp only [spec_SignText.f] at H
 have w0 : LJ [0, 3, 4] (fun q X => ∃ x0, ∃ x3, ∃ x4, X = ⟨[(0, .dat false [.sl none 4 (List.flatMap e50 x0)]), (3, .dat false [.sc (.string x3)]), (4, .dat false [.sc (.int .i64 x4)])], []⟩ ∧ q ≤ k ∧ spec_SignText.l0 q x0 x3 x4 = some r) := ⟨⟩
 apply late
 · intro lp0
   apply BZ.out
   exact BZ.go
 · intro q1 X hJ ih0
   clear H
   obtain ⟨x0, x3, x4, rfl, hq, H⟩ := hJ
   cases q1 with
   | zero => (simp only [spec_SignText.l0] at H; cases H)
   | succ kq1 =>
    simp only [spec_SignText.l0] at H
    apply BZn.out
    exact BZn.go
set_option maxHeartbeats 8000000 in
theorem laws_toSign.link {a0_0 : Int} {a0_1 : ByteArray} {a0_2 : Int} {a0_3 : Int} {r : Int × ByteArray × Int × Int} (H : laws_toSign.f a0_0 a0_1 a0_2 a0_3 = some r) : ACalls Try.prog 29 [.dat true [.sc (.int .i64 a0_0), .sc (.string a0_1), .sc (.int .i64 a0_2), .sc (.int .i64 a0_3)]] [(true, [.sc (.int .i64 r.1), .sc (.string r.2.1), .sc (.int .i64 r.2.2.1), .sc (.int .i64 r.2.2.2)])] [.dat true [.sc (.int .i64 a0_0), .sc (.string a0_1), .sc (.int .i64 a0_2), .sc (.int .i64 a0_3)]] := by
 refine ACalls.en Try.func29 Try.ntmps29 .go .go .go .go ?_
 intro C F hC hP hF hn (hx : C.fx = [])
 have kp : KL [0, 1, 2, 3] := ⟨⟩
 have kr : KR #[.cell 2 50] := ⟨⟩
 simp only [laws_toSign.f] at H
 apply BZ.out
 exact BZ.go
set_option maxHeartbeats 8000000 in
theorem laws_toSignS.link {k : Nat} {l0 : List (S56)} {r : (List (S50))} (H : laws_toSignS.f k l0 = some r) : ACalls Try.prog 13 [.dat false [.sl none 4 (List.flatMap e56 l0)]] [(false, [.sl (some 0) 4 (List.flatMap e50 r)])] [.dat false [.sl none 4 (List.flatMap e56 l0)]] := by
 refine ACalls.en Try.func13 Try.ntmps13 .go .go .go .go ?_
 intro C F hC hP hF hn (hx : C.fx = [])
 have kp : KL [0, 2, 3, 4, 11] := ⟨⟩
 have kr : KR #[.tmp 2] := ⟨⟩
 have c0 := Hold.mk @laws_toSign.link
 simp only [laws_toSignS.f] at H
 have w0 : LJ [0, 3, 4] (fun q X => ∃ x0, ∃ x3, ∃ x4, X = ⟨[(0, .dat false [.sl none 4 (List.flatMap e56 x0)]), (3, .bor 0 none 0 1 false), (4, .dat false [.sc (.int .i64 x4)])], [(0, .vir [.sl (some 0) 4 (List.flatMap e50 x3)])]⟩ ∧ q ≤ k ∧ laws_toSignS.l0 q x0 x3 x4 = some r) := ⟨⟩
 apply late
 · intro lp0
   apply BZn.out
   exact BZn.go
 · intro q1 X hJ ih0
   clear H
   obtain ⟨x0, x3, x4, rfl, hq, H⟩ := hJ
   cases q1 with
   | zero => (simp only [laws_toSignS.l0] at H; cases H)
   | succ kq1 =>
    simp only [laws_toSignS.l0] at H
    apply BZn.out
    exact BZn.go
set_option maxHeartbeats 8000000 in
theorem impl_SignText.link {k : Nat} {l0 : List (S50)} {r : ByteArray} (H : impl_SignText.f k l0 = some r) : ACalls Try.prog 14 [.dat false [.sl none 4 (List.flatMap e50 l0)]] [(false, [.sc (.string r)])] [.dat false [.sl none 4 (List.flatMap e50 l0)]] := by
 refine ACalls.en Try.func14 Try.ntmps14 .go .go .go .go ?_
 intro C F hC hP hF hn (hx : C.fx = [])
 have kp : KL [0, 2, 3, 5, 6, 7, 8, 9] := ⟨⟩
 have kr : KR #[.tmp 2] := ⟨⟩
 have c0 := Hold.mk @strings_Join.link
 simp only [impl_SignText.f] at H
 have w0 : LJ [3, 6, 7, 8] (fun q X => ∃ x3, ∃ x6, ∃ x7, ∃ x8, X = ⟨[(3, .bor 0 none 0 1 false), (6, .dat false [.sl none 4 (List.flatMap e50 x6)]), (7, .dat false [.sc (.int .i64 x7)]), (8, .dat false [.sc (.int .i64 x8)])], [(0, .vir [.sl (some 0) 1 (List.flatMap eS x3)])]⟩ ∧ q ≤ k ∧ impl_SignText.l0 q x3 x6 x7 x8 = some r) := ⟨⟩
 apply late
 · intro lp0
   apply BZa.out
   exact BZa.go
 · intro q1 X hJ ih0
   clear H
   obtain ⟨x3, x6, x7, x8, rfl, hq, H⟩ := hJ
   cases q1 with
   | zero => (simp only [impl_SignText.l0] at H; cases H)
   | succ kq1 =>
    simp only [impl_SignText.l0] at H
    apply BZna.out
    exact BZna.go
set_option maxHeartbeats 8000000 in
theorem laws_FnExactSignText.link {k : Nat} {l0 : List (S56)} {r : Bool} (H : laws_FnExactSignText.f k l0 = some r) : ACalls Try.prog 4 [.dat false [.sl none 4 (List.flatMap e56 l0)]] [(false, [.sc (.bool r)])] [.dat false [.sl none 4 (List.flatMap e56 l0)]] := by
 refine ACalls.en Try.func4 Try.ntmps4 .go .go .go .go ?_
 intro C F hC hP hF hn (hx : C.fx = [])
 have kp : KL [0, 2, 3, 4, 5, 6, 11, 21, 26] := ⟨⟩
 have kr : KR #[.tmp 2] := ⟨⟩
 have c0 := Hold.mk @laws_eqSignS.link
 have c1 := Hold.mk @laws_szSignS.link
 have c2 := Hold.mk @spec_SignText.link
 have c3 := Hold.mk @laws_toSignS.link
 have c4 := Hold.mk @impl_SignText.link
 simp only [laws_FnExactSignText.f] at H
 apply BZ.out
 exact BZ.go
end Go.Proofs.Ytppfilhlblnmcaa.PFnExactSignText
