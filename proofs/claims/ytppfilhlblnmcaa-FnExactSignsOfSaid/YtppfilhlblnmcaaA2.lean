/- An abstract machine for the walks: values and objects without addresses, an evaluator of the operations, sound for the model's walk. No condition. -/
import Derived.Test.YtppfilhlblnmcaaA1
import Derived.Orders
/- An abstract machine for the walks, part 15: a store. No condition. -/
set_option linter.unusedVariables false
namespace Go.Proofs.Ytppfilhlblnmcaa.Abs
open Go

/-- What is told of a slot stays true although cells of object id (at q) are written. -/
def okU (id : Nat) (q : Option (Nat × Nat)) : T → Bool
  | .pl id' q' _ => id != id' || q'.isNone || q.isSome
  | .bor id' q' _ _ _ => id != id' || (q'.isNone && q.isSome)
  | _ => true
def okT (id : Nat) (q : Option (Nat × Nat)) : T → Bool
  | .tup ts => ts.all fun t => okU id q t && !(refU t).contains id
  | t => okU id q t
def kill (id : Nat) (q : Option (Nat × Nat)) : List (Nat × T) → List (Nat × T)
  | [] => []
  | (a, x) :: r => if okT id q x then (a, x) :: kill id q r else del (kill id q r) a
theorem lk_kill {id : Nat} {q : Option (Nat × Nat)} : ∀ {l : List (Nat × T)} {t : Nat} {x : T}, lk (kill id q l) t = some x → lk l t = some x ∧ okT id q x = true
  | [], t, x, h => by cases h
  | (a, y) :: r, t, x, h => by
    unfold kill at h
    split at h
    · rename_i hok
      simp only [lk] at h ⊢
      split at h
      · rename_i e
        cases h
        exact ⟨if_pos e, hok⟩
      · rename_i e
        rw [if_neg e]
        exact lk_kill h
    · rw [lk_del] at h
      split at h
      · cases h
      · rename_i e
        simp only [lk, if_neg e]
        exact lk_kill h

/-- An element's array is no variable. -/
theorem SrcIs.apart {w : World} {A : Nat → Prop} {hv : Nat → Value} {l : Loc} {o : Ob} {F : List Nat} {ci : Nat × Nat} {b off : Nat} (ho : ObRep w A hv l o F) (hnd : F.Nodup) (h : SrcIs w l o.cells (some ci) (.mem b off)) : ∀ b0, l = .blk b0 → b0 ≠ b := by
  intro b0 hl
  subst hl
  cases o with
  | vir cs => exact ho.elim
  | mem cs =>
    obtain ⟨d, e, g, h1, h2, rfl⟩ := ho
    obtain ⟨c, i⟩ := ci
    obtain ⟨k, st, ds, a, len, cap, hc, hh, he⟩ := h
    cases he
    obtain ⟨v, v1, v2, F1, F2, F3, hvs, hl1, hcv, rfl, r1, r2, r3⟩ := RepL.at h2 hc
    have hv : v = .slice (some a) len cap := by
      simp only [Loc.src, rd, World.cell?, h1, Nat.zero_add, Option.isSome_none, Bool.false_eq_true, if_false] at hh
      have : d[c]? = some v := by simpa using hcv
      rw [this] at hh
      cases hh
      rfl
    subst hv
    obtain ⟨base, len', cap', he2, _, _, _, _, hx⟩ := r2
    cases he2
    obtain ⟨_, us, G, _, _, _, hF2, _⟩ := hx
    intro e2
    subst e2
    exact (List.nodup_cons.1 hnd).1 (by rw [hF2]; simp)

/-- What is told of a slot stays true under a store. -/
theorem RepU.keep {w w' : World} {A A' : Nat → Prop} {hv : Nat → Value} {L L' : Nat → Loc} {sg sg' : List (Nat × Ob)} {G : Nat → List Nat} (hA : ∀ b, b < w.heap.size → A b → A' b ∧ w'.heap[b]? = w.heap[b]?)
    (hG : ∀ i o, lk sg i = some o → ObRep w A hv (L i) o (G i)) (id : Nat) (q : Option (Nat × Nat)) (ob ob' : Ob) (hob : lk sg id = some ob) (hob' : lk sg' id = some ob') (hL : L' id = L id) (hkind : ∀ cs', ob' = .mem cs' → ∃ cs, ob = .mem cs)
    (hoth : ∀ i o', i ≠ id → lk sg' i = some o' → lk sg i = some o' ∧ L' i = L i ∧ ∀ b ∈ G i, w'.heap[b]? = w.heap[b]?)
    (hrow : q.isSome = true → ∀ q' rs', row q' ob'.cells = some rs' → ∃ rs, row q' ob.cells = some rs ∧ rs'.length = rs.length ∧ ∀ s, SrcIs w (L id) ob.cells q' s → SrcIs w' (L id) ob'.cells q' s)
    (hroot : q.isSome = true → ∀ i u, rd w (L id).src i = some u → rd w' (L id).src i = some u) (hlenr : ob'.cells.length = ob.cells.length) :
    ∀ (t : T) (v : Value), okU id q t = true → RepU w A hv L sg t v → RepU w' A' hv L' sg' t v := by
  intro t v hok h
  by_cases hid : id ∈ refU t
  · cases t with
    | dat g cs => cases hid
    | tup ts => cases hid
    | dp cs => cases hid
    | pl id' q' j =>
      simp only [refU, List.mem_singleton] at hid
      subst hid
      intro o' ho' rs' hrs'
      rw [hob'] at ho'
      cases ho'
      cases q' with
      | none =>
        obtain ⟨b, n, h1, h2⟩ := h ob hob ob.cells rfl
        exact ⟨b, n, by rw [hL]; exact h1, h2⟩
      | some ci =>
        have hq : q.isSome = true := by simpa [okU] using hok
        obtain ⟨rs, k1, k2, k3⟩ := hrow hq _ _ hrs'
        obtain ⟨b, n, h1, h2⟩ := h ob hob rs k1
        exact ⟨b, n, by rw [hL]; exact k3 _ h1, h2⟩
    | bor id' q' j n g =>
      simp only [refU, List.mem_singleton] at hid
      subst hid
      have hq : q'.isNone = true ∧ q.isSome = true := by simpa [okU] using hok
      cases q' with
      | some _ => simp at hq
      | none =>
        intro o' ho' rs' hrs' hjn
        rw [hob'] at ho'
        cases ho'
        cases hrs'
        obtain ⟨s, vs, h1, h2, h3, h4⟩ := h ob hob ob.cells rfl (by omega)
        have hs : s = (L id).src := h1
        subst hs
        refine ⟨_, vs, by rw [hL]; rfl, h2, fun i hi => ?_, h4⟩
        have h5 := h3 i hi
        rw [List.getElem?_eq_getElem (by omega)] at h5 ⊢
        exact hroot hq.2 _ _ h5
    | clo f cs =>
      obtain ⟨us, rfl, hc⟩ := h
      refine ⟨us, rfl, caps.frame hA cs us (fun i hi y hy => ?_) hc⟩
      by_cases e : i = id
      · subst e
        rw [hob'] at hy
        cases hy
        obtain ⟨cs0, rfl⟩ := hkind y rfl
        exact ⟨cs0, hob, hL⟩
      · obtain ⟨k1, k2, _⟩ := hoth i _ e hy
        exact ⟨y, k1, k2⟩
  · refine RepU.frame hA hG t v h (fun i hi o' ho' => ?_)
    have e : i ≠ id := fun e => hid (e ▸ hi)
    obtain ⟨k1, k2, k3⟩ := hoth i o' e ho'
    exact ⟨o', k1, k2, fun cs e => ⟨cs, e⟩, .inr (.inr ⟨.refl _, k3⟩)⟩

theorem setRow_length {q : Option (Nat × Nat)} {cs rs rs' : List Cell} (h : row q cs = some rs) (hl : rs'.length = rs.length) : (setRow q cs rs').length = cs.length := by
  cases q with
  | none => cases h; exact hl
  | some ci =>
    obtain ⟨c, i⟩ := ci
    simp only [setRow]
    split
    · simp
    · rfl

section
variable {C : Cx} {X : St} {a : Act} {w : World} {L : Nat → Loc} {G : Nat → List Nat}

/-- The values of an object that nobody speaks of are stored at a place. -/
theorem Sim.storeAt (h : Sim C X a w L G) {id slot j n b off : Nat} {q : Option (Nat × Nat)} {cs rs : List Cell} {vs : List Value} {ob : Ob} (ho : lk X.sg id = some ob) (hr : row q ob.cells = some rs) (hle : j + n ≤ rs.length)
    (hs : lk X.sg slot = some (.vir cs)) (hL : L slot = .vals vs) (hcl : cs.length = n) (hne : id ≠ slot) (hun : Unref X slot) (hsrc : SrcIs w (L id) ob.cells q (.mem b off)) :
    ∃ w' G', (storeCells ⟨b, off + j, none⟩ vs).run C.P w = .ok () w' ∧ Sim C { env := kill id q X.env, sg := del (ins X.sg id (ob.with (setRow q ob.cells (over rs j cs)))) slot } a w' L G' := by
  have hob := h.ob id ob ho
  obtain ⟨s, vr, Fa, F2, Fb, k1, k2, k3, k4, k5, k6⟩ := hob.turn (h.nd id) hr
  cases k1.uniq hsrc
  obtain ⟨hbFa, c, e, hblk, hsz, htake⟩ := k5 b off rfl
  obtain ⟨v1, us, v3, f1, f2, f3, rfl, hl1, hl2, rfl, r1, r2, r3⟩ := RepL.mid k2 j n hle
  have hval := h.ob slot _ hs
  rw [hL] at hval
  have hvl : vs.length = n := by rw [RepL.length hval, hcl]
  have hvf := RepL.flat hval
  have hst := run_storeCells_at C.P b (off + j) e vs 0 c w hblk (by rw [hvl]; omega) hvf
  simp only [Nat.add_zero] at hst
  refine ⟨_, upd (upd G id (Fa ++ (f1 ++ G slot ++ f3) ++ Fb)) slot [], hst, ?_⟩
  -- the world behind
  have hlr : rs.length = (v1 ++ us ++ v3).length := (RepL.length k2).symm
  have hceq : c.toList = c.toList.take off ++ (v1 ++ us ++ v3) ++ c.toList.drop (off + rs.length) := by
    rw [← htake, ← List.drop_drop, List.append_assoc, List.take_append_drop, List.take_append_drop]
  have hoff : (c.toList.take off).length = off := by rw [List.length_take, Array.length_toList]; omega
  have hnewrow : c.toList.take (off + j) ++ vs ++ c.toList.drop (off + j + vs.length) = c.toList.take off ++ (v1 ++ vs ++ v3) ++ c.toList.drop (off + rs.length) := by
    have e1 : c.toList.take (off + j) = c.toList.take off ++ v1 := by
      rw [hceq]
      generalize c.toList.drop (off + rs.length) = tl
      generalize hp : c.toList.take off = pre
      rw [hp] at hoff
      have : pre ++ (v1 ++ us ++ v3) ++ tl = (pre ++ v1) ++ (us ++ v3 ++ tl) := by simp
      rw [this, show off + j = (pre ++ v1).length by rw [List.length_append, hoff, hl1], List.take_left, List.append_assoc, ← hoff, List.take_left]
    have e2 : c.toList.drop (off + j + vs.length) = v3 ++ c.toList.drop (off + rs.length) := by
      have hx := congrArg (List.drop (off + j + vs.length)) hceq
      rw [hx]
      generalize c.toList.drop (off + rs.length) = tl
      generalize hp : c.toList.take off = pre
      rw [hp] at hoff
      have : pre ++ (v1 ++ us ++ v3) ++ tl = (pre ++ v1 ++ us) ++ (v3 ++ tl) := by simp
      rw [this, show off + j + vs.length = (pre ++ v1 ++ us).length by rw [List.length_append, List.length_append, hoff, hl1, hl2, hvl], List.drop_left]
    rw [e1, e2]
    simp
  have hw'b : (w.setRow b (c.toList.take (off + j) ++ vs ++ c.toList.drop (off + j + vs.length)).toArray).heap[b]? = some (.cells (c.toList.take (off + j) ++ vs ++ c.toList.drop (off + j + vs.length)).toArray e (0, 0)) := setRow_heap w b c _ e _ hblk
  have hw'o : ∀ k, k ≠ b → (w.setRow b (c.toList.take (off + j) ++ vs ++ c.toList.drop (off + j + vs.length)).toArray).heap[k]? = w.heap[k]? := fun k hk => setRow_other w b k _ hk
  have hw'x : Ext (· = b) w (w.setRow b (c.toList.take (off + j) ++ vs ++ c.toList.drop (off + j + vs.length)).toArray) := ⟨rfl, rfl, rfl, by simp, fun k _ hk => hw'o k hk⟩
  generalize w.setRow b (c.toList.take (off + j) ++ vs ++ c.toList.drop (off + j + vs.length)).toArray = w' at hw'b hw'o hw'x
  have hbid : b ∈ G id := by rw [k3]; simp [hbFa]
  have hndid := h.nd id
  rw [k3] at hndid
  generalize hG' : upd (upd G id (Fa ++ (f1 ++ G slot ++ f3) ++ Fb)) slot [] = G'
  have hGid : G' id = Fa ++ (f1 ++ G slot ++ f3) ++ Fb := by rw [← hG', upd_ne _ _ hne, upd_self]
  have hGs : G' slot = [] := by rw [← hG', upd_self]
  have hGo : ∀ i, i ≠ id → i ≠ slot → G' i = G i := fun i h1 h2 => by rw [← hG', upd_ne _ _ h2, upd_ne _ _ h1]
  have hsub : ∀ i k, k ∈ G' i → ∃ m, k ∈ G m := by
    intro i k hk
    by_cases e1 : i = slot
    · subst e1; rw [hGs] at hk; cases hk
    · by_cases e2 : i = id
      · subst e2
        rw [hGid] at hk
        simp only [List.mem_append] at hk
        rcases hk with (hk | (hk | hk) | hk) | hk
        · exact ⟨_, by rw [k3]; simp [hk]⟩
        · exact ⟨_, by rw [k3]; simp [hk]⟩
        · exact ⟨slot, hk⟩
        · exact ⟨_, by rw [k3]; simp [hk]⟩
        · exact ⟨_, by rw [k3]; simp [hk]⟩
      · rw [hGo i e2 e1] at hk; exact ⟨i, hk⟩
  have hA : ∀ k, C.A G k → C.A G' k := fun k hk => ⟨hk.1, fun i hi => by obtain ⟨m, hm⟩ := hsub i k hi; exact hk.2 m hm⟩
  have hAb : ∀ k, C.A G k → k ≠ b := fun k hk e => hk.2 id (e ▸ hbid)
  have hmov : ∀ (cs' : List Cell) (vv : List Value) (FF : List Nat), RepL w (C.A G) C.hv cs' vv FF → b ∉ FF → RepL w' (C.A G') C.hv cs' vv FF := by
    intro cs' vv FF hR hbn
    refine RepL.frame _ _ _ hR (fun k _ hk => hw'o k ?_) (fun k _ hk => hA k hk)
    rcases hk with hk | hk
    · exact hAb k hk
    · exact fun e => hbn (e ▸ hk)
  have hbF2 : b ∉ f1 ++ f2 ++ f3 := fun hb => (List.nodup_append.1 (List.nodup_append.1 hndid).1).2.2 b hbFa b hb rfl
  have hbFb : b ∉ Fb := fun hb => (List.nodup_append.1 hndid).2.2 b (by simp [hbFa]) b hb rfl
  have hbsl : b ∉ G slot := fun hb => hne (h.dj id slot b hbid hb)
  have hnew : RepL w' (C.A G') C.hv (over rs j cs) (v1 ++ vs ++ v3) (f1 ++ G slot ++ f3) := by
    have := RepL.append (RepL.append (hmov _ _ _ r1 (fun hb => hbF2 (by simp [hb]))) (hmov _ _ _ hval hbsl)) (hmov _ _ _ r3 (fun hb => hbF2 (by simp [hb])))
    simp only [over]
    rw [hcl]
    exact this
  have hovl : (over rs j cs).length = rs.length := over_length (by omega)
  have hturn := k6 w' (C.A G') _ _ _ hnew hovl ⟨c, e, hblk, hsz, by rw [hlr]; simp only [List.length_append]; omega, by rw [← hnewrow]; exact hw'b⟩ (fun us' hu => by cases hu)
    (fun k hk hki hkk => hw'o k (fun e => hki e.symm)) (fun k hk hkA => ⟨hA k hkA, fun e => hAb k hkA e.symm⟩)
  have hob' : lk (del (ins X.sg id (ob.with (setRow q ob.cells (over rs j cs)))) slot) id = some (ob.with (setRow q ob.cells (over rs j cs))) := by
    rw [lk_del, if_neg (Ne.symm hne), lk_ins, if_pos rfl]
  have hoth : ∀ i o', i ≠ id → lk (del (ins X.sg id (ob.with (setRow q ob.cells (over rs j cs)))) slot) i = some o' → lk X.sg i = some o' ∧ i ≠ slot := by
    intro i o' e1 hi
    rw [lk_del] at hi
    split at hi
    · cases hi
    · rename_i e2
      rw [lk_ins, if_neg (Ne.symm e1)] at hi
      exact ⟨hi, Ne.symm e2⟩
  have hkeepo : ∀ i, i ≠ id → ∀ k ∈ G i, w'.heap[k]? = w.heap[k]? := fun i hi k hk => hw'o k (fun e => hi (h.dj i id k hk (e ▸ hbid)))
  refine { ob := ?_, no := ?_, nd := ?_, dj := ?_, own := ?_, en := ?_, rf := ?_, fr := ?_, df := h.df, fx := h.fx, nt := h.nt }
  · intro i o hi
    by_cases e1 : i = id
    · subst e1
      rw [hob'] at hi
      cases hi
      rw [hGid]
      exact hturn
    · obtain ⟨g1, g2⟩ := hoth i o e1 hi
      rw [hGo i e1 g2]
      exact (h.ob i o g1).frame (fun k _ hk => hk.elim (fun hk => hw'o k (hAb k hk)) (hkeepo i e1 k)) (fun k _ hk => hA k hk)
  · intro i hi
    by_cases e1 : i = slot
    · subst e1; exact hGs
    · by_cases e2 : i = id
      · subst e2; rw [hob'] at hi; cases hi
      · rw [hGo i e2 e1]
        refine h.no i ?_
        have hi' : lk (del (ins X.sg id (ob.with (setRow q ob.cells (over rs j cs)))) slot) i = none := hi
        rw [lk_del, if_neg (Ne.symm e1), lk_ins, if_neg (Ne.symm e2)] at hi'
        exact hi'
  · intro i
    by_cases e1 : i = slot
    · subst e1; rw [hGs]; exact List.nodup_nil
    · by_cases e2 : i = id
      · subst e2
        rw [hGid]
        rw [List.nodup_append, List.nodup_append, List.nodup_append, List.nodup_append] at hndid ⊢
        obtain ⟨⟨n1, ⟨⟨n2, n3, n4⟩, n5, n6⟩, n7⟩, n8, n9⟩ := hndid
        have dsl : ∀ x ∈ G slot, x ∉ G i := fun x hx hxi => hne (h.dj i slot x hxi hx)
        have inG : ∀ x, x ∈ Fa ∨ x ∈ f1 ∨ x ∈ f3 ∨ x ∈ Fb → x ∈ G i := by
          intro x hx
          rw [k3]
          simp only [List.mem_append]
          rcases hx with hx | hx | hx | hx <;> simp [hx]
        refine ⟨⟨n1, ⟨⟨n2, h.nd slot, fun x hx y hy hxy => ?_⟩, n5, fun x hx y hy hxy => ?_⟩, fun x hx y hy hxy => ?_⟩, n8, fun x hx y hy hxy => ?_⟩
        · subst hxy; exact dsl x hy (inG x (.inr (.inl hx)))
        · subst hxy
          rcases List.mem_append.1 hx with hx | hx
          · exact n6 x (by simp [hx]) x hy rfl
          · exact dsl x hx (inG x (.inr (.inr (.inl hy))))
        · subst hxy
          rcases List.mem_append.1 hy with hy | hy
          · rcases List.mem_append.1 hy with hy | hy
            · exact n7 x hx x (by simp [hy]) rfl
            · exact dsl x hy (inG x (.inl hx))
          · exact n7 x hx x (by simp [hy]) rfl
        · subst hxy
          rcases List.mem_append.1 hx with hx | hx
          · exact n9 x (by simp [hx]) x hy rfl
          · rcases List.mem_append.1 hx with hx | hx
            · rcases List.mem_append.1 hx with hx | hx
              · exact n9 x (by simp [hx]) x hy rfl
              · exact dsl x hx (inG x (.inr (.inr (.inr hy))))
            · exact n9 x (by simp [hx]) x hy rfl
      · rw [hGo i e2 e1]; exact h.nd i
  · intro i m k hi hm
    have key : ∀ i k, k ∈ G' i → (i = id ∧ k ∈ G slot) ∨ (k ∈ G i ∧ i ≠ slot) := by
      intro i k hk
      by_cases e1 : i = slot
      · subst e1; rw [hGs] at hk; cases hk
      · by_cases e2 : i = id
        · subst e2
          rw [hGid] at hk
          simp only [List.mem_append] at hk
          rcases hk with (hk | (hk | hk) | hk) | hk
          · exact .inr ⟨by rw [k3]; simp [hk], hne⟩
          · exact .inr ⟨by rw [k3]; simp [hk], hne⟩
          · exact .inl ⟨rfl, hk⟩
          · exact .inr ⟨by rw [k3]; simp [hk], hne⟩
          · exact .inr ⟨by rw [k3]; simp [hk], hne⟩
        · rw [hGo i e2 e1] at hk; exact .inr ⟨hk, e1⟩
    rcases key i k hi with ⟨rfl, h1⟩ | ⟨h1, h1'⟩ <;> rcases key m k hm with ⟨rfl, h2⟩ | ⟨h2, h2'⟩
    · rfl
    · exact absurd (h.dj _ _ k h1 h2).symm h2'
    · exact absurd (h.dj _ _ k h2 h1).symm h1'
    · exact h.dj i m k h1 h2
  · intro i k hk
    obtain ⟨m, hm⟩ := hsub i k hk
    exact h.own m k hm
  · intro t x hx
    obtain ⟨hx1, hx2⟩ := lk_kill hx
    have hrep := h.en t x hx1
    have hns := hun t x hx1
    have hblkne : q.isSome = true → ∀ b0, L id = .blk b0 → b0 ≠ b := by
      intro hq b0 hb0
      cases q with
      | none => cases hq
      | some ci => exact SrcIs.apart hob (h.nd id) hsrc b0 hb0
    have hroot : q.isSome = true → ∀ i u, rd w (L id).src i = some u → rd w' (L id).src i = some u := by
      intro hq i u hi
      cases hLi : L id with
      | vals vv => rw [hLi] at hi; exact hi
      | blk b0 =>
        rw [hLi] at hi
        simp only [Loc.src, rd] at hi ⊢
        rw [cell_congr (hw'o b0 (hblkne hq b0 hLi))]
        exact hi
    have hrow : q.isSome = true → ∀ q' rs', row q' (ob.with (setRow q ob.cells (over rs j cs))).cells = some rs' → ∃ rs0, row q' ob.cells = some rs0 ∧ rs'.length = rs0.length ∧ ∀ s, SrcIs w (L id) ob.cells q' s → SrcIs w' (L id) (ob.with (setRow q ob.cells (over rs j cs))).cells q' s := by
      intro hq q' rs' hq'
      rw [with_cells] at hq' ⊢
      cases q with
      | none => cases hq
      | some ci0 =>
        obtain ⟨c0, i0⟩ := ci0
        simp only [row] at hr
        split at hr
        · rename_i k0 s0 ds0 hc0
          split at hr
          · rename_i hle0
            have hrs := Option.some.inj hr
            have hrl : rs.length = s0 := by
              rw [← hrs, List.length_take, List.length_drop]
              have : (i0 + 1) * s0 = i0 * s0 + s0 := Nat.succ_mul i0 s0
              omega
            have hset : setRow (some (c0, i0)) ob.cells (over rs j cs) = ob.cells.set c0 (.sl (some k0) s0 (ds0.take (i0 * s0) ++ over rs j cs ++ ds0.drop ((i0 + 1) * s0))) := by
              simp only [setRow, hc0]
            have hdl : (ds0.take (i0 * s0) ++ over rs j cs ++ ds0.drop ((i0 + 1) * s0)).length = ds0.length := by
              have : (i0 + 1) * s0 = i0 * s0 + s0 := Nat.succ_mul i0 s0
              simp only [List.length_append, List.length_take, List.length_drop, hovl, hrl]
              omega
            rw [hset] at hq' ⊢
            have hlt := (List.getElem?_eq_some_iff.1 hc0).1
            cases q' with
            | none =>
              cases hq'
              exact ⟨ob.cells, rfl, by simp, fun s hs => hs⟩
            | some ci =>
              obtain ⟨c1, i1⟩ := ci
              simp only [row] at hq' ⊢
              by_cases e1 : c0 = c1
              · subst e1
                rw [List.getElem?_set_self hlt] at hq'
                simp only at hq'
                split at hq'
                · rename_i hle2
                  cases hq'
                  refine ⟨_, by rw [hc0]; exact if_pos (by rw [← hdl]; exact hle2), ?_, fun s' hs => ?_⟩
                  · simp only [List.length_take, List.length_drop, hdl]
                  · obtain ⟨k', st, ds', ad, len, cap, h1, h2, rfl⟩ := hs
                    rw [hc0] at h1
                    cases h1
                    exact ⟨_, _, _, ad, len, cap, List.getElem?_set_self hlt, hroot hq _ _ h2, rfl⟩
                · cases hq'
              · rw [List.getElem?_set_ne e1] at hq'
                split at hq'
                · rename_i k2 s2 ds2 hc2
                  split at hq'
                  · rename_i hle2
                    cases hq'
                    refine ⟨_, if_pos hle2, rfl, fun s' hs => ?_⟩
                    obtain ⟨k', st, ds', ad, len, cap, h1, h2, rfl⟩ := hs
                    exact ⟨k', st, ds', ad, len, cap, by rw [List.getElem?_set_ne e1]; exact h1, hroot hq _ _ h2, rfl⟩
                  · cases hq'
                · cases hq'
          · cases hr
        · cases hr
    have hU : ∀ (u : T) (v : Value), okU id q u = true → slot ∉ refU u → RepU w (C.A G) C.hv L X.sg u v → RepU w' (C.A G') C.hv L (del (ins X.sg id (ob.with (setRow q ob.cells (over rs j cs)))) slot) u v := by
      intro u v hok hnu hu
      refine RepU.keep (fun k _ hk => ⟨hA k hk, hw'o k (hAb k hk)⟩) h.ob id q ob _ ho hob' rfl (fun cs' e => ?_) (fun i o' e1 hi => ?_) hrow hroot (by rw [with_cells, setRow_length hr hovl]) u v hok hu
      · cases ob with
        | mem cs0 => exact ⟨cs0, rfl⟩
        | vir cs0 => cases e
      · obtain ⟨g1, g2⟩ := hoth i o' e1 hi
        exact ⟨g1, rfl, hkeepo i e1⟩
    cases x with
    | tup ts =>
      obtain ⟨vv, hv, hl, hk⟩ := hrep
      refine ⟨vv, hv, hl, fun i t' u' ht hu => ?_⟩
      have hok : okU id q t' = true := (Bool.and_eq_true _ _ ▸ List.all_eq_true.1 hx2 t' (List.mem_of_getElem? ht) : _ ∧ _).1
      refine hU t' u' hok (fun hs => hns ?_) (hk i t' u' ht hu)
      simp only [refs, List.mem_flatten, List.mem_map]
      exact ⟨refU t', ⟨t', List.mem_of_getElem? ht, rfl⟩, hs⟩
    | dat g cs' => exact hU (.dat g cs') _ hx2 hns hrep
    | dp cs' => exact hU (.dp cs') _ hx2 hns hrep
    | pl i' q' j' => exact hU (.pl i' q' j') _ hx2 hns hrep
    | bor i' q' j' n' g => exact hU (.bor i' q' j' n' g) _ hx2 hns hrep
    | clo f ids => exact hU (.clo f ids) _ hx2 hns hrep
  · intro t x hx i hi
    obtain ⟨hx1, hx2⟩ := lk_kill hx
    have h1 := h.rf t x hx1 i hi
    have h2 : i ≠ slot := fun e => hun t x hx1 (e ▸ hi)
    show lk (del (ins X.sg id _) slot) i ≠ none
    rw [lk_del, if_neg (Ne.symm h2), lk_ins]
    split
    · simp
    · exact h1
  · exact h.fr.trans hw'x (fun k hk hkb => by
      subst hkb
      exact (h.own id k hbid).elim (fun h => h) (fun h => by omega))

end
end Go.Proofs.Ytppfilhlblnmcaa.Abs
/- An abstract machine for the walks, part 16: what a call takes and gives; a single operation. No condition. -/
set_option linter.unusedVariables false
namespace Go.Proofs.Ytppfilhlblnmcaa.Abs
open Go

/-- A variable whose address is handed on: to be read, or written too. -/
inductive CArg where
  | ro (cs : List Cell)
  | rw (cs : List Cell)
/-- What is handed to a function: data; a variable's address; a function with the variables that it captured. -/
inductive Arg where
  | dat (agg : Bool) (cs : List Cell)
  | ptr (c : CArg)
  | clo (f : FuncId) (cs : List CArg)

def hv0 (_ : Nat) : Value := undef

/-- A value by its cells. -/
def VRep (w : World) (A : Nat → Prop) (g : Bool) (cs : List Cell) (v : Value) (F : List Nat) : Prop := ∃ vs, RepL w A hv0 cs vs F ∧ mkv g vs v
def CRep (w : World) (A : Nat → Prop) : CArg → Value → List Nat → Prop
  | .ro cs, v, F => F = [] ∧ DPRep w A hv0 cs v
  | .rw cs, v, F => ∃ b c e g, v = .pointer (some ⟨b, 0, none⟩) ∧ w.heap[b]? = some (.cells c e (0, 0)) ∧ RepL w A hv0 cs c.toList g ∧ F = b :: g
def CsRep (w : World) (A : Nat → Prop) : List CArg → List Value → List Nat → Prop
  | [], vs, F => vs = [] ∧ F = []
  | c :: r, vs, F => ∃ v us F1 F2, vs = v :: us ∧ F = F1 ++ F2 ∧ CRep w A c v F1 ∧ CsRep w A r us F2
def ARep (w : World) (A : Nat → Prop) : Arg → Value → List Nat → Prop
  | .dat g cs, v, F => F = [] ∧ cpyL cs = true ∧ VRep w A g cs v []
  | .ptr c, v, F => CRep w A c v F
  | .clo f cs, v, F => ∃ us, v = .func (.func f) #[] us.toArray ∧ CsRep w A cs us F
def AsRep (w : World) (A : Nat → Prop) : List Arg → List Value → List Nat → Prop
  | [], vs, F => vs = [] ∧ F = []
  | x :: r, vs, F => ∃ v us F1 F2, vs = v :: us ∧ F = F1 ++ F2 ∧ ARep w A x v F1 ∧ AsRep w A r us F2
def RsRep (w : World) (A : Nat → Prop) : List (Bool × List Cell) → List Value → List Nat → Prop
  | [], vs, F => vs = [] ∧ F = []
  | (g, cs) :: r, vs, F => ∃ v us F1 F2, vs = v :: us ∧ F = F1 ++ F2 ∧ VRep w A g cs v F1 ∧ RsRep w A r us F2
def resVal : List Value → Value
  | [v] => v
  | vs => .tuple vs.toArray

def After (A : Nat → Prop) (n : Nat) (F : List Nat) (b : Nat) : Prop := (A b ∨ n ≤ b) ∧ b ∉ F

/-- What a call has done, when it is back. -/
def Back (w : World) (A : Nat → Prop) (vs : List Value) (F : List Nat) (res : List (Bool × List Cell)) (outs : List Arg) (v : Value) (w' : World) : Prop :=
  ∃ us Fr Fo, v = resVal us ∧ RsRep w' (After A w.heap.size (Fr ++ Fo)) res us Fr ∧ AsRep w' (After A w.heap.size (Fr ++ Fo)) outs vs Fo ∧ (Fr ++ Fo).Nodup ∧ (∀ b ∈ Fr ++ Fo, b ∈ F ∨ w.heap.size ≤ b) ∧ Ext (· ∈ F) w w'

/-- Function f has a body, and is none that the model stands in for. -/
def Enters (P : Program) (f : FuncId) : Prop := ∃ fn, P.funcs[f]? = some fn ∧ (fn.name == "runtime.NumGoroutine") = false ∧ fn.body.isSome = true
/-- A call of function f with these comes back with those, and leaves what it was handed so. -/
def ACalls (P : Program) (f : FuncId) (args : List Arg) (res : List (Bool × List Cell)) (outs : List Arg) : Prop :=
  Enters P f ∧ ∀ w A vs F, AsRep w A args vs F → F.Nodup → (∀ b ∈ F, ¬ A b) → (∀ b, A b → b < w.heap.size) → Calls P f vs.toArray w fun e w' => ∃ v, e = .returned v ∧ Back w A vs F res outs v w'

mutual
theorem hv0_noMut {w : World} {A : Nat → Prop} : ∀ (c : Cell) (v : Value) (F : List Nat), Rep w A hv0 c v F → noMut c = true
  | .hole, _, _, _ => rfl
  | .sc _, _, _, _ => rfl
  | .sl k s cs, v, F, h => by
    obtain ⟨base, len, cap, rfl, _, hl, hle, hm, hb⟩ := h
    have hk : mutFree k = true := by
      cases k with
      | none => rfl
      | some m => cases m with
        | zero => rfl
        | succ m => have := hm m rfl; simp [hv0, undef] at this
    simp only [noMut, hk, Bool.true_and]
    cases base with
    | none =>
      have : cs = [] := by
        obtain ⟨hc0, _⟩ := hb
        refine List.eq_nil_of_length_eq_zero ?_
        rw [← hl]
        have : len = 0 := by omega
        rw [this, Nat.zero_mul]
      rw [this]
      rfl
    | some ad =>
      obtain ⟨_, us, g, hRL, _⟩ := hb
      exact hv0_noMutL cs us g hRL
theorem hv0_noMutL {w : World} {A : Nat → Prop} : ∀ (cs : List Cell) (vs : List Value) (F : List Nat), RepL w A hv0 cs vs F → noMutL cs = true
  | [], _, _, _ => rfl
  | c :: cs, vs, F, h => by
    obtain ⟨v, us, F1, F2, _, _, h1, h2⟩ := h
    simp only [noMutL, hv0_noMut c v F1 h1, hv0_noMutL cs us F2 h2, Bool.and_self]
end
theorem hv0_any {w : World} {A : Nat → Prop} {hv : Nat → Value} (cs : List Cell) (vs : List Value) (F : List Nat) (h : RepL w A hv0 cs vs F) : RepL w A hv cs vs F := RepL.hv cs vs F h (hv0_noMutL cs vs F h)

def evS (P : Program) (X : St) (t : TypeId) (ad v : Operand) (slot : Nat) : Option St :=
  match vsz P t, look X ad with
  | some (_, n), some (.pl id q j) => if (lk X.sg slot).isNone ∧ id ≠ slot then
      match gath (X.set slot (.vir [])) slot [(v, some n)] with
      | some X1 => match lk X1.sg slot, lk X1.sg id with
        | some (.vir cs), some ob => match row q ob.cells with
          | some rs => if j + n ≤ rs.length ∧ cs.length = n then some { env := kill id q X1.env, sg := del (ins X1.sg id (ob.with (setRow q ob.cells (over rs j cs)))) slot } else none
          | none => none
        | _, _ => none
      | none => none
    else none
  | _, _ => none

/-- One operation that calls no function. -/
def act1 (P : Program) (nt : Nat) (fx : List Nat) (X : St) (o : Oper) (slot : Nat) : Option St :=
  match o.op with
  | .store t ad v => if o.dst.isNone then evS P X t ad v slot else none
  | _ => match o.dst with
    | none => none
    | some d => if d < nt ∧ d ∉ fx then match evV P X o with
        | some t => some { X with env := ins X.env d t }
        | none => match evN P X o slot with
          | some (X', t) => some { X' with env := ins X'.env d t }
          | none => none
      else none

section
variable {C : Cx} {X X' : St} {a : Act} {w : World} {L : Nat → Loc} {G : Nat → List Nat} {o : Oper} {t : T}

/-- Some frame and memory are in state X. -/
def In (C : Cx) (X : St) (a : Act) (w : World) : Prop := ∃ L G, Sim C X a w L G

theorem Sim.yS (h : Sim C X a w L G) {slot : Nat} {ty : TypeId} {ad v : Operand} (ho : o.op = .store ty ad v) (hd : o.dst = none) (hx : evS C.P X ty ad v slot = some X') (K : Act → World → Prop) (Q : Exit → Act → World → Prop) (hK : ∀ w', In C X' a w' → K a w') : o.wp C.P a w K Q := by
  unfold evS at hx
  split at hx
  · rename_i g n id q j hv hl
    split at hx
    · rename_i hc
      have hn : lk X.sg slot = none := Option.isNone_iff_eq_none.1 hc.1
      split at hx
      · rename_i X1 hg
        split at hx
        · rename_i cs ob hs hob
          split at hx
          · rename_i rs hr
            split at hx
            · rename_i hle
              cases hx
              obtain ⟨L1, G1, cs', k1, k2, k3, k4, k5, k6⟩ := h.gath0 hn hg
              have hl1 : Abs.look X1 ad = some (.pl id q j) := by
                rw [← hl]
                cases ad <;> simp only [Abs.look, k5]
              obtain ⟨hp, _⟩ := k1.look hl1
              obtain ⟨b, off, s1, s2⟩ := hp ob hob rs hr
              rw [List.map_cons, List.map_nil, List.flatten_cons, List.flatten_nil, List.append_nil] at k3
              obtain ⟨w', G', r1, r2⟩ := k1.storeAt hob hr hle.1 hs k3 hle.2 hc.2 k4 s1
              have hvn : (a.eval v).cells.size = n := k6 (v, some n) (by simp) n rfl
              have hsz : (sizeOf ty).run C.P w = .ok n w := by
                cases g with
                | true => obtain ⟨_, i, _, h2, rfl⟩ := vsz_true hv; exact run_sizeOf' h2 w
                | false => obtain ⟨_, i, _, _, _, rfl, h2, h3⟩ := vsz_false hv; rw [← h3]; exact run_sizeOf' h2 w
              have hrun : (execOp a.eval o).run C.P w = .ok .skip w' := by
                unfold execOp
                rw [ho]
                simp only [Instr.storeAt, s2, Instr.sureAddr, storeVar, Sem.run_bind, Sem.run_pure, Result.andThen_ok, hsz, hvn, ne_eq, not_true_eq_false, if_false, r1]
              unfold Oper.wp
              rw [hrun]
              show K (a.put o.dst undef) w'
              rw [hd]
              exact hK w' ⟨_, _, r2⟩
            · cases hx
          · cases hx
        · cases hx
      · cases hx
    · cases hx
  · cases hx

/-- A single operation. -/
theorem In.step (h : In C X a w) {slot : Nat} (hx : act1 C.P C.nt C.fx X o slot = some X') (K : Act → World → Prop) (Q : Exit → Act → World → Prop) (hK : ∀ a' w', In C X' a' w' → K a' w') : o.wp C.P a w K Q := by
  obtain ⟨L, G, h⟩ := h
  unfold act1 at hx
  split at hx
  · rename_i ty ad v ho
    split at hx
    · rename_i hd
      exact h.yS ho (Option.isNone_iff_eq_none.1 hd) hx K Q (fun w' hw => hK a w' hw)
    · cases hx
  · split at hx
    · cases hx
    · rename_i d hd
      split at hx
      · rename_i hc
        split at hx
        · rename_i t ht
          cases hx
          obtain ⟨v, h1, h2, h3⟩ := h.yV ht
          unfold Oper.wp
          rw [h1]
          show K (a.put o.dst v) w
          rw [hd]
          exact hK _ _ ⟨L, G, h.put hc.1 hc.2 h2 h3⟩
        · split at hx
          · rename_i X1 t ht
            cases hx
            obtain ⟨v, w', L', G', h1, h2, h3, h4⟩ := h.yN ht
            unfold Oper.wp
            rw [h1]
            show K (a.put o.dst v) w'
            rw [hd]
            exact hK _ _ ⟨L', G', h2.put hc.1 hc.2 h3 h4⟩
          · cases hx
      · cases hx

end
end Go.Proofs.Ytppfilhlblnmcaa.Abs
/- An abstract machine for the walks, part 17: several objects turn at once; what is handed to a call. No condition. -/
set_option linter.unusedVariables false
namespace Go.Proofs.Ytppfilhlblnmcaa.Abs
open Go

section
variable {C : Cx} {X X' : St} {a : Act} {w w' : World} {L L' : Nat → Loc} {G G' : Nat → List Nat} {o : Oper} {t : T}

/-- Objects turn, or come. -/
theorem Sim.multi (h : Sim C X a w L G) (S : Nat → Prop) {sg' : List (Nat × Ob)} {env' : List (Nat × T)} (hx : Ext (fun b => ∃ i, S i ∧ b ∈ G i) w w')
    (hsame : ∀ i, ¬ S i → lk sg' i = lk X.sg i ∧ L' i = L i ∧ G' i = G i)
    (hob : ∀ i, S i → ∀ o, lk sg' i = some o → ObRep w' (C.A G') C.hv (L' i) o (G' i))
    (hno : ∀ i, S i → lk sg' i = none → G' i = [])
    (hnd : ∀ i, S i → (G' i).Nodup)
    (hdj : ∀ i j b, S i → S j → b ∈ G' i → b ∈ G' j → i = j)
    (hsub : ∀ i b, S i → b ∈ G' i → (∃ k, S k ∧ b ∈ G k) ∨ w.heap.size ≤ b)
    (hen : ∀ t x, lk env' t = some x → lk X.env t = some x ∧ ∀ i ∈ refs x, S i → lk sg' i ≠ none ∧ L' i = L i ∧ (∃ y, lk X.sg i = some (.mem y)) ∧ ((∃ j, x = .pl i none j) ∨ (∃ f cs, x = .clo f cs))) :
    Sim C { env := env', sg := sg' } a w' L' G' := by
  have hlt : ∀ b j, b ∈ G j → b < w.heap.size := by
    intro b j hb
    cases hj : lk X.sg j with
    | none => rw [h.no j hj] at hb; cases hb
    | some o => exact (h.ob j o hj).lt b hb
  have hA : ∀ b, b < w.heap.size → C.A G b → C.A G' b := by
    intro b hb hA
    refine ⟨hA.1, fun j hj => ?_⟩
    by_cases e : S j
    · rcases hsub j b e hj with ⟨k, _, hk⟩ | h1
      · exact hA.2 k hk
      · omega
    · rw [(hsame j e).2.2] at hj
      exact hA.2 j hj
  have hAw : ∀ b, b < w.heap.size → C.A G b → w'.heap[b]? = w.heap[b]? := fun b hb hA => hx.block b hb (fun ⟨i, _, hi⟩ => hA.2 i hi)
  have hother : ∀ j, ¬ S j → ∀ b ∈ G j, w'.heap[b]? = w.heap[b]? := fun j hj b hb => hx.block b (hlt b j hb) (fun ⟨i, hi, hbi⟩ => hj (h.dj j i b hb hbi ▸ hi))
  refine { ob := ?_, no := ?_, nd := ?_, dj := ?_, own := ?_, en := ?_, rf := ?_, fr := ?_, df := h.df, fx := h.fx, nt := h.nt }
  · intro j o hj
    by_cases e : S j
    · exact hob j e o hj
    · obtain ⟨h1, h2, h3⟩ := hsame j e
      have hj' : lk sg' j = some o := hj
      rw [h1] at hj'
      rw [h2, h3]
      exact (h.ob j o hj').frame (fun b hb hc => hc.elim (hAw b hb) (hother j e b)) hA
  · intro j hj
    by_cases e : S j
    · exact hno j e hj
    · obtain ⟨h1, h2, h3⟩ := hsame j e
      have hj' : lk sg' j = none := hj
      rw [h1] at hj'
      rw [h3]
      exact h.no j hj'
  · intro j
    by_cases e : S j
    · exact hnd j e
    · rw [(hsame j e).2.2]; exact h.nd j
  · intro j k b hj hk
    by_cases e : S j
    · by_cases e2 : S k
      · exact hdj j k b e e2 hj hk
      · rw [(hsame k e2).2.2] at hk
        rcases hsub j b e hj with ⟨m, hm, hbm⟩ | h1
        · exact absurd (h.dj m k b hbm hk ▸ hm) e2
        · have := hlt b k hk; omega
    · rw [(hsame j e).2.2] at hj
      by_cases e2 : S k
      · rcases hsub k b e2 hk with ⟨m, hm, hbm⟩ | h1
        · exact absurd (h.dj m j b hbm hj ▸ hm) e
        · have := hlt b j hj; omega
      · rw [(hsame k e2).2.2] at hk
        exact h.dj j k b hj hk
  · intro j b hj
    by_cases e : S j
    · rcases hsub j b e hj with ⟨k, _, hk⟩ | h1
      · exact h.own k b hk
      · exact .inr (Nat.le_trans h.fr.size h1)
    · rw [(hsame j e).2.2] at hj
      exact h.own j b hj
  · intro t x hx1
    obtain ⟨k1, k2⟩ := hen t x hx1
    refine RepT.frame (fun b hb hc => ⟨hA b hb hc, hAw b hb hc⟩) h.ob x _ (h.en t x k1) (fun j hj o hoj => ?_)
    by_cases e : S j
    · obtain ⟨h1, h2, ⟨y, h3⟩, h4⟩ := k2 j hj e
      refine ⟨_, h3, h2, fun cs' _ => ⟨y, rfl⟩, ?_⟩
      rcases h4 with h4 | h4
      · exact .inl h4
      · exact .inr (.inl h4)
    · obtain ⟨h1, h2, h3⟩ := hsame j e
      have hoj' : lk sg' j = some o := hoj
      rw [h1] at hoj'
      exact ⟨o, hoj', h2, fun cs e => ⟨cs, e⟩, .inr (.inr ⟨.refl o, hother j e⟩)⟩
  · intro t x hx1 j hj
    obtain ⟨k1, k2⟩ := hen t x hx1
    by_cases e : S j
    · exact (k2 j hj e).1
    · show lk sg' j ≠ none
      rw [(hsame j e).1]
      exact h.rf t x k1 j hj
  · exact h.fr.trans hx (fun b hb ⟨i, _, hbi⟩ => (h.own i b hbi).elim id (fun h1 => by omega))

end

/-- Which of its parameters a function writes to (by their addresses), and which of a closure's captured variables. -/
structure An where
  wr : FuncId → List Nat
  wc : FuncId → List Nat

def prepC (wc : List Nat) (X : St) : Nat → List Cap → Option (List CArg × List Nat × List Nat)
  | _, [] => some ([], [], [])
  | k, .ob i :: r => match lk X.sg i, prepC wc X (k + 1) r with
    | some (.mem cs), some (as, l, m) => if k ∈ wc then (if noMutL cs then some (.rw cs :: as, l, i :: m) else none) else some (.ro (shrL cs) :: as, i :: l, m)
    | _, _ => none
  | k, .ro cs :: r => match prepC wc X (k + 1) r with
    | some (as, l, m) => some (.ro cs :: as, l, m)
    | none => none
def prep1 (an : An) (w : Bool) (X : St) (x : Operand) : Option (Arg × List Nat × List Nat) :=
  match look X x with
  | some (.dat g cs) => some (.dat g cs, [], [])
  | some (.bor id q j n g) => match cont X id q j n with
    | some cs => some (.dat g (shrL cs), [id], [])
    | none => none
  | some (.dp cs) => some (.ptr (.ro cs), [], [])
  | some (.pl id none 0) => match lk X.sg id with
    | some (.mem cs) => if w then (if noMutL cs then some (.ptr (.rw cs), [], [id]) else none) else some (.ptr (.ro (shrL cs)), [id], [])
    | _ => none
  | some (.clo f cs) => match prepC (an.wc f) X 0 cs with
    | some (as, l, m) => some (.clo f as, l, m)
    | none => none
  | _ => none
def prepAs (an : An) (wr : List Nat) (X : St) : Nat → List Operand → Option (List Arg × List Nat × List Nat)
  | _, [] => some ([], [], [])
  | k, x :: r => match prep1 an (wr.contains k) X x, prepAs an wr X (k + 1) r with
    | some (a, l, m), some (as, l', m') => some (a :: as, l ++ l', m ++ m')
    | _, _ => none
/-- What a call takes: the function, what it is handed, whose memory is lent, which objects are handed over. -/
def prep (an : An) (X : St) (f : Operand) (xs : List Operand) : Option (FuncId × List Arg × List Nat × List Nat) :=
  match look X f with
  | some (.clo f cs) => match prepAs an (an.wr f) X 0 xs, prepC (an.wc f) X 0 cs with
    | some (as, l, m), some (bs, l', m') => some (f, as ++ bs.map .ptr, l ++ l', m ++ m')
    | _, _ => none
  | _ => none

def ptrOf : Value → Nat
  | .pointer (some a) => a.block
  | _ => 0
def blkOf : Loc → Nat
  | .blk b => b
  | .vals _ => 0
/-- The blocks of the variables that are handed over. -/
def blksC : List CArg → List Value → List Nat
  | .rw _ :: r, v :: vs => ptrOf v :: blksC r vs
  | .ro _ :: r, _ :: vs => blksC r vs
  | _, _ => []
def blksA : List Arg → List Value → List Nat
  | .ptr c :: r, v :: vs => blksC [c] [v] ++ blksA r vs
  | .clo _ cs :: r, .func _ _ us :: vs => blksC cs us.toList ++ blksA r vs
  | .dat _ _ :: r, _ :: vs => blksA r vs
  | _, _ => []

section
variable {C : Cx} {X X' : St} {a : Act} {w w' : World} {L L' : Nat → Loc} {G G' : Nat → List Nat} {o : Oper} {t : T}

/-- What may be read by whom all these are lent to. -/
def Lent (C : Cx) (w : World) (G : Nat → List Nat) (l : List Nat) (b : Nat) : Prop := b < w.heap.size ∧ (C.A G b ∨ ∃ i ∈ l, b ∈ G i)

theorem DPRep.hv {w : World} {A : Nat → Prop} {hv hv' : Nat → Value} {cs : List Cell} {v : Value} (h : DPRep w A hv cs v) : DPRep w A hv' cs v := by
  obtain ⟨ad, vs, h1, h2, h3, h4, h5, h6⟩ := h
  exact ⟨ad, vs, h1, h2, h3, RepL.hv _ _ _ h4 (noMut_cpyL _ h3), h5, h6⟩
theorem DPRep.mono {w : World} {A A' : Nat → Prop} {hv : Nat → Value} {cs : List Cell} {v : Value} (h : DPRep w A hv cs v) (hA : ∀ b, b < w.heap.size → A b → A' b) : DPRep w A' hv cs v := h.frame (fun b hb hb2 => ⟨hA b hb hb2, rfl⟩)

/-- A variable's address, to be read. -/
theorem Sim.dpOf (h : Sim C X a w L G) {i b : Nat} {cs : List Cell} (hi : lk X.sg i = some (.mem cs)) (hL : L i = .blk b) {A : Nat → Prop} (hA : ∀ k, k < w.heap.size → C.A G k → A k) (hG : ∀ k ∈ G i, A k) : DPRep w A hv0 (shrL cs) (.pointer (some ⟨b, 0, none⟩)) := by
  have h0 := h.ob i _ hi
  rw [hL] at h0
  obtain ⟨c, e, g, h1, h2, h3⟩ := h0
  have hR : RepL w (fun k => A k ∨ C.A G k) C.hv (shrL cs) c.toList [] := RepL.shr _ _ _ h2 (fun k hk => .inr hk) (fun k hk => .inl (hG k (by rw [h3]; exact List.mem_cons_of_mem _ hk)))
  have hR2 : RepL w A C.hv (shrL cs) c.toList [] := RepL.frame _ _ _ hR (fun _ _ _ => rfl) (fun k hk hk2 => hk2.elim id (hA k hk))
  refine ⟨⟨b, 0, none⟩, c.toList, rfl, rfl, cpy_shrL cs, RepL.hv _ _ _ hR2 (noMut_cpyL _ (cpy_shrL cs)), fun j u hj => ?_, fun _ => hG b (by rw [h3]; exact List.mem_cons_self)⟩
  simp only [World.cell?, h1, Nat.zero_add]
  simpa using hj

theorem Sim.prepC (h : Sim C X a w L G) (wc : List Nat) : ∀ (k : Nat) (cs : List Cap) (us : List Value) (as : List CArg) (l m : List Nat), caps w (C.A G) C.hv L X.sg cs us → prepC wc X k cs = some (as, l, m) →
    ∀ A : Nat → Prop, (∀ b, b < w.heap.size → C.A G b → A b) → (∀ i ∈ l, ∀ b ∈ G i, A b) → CsRep w A as us ((m.map G).flatten) ∧ blksC as us = m.map (fun i => blkOf (L i)) ∧ ∀ i ∈ m, ∃ cs, lk X.sg i = some (.mem cs)
  | k, [], us, as, l, m, hc, hp, A, hA, hl => by
    cases hp
    exact ⟨⟨hc, rfl⟩, rfl, fun i hi => nomatch hi⟩
  | k, .ob i :: r, us, as, l, m, hc, hp, A, hA, hl => by
    unfold Abs.prepC at hp
    split at hp
    · rename_i cs as' l' m' hi hr
      obtain ⟨b, us', rfl, hb, hcr⟩ := hc
      have hLi := hb cs hi
      split at hp
      · split at hp
        · rename_i hnm
          cases hp
          obtain ⟨k1, kb, k2⟩ := Sim.prepC h wc (k + 1) r us' as' _ m' hcr hr A hA hl
          have h0 := h.ob i _ hi
          rw [hLi] at h0
          obtain ⟨c, e, g, h1, h2, h3⟩ := h0
          refine ⟨⟨_, us', G i, _, rfl, by simp, ⟨b, c, e, g, rfl, h1, RepL.hv _ _ _ (RepL.frame _ _ _ h2 (fun _ _ _ => rfl) hA) hnm, h3⟩, k1⟩, by simp only [blksC, List.map_cons, kb, hLi, blkOf, ptrOf], fun j hj => ?_⟩
          rcases List.mem_cons.1 hj with rfl | hj
          · exact ⟨cs, hi⟩
          · exact k2 j hj
        · cases hp
      · cases hp
        obtain ⟨k1, kb, k2⟩ := Sim.prepC h wc (k + 1) r us' as' l' _ hcr hr A hA (fun j hj => hl j (List.mem_cons_of_mem _ hj))
        exact ⟨⟨_, us', [], _, rfl, by simp, ⟨rfl, h.dpOf hi hLi hA (hl i List.mem_cons_self)⟩, k1⟩, kb, k2⟩
    · cases hp
  | k, .ro cs :: r, us, as, l, m, hc, hp, A, hA, hl => by
    unfold Abs.prepC at hp
    split at hp
    · rename_i as' l' m' hr
      cases hp
      obtain ⟨v, us', rfl, hv, hcr⟩ := hc
      obtain ⟨k1, kb, k2⟩ := Sim.prepC h wc (k + 1) r us' as' _ _ hcr hr A hA hl
      exact ⟨⟨v, us', [], _, rfl, by simp, ⟨rfl, (hv.mono hA).hv⟩, k1⟩, kb, k2⟩
    · cases hp

theorem Sim.prep1 (h : Sim C X a w L G) {an : An} {wr : Bool} {x : Operand} {ar : Arg} {l m : List Nat} (hp : prep1 an wr X x = some (ar, l, m)) (A : Nat → Prop) (hA : ∀ b, b < w.heap.size → C.A G b → A b) (hl : ∀ i ∈ l, ∀ b ∈ G i, A b) :
    ARep w A ar (a.eval x) ((m.map G).flatten) ∧ (∀ r vs, blksA (ar :: r) (a.eval x :: vs) = m.map (fun i => blkOf (L i)) ++ blksA r vs) ∧ ∀ i ∈ m, ∃ cs, lk X.sg i = some (.mem cs) := by
  unfold Abs.prep1 at hp
  split at hp
  · rename_i g cs hlk
    cases hp
    obtain ⟨⟨hcp, vs, hR, hm⟩, _⟩ := h.look hlk
    exact ⟨⟨rfl, hcp, vs, RepL.hv _ _ _ (RepL.frame _ _ _ hR (fun _ _ _ => rfl) hA) (noMut_cpyL _ hcp), hm⟩, fun _ _ => rfl, fun i hi => nomatch hi⟩
  · rename_i id q j n g hlk
    split at hp
    · rename_i cs hc
      cases hp
      obtain ⟨hb, _⟩ := h.look hlk
      obtain ⟨vs, F1, F2, F3, hR, hG, hm, _⟩ := h.bor hc hb
      have hR1 : RepL w (fun k => A k ∨ C.A G k) C.hv (shrL cs) vs [] := RepL.shr _ _ _ hR (fun k hk => .inr hk) (fun k hk => .inl (hl id List.mem_cons_self k (by rw [hG]; simp [hk])))
      have hR2 : RepL w A C.hv (shrL cs) vs [] := RepL.frame _ _ _ hR1 (fun _ _ _ => rfl) (fun k hk hk2 => hk2.elim (fun h => h) (hA k hk))
      exact ⟨⟨rfl, cpy_shrL cs, vs, RepL.hv _ _ _ hR2 (noMut_cpyL _ (cpy_shrL cs)), hm⟩, fun _ _ => rfl, fun i hi => nomatch hi⟩
    · cases hp
  · rename_i cs hlk
    cases hp
    obtain ⟨hd, _⟩ := h.look hlk
    exact ⟨⟨rfl, (DPRep.mono hd hA).hv⟩, fun _ _ => rfl, fun i hi => nomatch hi⟩
  · rename_i id hlk
    split at hp
    · rename_i cs hid
      obtain ⟨hpl, _⟩ := h.look hlk
      obtain ⟨b, n, s1, s2⟩ := hpl _ hid cs rfl
      have h0 := h.ob id _ hid
      cases hL : L id with
      | vals vs => rw [hL] at h0; exact h0.elim
      | blk b' =>
        have : Src.mem b n = Src.mem b' 0 := by rw [show Src.mem b n = (L id).src from s1, hL]; rfl
        cases this
        simp only [Nat.zero_add] at s2
        split at hp
        · split at hp
          · rename_i hnm
            cases hp
            rw [hL] at h0
            obtain ⟨c, e, g, h1, h2, h3⟩ := h0
            refine ⟨⟨b, c, e, g, s2, h1, RepL.hv _ _ _ (RepL.frame _ _ _ h2 (fun _ _ _ => rfl) hA) hnm, by simpa using h3⟩, fun _ _ => by simp only [blksA, blksC, s2, ptrOf, List.map_cons, List.map_nil, hL, blkOf], fun i hi => ?_⟩
            rcases List.mem_cons.1 hi with rfl | hi
            · exact ⟨cs, hid⟩
            · cases hi
          · cases hp
        · cases hp
          rw [s2]
          exact ⟨⟨rfl, h.dpOf hid hL hA (hl id List.mem_cons_self)⟩, fun _ _ => rfl, fun i hi => nomatch hi⟩
    · cases hp
  · rename_i f cs hlk
    split at hp
    · rename_i as l' m' hc
      cases hp
      obtain ⟨⟨us, he, hcc⟩, _⟩ := h.look hlk
      obtain ⟨k1, kb, k2⟩ := h.prepC _ 0 cs us as l m hcc hc A hA hl
      exact ⟨⟨us, he, k1⟩, fun _ _ => by simp only [blksA, he, kb], k2⟩
    · cases hp
  · cases hp

theorem AsRep.append {w : World} {A : Nat → Prop} : ∀ {xs ys : List Arg} {vs us : List Value} {F F' : List Nat}, AsRep w A xs vs F → AsRep w A ys us F' → AsRep w A (xs ++ ys) (vs ++ us) (F ++ F')
  | [], ys, vs, us, F, F', h, k => by rw [h.1, h.2]; exact k
  | x :: xs, ys, vs, us, F, F', h, k => by
    obtain ⟨v, vs', F1, F2, rfl, rfl, h1, h2⟩ := h
    exact ⟨v, vs' ++ us, F1, F2 ++ F', rfl, by simp, h1, AsRep.append h2 k⟩

theorem CsRep.args {w : World} {A : Nat → Prop} : ∀ {cs : List CArg} {us : List Value} {F : List Nat}, CsRep w A cs us F → AsRep w A (cs.map .ptr) us F
  | [], us, F, h => h
  | c :: r, us, F, h => by
    obtain ⟨v, vs', F1, F2, rfl, rfl, h1, h2⟩ := h
    exact ⟨v, vs', F1, F2, rfl, rfl, h1, CsRep.args h2⟩

theorem Sim.prepAs (h : Sim C X a w L G) (an : An) (wr : List Nat) : ∀ (k : Nat) (xs : List Operand) (as : List Arg) (l m : List Nat), prepAs an wr X k xs = some (as, l, m) →
    ∀ A : Nat → Prop, (∀ b, b < w.heap.size → C.A G b → A b) → (∀ i ∈ l, ∀ b ∈ G i, A b) → AsRep w A as (xs.map a.eval) ((m.map G).flatten) ∧ (∀ r vs, blksA (as ++ r) (xs.map a.eval ++ vs) = m.map (fun i => blkOf (L i)) ++ blksA r vs) ∧ ∀ i ∈ m, ∃ cs, lk X.sg i = some (.mem cs)
  | k, [], as, l, m, hp, A, hA, hl => by
    cases hp
    exact ⟨⟨rfl, rfl⟩, fun _ _ => rfl, fun i hi => nomatch hi⟩
  | k, x :: r, as, l, m, hp, A, hA, hl => by
    unfold Abs.prepAs at hp
    split at hp
    · rename_i ar l1 m1 as' l2 m2 h1 h2
      cases hp
      obtain ⟨k1, kb, k2⟩ := h.prep1 h1 A hA (fun i hi => hl i (List.mem_append.2 (.inl hi)))
      obtain ⟨q1, qb, q2⟩ := Sim.prepAs h an wr (k + 1) r as' l2 m2 h2 A hA (fun i hi => hl i (List.mem_append.2 (.inr hi)))
      refine ⟨⟨_, _, _, _, rfl, by simp, k1, q1⟩, fun r' vs => by rw [List.cons_append, List.map_cons, List.cons_append, kb, qb, List.map_append, List.append_assoc], fun i hi => ?_⟩
      rcases List.mem_append.1 hi with hi | hi
      · exact k2 i hi
      · exact q2 i hi
    · cases hp

/-- What is handed to a call, in memory. -/
theorem Sim.prep (h : Sim C X a w L G) {an : An} {f : Operand} {xs : List Operand} {fid : FuncId} {args : List Arg} {l m : List Nat} (hp : prep an X f xs = some (fid, args, l, m)) :
    ∃ us, a.eval f = .func (.func fid) #[] us.toArray ∧ AsRep w (Lent C w G l) args (xs.map a.eval ++ us) ((m.map G).flatten) ∧ blksA args (xs.map a.eval ++ us) = m.map (fun i => blkOf (L i)) ∧ ∀ i ∈ m, ∃ cs, lk X.sg i = some (.mem cs) := by
  unfold Abs.prep at hp
  split at hp
  · rename_i f' cs hf
    split at hp
    · rename_i as l1 m1 bs l2 m2 h1 h2
      cases hp
      obtain ⟨⟨us, he, hcc⟩, _⟩ := h.look hf
      have hA : ∀ b, b < w.heap.size → C.A G b → Lent C w G (l1 ++ l2) b := fun b hb hA => ⟨hb, .inl hA⟩
      have hlt : ∀ i, ∀ b ∈ G i, b < w.heap.size := by
        intro i b hb
        cases hi : lk X.sg i with
        | none => rw [h.no i hi] at hb; cases hb
        | some o => exact (h.ob i o hi).lt b hb
      obtain ⟨k1, kb, k2⟩ := h.prepAs an _ 0 xs as l1 m1 h1 (Lent C w G (l1 ++ l2)) hA (fun i hi b hb => ⟨hlt i b hb, .inr ⟨i, List.mem_append.2 (.inl hi), hb⟩⟩)
      obtain ⟨q1, qb, q2⟩ := h.prepC _ 0 cs us bs l2 m2 hcc h2 (Lent C w G (l1 ++ l2)) hA (fun i hi b hb => ⟨hlt i b hb, .inr ⟨i, List.mem_append.2 (.inr hi), hb⟩⟩)
      refine ⟨us, he, ?_, ?_, fun i hi => ?_⟩
      · rw [List.map_append, List.flatten_append]
        exact AsRep.append k1 (CsRep.args q1)
      · rw [kb, List.map_append, ← qb]
        congr 1
        have : ∀ (cs : List CArg) (vs : List Value), blksA (cs.map .ptr) vs = blksC cs vs := by
          intro cs
          induction cs with
          | nil => intro vs; cases vs <;> rfl
          | cons c r ih =>
            intro vs
            cases vs with
            | nil => cases c <;> rfl
            | cons v vs => cases c <;> simp [blksA, blksC, ih]
        exact this bs us
      · rcases List.mem_append.1 hi with hi | hi
        · exact k2 i hi
        · exact q2 i hi
    · cases hp
  · cases hp

end
end Go.Proofs.Ytppfilhlblnmcaa.Abs
/- An abstract machine for the walks, part 18: a call. No condition. -/
set_option linter.unusedVariables false
namespace Go.Proofs.Ytppfilhlblnmcaa.Abs
open Go

def rwC : List CArg → List (List Cell)
  | [] => []
  | .rw cs :: r => cs :: rwC r
  | .ro _ :: r => rwC r
def rwA : List Arg → List (List Cell)
  | [] => []
  | .ptr c :: r => rwC [c] ++ rwA r
  | .clo _ cs :: r => rwC cs ++ rwA r
  | .dat _ _ :: r => rwA r
def shC : List CArg → List CArg → Bool
  | [], [] => true
  | .rw _ :: r, .rw _ :: r' => shC r r'
  | .ro _ :: r, .ro _ :: r' => shC r r'
  | _, _ => false
def shA : List Arg → List Arg → Bool
  | [], [] => true
  | .ptr c :: r, .ptr c' :: r' => shC [c] [c'] && shA r r'
  | .clo _ cs :: r, .clo _ cs' :: r' => shC cs cs' && shA r r'
  | .dat _ _ :: r, .dat _ _ :: r' => shA r r'
  | _, _ => false
theorem shC_blks : ∀ {cs cs' : List CArg} {vs : List Value}, shC cs cs' = true → blksC cs' vs = blksC cs vs := by
  intro cs cs' vs h
  fun_induction shC cs cs' generalizing vs with
  | case1 => rfl
  | case2 x r y r' ih => cases vs <;> simp [blksC, ih h]
  | case3 x r y r' ih => cases vs <;> simp [blksC, ih h]
  | case4 => cases h
theorem shA_blks : ∀ {as as' : List Arg} {vs : List Value}, shA as as' = true → blksA as' vs = blksA as vs := by
  intro as as' vs h
  fun_induction shA as as' generalizing vs with
  | case1 => rfl
  | case2 c r c' r' ih =>
    simp only [Bool.and_eq_true] at h
    cases vs with
    | nil => rfl
    | cons v vs => simp only [blksA, shC_blks h.1, ih h.2]
  | case3 f cs r f' cs' r' ih =>
    simp only [Bool.and_eq_true] at h
    cases vs with
    | nil => rfl
    | cons v vs => cases v <;> simp only [blksA, shC_blks h.1, ih h.2]
  | case4 g cs r g' cs' r' ih =>
    cases vs with
    | nil => rfl
    | cons v vs => simp only [blksA, ih h]
  | case5 => cases h

/-- Variables in memory. -/
def Mems (w : World) (A : Nat → Prop) : List (List Cell) → List Nat → List Nat → Prop
  | [], bs, F => bs = [] ∧ F = []
  | cs :: r, bs, F => ∃ b bs' F1 F2, bs = b :: bs' ∧ F = F1 ++ F2 ∧ (∃ c e g, w.heap[b]? = some (.cells c e (0, 0)) ∧ RepL w A hv0 cs c.toList g ∧ F1 = b :: g) ∧ Mems w A r bs' F2
theorem Mems.append {w : World} {A : Nat → Prop} : ∀ {xs ys : List (List Cell)} {bs bs' F F' : List Nat}, Mems w A xs bs F → Mems w A ys bs' F' → Mems w A (xs ++ ys) (bs ++ bs') (F ++ F')
  | [], ys, bs, bs', F, F', h, k => by rw [h.1, h.2]; exact k
  | x :: xs, ys, bs, bs', F, F', h, k => by
    obtain ⟨b, us, F1, F2, rfl, rfl, h1, h2⟩ := h
    exact ⟨b, us ++ bs', F1, F2 ++ F', rfl, by simp, h1, Mems.append h2 k⟩
theorem CsRep.mems {w : World} {A : Nat → Prop} : ∀ {cs : List CArg} {vs : List Value} {F : List Nat}, CsRep w A cs vs F → Mems w A (rwC cs) (blksC cs vs) F
  | [], vs, F, h => ⟨by rw [h.1]; rfl, h.2⟩
  | .rw cs :: r, vs, F, h => by
    obtain ⟨v, us, F1, F2, rfl, rfl, ⟨b, c, e, g, rfl, h1, h2, h3⟩, hr⟩ := h
    exact ⟨b, blksC r us, F1, F2, rfl, rfl, ⟨c, e, g, h1, h2, h3⟩, CsRep.mems hr⟩
  | .ro cs :: r, vs, F, h => by
    obtain ⟨v, us, F1, F2, rfl, rfl, ⟨rfl, _⟩, hr⟩ := h
    exact CsRep.mems (cs := r) (vs := us) (F := F2) hr
theorem AsRep.mems {w : World} {A : Nat → Prop} : ∀ {as : List Arg} {vs : List Value} {F : List Nat}, AsRep w A as vs F → Mems w A (rwA as) (blksA as vs) F
  | [], vs, F, h => ⟨by rw [h.1]; rfl, h.2⟩
  | .ptr c :: r, vs, F, h => by
    obtain ⟨v, us, F1, F2, rfl, rfl, h1, hr⟩ := h
    have := CsRep.mems (cs := [c]) (vs := [v]) (F := F1) ⟨v, [], F1, [], rfl, by simp, h1, rfl, rfl⟩
    exact Mems.append this (AsRep.mems hr)
  | .clo f cs :: r, vs, F, h => by
    obtain ⟨v, us, F1, F2, rfl, rfl, ⟨vs', rfl, h1⟩, hr⟩ := h
    exact Mems.append (CsRep.mems h1) (AsRep.mems hr)
  | .dat g cs :: r, vs, F, h => by
    obtain ⟨v, us, F1, F2, rfl, rfl, ⟨rfl, _⟩, hr⟩ := h
    exact AsRep.mems (as := r) (vs := us) (F := F2) hr

def insAll (sg : List (Nat × Ob)) : List (Nat × Ob) → List (Nat × Ob)
  | [] => sg
  | (i, o) :: r => ins (insAll sg r) i o
theorem lk_insAll (sg : List (Nat × Ob)) : ∀ (os : List (Nat × Ob)) (j : Nat), lk (insAll sg os) j = (lk os j).or (lk sg j)
  | [], j => rfl
  | (i, o) :: r, j => by
    simp only [insAll, lk_ins, lk_insAll sg r j, lk]
    split <;> rfl
def killAll : List Nat → List (Nat × T) → List (Nat × T)
  | [], env => env
  | i :: m, env => kill i none (killAll m env)
theorem lk_killAll : ∀ {m : List Nat} {env : List (Nat × T)} {t : Nat} {x : T}, lk (killAll m env) t = some x → lk env t = some x ∧ ∀ i ∈ m, okT i none x = true
  | [], env, t, x, h => ⟨h, fun i hi => nomatch hi⟩
  | i :: m, env, t, x, h => by
    obtain ⟨h1, h2⟩ := lk_kill h
    obtain ⟨h3, h4⟩ := lk_killAll h1
    refine ⟨h3, fun j hj => ?_⟩
    rcases List.mem_cons.1 hj with rfl | hj
    · exact h2
    · exact h4 j hj
theorem okT_none {i : Nat} {x : T} (h : okT i none x = true) (hi : i ∈ refs x) : (∃ j, x = .pl i none j) ∨ ∃ f cs, x = .clo f cs := by
  cases x with
  | dat g cs => cases hi
  | dp cs => cases hi
  | tup ts =>
    exfalso
    simp only [refs, List.mem_flatten, List.mem_map] at hi
    obtain ⟨_, ⟨t, ht, rfl⟩, hi⟩ := hi
    have := List.all_eq_true.1 h t ht
    simp [hi] at this
  | pl id q j =>
    simp only [refs, refU, List.mem_singleton] at hi
    subst hi
    cases q with
    | none => exact .inl ⟨j, rfl⟩
    | some ci => simp [okT, okU] at h
  | bor id q j n g =>
    simp only [refs, refU, List.mem_singleton] at hi
    subst hi
    simp [okT, okU] at h
  | clo f cs => exact .inr ⟨f, cs, rfl⟩

/-- Objects in memory, one behind the other. -/
def Objs (w : World) (A : Nat → Prop) (hv : Nat → Value) (L : Nat → Loc) : List (Nat × Ob) → List Nat → Prop
  | [], F => F = []
  | (i, o) :: r, F => ∃ F1 F2, F = F1 ++ F2 ∧ ObRep w A hv (L i) o F1 ∧ Objs w A hv L r F2
theorem Objs.append {w : World} {A : Nat → Prop} {hv : Nat → Value} {L : Nat → Loc} : ∀ {xs ys : List (Nat × Ob)} {F F' : List Nat}, Objs w A hv L xs F → Objs w A hv L ys F' → Objs w A hv L (xs ++ ys) (F ++ F')
  | [], ys, F, F', h, k => by rw [show F = [] from h]; exact k
  | (i, o) :: xs, ys, F, F', h, k => by
    obtain ⟨F1, F2, rfl, h1, h2⟩ := h
    exact ⟨F1, F2 ++ F', by simp, h1, Objs.append h2 k⟩
theorem Objs.congr {w : World} {A : Nat → Prop} {hv : Nat → Value} {L L' : Nat → Loc} : ∀ {xs : List (Nat × Ob)} {F : List Nat}, (∀ i o, lk xs i = some o → L' i = L i) → (xs.map Prod.fst).Nodup → Objs w A hv L xs F → Objs w A hv L' xs F
  | [], F, _, _, h => h
  | (i, o) :: xs, F, hL, hn, h => by
    obtain ⟨F1, F2, rfl, h1, h2⟩ := h
    rw [List.map_cons, List.nodup_cons] at hn
    refine ⟨F1, F2, rfl, by rw [hL i o (by simp [lk])]; exact h1, Objs.congr (fun j o' hj => hL j o' ?_) hn.2 h2⟩
    simp only [lk]
    split
    · rename_i e
      subst e
      exfalso
      apply hn.1
      have : ∀ (l : List (Nat × Ob)) (j : Nat) (o : Ob), lk l j = some o → j ∈ l.map Prod.fst := by
        intro l
        induction l with
        | nil => intro j o h; cases h
        | cons p r ih =>
          intro j o h
          obtain ⟨a, b⟩ := p
          simp only [lk] at h
          split at h
          · rename_i e; subst e; simp
          · exact List.mem_cons_of_mem _ (ih j o h)
      exact this xs _ o' hj
    · exact hj
theorem lk_mem : ∀ {l : List (Nat × Ob)} {j : Nat} {o : Ob}, lk l j = some o → j ∈ l.map Prod.fst
  | [], j, o, h => by cases h
  | (a, b) :: r, j, o, h => by
    simp only [lk] at h
    split at h
    · rename_i e; subst e; simp
    · exact List.mem_cons_of_mem _ (lk_mem h)
/-- Each object's own blocks. -/
theorem Objs.own {w : World} {A : Nat → Prop} {hv : Nat → Value} {L : Nat → Loc} : ∀ {xs : List (Nat × Ob)} {F : List Nat}, (xs.map Prod.fst).Nodup → F.Nodup → Objs w A hv L xs F →
    ∃ Gs : Nat → List Nat, (∀ i o, lk xs i = some o → ObRep w A hv (L i) o (Gs i)) ∧ (∀ i, lk xs i = none → Gs i = []) ∧ (∀ i, (Gs i).Nodup) ∧ (∀ i j b, b ∈ Gs i → b ∈ Gs j → i = j) ∧ (∀ i b, b ∈ Gs i → b ∈ F)
  | [], F, _, _, h => ⟨fun _ => [], (fun i o h => nomatch h), fun _ _ => rfl, fun _ => List.nodup_nil, (fun i j b hb => nomatch hb), (fun i b hb => nomatch hb)⟩
  | (i, o) :: xs, F, hn, hF, h => by
    obtain ⟨F1, F2, rfl, h1, h2⟩ := h
    rw [List.map_cons, List.nodup_cons] at hn
    obtain ⟨f1, f2, f3⟩ := List.nodup_append.1 hF
    obtain ⟨Gs, k1, k2, k3, k4, k5⟩ := Objs.own hn.2 f2 h2
    refine ⟨upd Gs i F1, fun j o' hj => ?_, fun j hj => ?_, fun j => ?_, fun j k b hj hk => ?_, fun j b hj => ?_⟩
    · simp only [lk] at hj
      split at hj
      · rename_i e; subst e; cases hj; rw [upd_self]; exact h1
      · rename_i e; rw [upd_ne _ _ (Ne.symm e)]; exact k1 j o' hj
    · simp only [lk] at hj
      split at hj
      · cases hj
      · rename_i e; rw [upd_ne _ _ (Ne.symm e)]; exact k2 j hj
    · by_cases e : j = i
      · subst e; rw [upd_self]; exact f1
      · rw [upd_ne _ _ e]; exact k3 j
    · by_cases e : j = i
      · by_cases e2 : k = i
        · rw [e, e2]
        · subst e
          rw [upd_self] at hj
          rw [upd_ne _ _ e2] at hk
          exact absurd rfl (f3 b hj b (k5 k b hk))
      · rw [upd_ne _ _ e] at hj
        by_cases e2 : k = i
        · subst e2
          rw [upd_self] at hk
          exact absurd rfl (f3 b hk b (k5 j b hj))
        · rw [upd_ne _ _ e2] at hk
          exact k4 j k b hj hk
    · by_cases e : j = i
      · subst e; rw [upd_self] at hj; exact List.mem_append.2 (.inl hj)
      · rw [upd_ne _ _ e] at hj; exact List.mem_append.2 (.inr (k5 j b hj))

/-- What a call's results are told by, and the objects that they are. -/
def resT : Nat → List (Bool × List Cell) → List T × List (Nat × Ob)
  | _, [] => ([], [])
  | slot, (g, cs) :: r => if cpyL cs then (.dat g cs :: (resT (slot + 1) r).1, (resT (slot + 1) r).2) else (.bor slot none 0 cs.length g :: (resT (slot + 1) r).1, (slot, .vir cs) :: (resT (slot + 1) r).2)
theorem resT_keys : ∀ (res : List (Bool × List Cell)) (slot : Nat), ((resT slot res).2.map Prod.fst).Nodup ∧ ∀ i ∈ (resT slot res).2.map Prod.fst, slot ≤ i ∧ i < slot + res.length
  | [], slot => ⟨List.nodup_nil, fun i hi => nomatch hi⟩
  | (g, cs) :: r, slot => by
    obtain ⟨k1, k2⟩ := resT_keys r (slot + 1)
    simp only [resT]
    split
    · refine ⟨k1, fun i hi => ?_⟩
      have := k2 i hi
      simp only [List.length_cons]
      omega
    · simp only [List.map_cons]
      refine ⟨List.nodup_cons.2 ⟨fun hi => ?_, k1⟩, fun i hi => ?_⟩
      · have := k2 slot hi; omega
      · simp only [List.length_cons]
        rcases List.mem_cons.1 hi with rfl | hi
        · omega
        · have := k2 i hi; omega
theorem resT_rep {w : World} {A : Nat → Prop} {hv : Nat → Value} (sg : List (Nat × Ob)) : ∀ (res : List (Bool × List Cell)) (us : List Value) (F : List Nat) (slot : Nat) (L : Nat → Loc), RsRep w A res us F → (∀ i o, lk (resT slot res).2 i = some o → lk sg i = some o) →
    ∃ L', (∀ i, i < slot → L' i = L i) ∧ (∀ i, slot + res.length ≤ i → L' i = L i) ∧ (resT slot res).1.length = us.length ∧ ∀ A' : Nat → Prop, (∀ b, b < w.heap.size → A b → A' b) → Objs w A' hv L' (resT slot res).2 F ∧ ∀ (k : Nat) t u, (resT slot res).1[k]? = some t → us[k]? = some u → RepU w A' hv L' sg t u ∧ ∀ i ∈ refU t, lk sg i ≠ none
  | [], us, F, slot, L, h, hsg => ⟨L, fun _ _ => rfl, fun _ _ => rfl, by rw [h.1]; rfl, fun A' _ => ⟨h.2, fun k t u ht => by simp [resT] at ht⟩⟩
  | (g, cs) :: r, us, F, slot, L, h, hsg => by
    obtain ⟨v, us', F1, F2, rfl, rfl, ⟨vs, hR, hm⟩, hr⟩ := h
    obtain ⟨q1, q2⟩ := resT_keys r (slot + 1)
    by_cases hc : cpyL cs = true
    · have he : resT slot ((g, cs) :: r) = (.dat g cs :: (resT (slot + 1) r).1, (resT (slot + 1) r).2) := by simp only [resT, hc, if_true]
      rw [he] at hsg ⊢
      obtain ⟨L', k1, k2, k4, k5⟩ := resT_rep sg r us' F2 (slot + 1) L hr hsg
      have hF1 := RepL.cpy _ _ _ hR hc
      subst hF1
      refine ⟨L', fun i hi => k1 i (by omega), fun i hi => k2 i (by simp only [List.length_cons] at hi; omega), by simp [k4], fun A' hA => ⟨by simpa using (k5 A' hA).1, fun k t u ht hu => ?_⟩⟩
      cases k with
      | zero =>
        simp only [List.getElem?_cons_zero, Option.some.injEq] at ht hu
        subst ht
        subst hu
        exact ⟨⟨hc, vs, hv0_any _ _ _ (RepL.frame _ _ _ hR (fun _ _ _ => rfl) hA), hm⟩, fun i hi => nomatch hi⟩
      | succ k => exact (k5 A' hA).2 k t u (by simpa using ht) (by simpa using hu)
    · have he : resT slot ((g, cs) :: r) = (.bor slot none 0 cs.length g :: (resT (slot + 1) r).1, (slot, .vir cs) :: (resT (slot + 1) r).2) := by simp only [resT, if_neg hc]
      rw [he] at hsg ⊢
      have hslot : lk sg slot = some (.vir cs) := hsg slot _ (by simp [lk])
      obtain ⟨L', k1, k2, k4, k5⟩ := resT_rep sg r us' F2 (slot + 1) (upd L slot (.vals vs)) hr (fun i o hi => by
        refine hsg i o ?_
        simp only [lk]
        rw [if_neg (fun e => by have := q2 i (lk_mem hi); omega)]
        exact hi)
      have hLs : L' slot = .vals vs := by rw [k1 slot (by omega), upd_self]
      refine ⟨L', fun i hi => by rw [k1 i (by omega), upd_ne _ _ (by omega)], fun i hi => by simp only [List.length_cons] at hi; rw [k2 i (by omega), upd_ne _ _ (by omega)], by simp [k4], fun A' hA => ⟨⟨F1, F2, rfl, by rw [hLs]; exact hv0_any _ _ _ (RepL.frame _ _ _ hR (fun _ _ _ => rfl) hA), (k5 A' hA).1⟩, fun k t u ht hu => ?_⟩⟩
      cases k with
      | zero =>
        simp only [List.getElem?_cons_zero, Option.some.injEq] at ht hu
        subst ht
        subst hu
        refine ⟨fun ob ho rs hrs hle => ?_, fun i hi => by simp only [refU, List.mem_singleton] at hi; subst hi; rw [hslot]; simp⟩
        rw [hslot] at ho
        cases ho
        cases hrs
        exact ⟨.vals vs, vs, by rw [hLs]; rfl, RepL.length hR, fun i hi => by rw [Nat.zero_add]; rfl, hm⟩
      | succ k => exact (k5 A' hA).2 k t u (by simpa using ht) (by simpa using hu)

end Go.Proofs.Ytppfilhlblnmcaa.Abs
/- An abstract machine for the walks, part 19: a call, and what stands behind it. No condition. -/
set_option linter.unusedVariables false
namespace Go.Proofs.Ytppfilhlblnmcaa.Abs
open Go

def pureR : List (Bool × List Cell) → Bool
  | [] => true
  | (_, cs) :: r => pureL cs && pureR r
def pureLL : List (List Cell) → Bool
  | [] => true
  | cs :: r => pureL cs && pureLL r
def freshB (sg : List (Nat × Ob)) (slot : Nat) : Nat → Bool
  | 0 => true
  | n + 1 => (lk sg (slot + n)).isNone && freshB sg slot n
theorem freshB_spec {sg : List (Nat × Ob)} {slot : Nat} : ∀ {n : Nat}, freshB sg slot n = true → ∀ k, k < n → lk sg (slot + k) = none
  | 0, _, k, hk => by omega
  | n + 1, h, k, hk => by
    simp only [freshB, Bool.and_eq_true] at h
    by_cases e : k = n
    · subst e; exact Option.isNone_iff_eq_none.1 h.1
    · exact freshB_spec h.2 k (by omega)
def notIn (m : List Nat) : List Nat → Bool
  | [] => true
  | i :: r => !m.contains i && notIn m r
def onceB : List Nat → Bool
  | [] => true
  | i :: r => !r.contains i && onceB r
theorem onceB_spec : ∀ {m : List Nat}, onceB m = true → m.Nodup
  | [], _ => List.nodup_nil
  | i :: r, h => by
    simp only [onceB, Bool.and_eq_true, Bool.not_eq_true', List.contains_eq_mem, decide_eq_false_iff_not] at h
    exact List.nodup_cons.2 ⟨h.1, onceB_spec h.2⟩
theorem notIn_spec {m : List Nat} : ∀ {l : List Nat}, notIn m l = true → ∀ i ∈ l, i ∉ m
  | [], _, i, hi => nomatch hi
  | j :: r, h, i, hi => by
    simp only [notIn, Bool.and_eq_true, Bool.not_eq_true', List.contains_eq_mem, decide_eq_false_iff_not] at h
    rcases List.mem_cons.1 hi with rfl | hi
    · exact h.1
    · exact notIn_spec h.2 i hi

def oneT : List T → T
  | [t] => t
  | ts => .tup ts
/-- The state behind a call. -/
def after (nt : Nat) (fx : List Nat) (X : St) (args outs : List Arg) (l m : List Nat) (res : List (Bool × List Cell)) (slot : Nat) (dst : Option Tmp) : Option St :=
  if onceB m && notIn m l && shA args outs && (l.isEmpty || (pureR res && pureLL (rwA outs))) && freshB X.sg slot res.length then
    match dst with
    | none => some ⟨killAll m X.env, insAll X.sg (m.zip ((rwA outs).map .mem) ++ (resT slot res).2)⟩
    | some d => if d < nt ∧ d ∉ fx then some ⟨ins (killAll m X.env) d (oneT (resT slot res).1), insAll X.sg (m.zip ((rwA outs).map .mem) ++ (resT slot res).2)⟩ else none
  else none

theorem RsRep.turn {w : World} {A A' : Nat → Prop} : ∀ {res : List (Bool × List Cell)} {us : List Value} {F : List Nat}, RsRep w A res us F → ((∀ b, b < w.heap.size → A b → A' b) ∨ pureR res = true) → RsRep w A' res us F
  | [], us, F, h, _ => h
  | (g, cs) :: r, us, F, h, hp => by
    obtain ⟨v, us', F1, F2, rfl, rfl, ⟨vs, hR, hm⟩, hr⟩ := h
    refine ⟨v, us', F1, F2, rfl, rfl, ⟨vs, ?_, hm⟩, RsRep.turn hr (hp.imp id (fun h => by simp only [pureR, Bool.and_eq_true] at h; exact h.2))⟩
    rcases hp with hp | hp
    · exact RepL.frame _ _ _ hR (fun _ _ _ => rfl) hp
    · simp only [pureR, Bool.and_eq_true] at hp
      exact RepL.pure _ _ _ hR hp.1
theorem Mems.turn {w : World} {A A' : Nat → Prop} : ∀ {xs : List (List Cell)} {bs F : List Nat}, Mems w A xs bs F → ((∀ b, b < w.heap.size → A b → A' b) ∨ pureLL xs = true) → Mems w A' xs bs F
  | [], bs, F, h, _ => h
  | cs :: r, bs, F, h, hp => by
    obtain ⟨b, bs', F1, F2, rfl, rfl, ⟨c, e, g, h1, h2, h3⟩, hr⟩ := h
    refine ⟨b, bs', F1, F2, rfl, rfl, ⟨c, e, g, h1, ?_, h3⟩, Mems.turn hr (hp.imp id (fun h => by simp only [pureLL, Bool.and_eq_true] at h; exact h.2))⟩
    rcases hp with hp | hp
    · exact RepL.frame _ _ _ h2 (fun _ _ _ => rfl) hp
    · simp only [pureLL, Bool.and_eq_true] at hp
      exact RepL.pure _ _ _ h2 hp.1
theorem Mems.objs {w : World} {A : Nat → Prop} {hv : Nat → Value} {L : Nat → Loc} : ∀ {m : List Nat} {xs : List (List Cell)} {F : List Nat}, Mems w A xs (m.map fun i => blkOf (L i)) F → (∀ i ∈ m, ∃ b, L i = .blk b) → Objs w A hv L (m.zip (xs.map .mem)) F ∧ xs.length = m.length
  | m, [], F, h, hm => by
    obtain ⟨h1, h2⟩ := h
    have : m = [] := by simpa using h1
    subst this
    exact ⟨h2, rfl⟩
  | [], x :: xs, F, h, hm => by
    obtain ⟨b, bs', F1, F2, h1, _⟩ := h
    cases h1
  | i :: m, x :: xs, F, h, hm => by
    obtain ⟨b, bs', F1, F2, h1, rfl, ⟨c, e, g, k1, k2, k3⟩, hr⟩ := h
    rw [List.map_cons] at h1
    cases h1
    obtain ⟨q1, q2⟩ := Mems.objs (hv := hv) hr (fun j hj => hm j (List.mem_cons_of_mem _ hj))
    obtain ⟨b', hb'⟩ := hm i List.mem_cons_self
    rw [hb'] at k1 k3
    refine ⟨⟨F1, F2, rfl, ?_, q1⟩, by simp [q2]⟩
    rw [hb']
    exact ⟨c, e, g, k1, hv0_any _ _ _ k2, k3⟩

theorem zip_keys : ∀ (m : List Nat) (xs : List Ob), xs.length = m.length → (m.zip xs).map Prod.fst = m
  | [], xs, _ => by cases xs <;> rfl
  | i :: m, [], h => by simp at h
  | i :: m, x :: xs, h => by simp only [List.zip_cons_cons, List.map_cons, zip_keys m xs (by simpa using h)]
theorem lk_append {α : Type} : ∀ (l l' : List (Nat × α)) (j : Nat), lk (l ++ l') j = (lk l j).or (lk l' j)
  | [], l', j => rfl
  | (a, x) :: r, l', j => by
    simp only [List.cons_append, lk, lk_append r l' j]
    split <;> rfl
theorem lk_none {l : List (Nat × Ob)} {j : Nat} (h : j ∉ l.map Prod.fst) : lk l j = none := by
  cases hl : lk l j with
  | none => rfl
  | some o => exact absurd (lk_mem hl) h

section
variable {C : Cx} {X X' : St} {a : Act} {w w' : World} {L L' : Nat → Loc} {G G' : Nat → List Nat} {o : Oper} {t : T}

/-- The state behind a call, in memory. -/
theorem Sim.back (h : Sim C X a w L G) {args outs : List Arg} {l m : List Nat} {res : List (Bool × List Cell)} {slot : Nat} {vs : List Value} {v : Value} (honce : m.Nodup) (hlm : ∀ i ∈ l, i ∉ m) (hsh : shA args outs = true) (hpure : l = [] ∨ (pureR res = true ∧ pureLL (rwA outs) = true)) (hfresh : ∀ k, k < res.length → lk X.sg (slot + k) = none)
    (hblk : blksA args vs = m.map fun i => blkOf (L i)) (hmem : ∀ i ∈ m, ∃ cs, lk X.sg i = some (.mem cs)) (hb : Back w (Lent C w G l) vs ((m.map G).flatten) res outs v w') :
    ∃ L' G' us, v = resVal us ∧ Sim C ⟨killAll m X.env, insAll X.sg (m.zip ((rwA outs).map .mem) ++ (resT slot res).2)⟩ a w' L' G' ∧ (resT slot res).1.length = us.length ∧
      ∀ (k : Nat) t u, (resT slot res).1[k]? = some t → us[k]? = some u → RepU w' (C.A G') C.hv L' (insAll X.sg (m.zip ((rwA outs).map .mem) ++ (resT slot res).2)) t u ∧ ∀ i ∈ refU t, lk (insAll X.sg (m.zip ((rwA outs).map .mem) ++ (resT slot res).2)) i ≠ none := by
  obtain ⟨us, Fr, Fo, rfl, hres, houts, hnd, hsub, hext⟩ := hb
  have hmems := houts.mems
  rw [shA_blks hsh, hblk] at hmems
  have hLm : ∀ i ∈ m, ∃ b, L i = .blk b := by
    intro i hi
    obtain ⟨cs, hc⟩ := hmem i hi
    have h0 := h.ob i _ hc
    cases hL : L i with
    | blk b => exact ⟨b, rfl⟩
    | vals vv => rw [hL] at h0; exact h0.elim
  have hlen : (rwA outs).length = m.length := (Mems.objs (hv := C.hv) hmems hLm).2
  have hkm : (m.zip ((rwA outs).map Ob.mem)).map Prod.fst = m := zip_keys m _ (by simpa using hlen)
  obtain ⟨hrk1, hrk2⟩ := resT_keys res slot
  have hmsg : ∀ i ∈ m, lk X.sg i ≠ none := fun i hi => by obtain ⟨cs, hc⟩ := hmem i hi; rw [hc]; simp
  have hmslot : ∀ i ∈ m, ¬ (slot ≤ i ∧ i < slot + res.length) := fun i hi ⟨h1, h2⟩ => hmsg i hi (by
    have := hfresh (i - slot) (by omega)
    rwa [show slot + (i - slot) = i by omega] at this)
  have hkeys : ((m.zip ((rwA outs).map Ob.mem) ++ (resT slot res).2).map Prod.fst).Nodup := by
    rw [List.map_append, hkm, List.nodup_append]
    exact ⟨honce, hrk1, fun x hx y hy hxy => hmslot x hx (hxy ▸ hrk2 y hy)⟩
  generalize hos : m.zip ((rwA outs).map Ob.mem) ++ (resT slot res).2 = os at hkeys ⊢
  have hlkos : ∀ i, lk os i = (lk (m.zip ((rwA outs).map Ob.mem)) i).or (lk (resT slot res).2 i) := fun i => by rw [← hos, lk_append]
  -- which objects turn or come
  let S : Nat → Prop := fun i => i ∈ m ∨ (slot ≤ i ∧ i < slot + res.length)
  have hSos : ∀ i, lk os i ≠ none → S i := by
    intro i hi
    rw [hlkos] at hi
    cases h1 : lk (m.zip ((rwA outs).map Ob.mem)) i with
    | some o => exact .inl (by have := lk_mem h1; rwa [hkm] at this)
    | none =>
      rw [h1] at hi
      cases h2 : lk (resT slot res).2 i with
      | some o => exact .inr (hrk2 i (lk_mem h2))
      | none => rw [h2] at hi; exact absurd rfl hi
  have hnd' : (Fo ++ Fr).Nodup := by
    rw [List.nodup_append] at hnd ⊢
    exact ⟨hnd.2.1, hnd.1, fun x hx y hy hxy => hnd.2.2 y hy x hx hxy.symm⟩
  have hlt : ∀ i, ∀ b ∈ G i, b < w.heap.size := by
    intro i b hb
    cases hi : lk X.sg i with
    | none => rw [h.no i hi] at hb; cases hb
    | some o => exact (h.ob i o hi).lt b hb
  -- what may be read now
  let A1 : Nat → Prop := fun b => (C.A0 b ∨ C.w0.heap.size ≤ b) ∧ (∀ i, ¬ S i → b ∉ G i) ∧ b ∉ Fr ++ Fo
  have hA1 : l = [] → ∀ b, b < w'.heap.size → After (Lent C w G l) w.heap.size (Fr ++ Fo) b → A1 b := by
    intro hl b _ ⟨hb1, hb2⟩
    subst hl
    refine ⟨?_, fun i _ hi => ?_, hb2⟩
    · rcases hb1 with ⟨_, hb1 | ⟨i, hi, _⟩⟩ | hb1
      · exact hb1.1
      · cases hi
      · exact .inr (Nat.le_trans h.fr.size hb1)
    · rcases hb1 with ⟨_, hb1 | ⟨j, hj, _⟩⟩ | hb1
      · exact hb1.2 i hi
      · cases hj
      · have := hlt i b hi; omega
  have hres' : RsRep w' A1 res us Fr := hres.turn (hpure.imp hA1 (fun h => h.1))
  have hmems' : Mems w' A1 (rwA outs) (m.map fun i => blkOf (L i)) Fo := hmems.turn (hpure.imp hA1 (fun h => h.2))
  obtain ⟨L2, q1, q2, q4, q5⟩ := resT_rep (hv := C.hv) (insAll X.sg os) res us Fr slot L hres' (fun i o hi => by
    rw [lk_insAll, hlkos]
    rw [lk_none (by rw [hkm]; exact fun hm => hmslot i hm (hrk2 i (lk_mem hi))), hi]
    rfl)
  have hLS : ∀ i, ¬ (slot ≤ i ∧ i < slot + res.length) → L2 i = L i := by
    intro i hi
    by_cases h1 : i < slot
    · exact q1 i h1
    · exact q2 i (by omega)
  have hobj : Objs w' A1 C.hv L2 os (Fo ++ Fr) := by
    rw [← hos]
    refine Objs.append ?_ (q5 A1 (fun _ _ h => h)).1
    refine Objs.congr (fun i o hi => hLS i (hmslot i ?_)) (by rw [hkm]; exact honce) (Mems.objs hmems' hLm).1
    have := lk_mem hi
    rwa [hkm] at this
  obtain ⟨Gs, p1, p2, p3, p4, p5⟩ := Objs.own hkeys hnd' hobj
  let G' : Nat → List Nat := fun i => if i ∈ m ∨ (slot ≤ i ∧ i < slot + res.length) then Gs i else G i
  have hGS : ∀ i, S i → G' i = Gs i := fun i hi => if_pos hi
  have hGo : ∀ i, ¬ S i → G' i = G i := fun i hi => if_neg hi
  have hA2 : ∀ b, A1 b → C.A G' b := by
    intro b hb
    refine ⟨hb.1, fun i hi => ?_⟩
    by_cases e : S i
    · rw [hGS i e] at hi
      have := p5 i b hi
      exact hb.2.2 (by simp only [List.mem_append] at this ⊢; exact this.symm)
    · rw [hGo i e] at hi
      exact hb.2.1 i e hi
  refine ⟨L2, G', us, rfl, ?_, q4, (q5 (C.A G') (fun b _ hb => hA2 b hb)).2⟩
  refine h.multi S (w' := w') ?_ (fun i hi => ⟨?_, hLS i (fun hx => hi (.inr hx)), hGo i hi⟩) (fun i hi o hio => ?_) (fun i hi hio => ?_) (fun i hi => by rw [hGS i hi]; exact p3 i) (fun i j b hi hj hbi hbj => ?_) (fun i b hi hb => ?_) (fun t x hx => ?_)
  · refine ⟨hext.os, hext.tape, hext.output, hext.size, fun b hb hn => hext.block b hb (fun hbm => hn ?_)⟩
    obtain ⟨Fi, hFi, hbF⟩ := List.mem_flatten.1 hbm
    obtain ⟨i, hi, rfl⟩ := List.mem_map.1 hFi
    exact ⟨i, .inl hi, hbF⟩
  · rw [lk_insAll]
    have : lk os i = none := by
      cases hi2 : lk os i with
      | none => rfl
      | some o => exact absurd (hSos i (by rw [hi2]; simp)) hi
    rw [this]; rfl
  · rw [lk_insAll] at hio
    rw [hGS i hi]
    cases hi2 : lk os i with
    | some o' =>
      rw [hi2] at hio
      cases hio
      exact (p1 i _ hi2).frame (fun _ _ _ => rfl) (fun b _ hb => hA2 b hb)
    | none =>
      -- in the range of results, but no object
      exfalso
      rw [hi2] at hio
      rcases hi with hi | ⟨h1, h2⟩
      · rw [hlkos] at hi2
        cases h3 : lk (m.zip ((rwA outs).map Ob.mem)) i with
        | some o' => rw [h3] at hi2; cases hi2
        | none =>
          have : ∀ (l : List (Nat × Ob)) (j : Nat), j ∈ l.map Prod.fst → lk l j ≠ none := by
            intro l
            induction l with
            | nil => intro j hj; cases hj
            | cons p r ih =>
              intro j hj
              obtain ⟨x, y⟩ := p
              simp only [lk]
              split
              · simp
              · rename_i e
                rcases List.mem_cons.1 hj with hj | hj
                · exact absurd hj.symm e
                · exact ih j hj
          exact this _ i (by rw [hkm]; exact hi) h3
      · have := hfresh (i - slot) (by omega)
        rw [show slot + (i - slot) = i by omega] at this
        rw [this] at hio
        cases hio
  · rw [hGS i hi]
    rw [lk_insAll] at hio
    refine p2 i ?_
    cases hi2 : lk os i with
    | none => rfl
    | some o => rw [hi2] at hio; cases hio
  · rw [hGS i hi] at hbi
    rw [hGS j hj] at hbj
    exact p4 i j b hbi hbj
  · rw [hGS i hi] at hb
    have := p5 i b hb
    rcases hsub b (by simp only [List.mem_append] at this ⊢; exact this.symm) with h1 | h1
    · obtain ⟨Fi, hFi, hbF⟩ := List.mem_flatten.1 h1
      obtain ⟨k, hk, rfl⟩ := List.mem_map.1 hFi
      exact .inl ⟨k, .inl hk, hbF⟩
    · exact .inr h1
  · obtain ⟨hx1, hx2⟩ := lk_killAll hx
    refine ⟨hx1, fun i hi hSi => ?_⟩
    have him : i ∈ m := by
      rcases hSi with h1 | ⟨h1, h2⟩
      · exact h1
      · exfalso
        have := hfresh (i - slot) (by omega)
        rw [show slot + (i - slot) = i by omega] at this
        exact h.rf t x hx1 i hi this
    refine ⟨?_, hLS i (hmslot i him), ?_, okT_none (hx2 i him) hi⟩
    · rw [lk_insAll]
      intro hn
      have := hmsg i him
      cases h1 : lk os i with
      | some o => rw [h1] at hn; cases hn
      | none => rw [h1] at hn; exact this hn
    · obtain ⟨cs, hc⟩ := hmem i him
      exact ⟨cs, hc⟩

theorem run_call {P : Program} {ρ : Operand → Value} {o : Oper} {f : Operand} {xs : Array Operand} {ts : Array TypeId} {fid : FuncId} {us : Array Value} (he : Enters P fid) (ho : o.op = .call { callee := .value f, args := xs, argTypes := ts }) (hf : ρ f = .func (.func fid) #[] us) (w : World) :
    (execOp ρ o).run P w = .ok (.enter fid (xs.map ρ ++ us)) w := by
  obtain ⟨fn, h1, h2, h3⟩ := he
  unfold execOp
  rw [ho]
  simp only [resolve, hf, Deferred.ofValue, Sem.run_bind, Sem.run_pure, Result.andThen_ok, invoke, callFunc, run_program, h1, Array.empty_append]
  have h4 : fn.body.isNone = false := by cases hb : fn.body <;> simp_all
  simp only [h2, h4, Bool.false_eq_true, if_false, Sem.run_pure]

/-- A call. -/
theorem In.call (h : In C X a w) {an : An} {f : Operand} {xs : Array Operand} {ts : Array TypeId} {fid : FuncId} {args outs : List Arg} {l m : List Nat} {res : List (Bool × List Cell)} {slot : Nat} (ho : o.op = .call { callee := .value f, args := xs, argTypes := ts }) (hp : prep an X f xs.toList = some (fid, args, l, m)) (hc : ACalls C.P fid args res outs)
    (hx : after C.nt C.fx X args outs l m res slot o.dst = some X') (K : Act → World → Prop) (Q : Exit → Act → World → Prop) (hK : ∀ a' w', In C X' a' w' → K a' w') : o.wp C.P a w K Q := by
  obtain ⟨L, G, h⟩ := h
  unfold after at hx
  split at hx
  · rename_i hcond
    simp only [Bool.and_eq_true, Bool.or_eq_true] at hcond
    obtain ⟨⟨⟨⟨c1, c2⟩, c3⟩, c4⟩, c5⟩ := hcond
    obtain ⟨us, p1, p2, p3, p4⟩ := h.prep hp
    have hnd := onceB_spec c1
    have hni := notIn_spec c2
    have hF : ((m.map G).flatten).Nodup := by
      have : ∀ (m : List Nat), m.Nodup → ((m.map G).flatten).Nodup := by
        intro m
        induction m with
        | nil => intro _; exact List.nodup_nil
        | cons i r ih =>
          intro hn
          rw [List.nodup_cons] at hn
          rw [List.map_cons, List.flatten_cons, List.nodup_append]
          refine ⟨h.nd i, ih hn.2, fun x hx y hy hxy => ?_⟩
          subst hxy
          obtain ⟨Fi, hFi, hbF⟩ := List.mem_flatten.1 hy
          obtain ⟨k, hk, rfl⟩ := List.mem_map.1 hFi
          exact hn.1 (h.dj i k x hx hbF ▸ hk)
      exact this m hnd
    have hFA : ∀ b ∈ (m.map G).flatten, ¬ Lent C w G l b := by
      intro b hb ⟨_, hl⟩
      obtain ⟨Fi, hFi, hbF⟩ := List.mem_flatten.1 hb
      obtain ⟨k, hk, rfl⟩ := List.mem_map.1 hFi
      rcases hl with hl | ⟨i, hi, hbi⟩
      · exact hl.2 k hbF
      · exact hni i hi (h.dj i k b hbi hbF ▸ hk)
    have hcall := hc.2 w (Lent C w G l) _ _ p2 hF hFA (fun b hb => hb.1)
    unfold Oper.wp
    rw [run_call hc.1 ho p1]
    have hargs : xs.map a.eval ++ us.toArray = (xs.toList.map a.eval ++ us).toArray := by cases xs; simp
    rw [Oper.upon_enter, hargs]
    refine hcall.mono ?_
    rintro e w' ⟨v, rfl, hback⟩
    simp only
    obtain ⟨L', G', us', hv, hsim, hlen, hT⟩ := h.back (slot := slot) hnd hni c3 (c4.imp (fun h => List.isEmpty_iff.1 h) id) (freshB_spec c5) p3 p4 hback
    split at hx
    · rename_i hd
      cases hx
      rw [hd]
      exact hK _ _ ⟨L', G', hsim⟩
    · rename_i d hd
      split at hx
      · rename_i hdc
        cases hx
        rw [hd]
        refine hK _ _ ⟨L', G', hsim.put hdc.1 hdc.2 ?_ ?_⟩
        · -- what the result is
          rw [hv]
          unfold oneT
          split
          · rename_i t ht
            rw [ht] at hlen hT
            obtain ⟨u, hu⟩ : ∃ u, us' = [u] := by
              match us', hlen with
              | [u], _ => exact ⟨u, rfl⟩
            subst hu
            have := (hT 0 t u rfl rfl).1
            cases t with
            | tup _ => exact this.elim
            | _ => exact this
          · rename_i ts' hts
            refine ⟨us'.toArray, ?_, by simp [hlen], fun i t u ht hu => (hT i t u ht (by simpa using hu)).1⟩
            unfold resVal
            split
            · rename_i u
              exfalso
              match hq : (resT slot res).1, hlen with
              | [t], _ => exact hts t hq
            · rfl
        · intro i hi
          unfold oneT at hi
          split at hi
          · rename_i t ht
            rw [ht] at hlen hT
            obtain ⟨u, hu⟩ : ∃ u, us' = [u] := by
              match us', hlen with
              | [u], _ => exact ⟨u, rfl⟩
            subst hu
            have hk := (hT 0 t u rfl rfl)
            refine hk.2 i ?_
            cases t with
            | tup _ => exact hk.1.elim
            | _ => exact hi
          · simp only [refs, List.mem_flatten, List.mem_map] at hi
            obtain ⟨_, ⟨t, ht, rfl⟩, hi⟩ := hi
            obtain ⟨k, hk⟩ := List.mem_iff_getElem?.1 ht
            have hlt : k < us'.length := by rw [← hlen]; exact (List.getElem?_eq_some_iff.1 hk).1
            exact (hT k t us'[k] hk (List.getElem?_eq_getElem hlt)).2 i hi
      · cases hx
  · cases hx

end
end Go.Proofs.Ytppfilhlblnmcaa.Abs
/- An abstract machine for the walks, part 20: what a state comes to; code, a region in one order. No condition. -/
set_option linter.unusedVariables false
namespace Go.Proofs.Ytppfilhlblnmcaa.Abs
open Go

def Cx.fr (C : Cx) : Frame := { (default : Frame) with fn := C.fid, kind := .normal }
/-- From here the call comes back, as it must. -/
def Ok (C : Cx) (todo : List Item) (X : St) : Prop :=
  ∀ a w, In C X a w → ∀ cs, ∃ v w' fr, C.post v w' ∧ Steps C.P (lone (C.fr.at a todo) cs w) (lone fr cs w') ∧ fr.fn = C.fid ∧ fr.leaving C.P w' (.returned v)

/-- What a slot holds behind an operation that was left out. -/
def uT : T := .tup []
/-- Is an operation wanted? none: not known. -/
def want (X : St) (ops : Array Oper) (o : Oper) : Option Bool :=
  match o.guard with
  | none => some true
  | some (j, b) => match (ops[j]?).bind (·.dst) with
    | none => none
    | some d => match lk X.env d with
      | some (.dat false [.sc (.bool v)]) => some (v == b)
      | some (.tup []) => some false
      | _ => none

/-- An operation that, from state X, comes to X'. -/
def SemStep (C : Cx) (X : St) (o : Oper) (X' : St) : Prop := ∀ a w, In C X a w → ∀ (K : Act → World → Prop) (Q : Exit → Act → World → Prop), (∀ a' w', In C X' a' w' → K a' w') → o.wp C.P a w K Q
/-- One operation of a region. -/
inductive One (an : An) (C : Cx) (ops : Array Oper) (X : St) (o : Oper) (slot : Nat) : St → Prop where
  | step {X' : St} (hw : want X ops o = some true) (h : act1 C.P C.nt C.fx X o slot = some X') : One an C ops X o slot X'
  | call {X' : St} {f : Operand} {xs : Array Operand} {ts : Array TypeId} {fid : FuncId} {args outs : List Arg} {l m : List Nat} {res : List (Bool × List Cell)} (hw : want X ops o = some true) (ho : o.op = .call { callee := .value f, args := xs, argTypes := ts }) (hp : prep an X f xs.toList = some (fid, args, l, m)) (hc : ACalls C.P fid args res outs)
      (hx : after C.nt C.fx X args outs l m res slot o.dst = some X') : One an C ops X o slot X'
  | sem {X' : St} (hw : want X ops o = some true) (h : SemStep C X o X') : One an C ops X o slot X'
  | skip {d : Nat} (hw : want X ops o = some false) (hd : o.dst = some d) (hfx : d ∉ C.fx) (hnt : d < C.nt) : One an C ops X o slot { X with env := ins X.env d uT }

/-- The operations with these numbers, in this order; operation i makes its objects from base + 8 * i on. -/
def Run (an : An) (C : Cx) (ops : Array Oper) (base : Nat) : List Nat → St → St → Prop
  | [], X, X' => X = X'
  | i :: r, X, X' => ∃ o Y, ops[i]? = some o ∧ One an C ops X o (base + 8 * i) Y ∧ Run an C ops base r Y X'

section
variable {an : An} {C : Cx} {X X' : St} {a : Act} {w : World} {ops : Array Oper} {K : List Item} {todo todo' : List Item}

theorem In.want (h : In C X a w) {o : Oper} {b : Bool} (hw : want X ops o = some b) : Region.wanted o (yielded ops a.tmps) = b := by
  obtain ⟨L, G, h⟩ := h
  unfold Abs.want at hw
  unfold Region.wanted
  split at hw
  · rename_i hg
    cases hw
    rw [hg]
  · rename_i j b' hg
    rw [hg]
    split at hw
    · cases hw
    · rename_i d hd
      split at hw
      · rename_i v hl
        cases hw
        have hr := h.en d _ hl
        obtain ⟨_, vs, hR, hm⟩ := hr
        cases hm
        have hv := (RepL.one hR).1
        have : (yielded ops a.tmps) j = some v := by
          unfold yielded
          rw [hd]
          simp only [Option.bind_some]
          rw [Array.getD_eq_getD_getElem?] at hv
          cases ht : a.tmps[d]? with
          | none => rw [ht] at hv; simp [undef] at hv
          | some u => rw [ht] at hv; simp only [Option.getD_some] at hv; rw [hv]
        simp only [this]
        cases v <;> cases b' <;> rfl
      · rename_i hl
        cases hw
        obtain ⟨vs, hv, hs, _⟩ := h.en d _ hl
        have hvs : vs = #[] := Array.eq_empty_of_size_eq_zero hs
        subst hvs
        have : (yielded ops a.tmps) j = none := by
          unfold yielded
          rw [hd]
          simp only [Option.bind_some]
          rw [Array.getD_eq_getD_getElem?] at hv
          cases ht : a.tmps[d]? with
          | none => rfl
          | some u => rw [ht] at hv; simp only [Option.getD_some] at hv; rw [hv]
        simp only [this]
        rfl
      · cases hw

theorem Sim.left {L : Nat → Loc} {G : Nat → List Nat} (hs : Sim C X a w L G) {d : Nat} (hd : d < C.nt) (hfx : d ∉ C.fx) : Sim C { X with env := ins X.env d uT } (a.put (some d) undef) w L G := hs.put hd hfx ⟨#[], rfl, rfl, fun i t u ht => by simp at ht⟩ (fun i hi => nomatch hi)
theorem In.run (Q : Exit → Act → World → Prop) {base : Nat} : ∀ (l : List Nat) (X : St) (a : Act) (w : World), Run an C ops base l X X' → In C X a w → (∀ a' w', In C X' a' w' → Q .normal a' w') → wpOps C.P ops Q l a w
  | [], X, a, w, hr, h, hQ => by
    cases hr
    exact hQ a w h
  | i :: r, X, a, w, hr, h, hQ => by
    obtain ⟨o, Y, ho, h1, h2⟩ := hr
    unfold wpOps
    rw [ho]
    simp only
    cases h1 with
    | step hw hs =>
      rw [if_pos (h.want hw)]
      exact .inl (h.step hs _ _ (fun a' w' h' => In.run Q r Y a' w' h2 h' hQ))
    | call hw hop hp hc hx =>
      rw [if_pos (h.want hw)]
      exact .inl (h.call hop hp hc hx _ _ (fun a' w' h' => In.run Q r Y a' w' h2 h' hQ))
    | sem hw hs =>
      rw [if_pos (h.want hw)]
      exact .inl (hs a w h _ _ (fun a' w' h' => In.run Q r Y a' w' h2 h' hQ))
    | skip hw hd hfx hnt =>
      have hn := h.want hw
      rw [if_neg (by rw [hn]; exact Bool.false_ne_true)]
      obtain ⟨L, G, hs⟩ := h
      rw [hd]
      exact In.run Q r _ _ w h2 ⟨L, G, hs.left hnt hfx⟩ hQ

theorem Ok.move (h : Ok C todo' X) (hs : ∀ a cs w, In C X a w → step C.P (lone (C.fr.at a todo) cs w) = .next (lone (C.fr.at a todo') cs w)) : Ok C todo X := by
  intro a w hi cs
  obtain ⟨v, w', fr, h1, h2, h3, h4⟩ := h a w hi cs
  exact ⟨v, w', fr, h1, .head (hs a cs w hi) h2, h3, h4⟩
theorem Ok.less {env' : List (Nat × T)} (h : Ok C todo { X with env := env' }) (he : ∀ t x, lk env' t = some x → lk X.env t = some x) : Ok C todo X := by
  intro a w hi cs
  obtain ⟨L, G, hs⟩ := hi
  exact h a w ⟨L, G, hs.less he⟩ cs
theorem Ok.skip (h : Ok C K X) : Ok C (.code .skip :: K) X := h.move (fun _ _ _ _ => step_skip)
theorem Ok.seq {x y : Code} (h : Ok C (.code x :: .code y :: K) X) : Ok C (.code (.seq x y) :: K) X := h.move (fun _ _ _ _ => step_seq)
theorem Ok.block {id : Nat} {c : Code} (h : Ok C (.code c :: .inBlock id :: K) X) : Ok C (.code (.block id c) :: K) X := h.move (fun _ _ _ _ => step_block)
theorem Ok.inBlock {id : Nat} (h : Ok C K X) : Ok C (.inBlock id :: K) X := h.move (fun _ _ _ _ => step_inBlock)
theorem Ok.inLoop {c : Code} (h : Ok C (.code c :: .inLoop c :: K) X) : Ok C (.inLoop c :: K) X := h.move (fun _ _ _ _ => step_inLoop)
theorem Ok.exit {id : Nat} {K' : List Item} (h : Ok C K' X) (hk : exitTo id K = some K') : Ok C (.code (.exit id) :: K) X := h.move (fun _ _ _ _ => step_exit hk)
theorem Ok.cond {c : Operand} {x y : Code} {b : Bool} (hc : scal X c = some (.bool b)) (h : Ok C (.code (if b then x else y) :: K) X) : Ok C (.code (.cond c x y) :: K) X :=
  h.move (fun a cs w hi => by
    obtain ⟨L, G, hs⟩ := hi
    exact step_cond (hs.scal hc).1)
theorem Ok.loop {c : Code} (J : Nat → St → Prop) (hr : ∀ k X, J k X → (∀ k' X', k' < k → J k' X' → Ok C (.inLoop c :: K) X') → Ok C (.code c :: .inLoop c :: K) X) {k : Nat} (h0 : J k X) : Ok C (.code (.loop c) :: K) X := by
  have key : ∀ k X, J k X → Ok C (.code c :: .inLoop c :: K) X := by
    intro k
    induction k using Nat.strongRecOn with
    | _ k ih => exact fun X hJ => hr k X hJ (fun k' X' hk hJ' => (ih k' hk X' hJ').inLoop)
  exact (key k X h0).move (fun _ _ _ _ => step_loop)

/-- A region in the text's order. -/
theorem Ok.reg {id : Nat} {base : Nat} (hr : Run an C ops base (List.range ops.size) X X') (h : Ok C K X') : Ok C (.code (.region id ops false) :: K) X := by
  intro a w hi cs
  have hwp := In.run (fun e a' w' => e = .normal ∧ In C X' a' w') _ X a w hr hi (fun a' w' h' => ⟨rfl, h'⟩)
  obtain ⟨e, a', w', ⟨rfl, hi'⟩, harr⟩ := wp_ops _ a w hwp C.fr K cs
  obtain ⟨v, w2, fr, h1, h2, h3, h4⟩ := h a' w' hi' cs
  exact ⟨v, w2, fr, h1, .head step_region (Steps.trans harr h2), h3, h4⟩

/-- Back. -/
theorem Ok.ret {fn : Func} (hf : C.P.funcs[C.fid]? = some fn) (hr : ∀ a w, In C X a w → ∃ v, (results fn a.tmps).run C.P w = .ok v w ∧ C.post v w) : Ok C (.code .ret :: K) X := by
  intro a w hi cs
  obtain ⟨v, h1, h2⟩ := hr a w hi
  obtain ⟨L, G, hs⟩ := hi
  exact ⟨v, w, _, h2, .one step_ret, rfl, rfl, hs.df, rfl, fn, hf, h1⟩
/-- The body's end. -/
theorem Ok.done {fn : Func} (hf : C.P.funcs[C.fid]? = some fn) (hr : ∀ a w, In C X a w → ∃ v, (results fn a.tmps).run C.P w = .ok v w ∧ C.post v w) : Ok C [] X := by
  intro a w hi cs
  obtain ⟨v, h1, h2⟩ := hr a w hi
  obtain ⟨L, G, hs⟩ := hi
  exact ⟨v, w, _, h2, .one step_end, rfl, rfl, hs.df, rfl, fn, hf, h1⟩

end
end Go.Proofs.Ytppfilhlblnmcaa.Abs
/- An abstract machine for the walks, part 21: into a function, and out of it. No condition. -/
set_option linter.unusedVariables false
namespace Go.Proofs.Ytppfilhlblnmcaa.Abs
open Go

/-- The call that C tells of: what it was handed, and what it must come back with. -/
structure Good (C : Cx) (args : List Arg) (F : List Nat) (res : List (Bool × List Cell)) (outs : List Arg) : Prop where
  ent : AsRep C.w0 C.A0 args C.vs F
  f0 : C.F0 = (· ∈ F)
  na : ∀ b ∈ F, ¬ C.A0 b
  lt : ∀ b, C.A0 b → b < C.w0.heap.size
  post : C.post = Back C.w0 C.A0 C.vs F res outs

def enumM : Nat → List (List Cell) → List (Nat × Ob)
  | _, [] => []
  | n, cs :: r => (n, .mem cs) :: enumM (n + 1) r
def entC : Nat → List CArg → List Cap
  | _, [] => []
  | n, .ro cs :: r => .ro cs :: entC n r
  | n, .rw _ :: r => .ob n :: entC (n + 1) r
/-- The state at a function's beginning. -/
def entE : Nat → Nat → List Arg → List (Nat × T)
  | _, _, [] => []
  | i, n, .dat g cs :: r => (i, .dat g cs) :: entE (i + 1) n r
  | i, n, .ptr (.ro cs) :: r => (i, .dp cs) :: entE (i + 1) n r
  | i, n, .ptr (.rw _) :: r => (i, .pl n none 0) :: entE (i + 1) (n + 1) r
  | i, n, .clo f cs :: r => (i, .clo f (entC n cs)) :: entE (i + 1) (n + (rwC cs).length) r
def entry (args : List Arg) : St := ⟨entE 0 0 args, enumM 0 (rwA args)⟩
/-- The parameters that must stay as they came. -/
def fixed : Nat → List Arg → List Nat
  | _, [] => []
  | i, .dat _ _ :: r => fixed (i + 1) r
  | i, .ptr (.ro _) :: r => fixed (i + 1) r
  | i, .ptr (.rw _) :: r => i :: fixed (i + 1) r
  | i, .clo _ _ :: r => i :: fixed (i + 1) r

theorem enumM_lk : ∀ (xs : List (List Cell)) (n i : Nat) (o : Ob), lk (enumM n xs) i = some o → n ≤ i ∧ ∃ cs, xs[i - n]? = some cs ∧ o = .mem cs
  | [], n, i, o, h => by cases h
  | cs :: r, n, i, o, h => by
    simp only [enumM, lk] at h
    split at h
    · rename_i e
      subst e
      cases h
      exact ⟨Nat.le_refl _, cs, by simp, rfl⟩
    · obtain ⟨h1, cs', h2, h3⟩ := enumM_lk r (n + 1) i o h
      refine ⟨by omega, cs', ?_, h3⟩
      rw [show i - n = (i - (n + 1)) + 1 by omega, List.getElem?_cons_succ]
      exact h2
theorem lk_enumM : ∀ (xs : List (List Cell)) (n k : Nat) (cs : List Cell), xs[k]? = some cs → lk (enumM n xs) (n + k) = some (.mem cs)
  | [], n, k, cs, h => by simp at h
  | c :: r, n, k, cs, h => by
    simp only [enumM, lk]
    cases k with
    | zero =>
      simp only [List.getElem?_cons_zero, Option.some.injEq] at h
      subst h
      simp
    | succ k =>
      rw [if_neg (by omega)]
      have := lk_enumM r (n + 1) k cs (by simpa using h)
      rwa [show n + 1 + k = n + (k + 1) by omega] at this
theorem enumM_keys : ∀ (xs : List (List Cell)) (n : Nat), ((enumM n xs).map Prod.fst).Nodup ∧ ∀ i ∈ (enumM n xs).map Prod.fst, n ≤ i
  | [], n => ⟨List.nodup_nil, fun i hi => nomatch hi⟩
  | c :: r, n => by
    obtain ⟨h1, h2⟩ := enumM_keys r (n + 1)
    simp only [enumM, List.map_cons]
    refine ⟨List.nodup_cons.2 ⟨fun hi => by have := h2 n hi; omega, h1⟩, fun i hi => ?_⟩
    rcases List.mem_cons.1 hi with rfl | hi
    · exact Nat.le_refl _
    · have := h2 i hi; omega
theorem Mems.enum {w : World} {A : Nat → Prop} {hv : Nat → Value} {L : Nat → Loc} : ∀ {xs : List (List Cell)} {bs F : List Nat} (n : Nat), Mems w A xs bs F → (∀ k b, bs[k]? = some b → L (n + k) = .blk b) → Objs w A hv L (enumM n xs) F
  | [], bs, F, n, h, hL => h.2
  | cs :: r, bs, F, n, h, hL => by
    obtain ⟨b, bs', F1, F2, rfl, rfl, ⟨c, e, g, k1, k2, k3⟩, hr⟩ := h
    have hLn := hL 0 b rfl
    refine ⟨F1, F2, rfl, ?_, Mems.enum (n + 1) hr (fun k b' hk => by have := hL (k + 1) b' (by simpa using hk); rwa [show n + (k + 1) = n + 1 + k by omega] at this)⟩
    rw [show L n = _ from hLn]
    exact ⟨c, e, g, k1, hv0_any _ _ _ k2, k3⟩

theorem entC_rep {w : World} {A : Nat → Prop} {hv : Nat → Value} {L : Nat → Loc} {sg : List (Nat × Ob)} : ∀ (cs : List CArg) (us : List Value) (F : List Nat) (n : Nat), CsRep w A cs us F → (∀ k b, (blksC cs us)[k]? = some b → L (n + k) = .blk b) → caps w A hv L sg (entC n cs) us ∧ ∀ i ∈ capIds (entC n cs), n ≤ i ∧ i < n + (rwC cs).length
  | [], us, F, n, h, hL => ⟨h.1, fun i hi => nomatch hi⟩
  | .ro cs :: r, us, F, n, h, hL => by
    obtain ⟨v, us', F1, F2, rfl, rfl, ⟨rfl, h1⟩, h2⟩ := h
    obtain ⟨k1, k2⟩ := entC_rep (hv := hv) (sg := sg) r us' F2 n h2 hL
    exact ⟨⟨v, us', rfl, h1.hv, k1⟩, k2⟩
  | .rw cs :: r, us, F, n, h, hL => by
    obtain ⟨v, us', F1, F2, rfl, rfl, ⟨b, c, e, g, rfl, h1, h3, h4⟩, h2⟩ := h
    obtain ⟨k1, k2⟩ := entC_rep (hv := hv) (sg := sg) r us' F2 (n + 1) h2 (fun k b' hk => by
      have := hL (k + 1) b' (by simpa [blksC] using hk)
      rwa [show n + (k + 1) = n + 1 + k by omega] at this)
    refine ⟨⟨b, us', rfl, fun _ _ => hL 0 b rfl, k1⟩, fun i hi => ?_⟩
    simp only [rwC, List.length_cons]
    rcases List.mem_cons.1 hi with rfl | hi
    · omega
    · have := k2 i hi; omega

theorem blksC_length : ∀ {cs : List CArg} {w : World} {A : Nat → Prop} {us : List Value} {F : List Nat}, CsRep w A cs us F → (blksC cs us).length = (rwC cs).length
  | [], w, A, us, F, h => by rw [h.1]; rfl
  | .ro cs :: r, w, A, us, F, h => by
    obtain ⟨v, us', F1, F2, rfl, rfl, _, h2⟩ := h
    exact blksC_length (cs := r) h2
  | .rw cs :: r, w, A, us, F, h => by
    obtain ⟨v, us', F1, F2, rfl, rfl, _, h2⟩ := h
    simp only [blksC, rwC, List.length_cons, blksC_length (cs := r) h2]

theorem entE_rep {w : World} {A : Nat → Prop} {hv : Nat → Value} {L : Nat → Loc} {sg : List (Nat × Ob)} : ∀ (as : List Arg) (vs : List Value) (F : List Nat) (i n : Nat), AsRep w A as vs F → (∀ k b, (blksA as vs)[k]? = some b → L (n + k) = .blk b) → (∀ j, n ≤ j → j < n + (rwA as).length → lk sg j ≠ none) →
    ∀ t x, lk (entE i n as) t = some x → i ≤ t ∧ ∃ v, vs[t - i]? = some v ∧ RepT w A hv L sg x v ∧ ∀ j ∈ refs x, lk sg j ≠ none
  | [], vs, F, i, n, h, hL, hsg, t, x, hx => by cases hx
  | ar :: r, vs, F, i, n, h, hL, hsg, t, x, hx => by
    obtain ⟨v, us, F1, F2, rfl, rfl, h1, h2⟩ := h
    have step : ∀ n', (∀ t x, lk (entE (i + 1) n' r) t = some x → i + 1 ≤ t ∧ ∃ v, us[t - (i + 1)]? = some v ∧ RepT w A hv L sg x v ∧ ∀ j ∈ refs x, lk sg j ≠ none) → ∀ y, RepT w A hv L sg y v → (∀ j ∈ refs y, lk sg j ≠ none) → lk ((i, y) :: entE (i + 1) n' r) t = some x → i ≤ t ∧ ∃ v', (v :: us)[t - i]? = some v' ∧ RepT w A hv L sg x v' ∧ ∀ j ∈ refs x, lk sg j ≠ none := by
      intro n' ih y hy hyr hz
      simp only [lk] at hz
      split at hz
      · rename_i e
        cases hz
        subst e
        exact ⟨Nat.le_refl _, v, by simp, hy, hyr⟩
      · obtain ⟨k1, v', k2, k3⟩ := ih t x hz
        refine ⟨by omega, v', ?_, k3⟩
        rw [show t - i = (t - (i + 1)) + 1 by omega, List.getElem?_cons_succ]
        exact k2
    cases ar with
    | dat g cs =>
      obtain ⟨rfl, hc, vs', hR, hm⟩ := h1
      exact step n (entE_rep r us F2 (i + 1) n h2 hL hsg) (.dat g cs) ⟨hc, vs', hv0_any _ _ _ hR, hm⟩ (fun j hj => nomatch hj) hx
    | ptr c =>
      cases c with
      | ro cs =>
        obtain ⟨rfl, hd⟩ := h1
        exact step n (entE_rep r us F2 (i + 1) n h2 hL hsg) (.dp cs) hd.hv (fun j hj => nomatch hj) hx
      | rw cs =>
        obtain ⟨b, c, e, g, rfl, q1, q2, q3⟩ := h1
        have hLn : L n = .blk b := hL 0 b rfl
        refine step (n + 1) (entE_rep r us F2 (i + 1) (n + 1) h2 (fun k b' hk => ?_) (fun j hj1 hj2 => hsg j (by omega) (by simp only [rwA, rwC, List.length_append, List.length_cons, List.length_nil]; omega))) (.pl n none 0) (fun ob ho rs hr => ⟨b, 0, by rw [hLn]; rfl, rfl⟩) (fun j hj => by
          simp only [refs, refU, List.mem_singleton] at hj
          subst hj
          exact hsg j (Nat.le_refl _) (by simp only [rwA, rwC, List.length_append, List.length_cons, List.length_nil]; omega)) hx
        have := hL (k + 1) b' (by simpa [blksA, blksC] using hk)
        rwa [show n + (k + 1) = n + 1 + k by omega] at this
    | clo f cs =>
      obtain ⟨vs', rfl, hcs⟩ := h1
      have hbl := blksC_length hcs
      obtain ⟨k1, k2⟩ := entC_rep (hv := hv) (sg := sg) cs vs' F1 n hcs (fun k b' hk => hL k b' (by
        simp only [blksA]
        rw [List.getElem?_append_left (List.getElem?_eq_some_iff.1 hk).1]
        exact hk))
      refine step (n + (rwC cs).length) (entE_rep r us F2 (i + 1) (n + (rwC cs).length) h2 (fun k b' hk => ?_) (fun j hj1 hj2 => hsg j (by omega) (by simp only [rwA, List.length_append]; omega))) (.clo f (entC n cs)) ⟨vs', rfl, k1⟩ (fun j hj => by
        have := k2 j hj
        exact hsg j this.1 (by simp only [rwA, List.length_append]; omega)) hx
      have := hL ((rwC cs).length + k) b' (by
        simp only [blksA]
        rw [List.getElem?_append_right (by omega), hbl]
        rw [show (rwC cs).length + k - (rwC cs).length = k by omega]
        exact hk)
      rwa [show n + ((rwC cs).length + k) = n + (rwC cs).length + k by omega] at this

theorem AsRep.mono {w : World} {A A' : Nat → Prop} (hA : ∀ b, b < w.heap.size → A b → A' b) : ∀ {as : List Arg} {vs : List Value} {F : List Nat}, AsRep w A as vs F → AsRep w A' as vs F := by
  have hC : ∀ {c : CArg} {v : Value} {F : List Nat}, CRep w A c v F → CRep w A' c v F := by
    intro c v F h
    cases c with
    | ro cs => exact ⟨h.1, h.2.mono hA⟩
    | rw cs =>
      obtain ⟨b, c, e, g, h1, h2, h3, h4⟩ := h
      exact ⟨b, c, e, g, h1, h2, RepL.frame _ _ _ h3 (fun _ _ _ => rfl) hA, h4⟩
  have hCs : ∀ {cs : List CArg} {vs : List Value} {F : List Nat}, CsRep w A cs vs F → CsRep w A' cs vs F := by
    intro cs
    induction cs with
    | nil => intro vs F h; exact h
    | cons c r ih =>
      intro vs F h
      obtain ⟨v, us, F1, F2, h1, h2, h3, h4⟩ := h
      exact ⟨v, us, F1, F2, h1, h2, hC h3, ih h4⟩
  intro as
  induction as with
  | nil => intro vs F h; exact h
  | cons x r ih =>
    intro vs F h
    obtain ⟨v, us, F1, F2, h1, h2, h3, h4⟩ := h
    refine ⟨v, us, F1, F2, h1, h2, ?_, ih h4⟩
    cases x with
    | dat g cs =>
      obtain ⟨q1, q2, vs', q3, q4⟩ := h3
      exact ⟨q1, q2, vs', RepL.frame _ _ _ q3 (fun _ _ _ => rfl) hA, q4⟩
    | ptr c => exact hC h3
    | clo f cs =>
      obtain ⟨us', q1, q2⟩ := h3
      exact ⟨us', q1, hCs q2⟩
theorem AsRep.length {w : World} {A : Nat → Prop} : ∀ {as : List Arg} {vs : List Value} {F : List Nat}, AsRep w A as vs F → vs.length = as.length
  | [], vs, F, h => by rw [h.1]; rfl
  | x :: r, vs, F, h => by
    obtain ⟨v, us, F1, F2, rfl, _, _, h2⟩ := h
    simp [AsRep.length h2]

/-- A function is entered. -/
theorem ACalls.enter {P : Program} {f : FuncId} {fn : Func} {c : Code} {args outs : List Arg} {res : List (Bool × List Cell)} (hf : P.funcs[f]? = some fn) (hn : (fn.name == "runtime.NumGoroutine") = false) (hb : fn.body = some c) (hnt : args.length ≤ fn.ntmps)
    (h : ∀ C F, Good C args F res outs → C.P = P → C.fid = f → C.nt = fn.ntmps → C.fx = fixed 0 args → Ok C [.code c] (entry args)) : ACalls P f args res outs := by
  refine ⟨⟨fn, hf, hn, by rw [hb]; rfl⟩, fun w A vs F has hF hna hlt cs => ?_⟩
  let C : Cx := { P := P, fid := f, nt := fn.ntmps, w0 := w, F0 := (· ∈ F), A0 := A, hv := hv0, vs := vs, fx := fixed 0 args, post := Back w A vs F res outs }
  have hC : Good C args F res outs := ⟨has, rfl, hna, hlt, rfl⟩
  have hlen := has.length
  -- where the objects lie
  let L : Nat → Loc := fun i => .blk ((blksA args vs).getD i 0)
  have hL : ∀ k b, (blksA args vs)[k]? = some b → L (0 + k) = .blk b := by
    intro k b hk
    simp only [L, Nat.zero_add, List.getD_eq_getElem?_getD, hk, Option.getD_some]
  have hobjs := Mems.enum (hv := hv0) (L := L) 0 has.mems hL
  obtain ⟨Gs, g1, g2, g3, g4, g5⟩ := Objs.own (enumM_keys _ 0).1 hF hobjs
  have hA : ∀ b, A b → C.A Gs b := fun b hb => ⟨.inl hb, fun i hi => hna b (g5 i b hi) hb⟩
  have hin : In C (entry args) { tmps := vs.toArray ++ Array.replicate (fn.ntmps - vs.toArray.size) undef, defers := [] } w := by
    refine ⟨L, Gs, { ob := fun i o hi => (g1 i o hi).frame (fun _ _ _ => rfl) (fun b _ hb => hA b hb), no := g2, nd := g3, dj := g4, own := fun i b hb => .inl (g5 i b hb), en := ?_, rf := ?_, fr := .refl _ _, df := rfl, fx := ?_, nt := ?_ }⟩
    · intro t x hx
      obtain ⟨_, v, hv, hr, _⟩ := entE_rep (hv := hv0) (L := L) (sg := enumM 0 (rwA args)) args vs F 0 0 (has.mono (fun b _ hb => hA b hb)) hL (fun j _ hj => by
        obtain ⟨cs', hcs⟩ : ∃ cs', (rwA args)[j]? = some cs' := ⟨_, List.getElem?_eq_getElem (by omega)⟩
        have := lk_enumM _ 0 j cs' hcs
        rw [Nat.zero_add] at this
        rw [this]; simp) t x hx
      simp only [Nat.sub_zero] at hv
      have hlt : t < vs.length := (List.getElem?_eq_some_iff.1 hv).1
      have : (vs.toArray ++ Array.replicate (fn.ntmps - vs.toArray.size) undef).getD t undef = v := by
        rw [Array.getD_eq_getD_getElem?, Array.getElem?_append_left (by simpa using hlt)]
        simp [hv]
      rw [this]
      exact hr
    · intro t x hx i hi
      obtain ⟨_, v, hv, _, hr⟩ := entE_rep (hv := hv0) (L := L) (sg := enumM 0 (rwA args)) args vs F 0 0 (has.mono (fun b _ hb => hA b hb)) hL (fun j _ hj => by
        obtain ⟨cs', hcs⟩ : ∃ cs', (rwA args)[j]? = some cs' := ⟨_, List.getElem?_eq_getElem (by omega)⟩
        have := lk_enumM _ 0 j cs' hcs
        rw [Nat.zero_add] at this
        rw [this]; simp) t x hx
      exact hr i hi
    · intro i hi
      have hil : ∀ (as : List Arg) (k i : Nat), i ∈ fixed k as → i < k + as.length := by
        intro as
        induction as with
        | nil => intro k i hi; cases hi
        | cons x r ih =>
          intro k i hi
          simp only [List.length_cons]
          cases x with
          | dat g cs => have := ih (k + 1) i hi; omega
          | ptr c => cases c with
            | ro cs => have := ih (k + 1) i hi; omega
            | rw cs =>
              rcases List.mem_cons.1 hi with rfl | hi
              · omega
              · have := ih (k + 1) i hi; omega
          | clo f cs =>
            rcases List.mem_cons.1 hi with rfl | hi
            · omega
            · have := ih (k + 1) i hi; omega
      have hlt := hil args 0 i hi
      simp only [Array.getD_eq_getD_getElem?]
      rw [Array.getElem?_append_left (by simp; omega)]
      simp [C, List.getD_eq_getElem?_getD]
    · simp only [Array.size_append, List.size_toArray, Array.size_replicate]
      show vs.length + (fn.ntmps - vs.length) = fn.ntmps
      omega
  obtain ⟨v, w', fr, h1, h2, h3, h4⟩ := h C F hC rfl rfl rfl rfl _ w hin cs
  refine ⟨.returned v, w', fr, ⟨v, rfl, h1⟩, ?_, h3, h4⟩
  have henter : Frame.enter P f vs.toArray .normal = C.fr.at { tmps := vs.toArray ++ Array.replicate (fn.ntmps - vs.toArray.size) undef, defers := [] } [.code c] := by
    simp [Frame.enter, Frame.at, hf, hb, Cx.fr, C]
  rw [henter]
  exact h2

end Go.Proofs.Ytppfilhlblnmcaa.Abs
/- An abstract machine for the walks, part 22: out of a function. No condition. -/
set_option linter.unusedVariables false
namespace Go.Proofs.Ytppfilhlblnmcaa.Abs
open Go

/-- The results, each moved into an object of its own if it owns memory. -/
def fin (P : Program) : St → Nat → List ResultVar → Option (St × List (Bool × List Cell × Option Nat))
  | X, _, [] => some (X, [])
  | X, slot, .tmp t :: r => match lk X.env t with
    | some (.dat g cs) => (fin P X slot r).map fun p => (p.1, (g, cs, none) :: p.2)
    | some (.bor id q j n g) => match cont X id q j n, lk X.sg id, lk X.sg slot with
      | some cs, some ob, none => (fin P { X with sg := ins (ins X.sg id (holeAt ob q j n)) slot (.vir cs) } (slot + 1) r).map fun p => (p.1, (g, cs, some slot) :: p.2)
      | _, _, _ => none
    | _ => none
  | X, slot, .cell t ty :: r => match lk X.env t, vsz P ty with
    | some (.pl id none 0), some (g, n) => match cont X id none 0 n, lk X.sg id, lk X.sg slot with
      | some cs, some ob, none => (fin P { X with sg := ins (ins X.sg id (holeAt ob none 0 n)) slot (.vir cs) } (slot + 1) r).map fun p => (p.1, (g, cs, some slot) :: p.2)
      | _, _, _ => none
    | _, _ => none

/-- What the results are, in memory. -/
def FinRep (w : World) (A : Nat → Prop) (hv : Nat → Value) (sg : List (Nat × Ob)) (L : Nat → Loc) : List (Bool × List Cell × Option Nat) → List Value → Prop
  | [], us => us = []
  | (g, cs, none) :: r, us => ∃ v us', us = v :: us' ∧ cpyL cs = true ∧ (∃ vs, RepL w A hv cs vs [] ∧ mkv g vs v) ∧ FinRep w A hv sg L r us'
  | (g, cs, some s) :: r, us => ∃ v us' vs, us = v :: us' ∧ lk sg s = some (.vir cs) ∧ L s = .vals vs ∧ mkv g vs v ∧ FinRep w A hv sg L r us'
def finSlots : List (Bool × List Cell × Option Nat) → List Nat
  | [] => []
  | (_, _, none) :: r => finSlots r
  | (_, _, some s) :: r => s :: finSlots r
def finRes : List (Bool × List Cell × Option Nat) → List (Bool × List Cell)
  | [] => []
  | (g, cs, _) :: r => (g, cs) :: finRes r
def finMut : List (Bool × List Cell × Option Nat) → Bool
  | [] => true
  | (_, cs, _) :: r => noMutL cs && finMut r

section
variable {C : Cx} {X X' : St} {a : Act} {w w' : World} {L L' : Nat → Loc} {G G' : Nat → List Nat} {o : Oper} {t : T}

/-- One result's value. -/
def ResIs (P : Program) (w : World) (tmps : Array Value) : ResultVar → Value → Prop
  | .tmp t, v => v = tmps.getD t undef
  | .cell t ty, v => (do loadVar ty (← asAddr (tmps.getD t undef)) : Sem Value).run P w = .ok v w

/-- A place's cells, moved into a new object. -/
theorem Sim.mv0 (h : Sim C X a w L G) {slot id : Nat} {q : Option (Nat × Nat)} {j n : Nat} {cs : List Cell} {ob : Ob} (hsl : lk X.sg slot = none) (hc : Abs.cont X id q j n = some cs) (hob : lk X.sg id = some ob) :
    ∃ rs s us G1, row q ob.cells = some rs ∧ j + n ≤ rs.length ∧ SrcIs w (L id) ob.cells q s ∧ us.length = n ∧ (∀ i, i < n → rd w s (j + i) = us[i]?) ∧ Sim C { X with sg := ins (ins X.sg id (holeAt ob q j n)) slot (.vir cs) } a w (upd L slot (.vals us)) G1 ∧
      Unref { X with sg := ins (ins X.sg id (holeAt ob q j n)) slot (.vir cs) } slot ∧ (∀ b, C.A G b → C.A G1 b) ∧ id ≠ slot := by
  have hidne : id ≠ slot := fun e => by rw [e, hsl] at hob; cases hob
  obtain ⟨h1, h2⟩ := h.start hsl
  have hc' : Abs.cont { X with sg := ins X.sg slot (.vir []) } id q j n = some cs := by
    unfold Abs.cont at hc ⊢
    simp only [lk_ins, if_neg (Ne.symm hidne)]
    exact hc
  obtain ⟨ob', rs, s, us, G1, q1, q2, q3, q4, q5, q6, q7, q8, q9⟩ := h1.mv (by rw [lk_ins, if_pos rfl]) (upd_self _ _ _) h2 hidne hc'
  rw [lk_ins, if_neg (Ne.symm hidne), hob] at q1
  cases q1
  rw [show upd L slot (Loc.vals []) id = L id from upd_ne _ _ hidne] at q4
  have hL2 : upd (upd L slot (.vals [])) slot (.vals ([] ++ us)) = upd L slot (.vals us) := by
    funext i
    by_cases e : i = slot <;> simp [upd, e]
  rw [hL2] at q8
  have hlk : ∀ i, lk (ins (ins X.sg id (holeAt ob q j n)) slot (.vir cs)) i = lk (ins (ins (ins X.sg slot (.vir [])) id (holeAt ob q j n)) slot (.vir ([] ++ cs))) i := by
    intro i
    simp only [lk_ins, List.nil_append]
    by_cases e : slot = i
    · simp [e]
    · simp [e]
  refine ⟨rs, s, us, G1, q2, q3, q4, q5, q6, ?_, h2, fun b hb => q9 b (by rw [h.noA hsl]; exact hb), hidne⟩
  exact { ob := fun i o hi => q8.ob i o (by rw [← hlk]; exact hi), no := fun i hi => q8.no i (by rw [← hlk]; exact hi), nd := q8.nd, dj := q8.dj, own := q8.own, en := fun t x hx => RepT.frame (fun b _ hA => ⟨hA, rfl⟩) q8.ob x _ (q8.en t x hx) (fun i hi o' ho' => ⟨o', by rw [← hlk]; exact ho', rfl, fun cs e => ⟨cs, e⟩, .inr (.inr ⟨.refl _, fun _ _ => rfl⟩)⟩), rf := fun t x hx i hi => by show lk (ins (ins X.sg id (holeAt ob q j n)) slot (.vir cs)) i ≠ none; rw [hlk]; exact q8.rf t x hx i hi, fr := q8.fr, df := q8.df, fx := q8.fx, nt := q8.nt }

theorem Sim.finish : ∀ (rs : List ResultVar) (X : St) (slot : Nat) (L : Nat → Loc) (G : Nat → List Nat) (p : St × List (Bool × List Cell × Option Nat)), Sim C X a w L G → (∀ k, slot ≤ k → lk X.sg k = none) → Abs.fin C.P X slot rs = some p →
    ∃ L' G' us, Sim C p.1 a w L' G' ∧ us.length = rs.length ∧ (∀ (k : Nat) r u, rs[k]? = some r → us[k]? = some u → ResIs C.P w a.tmps r u) ∧ FinRep w (C.A G') C.hv p.1.sg L' p.2 us ∧ p.1.env = X.env ∧ (∀ i, i < slot → L' i = L i) ∧
      (finSlots p.2).Nodup ∧ (∀ i ∈ finSlots p.2, slot ≤ i) ∧ (∀ i cs, i < slot → lk X.sg i = some (.vir cs) → Unref X i → lk p.1.sg i = some (.vir cs)) ∧ (∀ b, C.A G b → C.A G' b)
  | [], X, slot, L, G, p, h, hs, hp => by
    cases hp
    exact ⟨L, G, [], h, rfl, fun k r u hr => by simp at hr, rfl, rfl, fun _ _ => rfl, List.nodup_nil, (fun i hi => nomatch hi), fun i cs _ hi _ => hi, fun _ h => h⟩
  | rv0 :: r, X, slot, L, G, p, h, hs, hp => by
    -- a place's cells move to the slot
    have move : ∀ (id : Nat) (q : Option (Nat × Nat)) (j n : Nat) (g : Bool) (cs : List Cell) (ob : Ob) (v : Value) (t : Nat) (tx : T), lk X.env t = some tx → id ∈ refs tx → Abs.cont X id q j n = some cs → lk X.sg id = some ob → lk X.sg slot = none →
        (∀ rs s us, row q ob.cells = some rs → j + n ≤ rs.length → SrcIs w (L id) ob.cells q s → us.length = n → (∀ i, i < n → rd w s (j + i) = us[i]?) → mkv g us v) → ResIs C.P w a.tmps rv0 v →
        ((Abs.fin C.P { X with sg := ins (ins X.sg id (holeAt ob q j n)) slot (.vir cs) } (slot + 1) r).map fun p => (p.1, (g, cs, some slot) :: p.2)) = some p →
        ∃ L' G' us, Sim C p.1 a w L' G' ∧ us.length = (rv0 :: r).length ∧ (∀ (k : Nat) r' u, (rv0 :: r)[k]? = some r' → us[k]? = some u → ResIs C.P w a.tmps r' u) ∧ FinRep w (C.A G') C.hv p.1.sg L' p.2 us ∧ p.1.env = X.env ∧ (∀ i, i < slot → L' i = L i) ∧
          (finSlots p.2).Nodup ∧ (∀ i ∈ finSlots p.2, slot ≤ i) ∧ (∀ i cs, i < slot → lk X.sg i = some (.vir cs) → Unref X i → lk p.1.sg i = some (.vir cs)) ∧ (∀ b, C.A G b → C.A G' b) := by
      intro id q j n g cs ob v t tx htx hidr hc hob hsl hval hres hp
      cases hr : Abs.fin C.P { X with sg := ins (ins X.sg id (holeAt ob q j n)) slot (.vir cs) } (slot + 1) r with
      | none => rw [hr] at hp; cases hp
      | some q' =>
        rw [hr] at hp
        cases hp
        obtain ⟨rs, s, us0, G1, q2, q3, q4, q5, q6, hsim, hslun, hA1, hidne⟩ := h.mv0 hsl hc hob
        have hmk := hval rs s us0 q2 q3 q4 q5 q6
        obtain ⟨L', G', us, k1, k2, k3, k4, k5, k6, k7, k8, k9, kA⟩ := Sim.finish r _ (slot + 1) _ _ q' hsim (fun k hk => by
          show lk (ins (ins X.sg id (holeAt ob q j n)) slot (.vir cs)) k = none
          rw [lk_ins, if_neg (by omega), lk_ins, if_neg (fun e => by rw [e, hs k (by omega)] at hob; cases hob)]
          exact hs k (by omega)) hr
        refine ⟨L', G', v :: us, k1, by simp [k2], fun k rv u hrk hu => ?_, ⟨v, us, us0, rfl, k9 slot cs (by omega) (by rw [lk_ins, if_pos rfl]) hslun, by rw [k6 slot (by omega), upd_self], hmk, k4⟩, k5, fun i hi => by rw [k6 i (by omega), upd_ne _ _ (by omega)], List.nodup_cons.2 ⟨fun hx => by have := k8 slot hx; omega, k7⟩, fun i hi => ?_, fun i cs' hi hvi hui => ?_, fun b hb => kA b (hA1 b hb)⟩
        · cases k with
          | zero =>
            simp only [List.getElem?_cons_zero, Option.some.injEq] at hrk hu
            subst hrk
            subst hu
            exact hres
          | succ k => exact k3 k rv u (by simpa using hrk) (by simpa using hu)
        · rcases List.mem_cons.1 hi with rfl | hi
          · exact Nat.le_refl _
          · have := k8 i hi; omega
        · refine k9 i cs' (by omega) ?_ hui
          show lk (ins (ins X.sg id (holeAt ob q j n)) slot (.vir cs)) i = _
          rw [lk_ins, if_neg (by omega), lk_ins]
          rw [if_neg (show ¬ id = i from fun e => hui t _ htx (by rw [← e]; exact hidr))]
          exact hvi
    cases rv0 with
    | tmp t =>
      unfold Abs.fin at hp
      split at hp
      · rename_i g cs hl
        cases hr : Abs.fin C.P X slot r with
        | none => rw [hr] at hp; cases hp
        | some q =>
          rw [hr] at hp
          cases hp
          obtain ⟨L', G', us, k1, k2, k3, k4, k5, k6, k7, k8, k9, kA⟩ := Sim.finish r X slot L G q h hs hr
          obtain ⟨hcp, vs, hR, hm⟩ := h.en t _ hl
          refine ⟨L', G', a.tmps.getD t undef :: us, k1, by simp [k2], fun k rv u hrk hu => ?_, ⟨_, us, rfl, hcp, ⟨vs, RepL.frame _ _ _ hR (fun _ _ _ => rfl) (fun b _ hb => kA b hb), hm⟩, k4⟩, k5, k6, k7, k8, k9, kA⟩
          cases k with
          | zero =>
            simp only [List.getElem?_cons_zero, Option.some.injEq] at hrk hu
            subst hrk
            subst hu
            rfl
          | succ k => exact k3 k rv u (by simpa using hrk) (by simpa using hu)
      · rename_i id q j n g hl
        split at hp
        · rename_i cs ob hc hob hsl
          refine move id q j n g cs ob (a.tmps.getD t undef) t _ hl (by simp [refs, refU]) hc hob hsl (fun rs s us q2 q3 q4 q5 q6 => ?_) rfl hp
          obtain ⟨s', vs', p1, p2, p3, p4⟩ := h.en t _ hl ob hob rs q2 q3
          cases p1.uniq q4
          have hus : vs' = us := by
            apply List.ext_getElem?
            intro i
            by_cases hi : i < n
            · rw [← p3 i hi, q6 i hi]
            · rw [List.getElem?_eq_none (by omega), List.getElem?_eq_none (by omega)]
          subst hus
          exact p4
        · cases hp
      · cases hp
    | cell t ty =>
      unfold Abs.fin at hp
      split at hp
      · rename_i id g n hl hv
        split at hp
        · rename_i cs ob hc hob hsl
          have hpl := h.en t _ hl
          obtain ⟨b, off, s1, s2⟩ := hpl ob hob ob.cells rfl
          -- its value
          obtain ⟨ob2, rs2, s3, vs3, F1, F2, F3, m1, m2, m3, m4, m5, m6, m7, m8⟩ := h.cont hc
          rw [hob] at m1
          cases m1
          cases m2
          cases m4.uniq s1
          have hg : ∃ v, mkv g vs3 v := by
            cases g with
            | true => exact ⟨_, rfl⟩
            | false =>
              obtain ⟨_, _, _, _, _, hn1, _, _⟩ := vsz_false hv
              have : vs3.length = 1 := by omega
              match vs3, this with
              | [u], _ => exact ⟨u, rfl⟩
          obtain ⟨v, hm⟩ := hg
          refine move id none 0 n g cs ob v t _ hl (by simp [refs, refU]) hc hob hsl (fun rs s us q2 q3 q4 q5 q6 => ?_) ?_ hp
          · cases q4.uniq s1
            have hus : vs3 = us := by
              apply List.ext_getElem?
              intro i
              by_cases hi : i < n
              · rw [← m8 i hi, q6 i hi]
              · rw [List.getElem?_eq_none (by omega), List.getElem?_eq_none (by omega)]
            subst hus
            exact hm
          · show (do loadVar ty (← asAddr (a.tmps.getD t undef)) : Sem Value).run C.P w = .ok v w
            rw [s2]
            simp only [asAddr, Sem.run_bind, Sem.run_pure, Result.andThen_ok]
            refine run_loadVar hv m5 (fun i u hi => ?_) hm
            rw [Addr.add_none]
            have hlt := (List.getElem?_eq_some_iff.1 hi).1
            have := m8 i (by omega)
            rw [hi] at this
            simpa [rd] using this
        · cases hp
      · cases hp

end
end Go.Proofs.Ytppfilhlblnmcaa.Abs
/- An abstract machine for the walks, part 23: out of a function; a state made tidy. No condition. -/
set_option linter.unusedVariables false
namespace Go.Proofs.Ytppfilhlblnmcaa.Abs
open Go

def leaveC (X : St) : List Cap → List CArg → Option (List CArg × List Nat)
  | [], [] => some ([], [])
  | .ob id :: r, .rw _ :: r' => match lk X.sg id, leaveC X r r' with
    | some (.mem cs), some (as, ids) => if noMutL cs then some (.rw cs :: as, id :: ids) else none
    | _, _ => none
  | .ro _ :: r, .ro cs :: r' => match leaveC X r r' with
    | some (as, ids) => some (.ro cs :: as, ids)
    | none => none
  | _, _ => none
/-- What has become of what was handed over. -/
def leaveA (X : St) : Nat → List Arg → Option (List Arg × List Nat)
  | _, [] => some ([], [])
  | i, .dat g cs :: r => match leaveA X (i + 1) r with
    | some (as, ids) => some (.dat g cs :: as, ids)
    | none => none
  | i, .ptr (.ro cs) :: r => match leaveA X (i + 1) r with
    | some (as, ids) => some (.ptr (.ro cs) :: as, ids)
    | none => none
  | i, .ptr (.rw _) :: r => match lk X.env i with
    | some (.pl id none 0) => match lk X.sg id, leaveA X (i + 1) r with
      | some (.mem cs), some (as, ids) => if noMutL cs then some (.ptr (.rw cs) :: as, id :: ids) else none
      | _, _ => none
    | _ => none
  | i, .clo f cs :: r => match lk X.env i with
    | some (.clo f' cp) => match leaveC X cp cs, leaveA X (i + 1) r with
      | some (bs, ids), some (as, ids') => some (.clo f bs :: as, ids ++ ids')
      | _, _ => none
    | _ => none

section
variable {C : Cx} {X X' : St} {a : Act} {w w' : World} {L L' : Nat → Loc} {G G' : Nat → List Nat}

theorem FinRep.res {A A2 : Nat → Prop} (h : Sim C X a w L G) (hA : ∀ b, b < w.heap.size → C.A G b → A2 b) : ∀ (rs : List (Bool × List Cell × Option Nat)) (us : List Value), FinRep w (C.A G) C.hv X.sg L rs us → finMut rs = true → RsRep w A2 (finRes rs) us (((finSlots rs).map G).flatten)
  | [], us, hf, hm => ⟨hf, rfl⟩
  | (g, cs, none) :: r, us, hf, hm => by
    obtain ⟨v, us', rfl, hc, ⟨vs, hR, hmk⟩, hr⟩ := hf
    simp only [finMut, Bool.and_eq_true] at hm
    exact ⟨v, us', [], _, rfl, by simp [finSlots], ⟨vs, RepL.hv _ _ _ (RepL.frame _ _ _ hR (fun _ _ _ => rfl) hA) hm.1, hmk⟩, FinRep.res (A := A) h hA r us' hr hm.2⟩
  | (g, cs, some s) :: r, us, hf, hm => by
    obtain ⟨v, us', vs, rfl, hs, hL, hmk, hr⟩ := hf
    simp only [finMut, Bool.and_eq_true] at hm
    have h0 := h.ob s _ hs
    rw [hL] at h0
    exact ⟨v, us', G s, _, rfl, by simp [finSlots], ⟨vs, RepL.hv _ _ _ (RepL.frame _ _ _ h0 (fun _ _ _ => rfl) hA) hm.1, hmk⟩, FinRep.res (A := A) h hA r us' hr hm.2⟩

theorem Sim.leaveC (h : Sim C X a w L G) {A2 A0 : Nat → Prop} {w0 : World} (hA : ∀ b, b < w.heap.size → C.A G b → A2 b) (hD : ∀ b, b < w0.heap.size → A0 b → A2 b ∧ w.heap[b]? = w0.heap[b]?) : ∀ (cp : List Cap) (cs as : List CArg) (us : List Value) (F ids : List Nat), caps w (C.A G) C.hv L X.sg cp us → CsRep w0 A0 cs us F → leaveC X cp cs = some (as, ids) → CsRep w A2 as us ((ids.map G).flatten)
  | [], [], as, us, F, ids, hc, he, hl => by cases hl; exact ⟨hc, rfl⟩
  | .ob id :: r, .rw x :: r', as, us, F, ids, hc, he, hl => by
    unfold Abs.leaveC at hl
    split at hl
    · rename_i cs as' ids' hi hr
      split at hl
      · rename_i hnm
        cases hl
        obtain ⟨b, us', rfl, hb, hcr⟩ := hc
        obtain ⟨v, us2, F1, F2, h1, _, _, her⟩ := he
        cases h1
        have h0 := h.ob id _ hi
        rw [hb cs hi] at h0
        obtain ⟨c, e, g, k1, k2, k3⟩ := h0
        exact ⟨_, us', G id, _, rfl, by simp, ⟨b, c, e, g, rfl, k1, RepL.hv _ _ _ (RepL.frame _ _ _ k2 (fun _ _ _ => rfl) hA) hnm, k3⟩, Sim.leaveC h hA hD r r' as' us' F2 ids' hcr her hr⟩
      · cases hl
    · cases hl
  | .ro y :: r, .ro x :: r', as, us, F, ids, hc, he, hl => by
    unfold Abs.leaveC at hl
    split at hl
    · rename_i as' ids' hr
      cases hl
      obtain ⟨v, us', rfl, hv, hcr⟩ := hc
      obtain ⟨v2, us2, F1, F2, h1, _, ⟨_, hd⟩, her⟩ := he
      cases h1
      exact ⟨v, us', [], _, rfl, by simp, ⟨rfl, DPRep.frame hD hd⟩, Sim.leaveC h hA hD r r' as' us' F2 ids hcr her hr⟩
    · cases hl
  | [], .rw _ :: _, as, us, F, ids, hc, he, hl => by simp [Abs.leaveC] at hl
  | [], .ro _ :: _, as, us, F, ids, hc, he, hl => by simp [Abs.leaveC] at hl
  | .ob _ :: _, [], as, us, F, ids, hc, he, hl => by simp [Abs.leaveC] at hl
  | .ro _ :: _, [], as, us, F, ids, hc, he, hl => by simp [Abs.leaveC] at hl
  | .ob _ :: _, .ro _ :: _, as, us, F, ids, hc, he, hl => by simp [Abs.leaveC] at hl
  | .ro _ :: _, .rw _ :: _, as, us, F, ids, hc, he, hl => by simp [Abs.leaveC] at hl

theorem Sim.leaveA (h : Sim C X a w L G) {A2 A0 : Nat → Prop} {w0 : World} (hA : ∀ b, b < w.heap.size → C.A G b → A2 b) (hD : ∀ b, b < w0.heap.size → A0 b → A2 b ∧ w.heap[b]? = w0.heap[b]?) : ∀ (args as : List Arg) (i : Nat) (vs : List Value) (F ids : List Nat), AsRep w0 A0 args vs F → (∀ j ∈ fixed i args, ∀ v, vs[j - i]? = some v → a.tmps.getD j undef = v) → leaveA X i args = some (as, ids) → AsRep w A2 as vs ((ids.map G).flatten)
  | [], as, i, vs, F, ids, he, hfx, hl => by cases hl; exact ⟨he.1, rfl⟩
  | ar :: r, as, i, vs, F, ids, he, hfx, hl => by
    obtain ⟨v, us, F1, F2, rfl, rfl, h1, h2⟩ := he
    have hfx' : ∀ j ∈ fixed (i + 1) r, ∀ v', us[j - (i + 1)]? = some v' → a.tmps.getD j undef = v' := by
      intro j hj v' hv
      have hge : ∀ (as : List Arg) (k j : Nat), j ∈ fixed k as → k ≤ j := by
        intro as
        induction as with
        | nil => intro k j hj; cases hj
        | cons x r ih =>
          intro k j hj
          cases x with
          | dat g cs => have := ih (k + 1) j hj; omega
          | ptr c => cases c with
            | ro cs => have := ih (k + 1) j hj; omega
            | rw cs =>
              rcases List.mem_cons.1 hj with rfl | hj
              · exact Nat.le_refl _
              · have := ih (k + 1) j hj; omega
          | clo f cs =>
            rcases List.mem_cons.1 hj with rfl | hj
            · exact Nat.le_refl _
            · have := ih (k + 1) j hj; omega
      have hg := hge r (i + 1) j hj
      refine hfx j ?_ v' ?_
      · cases ar with
        | dat g cs => exact hj
        | ptr c => cases c with
          | ro cs => exact hj
          | rw cs => exact List.mem_cons_of_mem _ hj
        | clo f cs => exact List.mem_cons_of_mem _ hj
      · rw [show j - i = (j - (i + 1)) + 1 by omega, List.getElem?_cons_succ]
        exact hv
    cases ar with
    | dat g cs =>
      unfold Abs.leaveA at hl
      split at hl
      · rename_i as' ids' hr
        cases hl
        obtain ⟨q1, q2, vs', q3, q4⟩ := h1
        refine ⟨v, us, [], _, rfl, by simp, ⟨rfl, q2, vs', RepL.frame _ _ _ q3 (fun b hb hc => hc.elim (fun hc => (hD b hb hc).2) (fun hc => nomatch hc)) (fun b hb hc => (hD b hb hc).1), q4⟩, Sim.leaveA h hA hD r as' (i + 1) us F2 ids h2 hfx' hr⟩
      · cases hl
    | ptr c =>
      cases c with
      | ro cs =>
        unfold Abs.leaveA at hl
        split at hl
        · rename_i as' ids' hr
          cases hl
          obtain ⟨q1, q2⟩ := h1
          exact ⟨v, us, [], _, rfl, by simp, ⟨rfl, DPRep.frame hD q2⟩, Sim.leaveA h hA hD r as' (i + 1) us F2 ids h2 hfx' hr⟩
        · cases hl
      | rw cs =>
        unfold Abs.leaveA at hl
        split at hl
        · rename_i id he
          split at hl
          · rename_i cs' as' ids' hi hr
            split at hl
            · rename_i hnm
              cases hl
              have hv : a.tmps.getD i undef = v := hfx i List.mem_cons_self v (by simp)
              have hp := h.en i _ he
              obtain ⟨b, n, s1, s2⟩ := hp _ hi cs' rfl
              have h0 := h.ob id _ hi
              cases hL : L id with
              | vals vv => rw [hL] at h0; exact h0.elim
              | blk b' =>
                have : Src.mem b n = Src.mem b' 0 := by rw [show Src.mem b n = (L id).src from s1, hL]; rfl
                cases this
                rw [hL] at h0
                obtain ⟨c, e, g, k1, k2, k3⟩ := h0
                refine ⟨v, us, G id, _, rfl, by simp, ⟨b, c, e, g, by rw [← hv, s2], k1, RepL.hv _ _ _ (RepL.frame _ _ _ k2 (fun _ _ _ => rfl) hA) hnm, k3⟩, Sim.leaveA h hA hD r as' (i + 1) us F2 ids' h2 hfx' hr⟩
            · cases hl
          · cases hl
        · cases hl
    | clo f cs =>
      unfold Abs.leaveA at hl
      split at hl
      · rename_i f' cp he
        split at hl
        · rename_i bs ids1 as' ids2 hc hr
          cases hl
          have hv : a.tmps.getD i undef = v := hfx i List.mem_cons_self v (by simp)
          obtain ⟨us1, e1, hcp⟩ := h.en i _ he
          obtain ⟨us2, e2, hcs⟩ := h1
          have hus : us1 = us2 := by
            rw [hv, e2] at e1
            simp only [Value.func.injEq] at e1
            have := e1.2.2
            exact (by simpa using this.symm)
          subst hus
          refine ⟨v, us, (ids1.map G).flatten, (ids2.map G).flatten, rfl, by rw [List.map_append, List.flatten_append], ⟨us1, e2, h.leaveC hA hD cp cs bs us1 F1 ids1 hcp hcs hc⟩, Sim.leaveA h hA hD r as' (i + 1) us F2 ids2 h2 hfx' hr⟩
        · cases hl
      · cases hl

def keysLt (n : Nat) : List (Nat × Ob) → Bool
  | [] => true
  | (i, _) :: r => Nat.blt i n && keysLt n r
theorem keysLt_none {n : Nat} : ∀ {sg : List (Nat × Ob)}, keysLt n sg = true → ∀ k, n ≤ k → lk sg k = none
  | [], _, k, _ => rfl
  | (i, o) :: r, h, k, hk => by
    simp only [keysLt, Bool.and_eq_true] at h
    have h1 : i < n := by
      have := h.1
      unfold Nat.blt at this
      exact Nat.le_of_ble_eq_true this
    simp only [lk]
    rw [if_neg (by omega)]
    exact keysLt_none h.2 k hk
def allLt (n : Nat) : List Nat → Bool
  | [] => true
  | i :: r => Nat.blt i n && allLt n r
theorem allLt_spec {n : Nat} : ∀ {l : List Nat}, allLt n l = true → ∀ i ∈ l, i < n
  | [], _, i, hi => nomatch hi
  | j :: r, h, i, hi => by
    simp only [allLt, Bool.and_eq_true] at h
    rcases List.mem_cons.1 hi with rfl | hi
    · have := h.1
      unfold Nat.blt at this
      exact Nat.le_of_ble_eq_true this
    · exact allLt_spec h.2 i hi

def rvSem (tmps : Array Value) : ResultVar → Sem Value
  | .tmp t => pure (tmps.getD t undef)
  | .cell a t => do loadVar t (← asAddr (tmps.getD a undef))
theorem results_eq (fn : Func) (tmps : Array Value) : results fn tmps = (do let vs ← fn.results.mapM (rvSem tmps); pure (if h : vs.size = 1 then vs[0] else .tuple vs)) := by
  have : (fun (x : ResultVar) => match x with
    | .tmp t => (pure (tmps.getD t undef) : Sem Value)
    | .cell a t => do loadVar t (← asAddr (tmps.getD a undef))) = rvSem tmps := by
    funext r
    cases r <;> rfl
  unfold results
  rw [← this]
  rfl
theorem resultsRun {P : Program} {w : World} {fn : Func} {tmps : Array Value} {us : List Value} (hl : us.length = fn.results.toList.length) (hu : ∀ (k : Nat) r u, fn.results.toList[k]? = some r → us[k]? = some u → ResIs P w tmps r u) : (results fn tmps).run P w = .ok (resVal us) w := by
  have key : ∀ (rs : List ResultVar) (us : List Value), us.length = rs.length → (∀ (k : Nat) r u, rs[k]? = some r → us[k]? = some u → ResIs P w tmps r u) →
      (rs.mapM (rvSem tmps)).run P w = .ok us w := by
    intro rs
    induction rs with
    | nil =>
      intro us hl _
      have : us = [] := List.eq_nil_of_length_eq_zero (by simpa using hl)
      subst this
      rfl
    | cons r rs ih =>
      intro us hl hu
      cases us with
      | nil => simp at hl
      | cons u us =>
        have h0 := hu 0 r u rfl rfl
        have hr := ih us (by simpa using hl) (fun k r' u' h h' => hu (k + 1) r' u' (by simpa using h) (by simpa using h'))
        cases r with
        | tmp t =>
          cases h0
          simp only [List.mapM_cons, rvSem, Sem.run_bind, Sem.run_pure, Result.andThen_ok, hr]
        | cell t ty =>
          simp only [List.mapM_cons, rvSem]
          rw [Sem.run_bind, show (do loadVar ty (← asAddr (tmps.getD t undef)) : Sem Value).run P w = .ok u w from h0]
          simp only [Result.andThen_ok, Sem.run_bind, hr, Sem.run_pure]
  rw [results_eq, Array.mapM_eq_mapM_toList]
  have hk := key _ us hl hu
  simp only [Sem.run_bind, Sem.run_map, hk, Result.andThen_ok, Sem.run_pure]
  congr 1
  clear hk hu hl key
  rcases us with _ | ⟨v, _ | ⟨v2, r⟩⟩
  · rfl
  · simp [resVal]
  · simp [resVal]

/-- Out of a function: the results, and what was handed over, are as they must be. -/
theorem Good.leave {args outs : List Arg} {F : List Nat} {res : List (Bool × List Cell)} (hC : Good C args F res outs) {fn : Func} (hfx : C.fx = fixed 0 args) {p : St × List (Bool × List Cell × Option Nat)} {ids : List Nat} (hk : keysLt 1000 X.sg = true) (hfin : Abs.fin C.P X 1000 fn.results.toList = some p) (hres : finRes p.2 = res) (hmut : finMut p.2 = true)
    (hlv : Abs.leaveA p.1 0 args = some (outs, ids)) (hids : onceB ids = true) (hidl : allLt 1000 ids = true) : ∀ a w, In C X a w → ∃ v, (results fn a.tmps).run C.P w = .ok v w ∧ C.post v w := by
  rintro a w ⟨L, G, h⟩
  obtain ⟨L', G', us, k1, k2, k3, k4, k5, k6, k7, k8, k9, kA⟩ := Sim.finish _ X 1000 L G p h (keysLt_none hk) hfin
  refine ⟨resVal us, resultsRun k2 k3, ?_⟩
  rw [hC.post]
  have hon := onceB_spec hids
  have hil := allLt_spec hidl
  let Fr := ((finSlots p.2).map G').flatten
  let Fo := (ids.map G').flatten
  have hin : ∀ b ∈ Fr ++ Fo, ∃ i, b ∈ G' i := by
    intro b hb
    rcases List.mem_append.1 hb with hb | hb
    all_goals
      obtain ⟨Fi, hFi, hbF⟩ := List.mem_flatten.1 hb
      obtain ⟨i, hi, rfl⟩ := List.mem_map.1 hFi
      exact ⟨i, hbF⟩
  have hA : ∀ b, b < w.heap.size → C.A G' b → After C.A0 C.w0.heap.size (Fr ++ Fo) b := fun b _ hb => ⟨hb.1, fun hi => by obtain ⟨i, hi⟩ := hin b hi; exact hb.2 i hi⟩
  have hD : ∀ b, b < C.w0.heap.size → C.A0 b → After C.A0 C.w0.heap.size (Fr ++ Fo) b ∧ w.heap[b]? = C.w0.heap[b]? := by
    intro b hb hA0
    have hnF : ¬ C.F0 b := by rw [hC.f0]; exact fun hm => hC.na b hm hA0
    refine ⟨⟨.inl hA0, fun hi => ?_⟩, k1.fr.block b hb hnF⟩
    obtain ⟨i, hi⟩ := hin b hi
    rcases k1.own i b hi with h1 | h1
    · exact hnF h1
    · omega
  refine ⟨us, Fr, Fo, rfl, ?_, ?_, ?_, ?_, ?_⟩
  · rw [← hres]
    exact FinRep.res (A := C.A G') k1 hA p.2 us k4 hmut
  · refine k1.leaveA hA hD args outs 0 C.vs F ids hC.ent (fun j hj v hv => ?_) hlv
    have := k1.fx j (by rw [hfx]; exact hj)
    rw [this, List.getD_eq_getElem?_getD]
    rw [Nat.sub_zero] at hv
    rw [hv]; rfl
  · have : (finSlots p.2 ++ ids).Nodup := by
      rw [List.nodup_append]
      exact ⟨k7, hon, fun x hx y hy hxy => by have := k8 x hx; have := hil y hy; omega⟩
    have key : ∀ (l : List Nat), l.Nodup → ((l.map G').flatten).Nodup := by
      intro l
      induction l with
      | nil => intro _; exact List.nodup_nil
      | cons i r ih =>
        intro hn
        rw [List.nodup_cons] at hn
        rw [List.map_cons, List.flatten_cons, List.nodup_append]
        refine ⟨k1.nd i, ih hn.2, fun x hx y hy hxy => ?_⟩
        subst hxy
        obtain ⟨Fi, hFi, hbF⟩ := List.mem_flatten.1 hy
        obtain ⟨k, hk, rfl⟩ := List.mem_map.1 hFi
        exact hn.1 (k1.dj i k x hx hbF ▸ hk)
    have := key _ this
    rwa [List.map_append, List.flatten_append] at this
  · intro b hb
    obtain ⟨i, hi⟩ := hin b hb
    have := k1.own i b hi
    rw [hC.f0] at this
    exact this
  · have := k1.fr
    rw [hC.f0] at this
    exact this

end
end Go.Proofs.Ytppfilhlblnmcaa.Abs
/- An abstract machine for the walks, part 24: a state made tidy. No condition. -/
set_option linter.unusedVariables false
namespace Go.Proofs.Ytppfilhlblnmcaa.Abs
open Go

def pos : List Nat → Nat → Nat
  | [], _ => 0
  | i :: r, k => if i = k then 0 else pos r k + 1
theorem pos_spec : ∀ {l : List Nat} {i : Nat}, i ∈ l → l[pos l i]? = some i
  | j :: r, i, h => by
    unfold pos
    split
    · rename_i e; subst e; rfl
    · rename_i e
      rcases List.mem_cons.1 h with h | h
      · exact absurd h.symm e
      · rw [List.getElem?_cons_succ]; exact pos_spec h
def renC (ids : List Nat) : List Cap → List Cap
  | [] => []
  | .ob i :: r => .ob (pos ids i) :: renC ids r
  | .ro cs :: r => .ro cs :: renC ids r
def renU (ids : List Nat) : T → T
  | .pl i q j => .pl (pos ids i) q j
  | .bor i q j n g => .bor (pos ids i) q j n g
  | .clo f cs => .clo f (renC ids cs)
  | t => t
def renL (ids : List Nat) : List T → List T
  | [] => []
  | t :: r => renU ids t :: renL ids r
def renT (ids : List Nat) : T → T
  | .tup ts => .tup (renL ids ts)
  | t => renU ids t
def renE (ids : List Nat) : List (Nat × T) → List (Nat × T)
  | [] => []
  | (k, t) :: r => (k, renT ids t) :: renE ids r
def addId (i : Nat) (l : List Nat) : List Nat := if l.contains i then l else l ++ [i]
def addIds : List Nat → List Nat → List Nat
  | [], l => l
  | i :: r, l => addIds r (addId i l)
def idsE : List (Nat × T) → List Nat → List Nat
  | [], l => l
  | (_, t) :: r, l => idsE r (addIds (refs t) l)
def gcS (sg : List (Nat × Ob)) : Nat → List Nat → List (Nat × Ob)
  | _, [] => []
  | k, i :: r => match lk sg i with
    | some o => (k, o) :: gcS sg (k + 1) r
    | none => gcS sg (k + 1) r
def keep (vs : List Nat) : List (Nat × T) → List (Nat × T)
  | [] => []
  | (k, t) :: r => if vs.contains k then (k, t) :: keep vs r else keep vs r
/-- Only these slots are told of; the objects are numbered anew. -/
def tidy (vs : List Nat) (X : St) : St :=
  ⟨renE (idsE (keep vs X.env) []) (keep vs X.env), gcS X.sg 0 (idsE (keep vs X.env) [])⟩

theorem lk_keep {vs : List Nat} : ∀ {env : List (Nat × T)} {t : Nat} {x : T}, lk (keep vs env) t = some x → lk env t = some x
  | [], t, x, h => h
  | (k, y) :: r, t, x, h => by
    unfold keep at h
    split at h
    · simp only [lk] at h ⊢
      split at h
      · rename_i e; rw [if_pos e]; exact h
      · rename_i e; rw [if_neg e]; exact lk_keep h
    · rename_i hk
      simp only [lk]
      by_cases e : k = t
      · -- not among those that are kept
        exfalso
        subst e
        have : ∀ (env : List (Nat × T)) (y : T), lk (keep vs env) k = some y → vs.contains k = true := by
          intro env
          induction env with
          | nil => intro y h; cases h
          | cons p r ih =>
            intro y h
            obtain ⟨a, b⟩ := p
            unfold keep at h
            split at h
            · simp only [lk] at h
              split at h
              · rename_i h1 h2; rw [← h2]; exact h1
              · exact ih y h
            · exact ih y h
        exact hk (this r x h)
      · rw [if_neg e]; exact lk_keep h
theorem addId_mem {i j : Nat} {l : List Nat} (h : j ∈ l) : j ∈ addId i l := by
  unfold addId; split
  · exact h
  · exact List.mem_append.2 (.inl h)
theorem addId_self {i : Nat} {l : List Nat} : i ∈ addId i l := by
  unfold addId; split
  · rename_i h; simpa using h
  · simp
theorem addIds_mem : ∀ (r l : List Nat), (∀ j ∈ l, j ∈ addIds r l) ∧ ∀ j ∈ r, j ∈ addIds r l
  | [], l => ⟨fun j h => h, fun j h => nomatch h⟩
  | i :: r, l => by
    obtain ⟨h1, h2⟩ := addIds_mem r (addId i l)
    refine ⟨fun j h => h1 j (addId_mem h), fun j h => ?_⟩
    rcases List.mem_cons.1 h with rfl | h
    · exact h1 _ addId_self
    · exact h2 j h
theorem idsE_mem : ∀ (env : List (Nat × T)) (l : List Nat), (∀ j ∈ l, j ∈ idsE env l) ∧ ∀ t x, lk env t = some x → ∀ j ∈ refs x, j ∈ idsE env l
  | [], l => ⟨fun j h => h, fun t x h => nomatch h⟩
  | (k, y) :: r, l => by
    obtain ⟨h1, h2⟩ := idsE_mem r (addIds (refs y) l)
    obtain ⟨g1, g2⟩ := addIds_mem (refs y) l
    refine ⟨fun j h => h1 j (g1 j h), fun t x hx j hj => ?_⟩
    simp only [lk] at hx
    split at hx
    · cases hx; exact h1 j (g2 j hj)
    · exact h2 t x hx j hj
theorem gcS_lk (sg : List (Nat × Ob)) : ∀ (ids : List Nat) (k p i : Nat), ids[p]? = some i → lk (gcS sg k ids) (k + p) = lk sg i
  | [], k, p, i, h => by simp at h
  | j :: r, k, p, i, h => by
    have hlow : ∀ (ids : List Nat) (k m : Nat), m < k → lk (gcS sg k ids) m = none := by
      intro ids
      induction ids with
      | nil => intro k m _; rfl
      | cons a r ih =>
        intro k m hm
        simp only [gcS]
        split
        · simp only [lk]; rw [if_neg (by omega)]; exact ih (k + 1) m (by omega)
        · exact ih (k + 1) m (by omega)
    cases p with
    | zero =>
      simp only [List.getElem?_cons_zero, Option.some.injEq] at h
      subst h
      simp only [gcS, Nat.add_zero]
      split
      · rename_i o ho; simp only [lk, if_true, ho]
      · rename_i ho; rw [ho]; exact hlow r (k + 1) k (by omega)
    | succ p =>
      have ih := gcS_lk sg r (k + 1) p i (by simpa using h)
      rw [show k + (p + 1) = k + 1 + p by omega]
      simp only [gcS]
      split
      · simp only [lk]; rw [if_neg (by omega)]; exact ih
      · exact ih
theorem gcS_some (sg : List (Nat × Ob)) : ∀ (ids : List Nat) (k m : Nat) (o : Ob), lk (gcS sg k ids) m = some o → k ≤ m ∧ ∃ i, ids[m - k]? = some i ∧ lk sg i = some o
  | [], k, m, o, h => by cases h
  | j :: r, k, m, o, h => by
    simp only [gcS] at h
    have tail : lk (gcS sg (k + 1) r) m = some o → k ≤ m ∧ ∃ i, (j :: r)[m - k]? = some i ∧ lk sg i = some o := by
      intro h
      obtain ⟨h1, i, h2, h3⟩ := gcS_some sg r (k + 1) m o h
      refine ⟨by omega, i, ?_, h3⟩
      rw [show m - k = (m - (k + 1)) + 1 by omega, List.getElem?_cons_succ]
      exact h2
    split at h
    · rename_i o' ho'
      simp only [lk] at h
      split at h
      · rename_i e
        subst e
        cases h
        exact ⟨Nat.le_refl _, j, by simp, ho'⟩
      · exact tail h
    · exact tail h
theorem renE_lk {ids : List Nat} : ∀ {env : List (Nat × T)} {t : Nat} {y : T}, lk (renE ids env) t = some y → ∃ x, lk env t = some x ∧ y = renT ids x
  | [], t, y, h => by cases h
  | (k, x) :: r, t, y, h => by
    simp only [renE, lk] at h ⊢
    split at h
    · rename_i e; cases h; exact ⟨x, if_pos e, rfl⟩
    · rename_i e; rw [if_neg e]; exact renE_lk h
theorem capIds_renC {ids : List Nat} : ∀ (cs : List Cap), capIds (renC ids cs) = (capIds cs).map (pos ids)
  | [] => rfl
  | .ob i :: r => by simp only [renC, capIds, List.map_cons, capIds_renC r]
  | .ro cs :: r => by simp only [renC, capIds, capIds_renC r]
theorem refU_ren {ids : List Nat} (t : T) : refU (renU ids t) = (refU t).map (pos ids) := by
  cases t with
  | clo f cs => exact capIds_renC cs
  | _ => rfl

theorem once_inj : ∀ {l : List Nat} {i j x : Nat}, l.Nodup → l[i]? = some x → l[j]? = some x → i = j
  | [], i, j, x, _, h, _ => by simp at h
  | y :: r, i, j, x, hn, h, h' => by
    rw [List.nodup_cons] at hn
    cases i with
    | zero =>
      cases j with
      | zero => rfl
      | succ j =>
        simp only [List.getElem?_cons_zero, Option.some.injEq] at h
        subst h
        exact absurd (List.mem_of_getElem? (by simpa using h')) hn.1
    | succ i =>
      cases j with
      | zero =>
        simp only [List.getElem?_cons_zero, Option.some.injEq] at h'
        subst h'
        exact absurd (List.mem_of_getElem? (by simpa using h)) hn.1
      | succ j => exact congrArg (· + 1) (once_inj (x := x) hn.2 (by simpa using h) (by simpa using h'))

section
variable {C : Cx} {X X' : St} {a : Act} {w w' : World} {L L' : Nat → Loc} {G G' : Nat → List Nat}

theorem RepU.ren {A A' : Nat → Prop} {hv : Nat → Value} {sg sg' : List (Nat × Ob)} {ids : List Nat} (hA : ∀ b, b < w.heap.size → A b → A' b) (hp : ∀ i ∈ ids, lk sg' (pos ids i) = lk sg i ∧ L' (pos ids i) = L i) : ∀ (t : T) (v : Value), (∀ i ∈ refU t, i ∈ ids) → RepU w A hv L sg t v → RepU w A' hv L' sg' (renU ids t) v
  | .dat g cs, v, hr, h => by
    obtain ⟨h1, vs, h2, h3⟩ := h
    exact ⟨h1, vs, RepL.frame _ _ _ h2 (fun _ _ _ => rfl) hA, h3⟩
  | .tup _, v, hr, h => h
  | .dp cs, v, hr, h => DPRep.mono h hA
  | .pl id q j, v, hr, h => by
    obtain ⟨h1, h2⟩ := hp id (hr id (by simp [refU]))
    intro ob ho rs hrs
    rw [h1] at ho
    rw [h2]
    exact h ob ho rs hrs
  | .bor id q j n g, v, hr, h => by
    obtain ⟨h1, h2⟩ := hp id (hr id (by simp [refU]))
    intro ob ho rs hrs hle
    rw [h1] at ho
    rw [h2]
    exact h ob ho rs hrs hle
  | .clo f cs, v, hr, h => by
    obtain ⟨us, rfl, hc⟩ := h
    refine ⟨us, rfl, ?_⟩
    have key : ∀ (cs : List Cap) (us : List Value), (∀ i ∈ capIds cs, i ∈ ids) → caps w A hv L sg cs us → caps w A' hv L' sg' (renC ids cs) us := by
      intro cs
      induction cs with
      | nil => intro us _ h; exact h
      | cons c r ih =>
        intro us hin h
        cases c with
        | ob i =>
          obtain ⟨b, us', rfl, hb, hr⟩ := h
          obtain ⟨h1, h2⟩ := hp i (hin i List.mem_cons_self)
          exact ⟨b, us', rfl, fun cs hcs => by rw [h2]; exact hb cs (by rw [← h1]; exact hcs), ih us' (fun j hj => hin j (List.mem_cons_of_mem _ hj)) hr⟩
        | ro cs =>
          obtain ⟨v, us', rfl, hv, hr⟩ := h
          exact ⟨v, us', rfl, hv.mono hA, ih us' hin hr⟩
    exact key cs us hr hc

theorem idsE_nodup : ∀ (env : List (Nat × T)) (l : List Nat), l.Nodup → (idsE env l).Nodup := by
  have h1 : ∀ (i : Nat) (l : List Nat), l.Nodup → (addId i l).Nodup := by
    intro i l h
    unfold addId
    split
    · exact h
    · rename_i hc
      rw [List.nodup_append]
      refine ⟨h, by simp, fun x hx y hy hxy => ?_⟩
      simp at hy
      subst hy
      subst hxy
      exact hc (by simpa using hx)
  have h2 : ∀ (r l : List Nat), l.Nodup → (addIds r l).Nodup := by
    intro r
    induction r with
    | nil => intro l h; exact h
    | cons i r ih => intro l h; exact ih _ (h1 i l h)
  intro env
  induction env with
  | nil => intro l h; exact h
  | cons p r ih => intro l h; exact ih _ (h2 _ _ h)

theorem Sim.tidy (h : Sim C X a w L G) (vs : List Nat) : ∃ L' G', Sim C (Abs.tidy vs X) a w L' G' := by
  generalize hids : idsE (keep vs X.env) [] = ids
  have hin : ∀ t x, lk (keep vs X.env) t = some x → ∀ j ∈ refs x, j ∈ ids := by rw [← hids]; exact (idsE_mem _ _).2
  have hnd : ids.Nodup := by rw [← hids]; exact idsE_nodup _ _ List.nodup_nil
  let L' : Nat → Loc := fun k => match ids[k]? with
    | some i => L i
    | none => L k
  let G' : Nat → List Nat := fun k => match ids[k]? with
    | some i => G i
    | none => []
  have hL' : ∀ i ∈ ids, L' (pos ids i) = L i := fun i hi => by simp only [L', pos_spec hi]
  have hGk : ∀ k, (∃ i, ids[k]? = some i ∧ G' k = G i) ∨ G' k = [] := by
    intro k
    cases hk : ids[k]? with
    | some i => exact .inl ⟨i, rfl, by simp only [G', hk]⟩
    | none => exact .inr (by simp only [G', hk])
  have hsg : ∀ i ∈ ids, lk (gcS X.sg 0 ids) (pos ids i) = lk X.sg i := fun i hi => by
    have := gcS_lk X.sg ids 0 (pos ids i) i (pos_spec hi)
    rwa [Nat.zero_add] at this
  have hA : ∀ b, C.A G b → C.A G' b := fun b hb => ⟨hb.1, fun k hk => by
    rcases hGk k with ⟨i, _, e⟩ | e
    · rw [e] at hk; exact hb.2 i hk
    · rw [e] at hk; cases hk⟩
  have htd : Abs.tidy vs X = ⟨renE ids (keep vs X.env), gcS X.sg 0 ids⟩ := by simp only [Abs.tidy, hids]
  rw [htd]
  refine ⟨L', G', { ob := ?_, no := ?_, nd := ?_, dj := ?_, own := ?_, en := ?_, rf := ?_, fr := h.fr, df := h.df, fx := h.fx, nt := h.nt }⟩
  · intro k o hk
    obtain ⟨_, i, h1, h2⟩ := gcS_some X.sg ids 0 k o hk
    rw [Nat.sub_zero] at h1
    have e1 : L' k = L i := by simp only [L', h1]
    have e2 : G' k = G i := by simp only [G', h1]
    rw [e1, e2]
    exact (h.ob i o h2).frame (fun _ _ _ => rfl) (fun b _ hb => hA b hb)
  · intro k hk
    cases hi : ids[k]? with
    | some i =>
      have := gcS_lk X.sg ids 0 k i hi
      rw [Nat.zero_add] at this
      have hk' : lk (gcS X.sg 0 ids) k = none := hk
      rw [hk'] at this
      have e2 : G' k = G i := by simp only [G', hi]
      rw [e2]
      exact h.no i this.symm
    | none => simp only [G', hi]
  · intro k
    rcases hGk k with ⟨i, _, e⟩ | e
    · rw [e]; exact h.nd i
    · rw [e]; exact List.nodup_nil
  · intro k m b hk hm
    rcases hGk k with ⟨i, h1, e⟩ | e
    · rcases hGk m with ⟨j, h2, e'⟩ | e'
      · rw [e] at hk
        rw [e'] at hm
        have := h.dj i j b hk hm
        subst this
        exact once_inj hnd h1 h2
      · rw [e'] at hm; cases hm
    · rw [e] at hk; cases hk
  · intro k b hk
    rcases hGk k with ⟨i, _, e⟩ | e
    · rw [e] at hk; exact h.own i b hk
    · rw [e] at hk; cases hk
  · intro t y hy
    obtain ⟨x, hx, rfl⟩ := renE_lk hy
    have hrep := h.en t x (lk_keep hx)
    have hri := hin t x hx
    have hp : ∀ i ∈ ids, lk (gcS X.sg 0 ids) (pos ids i) = lk X.sg i ∧ L' (pos ids i) = L i := fun i hi => ⟨hsg i hi, hL' i hi⟩
    cases x with
    | tup ts =>
      obtain ⟨vv, hv, hl, hk⟩ := hrep
      have hlen : ∀ (ts : List T), (renL ids ts).length = ts.length := by
        intro ts; induction ts with
        | nil => rfl
        | cons t r ih => simp [renL, ih]
      have hget : ∀ (ts : List T) (i : Nat) (t : T), (renL ids ts)[i]? = some t → ∃ u, ts[i]? = some u ∧ t = renU ids u := by
        intro ts
        induction ts with
        | nil => intro i t h; simp [renL] at h
        | cons t0 r ih =>
          intro i t h
          cases i with
          | zero => simp only [renL, List.getElem?_cons_zero, Option.some.injEq] at h; exact ⟨t0, rfl, h.symm⟩
          | succ i => simp only [renL, List.getElem?_cons_succ] at h ⊢; exact ih i t h
      refine ⟨vv, hv, by rw [hl, hlen], fun i t' u' ht hu => ?_⟩
      obtain ⟨t0, ht0, rfl⟩ := hget ts i t' ht
      refine RepU.ren (fun b _ hb => hA b hb) hp t0 u' (fun j hj => hri j ?_) (hk i t0 u' ht0 hu)
      simp only [refs, List.mem_flatten, List.mem_map]
      exact ⟨refU t0, ⟨t0, List.mem_of_getElem? ht0, rfl⟩, hj⟩
    | dat g cs => exact RepU.ren (hv := C.hv) (fun b _ hb => hA b hb) hp (.dat g cs) _ hri hrep
    | dp cs => exact RepU.ren (hv := C.hv) (fun b _ hb => hA b hb) hp (.dp cs) _ hri hrep
    | pl i' q' j' => exact RepU.ren (hv := C.hv) (fun b _ hb => hA b hb) hp (.pl i' q' j') _ hri hrep
    | bor i' q' j' n' g => exact RepU.ren (hv := C.hv) (fun b _ hb => hA b hb) hp (.bor i' q' j' n' g) _ hri hrep
    | clo f cs => exact RepU.ren (hv := C.hv) (fun b _ hb => hA b hb) hp (.clo f cs) _ hri hrep
  · intro t y hy i hi
    obtain ⟨x, hx, rfl⟩ := renE_lk hy
    have hri := hin t x hx
    have hmem : ∃ j ∈ refs x, i = pos ids j := by
      cases x with
      | tup ts =>
        have : ∀ (ts : List T), i ∈ ((renL ids ts).map refU).flatten → ∃ j ∈ (ts.map refU).flatten, i = pos ids j := by
          intro ts
          induction ts with
          | nil => intro h; cases h
          | cons t0 r ih =>
            intro h
            simp only [renL, List.map_cons, List.flatten_cons, List.mem_append] at h ⊢
            rcases h with h | h
            · rw [refU_ren] at h
              obtain ⟨j, hj, e⟩ := List.mem_map.1 h
              exact ⟨j, .inl hj, e.symm⟩
            · obtain ⟨j, hj, e⟩ := ih h
              exact ⟨j, .inr hj, e⟩
        exact this ts hi
      | dat g cs => cases hi
      | dp cs => cases hi
      | pl i' q' j' =>
        simp only [renT, renU, refs, refU, List.mem_singleton] at hi ⊢
        exact ⟨i', rfl, hi⟩
      | bor i' q' j' n' g =>
        simp only [renT, renU, refs, refU, List.mem_singleton] at hi ⊢
        exact ⟨i', rfl, hi⟩
      | clo f cs =>
        have hi' : i ∈ capIds (renC ids cs) := hi
        rw [capIds_renC] at hi'
        obtain ⟨j, hj, e⟩ := List.mem_map.1 hi'
        exact ⟨j, hj, e.symm⟩
    obtain ⟨j, hj, rfl⟩ := hmem
    show lk (gcS X.sg 0 ids) (pos ids j) ≠ none
    rw [hsg j (hri j hj)]
    exact h.rf t x (lk_keep hx) j hj

/-- A state may be made tidy. -/
theorem Ok.tidy {K : List Item} (vs : List Nat) (h : Ok C K (Abs.tidy vs X)) : Ok C K X := by
  rintro a w ⟨L, G, hs⟩ cs
  obtain ⟨L', G', hs'⟩ := hs.tidy vs
  exact h a w ⟨L', G', hs'⟩ cs

end
end Go.Proofs.Ytppfilhlblnmcaa.Abs
/- An abstract machine for the walks, part 25: a region as one goal; elements of lists. No condition. -/
set_option linter.unusedVariables false
namespace Go.Proofs.Ytppfilhlblnmcaa.Abs
open Go

def isCall : Op → Bool
  | .call { callee := .value _, .. } => true
  | _ => false
/-- Behind a call, k. -/
def CallR (an : An) (C : Cx) (X : St) (o : Oper) (slot : Nat) (k : St → Prop) : Prop :=
  (∃ X', SemStep C X o X' ∧ k X') ∨ ∃ (f : Operand) (xs : Array Operand) (ts : Array TypeId) (fid : FuncId) (args outs : List Arg) (l m : List Nat) (res : List (Bool × List Cell)) (X' : St),
    o.op = .call { callee := .value f, args := xs, argTypes := ts } ∧ prep an X f xs.toList = some (fid, args, l, m) ∧ ACalls C.P fid args res outs ∧ after C.nt C.fx X args outs l m res slot o.dst = some X' ∧ k X'
/-- The operations with these numbers, then K. -/
def goR (an : An) (C : Cx) (ops : Array Oper) (K : List Item) : List Nat → St → Prop
  | [], X => Ok C K X
  | i :: r, X => match ops[i]? with
    | none => False
    | some o => match want X ops o with
      | none => False
      | some false => match o.dst with
        | some d => (d ∉ C.fx ∧ d < C.nt) ∧ goR an C ops K r { X with env := ins X.env d uT }
        | none => False
      | some true => match isCall o.op with
        | true => CallR an C X o (100 + 8 * i) (goR an C ops K r)
        | false => match act1 C.P C.nt C.fx X o (100 + 8 * i) with
          | some Y => goR an C ops K r Y
          | none => False

section
variable {an : An} {C : Cx} {X X' : St} {ops : Array Oper} {K : List Item}
theorem goR.run : ∀ (l : List Nat) (X : St), goR an C ops K l X → ∃ X', Run an C ops 100 l X X' ∧ Ok C K X'
  | [], X, h => ⟨X, rfl, h⟩
  | i :: r, X, h => by
    unfold goR at h
    split at h
    · exact h.elim
    · rename_i o ho
      split at h
      · exact h.elim
      · rename_i hw
        split at h
        · rename_i d hd
          obtain ⟨⟨hfx, hnt⟩, h⟩ := h
          obtain ⟨X', h1, h2⟩ := goR.run r _ h
          exact ⟨X', ⟨o, _, ho, .skip hw hd hfx hnt, h1⟩, h2⟩
        · exact h.elim
      · rename_i hw
        split at h
        · obtain ⟨Y, q1, q2⟩ | ⟨f, xs, ts, fid, args, outs, l, m, res, Y, q1, q2, q3, q4, q5⟩ := h
          · obtain ⟨X', h1, h2⟩ := goR.run r _ q2
            exact ⟨X', ⟨o, Y, ho, .sem hw q1, h1⟩, h2⟩
          obtain ⟨X', h1, h2⟩ := goR.run r _ q5
          exact ⟨X', ⟨o, Y, ho, .call hw q1 q2 q3 q4, h1⟩, h2⟩
        · split at h
          · rename_i Y hY
            obtain ⟨X', h1, h2⟩ := goR.run r _ h
            exact ⟨X', ⟨o, Y, ho, .step hw hY, h1⟩, h2⟩
          · exact h.elim
theorem Ok.go {id : Nat} (h : goR an C ops K (List.range ops.size) X) : Ok C (.code (.region id ops false) :: K) X := by
  obtain ⟨X', h1, h2⟩ := goR.run _ X h
  exact Ok.reg h1 h2
theorem CallR.mk {o : Oper} {slot : Nat} {k : St → Prop} {f : Operand} {xs : Array Operand} {ts : Array TypeId} {fid : FuncId} {args outs : List Arg} {l m : List Nat} {res : List (Bool × List Cell)} (hc : ACalls C.P fid args res outs) (ho : o.op = .call { callee := .value f, args := xs, argTypes := ts }) (hp : prep an X f xs.toList = some (fid, args, l, m))
    (hx : after C.nt C.fx X args outs l m res slot o.dst = some X') (hk : k X') : CallR an C X o slot k := .inr ⟨f, xs, ts, fid, args, outs, l, m, res, X', ho, hp, hc, hx, hk⟩
end

/-! Lists of elements, each of s cells. -/
section
variable {α : Type} {e : α → List Cell} {s : Nat}
theorem len_map (hs : ∀ x, (e x).length = s) : ∀ (l : List α), (l.flatMap e).length = l.length * s
  | [] => by simp
  | x :: l => by rw [List.flatMap_cons, List.length_append, hs, len_map hs l, List.length_cons, Nat.succ_mul]; omega
theorem div_map (hs : ∀ x, (e x).length = s) (h0 : 0 < s) (l : List α) : (l.flatMap e).length / s = l.length := by
  rw [len_map hs]; exact Nat.mul_div_cancel _ h0
theorem drop_map (hs : ∀ x, (e x).length = s) : ∀ (l : List α) (n : Nat), (l.flatMap e).drop (n * s) = (l.drop n).flatMap e
  | [], n => by simp
  | x :: l, 0 => by simp
  | x :: l, n + 1 => by
    rw [List.flatMap_cons, Nat.succ_mul, Nat.add_comm, ← List.drop_drop]
    rw [show ((e x ++ l.flatMap e).drop s) = l.flatMap e by rw [← hs x, List.drop_left]]
    rw [List.drop_succ_cons]
    exact drop_map hs l n
theorem take_map (hs : ∀ x, (e x).length = s) : ∀ (l : List α) (n : Nat), (l.flatMap e).take (n * s) = (l.take n).flatMap e
  | [], n => by simp
  | x :: l, 0 => by simp
  | x :: l, n + 1 => by
    rw [List.flatMap_cons, Nat.succ_mul, Nat.add_comm, List.take_add, List.take_succ_cons, List.flatMap_cons]
    rw [show ((e x ++ l.flatMap e).take s) = e x by rw [← hs x, List.take_left]]
    rw [show ((e x ++ l.flatMap e).drop s) = l.flatMap e by rw [← hs x, List.drop_left]]
    rw [take_map hs l n]
theorem row_map (hs : ∀ x, (e x).length = s) (z : α) (l : List α) (n : Nat) (hn : n < l.length) : ((l.flatMap e).drop (n * s)).take s = e (l.getD n z) := by
  rw [drop_map hs]
  have : l.drop n = l[n] :: l.drop (n + 1) := by rw [List.drop_eq_getElem_cons hn]
  rw [this, List.flatMap_cons, ← hs l[n], List.take_left, List.getD_eq_getElem?_getD, List.getElem?_eq_getElem hn]
  rfl
theorem idx_map (hs : ∀ x, (e x).length = s) (z : α) (l : List α) (i : Int) (h0 : 0 ≤ i) (h1 : i < l.length) : idx s (l.flatMap e) i = some (e (l.getD i.toNat z)) := by
  have hn : i.toNat < l.length := by omega
  unfold idx
  rw [if_pos, row_map hs z l _ hn]
  refine ⟨h0, ?_⟩
  rw [len_map hs]
  exact Nat.mul_le_mul_right _ (by omega)
theorem set_map (hs : ∀ x, (e x).length = s) (l : List α) (n : Nat) (hn : n < l.length) (x : α) : (l.flatMap e).take (n * s) ++ e x ++ (l.flatMap e).drop ((n + 1) * s) = (l.set n x).flatMap e := by
  rw [take_map hs, drop_map hs, List.set_eq_take_append_cons_drop, if_pos hn, List.flatMap_append, List.flatMap_cons]
  simp
theorem snoc_map (l : List α) (x : α) : l.flatMap e ++ e x = (l ++ [x]).flatMap e := by simp
end

end Go.Proofs.Ytppfilhlblnmcaa.Abs
/- An abstract machine for the walks, part 26: what a value hangs on. No condition. -/
set_option linter.unusedVariables false
namespace Go.Proofs.Ytppfilhlblnmcaa.Abs
open Go

section
variable {P : Program} {X X' : St} {o : Oper}
theorem cont_congr (hs : X'.sg = X.sg) (id : Nat) (q : Option (Nat × Nat)) (j n : Nat) : cont X' id q j n = cont X id q j n := by
  unfold cont
  rw [hs]
theorem scal_congr {x : Operand} (h : look X' x = look X x) : scal X' x = scal X x := by
  unfold scal
  rw [h]
theorem slc_congr (hs : X'.sg = X.sg) {x : Operand} (h : look X' x = look X x) : slc X' x = slc X x := by
  unfold slc
  simp only [h, cont_congr hs]
theorem capOb_congr (hs : X'.sg = X.sg) : ∀ (l : List Operand), (∀ x ∈ l, look X' x = look X x) → capOb X' l = capOb X l
  | [], _ => rfl
  | x :: r, h => by
    simp only [capOb, h x (List.mem_cons_self ..), capOb_congr hs r (fun y hy => h y (List.mem_cons_of_mem _ hy)), hs]
theorem bnd_congr {x : Option Operand} {m d : Nat} (h : ∀ y, x = some y → look X' y = look X y) : bnd X' x m d = bnd X x m d := by
  unfold bnd
  cases x with
  | none => rfl
  | some y => simp only [scal_congr (h y rfl)]
theorem evV_congr (hs : X'.sg = X.sg) (h : ∀ x ∈ o.op.operands, look X' x = look X x) : evV P X' o = evV P X o := by
  obtain ⟨dst, op, type, pos, after, guard⟩ := o
  cases op <;> simp only [Op.operands] at h <;> simp only [evV]
  case move x => rw [h x (by simp)]
  case assign x => rw [h x (by simp)]
  case pick c x y => rw [scal_congr (h c (by simp)), h x (by simp), h y (by simp)]
  case load t x => simp only [evLoad, h x (by simp), cont_congr hs]
  case fieldAddr t x f => simp only [evField, h x (by simp), cont_congr hs]
  case indexAddr t x i => simp only [evIndex, h x (by simp), scal_congr (h i (by simp)), cont_congr hs]
  case nilCheck x => simp only [h x (by simp), cont_congr hs]
  case extract x k => simp only [h x (by simp)]
  case makeFunc f fst cs =>
    cases f <;> simp only
    rw [capOb_congr hs cs.toList (fun x hx => h x (by simp; exact .inr (by simpa using hx)))]
  case binOp op t x y t2 => simp only [scal_congr (h x (by simp)), scal_congr (h y (by simp)), h x (by simp), h y (by simp)]
  case unOp op t x => simp only [scal_congr (h x (by simp))]
  case index t x i => simp only [evStrIx, scal_congr (h x (by simp)), scal_congr (h i (by simp))]
  case slice t x lo hi mx =>
    cases mx <;> simp only
    have h1 : ∀ m d, bnd X' lo m d = bnd X lo m d := fun m d => bnd_congr (fun y hy => h y (by subst hy; simp))
    have h2 : ∀ m d, bnd X' hi m d = bnd X hi m d := fun m d => bnd_congr (fun y hy => h y (by subst hy; simp))
    simp only [evSlice, h x (by simp), scal_congr (h x (by simp)), h1, h2]
  case convert s d x => simp only [evConv, scal_congr (h x (by simp)), slc_congr hs (h x (by simp))]
  case call c =>
    obtain ⟨callee, args, ats⟩ := c
    simp only [Call.operands] at h
    cases callee with
    | value f => rfl
    | invoke r m => rfl
    | builtin b =>
      have ha : ∀ x ∈ args, look X' x = look X x := fun x hx => h x (by simpa using hx)
      obtain ⟨l⟩ := args
      obtain ⟨m⟩ := ats
      have h1 : ∀ x t, evLen P X' t x = evLen P X t x ∨ look X' x ≠ look X x := fun x t => by
        by_cases e : look X' x = look X x
        · exact .inl (by unfold evLen; rw [slc_congr hs e, scal_congr e])
        · exact .inr e
      cases b <;> try rfl
      case len => rcases l with _ | ⟨x, _ | ⟨y, l⟩⟩ <;> try rfl
                  rcases m with _ | ⟨t, _ | ⟨u, m⟩⟩ <;> try rfl
                  exact (h1 x t).resolve_right (fun e => e (ha x (by simp)))
      case max => rcases l with _ | ⟨x, _ | ⟨y, _ | ⟨z, l⟩⟩⟩ <;> try rfl
                  simp only [scal_congr (ha x (by simp)), scal_congr (ha y (by simp))]
      case min => rcases l with _ | ⟨x, _ | ⟨y, _ | ⟨z, l⟩⟩⟩ <;> try rfl
                  simp only [scal_congr (ha x (by simp)), scal_congr (ha y (by simp))]
end
end Go.Proofs.Ytppfilhlblnmcaa.Abs
/- An abstract machine for the walks, part 27: a region whose order is drawn. No condition. -/
set_option linter.unusedVariables false
namespace Go.Proofs.Ytppfilhlblnmcaa.Abs
open Go

def predsD (ops : Array Oper) (i : Nat) : List Nat := match ops[i]? with
  | some o => (o.after.toList.filter (Region.binds .any)).map (·.on)
  | none => []
def dstD (ops : Array Oper) (i : Nat) : List Nat := match ops[i]? with
  | some o => o.dst.toList
  | none => []
def looksD (ops : Array Oper) (i : Nat) : List Nat := match ops[i]? with
  | some o => o.looksAt ops
  | none => []
def ancD (ops : Array Oper) : List Nat → List Nat → List Nat
  | A, [] => A
  | A, j :: r => if A.contains j then ancD ops (A ++ predsD ops j) r else ancD ops A r

/-- Those that are done ahead. -/
def earlyD (r : List (Nat × Option (List Nat))) : List Nat := (r.filter fun p => p.2.isNone).map (·.1)
/-- One that is done ahead may change places with any other, or they are ordered. -/
def pairsD (ops : Array Oper) (es l : List Nat) : Bool := es.all fun i => l.all fun j => (dstD ops i).all fun d => (!(looksD ops j).contains d || (predsD ops j).contains i) && (i == j || !(dstD ops j).contains d)
/-- The order that is walked: an operation that turns memory comes with those that may then still be due. -/
def orderD (ops : Array Oper) : List Nat → List Nat → List (Nat × Option (List Nat)) → Bool
  | _, _, [] => true
  | before, pend, (i, p) :: r => decide (i < ops.size) && !before.contains i && (predsD ops i).all before.contains && (match p with
    | none => orderD ops (i :: before) (i :: pend) r
    | some q => q.all pend.contains && (pend.all fun j => (ancD ops (predsD ops i) pend).contains j || q.contains j) && ((r.map (·.1)).all fun j => (predsD ops j).any fun p => p == i || (r.map (·.1)).contains p) && orderD ops (i :: before) q r)
def drawD (ops : Array Oper) (l : List (Nat × Option (List Nat))) : Bool :=
  l.length == ops.size && orderD ops [] [] l && pairsD ops (earlyD l) (l.map (·.1)) && Region.noSelect ops && (List.range ops.size).all (l.map (·.1)).contains

/-- Frame b is frame a but for the slots D. -/
def Agree (D : List Nat) (a b : Act) : Prop := b.defers = a.defers ∧ b.tmps.size = a.tmps.size ∧ ∀ t, t ∉ D → b.tmps[t]? = a.tmps[t]?

section
variable {D : List Nat} {a b : Act} {w : World} {ops : Array Oper} {o : Oper} {P : Program}
theorem Agree.nil (h : Agree [] a b) : b = a := by
  obtain ⟨t, d⟩ := a
  obtain ⟨t', d'⟩ := b
  obtain ⟨h1, h2, h3⟩ := h
  simp only at h1 h2 h3
  subst h1
  have : t' = t := Array.ext_getElem? (fun i => h3 i (by simp))
  rw [this]
theorem Agree.refl (D : List Nat) (a : Act) : Agree D a a := ⟨rfl, rfl, fun _ _ => rfl⟩
theorem Agree.put (h : Agree D a b) (x : Option Tmp) (v : Value) : Agree D (a.put x v) (b.put x v) := by
  cases x with
  | none => exact h
  | some d =>
    obtain ⟨h1, h2, h3⟩ := h
    refine ⟨h1, by simp [Act.put, h2], fun t ht => ?_⟩
    simp only [Act.put]
    by_cases e : d = t
    · subst e
      simp only [Array.getElem?_setIfInBounds_self, h2]
    · rw [Array.getElem?_setIfInBounds_ne e, Array.getElem?_setIfInBounds_ne e]
      exact h3 t ht
theorem Agree.due (h : Agree D a b) {d : Nat} (v : Value) : Agree (d :: D) a (b.put (some d) v) := by
  obtain ⟨h1, h2, h3⟩ := h
  refine ⟨h1, by simp [Act.put, h2], fun t ht => ?_⟩
  simp only [List.mem_cons, not_or] at ht
  simp only [Act.put]
  rw [Array.getElem?_setIfInBounds_ne (Ne.symm ht.1)]
  exact h3 t ht.2
theorem Agree.done (h : Agree D a b) {d : Nat} (v : Value) {D' : List Nat} (hD : ∀ t ∈ D, t = d ∨ t ∈ D') : Agree D' (a.put (some d) v) (b.put (some d) v) := by
  have h0 := h.put (some d) v
  obtain ⟨h1, h2, h3⟩ := h0
  refine ⟨h1, h2, fun t ht => ?_⟩
  by_cases e : d = t
  · subst e
    simp only [Act.put, Array.getElem?_setIfInBounds_self, h.2.1]
  · exact h3 t (fun hc => (hD t hc).elim (fun e' => e e'.symm) ht)
theorem Agree.eval (h : Agree D a b) {x : Operand} (hx : ∀ t, x = .tmp t → t ∉ D) : b.eval x = a.eval x := by
  cases x with
  | tmp t => simp only [Act.eval, Array.getD_eq_getD_getElem?, h.2.2 t (hx t rfl)]
  | _ => rfl
theorem Agree.exec (h : Agree D a b) (hs : ∀ cs c, o.op ≠ .select cs c) (hl : ∀ d ∈ D, d ∉ o.looksAt ops) : execOp b.eval o = execOp a.eval o :=
  execOp_congr o hs fun x hx => h.eval fun t e hd => hl t hd (by
    subst e
    exact List.mem_append_left _ (List.mem_filterMap.2 ⟨.tmp t, by simpa using hx, rfl⟩))
theorem Agree.wanted (h : Agree D a b) (hl : ∀ d ∈ D, d ∉ o.looksAt ops) : Region.wanted o (yielded ops b.tmps) = Region.wanted o (yielded ops a.tmps) := by
  unfold Region.wanted
  cases hg : o.guard with
  | none => rfl
  | some gw =>
    obtain ⟨g, wt⟩ := gw
    have : yielded ops b.tmps g = yielded ops a.tmps g := by
      unfold yielded
      cases ht : (ops[g]?).bind (·.dst) with
      | none => rfl
      | some t =>
        have hne : t ∉ D := fun hd => hl t hd (by simp [Oper.looksAt, hg, ht])
        simp only [Option.bind_some, h.2.2 t hne]
    simp only [this]
/-- What it does to the one frame it does to the other. -/
theorem Agree.wp (h : Agree D a b) (hs : ∀ cs c, o.op ≠ .select cs c) (hl : ∀ d ∈ D, d ∉ o.looksAt ops) {K K' : Act → World → Prop} {R : Act → World → Prop} (hw : o.wp P b w K (fun e _ _ => False))
    (hK : ∀ a' b' w', Agree D a' b' → K b' w' → K' a' w') : o.wp P a w K' (fun e a w => e = .normal ∧ R a w) := by
  unfold Oper.wp at hw ⊢
  rw [h.exec hs hl] at hw
  generalize (execOp a.eval o).run P w = r at hw ⊢
  cases r with
  | ok n w' =>
    cases n
    case value v => exact hK _ _ _ (h.put _ _) hw
    case skip => exact hK _ _ _ (h.put _ _) hw
    case defer d => exact hK _ _ _ (Agree.put (a := { a with defers := d :: a.defers }) (b := { b with defers := d :: b.defers }) ⟨by simp only [h.1], h.2.1, h.2.2⟩ _ _) hw
    case enter f args => exact Calls.mono hw (fun e w'' he => by
            cases e with
            | returned v => exact hK _ _ _ (h.put _ _) he
            | panicked c => exact he.elim
            | outgrown => obtain ⟨_, _, he⟩ := he; exact he.elim)
    case row r args => exact Rows.mono hw (fun _ _ he => hK _ _ _ (h.put _ _) he)
    all_goals exact hw.elim
  | halt x w' => cases x <;> exact hw.elim
end

/-- An operation that is done ahead would do the same now. -/
def StabD (C : Cx) (ops : Array Oper) (Y : St) (j : Nat) : Prop := match ops[j]? with
  | none => False
  | some o => match o.dst with
    | none => False
    | some d => d ∉ C.fx ∧ d < C.nt ∧ match want Y ops o with
      | some true => ∃ t, evV C.P Y o = some t ∧ lk Y.env d = some t
      | some false => lk Y.env d = some uT
      | none => False
def RunD (an : An) (C : Cx) (ops : Array Oper) : List (Nat × Option (List Nat)) → St → St → Prop
  | [], X, X' => X = X'
  | (i, none) :: r, X, X' => ∃ o d, ops[i]? = some o ∧ o.dst = some d ∧ d ∉ C.fx ∧ d < C.nt ∧ ((want X ops o = some false ∧ RunD an C ops r { X with env := ins X.env d uT } X') ∨ (want X ops o = some true ∧ ∃ t, evV C.P X o = some t ∧ RunD an C ops r { X with env := ins X.env d t } X'))
  | (i, some p) :: r, X, X' => ∃ o Y, ops[i]? = some o ∧ One an C ops X o (100 + 8 * i) Y ∧ (∀ j ∈ p, StabD C ops Y j) ∧ RunD an C ops r Y X'

section
variable {an : An} {C : Cx} {X X' Y Y' : St} {ops : Array Oper} {a b : Act} {w : World} {o : Oper}
theorem want_congr (h : ∀ t ∈ o.looksAt ops, lk Y'.env t = lk Y.env t) : want Y' ops o = want Y ops o := by
  unfold want
  cases hg : o.guard with
  | none => rfl
  | some gw =>
    obtain ⟨g, wt⟩ := gw
    simp only
    cases ht : (ops[g]?).bind (·.dst) with
    | none => rfl
    | some t => simp only [h t (by simp [Oper.looksAt, hg, ht])]
theorem evV_keep (hs : Y'.sg = Y.sg) (h : ∀ t ∈ o.looksAt ops, lk Y'.env t = lk Y.env t) : evV C.P Y' o = evV C.P Y o :=
  evV_congr hs fun x hx => by
    cases x with
    | tmp t => exact h t (List.mem_append_left _ (List.mem_filterMap.2 ⟨.tmp t, by simpa using hx, rfl⟩))
    | const v => unfold look; split <;> first | rfl | (rename_i he; cases he)
    | func f => rfl
    | global g => rfl
theorem StabD.keep {j : Nat} (h : StabD C ops Y j) (hs : Y'.sg = Y.sg) (h1 : ∀ t ∈ looksD ops j, lk Y'.env t = lk Y.env t) (h2 : ∀ t ∈ dstD ops j, lk Y'.env t = lk Y.env t) : StabD C ops Y' j := by
  unfold StabD at h ⊢
  unfold looksD at h1
  unfold dstD at h2
  split at h
  · exact h.elim
  · rename_i o ho
    rw [ho] at h1 h2
    simp only at h1 h2 ⊢
    split at h
    · exact h.elim
    · rename_i d hd
      rw [hd] at h2
      rw [want_congr (Y := Y) h1, evV_keep (Y := Y) hs h1, h2 d (by simp)]
      exact h

theorem One.real {slot : Nat} (h1 : One an C ops X o slot Y) {D : List Nat} (hA : Agree D a b) (hi : In C X b w) (hs : ∀ cs c, o.op ≠ .select cs c) (hl : ∀ d ∈ D, d ∉ o.looksAt ops) {K R : Act → World → Prop} (hK : ∀ a' b' w', Agree D a' b' → In C Y b' w' → K a' w') :
    (if Region.wanted o (yielded ops a.tmps) then o.wp C.P a w K (fun e a w => e = .normal ∧ R a w) ∨ (o.asks C.P a w ∧ LetsOut (fun e a w => e = .normal ∧ R a w)) else K (a.put o.dst undef) w) := by
  rw [← hA.wanted hl]
  cases h1 with
  | step hw h =>
    rw [if_pos (hi.want hw)]
    exact .inl (hA.wp hs hl (hi.step h (fun b' w' => In C Y b' w') _ (fun _ _ h => h)) hK)
  | call hw ho hp hc hx =>
    rw [if_pos (hi.want hw)]
    exact .inl (hA.wp hs hl (hi.call ho hp hc hx (fun b' w' => In C Y b' w') _ (fun _ _ h => h)) hK)
  | sem hw h =>
    rw [if_pos (hi.want hw)]
    exact .inl (hA.wp hs hl (h b w hi (fun b' w' => In C Y b' w') _ (fun _ _ h => h)) hK)
  | skip hw hd hfx hnt =>
    have hn := hi.want hw
    rw [if_neg (by rw [hn]; exact Bool.false_ne_true)]
    obtain ⟨L, G, hi⟩ := hi
    rw [hd]
    exact hK _ _ _ (hA.put _ _) ⟨L, G, hi.left hnt hfx⟩
end

/-- How far a region is walked: S is done ahead, r is to be done. -/
structure Due (ops : Array Oper) (l before pend S r : List Nat) (listed : Array Bool) : Prop where
  sub : ∀ i ∈ S, i ∈ pend
  bef : ∀ i ∈ pend, i ∈ before
  bp : ∀ i ∈ before, ∀ p ∈ predsD ops i, p ∈ before
  pl : ∀ i ∈ pend, i ∈ l
  rl : ∀ i ∈ r, i ∈ l
  nd : S.Nodup
  li : ∀ i ∈ l, (listed.getD i true = false ↔ i ∈ S ∨ i ∈ r)
  sz : listed.size = ops.size
  dn : ∀ j, j ∈ S ∨ j ∈ r → ∀ i ∈ l, j ∈ predsD ops i → i ∈ S ∨ i ∈ r

theorem orderD_out {ops : Array Oper} : ∀ {r : List (Nat × Option (List Nat))} {before pend : List Nat}, orderD ops before pend r = true → (∀ j ∈ r.map (·.1), j ∉ before) ∧ (r.map (·.1)).Nodup
  | [], before, pend, _ => ⟨(fun j hj => nomatch hj), List.nodup_nil⟩
  | (i, p) :: r, before, pend, h => by
    unfold orderD at h
    rw [Bool.and_eq_true, Bool.and_eq_true, Bool.and_eq_true, Bool.not_eq_true'] at h
    obtain ⟨⟨⟨_, h1⟩, _⟩, h2⟩ := h
    have h1 : i ∉ before := fun hc => by rw [List.contains_iff_mem.2 hc] at h1; cases h1
    have : ∃ pend', orderD ops (i :: before) pend' r = true := by
      cases p with
      | none => exact ⟨_, h2⟩
      | some q => simp only [Bool.and_eq_true] at h2; exact ⟨_, h2.2⟩
    obtain ⟨pend', h3⟩ := this
    obtain ⟨k1, k2⟩ := orderD_out h3
    rw [List.map_cons]
    refine ⟨fun j hj => ?_, List.nodup_cons.2 ⟨fun hc => k1 i hc (List.mem_cons_self ..), k2⟩⟩
    rcases List.mem_cons.1 hj with rfl | hj
    · exact h1
    · exact fun hc => k1 j hj (List.mem_cons_of_mem _ hc)
/-- What is ahead of what is done is done. -/
theorem ancD_done {ops : Array Oper} {p : Nat → Prop} : ∀ {l A : List Nat}, (∀ j ∈ A, p j) → (∀ i ∈ l, p i → ∀ j ∈ predsD ops i, p j) → ∀ j ∈ ancD ops A l, p j
  | [], A, hA, _, j, hj => hA j hj
  | i :: r, A, hA, hl, j, hj => by
    unfold ancD at hj
    split at hj
    · rename_i hc
      refine ancD_done (fun k hk => ?_) (fun k hk => hl k (List.mem_cons_of_mem _ hk)) j hj
      rcases List.mem_append.1 hk with hk | hk
      · exact hA k hk
      · exact hl i (List.mem_cons_self ..) (hA i (List.contains_iff_mem.1 hc)) k hk
    · exact ancD_done hA (fun k hk => hl k (List.mem_cons_of_mem _ hk)) j hj
end Go.Proofs.Ytppfilhlblnmcaa.Abs
/- An abstract machine for the walks, part 28: a region whose order is drawn, all orders at once. No condition. -/
set_option linter.unusedVariables false
namespace Go.Proofs.Ytppfilhlblnmcaa.Abs
open Go

section
variable {an : An} {C : Cx} {X X' Y Y' : St} {ops : Array Oper} {a b : Act} {w : World} {o : Oper} {l before pend S r : List Nat} {listed : Array Bool}

theorem predsD_mem {i p : Nat} (ho : ops[i]? = some o) : p ∈ predsD ops i ↔ ∃ e ∈ o.after, Region.binds .any e = true ∧ e.on = p := by
  unfold predsD
  rw [ho]
  simp only [List.mem_map, List.mem_filter, Array.mem_toList_iff]
  constructor
  · rintro ⟨e, ⟨h1, h2⟩, h3⟩; exact ⟨e, h1, h2, h3⟩
  · rintro ⟨e, h1, h2, h3⟩; exact ⟨e, ⟨h1, h2⟩, h3⟩

/-- What may be done next: one that is due, all ahead of it done. -/
theorem Due.ready (h : Due ops l before pend S r listed) (hall : ∀ i, i < ops.size ↔ i ∈ l) (hlt : ∀ i ∈ l, ∀ p ∈ predsD ops i, p ∈ l) {i : Nat} : i ∈ Region.ready .any ops listed ↔ (i < ops.size ∧ (i ∈ S ∨ i ∈ r) ∧ ∀ p ∈ predsD ops i, p ∉ S ∧ p ∉ r) := by
  rw [mem_ready]
  constructor
  · rintro ⟨h1, o, ho, h2⟩
    have hi : i < ops.size := (Array.getElem?_eq_some_iff.1 ho).1
    refine ⟨hi, (h.li i ((hall i).1 hi)).1 h1, fun p hp => ?_⟩
    have hpl := hlt i ((hall i).1 hi) p hp
    obtain ⟨e, he, hb, rfl⟩ := (predsD_mem ho).1 hp
    have h3 := h2 e he hb
    have : ¬ (e.on ∈ S ∨ e.on ∈ r) := fun hc => by
      have h4 := (h.li e.on hpl).2 hc
      rw [Array.getD_eq_getD_getElem?] at h3 h4
      cases hg : listed[e.on]? with
      | none => rw [hg] at h3; cases h3
      | some c => rw [hg] at h3 h4; simp only [Option.getD_some] at h3 h4; rw [h3] at h4; cases h4
    exact ⟨fun hc => this (.inl hc), fun hc => this (.inr hc)⟩
  · rintro ⟨hi, h1, h2⟩
    refine ⟨(h.li i ((hall i).1 hi)).2 h1, ops[i], Array.getElem?_eq_getElem hi, fun e he hb => ?_⟩
    have hp : e.on ∈ predsD ops i := (predsD_mem (Array.getElem?_eq_getElem hi)).2 ⟨e, he, hb, rfl⟩
    obtain ⟨h3, h4⟩ := h2 _ hp
    have hpl := hlt i ((hall i).1 hi) _ hp
    have h5 : listed.getD e.on true ≠ false := fun hc => ((h.li _ hpl).1 hc).elim h3 h4
    rw [Array.getD_eq_getD_getElem?] at h5 ⊢
    cases hg : listed[e.on]? with
    | none =>
      have h6 := Array.getElem?_eq_none_iff.1 hg
      have h7 := (hall e.on).2 hpl
      rw [h.sz] at h6
      omega
    | some c => rw [hg] at h5; simp only [Option.getD_some] at h5 ⊢; cases c <;> simp_all

/-- What a region must be, by its text alone. -/
structure DrawS (ops : Array Oper) (l es : List Nat) : Prop where
  all : ∀ i, i < ops.size ↔ i ∈ l
  top : ∀ l1 i l2, l = l1 ++ i :: l2 → ∀ p ∈ predsD ops i, p ∈ l1
  pr : ∀ i ∈ es, ∀ j ∈ l, ∀ d ∈ dstD ops i, (d ∈ looksD ops j → i ∈ predsD ops j) ∧ (i ≠ j → d ∉ dstD ops j)
  ns : ∀ (j : Nat) (o : Oper) cs b, ops[j]? = some o → o.op ≠ .select cs b

theorem DrawS.lt {es : List Nat} (h : DrawS ops l es) : ∀ i ∈ l, ∀ p ∈ predsD ops i, p ∈ l := fun i hi p hp => by
  obtain ⟨l1, l2, rfl⟩ := List.append_of_mem hi
  exact List.mem_append_left _ (h.top l1 i l2 rfl p hp)

theorem Due.some {es : List Nat} (hD : DrawS ops l es) (h : Due ops l before pend S r listed) {i : Nat} (hi : i ∈ S ∨ i ∈ r) : Region.ready .any ops listed ≠ [] := by
  have hil : i ∈ l := hi.elim (fun hs => h.pl i (h.sub i hs)) (h.rl i)
  have hf : (l.find? (fun j => decide (j ∈ S ∨ j ∈ r))).isSome = true := List.find?_isSome.2 ⟨i, hil, decide_eq_true hi⟩
  obtain ⟨j, hj⟩ := Option.isSome_iff_exists.1 hf
  obtain ⟨h1, l1, l2, he, h2⟩ := List.find?_eq_some_iff_append.1 hj
  intro hn
  have : j ∈ Region.ready .any ops listed := (h.ready hD.all hD.lt).2 ⟨(hD.all j).2 (by rw [he]; simp), of_decide_eq_true h1, fun p hp => by
    have h3 := h2 p (hD.top l1 j l2 he p hp)
    simp only [Bool.not_eq_true', decide_eq_false_iff_not, not_or] at h3
    exact h3⟩
  rw [hn] at this
  cases this

theorem Due.list {es : List Nat} (hD : DrawS ops l es) (h : Due ops l before pend S r listed) {i : Nat} {S' r' before' pend' : List Nat} (hi : i < ops.size) (hp : ∀ p ∈ predsD ops i, p ∉ S ∧ p ∉ r) (hs : ∀ j, (j ∈ S' ∨ j ∈ r') ↔ (j ∈ S ∨ j ∈ r) ∧ j ≠ i)
    (hsub : ∀ i ∈ S', i ∈ pend') (hbef : ∀ i ∈ pend', i ∈ before') (hbp : ∀ i ∈ before', ∀ p ∈ predsD ops i, p ∈ before') (hpl : ∀ i ∈ pend', i ∈ l) (hrl : ∀ i ∈ r', i ∈ l) (hnd : S'.Nodup) : Due ops l before' pend' S' r' (listed.setIfInBounds i true) where
  sub := hsub
  bef := hbef
  bp := hbp
  pl := hpl
  rl := hrl
  nd := hnd
  li j hj := by
    rw [hs]
    by_cases e : i = j
    · subst e
      simp [h.sz, hi]
    · rw [getD_set_ne true e, h.li j hj]
      simp [Ne.symm e]
  sz := by rw [Array.size_setIfInBounds]; exact h.sz
  dn j hj k hk hjk := by
    have hj' := (hs j).1 hj
    refine (hs k).2 ⟨h.dn j hj'.1 k hk hjk, fun e => ?_⟩
    subst e
    exact hj'.1.elim (hp j hjk).1 (hp j hjk).2
end
end Go.Proofs.Ytppfilhlblnmcaa.Abs
/- An abstract machine for the walks, part 29: a region whose order is drawn, walked. No condition. -/
set_option linter.unusedVariables false
namespace Go.Proofs.Ytppfilhlblnmcaa.Abs
open Go

section
variable {an : An} {C : Cx} {X X' Y Y' : St} {ops : Array Oper} {a b : Act} {w : World} {o : Oper} {l es : List Nat}

theorem dstD_some {i d : Nat} (ho : ops[i]? = some o) (hd : o.dst = some d) : dstD ops i = [d] := by
  unfold dstD
  rw [ho]
  simp [hd]
theorem looksD_some {i : Nat} (ho : ops[i]? = some o) : looksD ops i = o.looksAt ops := by
  unfold looksD
  rw [ho]

/-- What is done ahead does not hang on what is due, nor the other way round. -/
theorem DrawS.apart (hD : DrawS ops l es) {i : Nat} {S : List Nat} (hi : i ∈ l) (hS : ∀ j ∈ S, j ∈ es) (hp : ∀ p ∈ predsD ops i, p ∉ S) : ∀ d ∈ S.flatMap (dstD ops), d ∉ looksD ops i := by
  intro d hd hl
  obtain ⟨j, hj, hd⟩ := List.mem_flatMap.1 hd
  exact hp j ((hD.pr j (hS j hj) i hi d hd).1 hl) hj

theorem draw_pend (hD : DrawS ops l es) {fuel : Nat} {r : List (Nat × Option (List Nat))} {before pend S : List Nat} {listed : Array Bool} {Q : Exit → Act → World → Prop}
    (hSe : ∀ j ∈ S, j ∈ es) (ih : ∀ (S : List Nat) (listed : Array Bool) (a b : Act) (w : World), (∀ j ∈ S, j ∈ es) → In C Y b w → Agree (S.flatMap (dstD ops)) a b → Due ops l before pend S (r.map (·.1)) listed → (∀ j ∈ S, StabD C ops Y j) → S.length + r.length = fuel → wpAny C.P .any ops Q fuel listed a w)
    (hb : In C Y b w) (hA : Agree (S.flatMap (dstD ops)) a b) (h : Due ops l before pend S (r.map (·.1)) listed) (hst : ∀ j ∈ S, StabD C ops Y j) (hf : S.length + r.length = fuel + 1) (hout : ∀ i ∈ S, i ∉ r.map (·.1))
    {i : Nat} (hi : i ∈ S) (hlt : i < ops.size) (hp : ∀ p ∈ predsD ops i, p ∉ S ∧ p ∉ r.map (·.1)) : wpOp C.P ops Q i (wpAny C.P .any ops Q fuel (listed.setIfInBounds i true)) a w := by
  have hs := hst i hi
  unfold StabD at hs
  have hap := hD.apart ((hD.all i).1 hlt) hSe (fun p hp' => (hp p hp').1)
  have hSe' : ∀ j ∈ S.erase i, j ∈ es := fun j hj => hSe j (List.mem_of_mem_erase hj)
  have hDue : Due ops l before pend (S.erase i) (r.map (·.1)) (listed.setIfInBounds i true) :=
    h.list hD hlt hp (fun j => by
      rw [List.Nodup.mem_erase_iff h.nd]
      constructor
      · rintro (⟨h1, h2⟩ | h1)
        · exact ⟨.inl h2, h1⟩
        · exact ⟨.inr h1, fun e => hout i hi (e ▸ h1)⟩
      · rintro ⟨h1 | h1, h2⟩
        · exact .inl ⟨h2, h1⟩
        · exact .inr h1) (fun j hj => h.sub j (List.mem_of_mem_erase hj)) h.bef h.bp h.pl h.rl (h.nd.erase i)
  have hlen : (S.erase i).length + r.length = fuel := by
    rw [List.length_erase_of_mem hi]
    have := List.length_pos_of_mem hi
    omega
  have hst' : ∀ j ∈ S.erase i, StabD C ops Y j := fun j hj => hst j (List.mem_of_mem_erase hj)
  cases ho : ops[i]? with
  | none => rw [ho] at hs; exact hs.elim
  | some o =>
    rw [ho] at hs
    simp only at hs
    cases hd : o.dst with
    | none => rw [hd] at hs; exact hs.elim
    | some d =>
      rw [hd] at hs
      simp only at hs
      obtain ⟨hfx, hnt, hs⟩ := hs
      rw [looksD_some ho] at hap
      have hdl : dstD ops i = [d] := dstD_some ho hd
      have hAg : ∀ v, Agree ((S.erase i).flatMap (dstD ops)) (a.put (some d) v) (b.put (some d) v) := fun v => hA.done v (fun t ht => by
        obtain ⟨j, hj, ht⟩ := List.mem_flatMap.1 ht
        by_cases e : j = i
        · subst e
          rw [hdl] at ht
          exact .inl (List.mem_singleton.1 ht)
        · exact .inr (List.mem_flatMap.2 ⟨j, (List.Nodup.mem_erase_iff h.nd).2 ⟨e, hj⟩, ht⟩))
      unfold wpOp
      rw [ho]
      simp only
      rw [← hA.wanted hap]
      have hb0 := hb
      obtain ⟨L, G, hb⟩ := hb
      split at hs
      · rename_i hw
        obtain ⟨t, he, hk⟩ := hs
        rw [if_pos (hb0.want hw)]
        refine .inl ?_
        obtain ⟨v, h1, h2, h3⟩ := hb.yV he
        unfold Oper.wp
        rw [← hA.exec (ops := ops) (hD.ns i o · · ho) hap, h1]
        show wpAny _ _ _ _ _ _ (a.put o.dst v) w
        rw [hd]
        refine ih _ _ _ _ w hSe' ⟨L, G, ?_⟩ (hAg v) hDue hst' hlen
        have := (hb.put hnt hfx h2 h3).less (env := Y.env) (fun u x hx => by
          simp only [lk_ins]
          split
          · rename_i e; subst e; rw [hk] at hx; exact hx
          · exact hx)
        exact this
      · rename_i hw
        rw [if_neg (by rw [hb0.want hw]; exact Bool.false_ne_true), hd]
        refine ih _ _ _ _ w hSe' ⟨L, G, ?_⟩ (hAg undef) hDue hst' hlen
        have := (hb.left hnt hfx).less (env := Y.env) (fun u x hx => by
          simp only [lk_ins]
          split
          · rename_i e; subst e; rw [hs] at hx; exact hx
          · exact hx)
        exact this
      · exact hs.elim

theorem draw_main (hD : DrawS ops l es) : ∀ (fuel : Nat) (r : List (Nat × Option (List Nat))) (before pend S : List Nat) (listed : Array Bool) (Y : St) (a b : Act) (w : World), (∀ j ∈ S, j ∈ es) → (∀ p ∈ r, p.2 = none → p.1 ∈ es) → orderD ops before pend r = true → RunD an C ops r Y X' → In C Y b w → Agree (S.flatMap (dstD ops)) a b → Due ops l before pend S (r.map (·.1)) listed → (∀ j ∈ S, StabD C ops Y j) → S.length + r.length = fuel →
    wpAny C.P .any ops (fun e a w => e = .normal ∧ In C X' a w) fuel listed a w := by
  intro fuel
  induction fuel with
  | zero =>
    intro r before pend S listed Y a b w hSe hre ho hr hi hA h hst hf
    have hr0 : r = [] := List.eq_nil_of_length_eq_zero (by omega)
    have hS0 : S = [] := List.eq_nil_of_length_eq_zero (by omega)
    subst hr0 hS0
    refine ⟨?_, rfl, ?_⟩
    · rw [List.eq_nil_iff_forall_not_mem]
      intro i hi'
      have := ((h.ready hD.all hD.lt).1 hi').2.1
      simp at this
    · cases hr
      rw [← hA.nil]
      exact hi
  | succ fuel ih =>
    intro r
    induction r with
    | nil =>
      intro before pend S listed Y a b w hSe hre ho hr hi hA h hst hf
      have hne : S ≠ [] := fun e => by subst e; simp at hf
      obtain ⟨s, hs⟩ := List.exists_mem_of_ne_nil S hne
      refine ⟨fun hn => absurd hn (h.some hD (.inl hs)), fun i hi' => ?_⟩
      obtain ⟨hlt, hSr, hp⟩ := (h.ready hD.all hD.lt).1 hi'
      have hS : i ∈ S := hSr.resolve_right (by simp)
      exact draw_pend hD hSe (fun S listed a b w h0 h1 h2 h3 h4 h5 => ih [] before pend S listed Y a b w h0 hre ho hr h1 h2 h3 h4 h5) hi hA h hst hf (fun i _ => by simp) hS hlt hp
    | cons ip r ihr =>
      obtain ⟨i, p⟩ := ip
      intro before pend S listed Y a b w hSe hre ho hr hi hA h hst hf
      have hout := (orderD_out ho).1
      have hnd := (orderD_out ho).2
      have hSr : ∀ j ∈ S, j ∉ ((i, p) :: r).map (·.1) := fun j hj hc => hout j hc (h.bef j (h.sub j hj))
      have ho0 := ho
      have hi0 := hi
      cases p with
      | none =>
        obtain ⟨o, d, hoi, hd, hfx, hnt, hr⟩ := hr
        have hil : i ∈ l := h.rl i (by simp)
        have hie : i ∈ es := hre (i, none) (by simp) rfl
        have hSe' : ∀ j ∈ i :: S, j ∈ es := fun j hj => by
          rcases List.mem_cons.1 hj with rfl | hj
          · exact hie
          · exact hSe j hj
        have hre' : ∀ p ∈ r, p.2 = none → p.1 ∈ es := fun p hp => hre p (List.mem_cons_of_mem _ hp)
        have hdl : dstD ops i = [d] := dstD_some hoi hd
        have hord : orderD ops (i :: before) (i :: pend) r = true := by
          unfold orderD at ho
          rw [Bool.and_eq_true] at ho
          exact ho.2
        have hpre : ∀ p ∈ predsD ops i, p ∈ before := by
          unfold orderD at ho
          rw [Bool.and_eq_true, Bool.and_eq_true] at ho
          intro p hp
          have := List.all_eq_true.1 ho.1.2 p hp
          exact List.contains_iff_mem.1 this
        have hDue : Due ops l (i :: before) (i :: pend) (i :: S) (r.map (·.1)) listed :=
          { sub := fun j hj => by
              rcases List.mem_cons.1 hj with rfl | hj
              · simp
              · exact List.mem_cons_of_mem _ (h.sub j hj)
            bef := fun j hj => by
              rcases List.mem_cons.1 hj with rfl | hj
              · simp
              · exact List.mem_cons_of_mem _ (h.bef j hj)
            bp := fun j hj p hp => by
              rcases List.mem_cons.1 hj with rfl | hj
              · exact List.mem_cons_of_mem _ (hpre p hp)
              · exact List.mem_cons_of_mem _ (h.bp j hj p hp)
            pl := fun j hj => by
              rcases List.mem_cons.1 hj with rfl | hj
              · exact hil
              · exact h.pl j hj
            rl := fun j hj => h.rl j (by simp only [List.map_cons]; exact List.mem_cons_of_mem _ hj)
            nd := List.nodup_cons.2 ⟨fun hc => hSr i hc (by simp), h.nd⟩
            li := fun j hj => by
              rw [h.li j hj]
              simp only [List.map_cons, List.mem_cons]
              constructor
              · rintro (h1 | h1 | h1)
                · exact .inl (.inr h1)
                · exact .inl (.inl h1)
                · exact .inr h1
              · rintro ((h1 | h1) | h1)
                · exact .inr (.inl h1)
                · exact .inl h1
                · exact .inr (.inr h1)
            sz := h.sz
            dn := fun j hj k hk hjk => by
              have := h.dn j (by
                simp only [List.map_cons, List.mem_cons] at hj ⊢
                rcases hj with (h1 | h1) | h1
                · exact .inr (.inl h1)
                · exact .inl h1
                · exact .inr (.inr h1)) k hk hjk
              simp only [List.map_cons, List.mem_cons] at this ⊢
              rcases this with h1 | h1 | h1
              · exact .inl (.inr h1)
              · exact .inl (.inl h1)
              · exact .inr h1 }
        have hni : i ∉ predsD ops i := fun hc => hout i (by simp) (hpre i hc)
        have hself : d ∉ looksD ops i := fun hc => hni ((hD.pr i hie i hil d (by rw [hdl]; simp)).1 hc)
        have hother : ∀ j ∈ S, d ∉ looksD ops j ∧ d ∉ dstD ops j := fun j hj => by
          have hjl := h.pl j (h.sub j hj)
          have hne : i ≠ j := fun e => hSr j hj (by simp [e])
          obtain ⟨k1, k2⟩ := hD.pr i hie j hjl d (by rw [hdl]; simp)
          refine ⟨fun hc => ?_, k2 hne⟩
          exact hout i (by simp) (h.bp j (h.bef j (h.sub j hj)) i (k1 hc))
        have hlen : (i :: S).length + r.length = fuel + 1 := by
          simp only [List.length_cons] at hf ⊢
          omega
        have hAg : ∀ v, Agree ((i :: S).flatMap (dstD ops)) a (b.put (some d) v) := fun v => by
          rw [List.flatMap_cons, hdl]
          exact hA.due v
        have hstS : ∀ Y' : St, Y'.sg = Y.sg → (∀ t, d ≠ t → lk Y'.env t = lk Y.env t) → ∀ j ∈ S, StabD C ops Y' j := fun Y' hs he j hj =>
          (hst j hj).keep hs (fun t ht => he t (fun e => (hother j hj).1 (e ▸ ht))) (fun t ht => he t (fun e => (hother j hj).2 (e ▸ ht)))
        rw [looksD_some hoi] at hself
        obtain ⟨L, G, hi⟩ := hi
        rcases hr with ⟨hw, hr⟩ | ⟨hw, t, he, hr⟩
        · have hlk : ∀ t, d ≠ t → lk (ins Y.env d uT) t = lk Y.env t := fun t ht => by rw [lk_ins, if_neg ht]
          refine ihr (i :: before) (i :: pend) (i :: S) listed _ a _ w hSe' hre' hord hr ⟨L, G, hi.left hnt hfx⟩ (hAg undef) hDue (fun j hj => ?_) hlen
          rcases List.mem_cons.1 hj with rfl | hj
          · unfold StabD
            rw [hoi]
            simp only [hd]
            refine ⟨hfx, hnt, ?_⟩
            rw [want_congr (Y := Y) (fun t ht => hlk t (fun e => hself (e ▸ ht))), hw]
            simp only [lk_ins, if_true]
          · exact hstS { Y with env := ins Y.env d uT } rfl hlk j hj
        · have hlk : ∀ u, d ≠ u → lk (ins Y.env d t) u = lk Y.env u := fun u hu => by rw [lk_ins, if_neg hu]
          obtain ⟨v, h1, h2, h3⟩ := hi.yV he
          refine ihr (i :: before) (i :: pend) (i :: S) listed _ a _ w hSe' hre' hord hr ⟨L, G, hi.put hnt hfx h2 h3⟩ (hAg v) hDue (fun j hj => ?_) hlen
          rcases List.mem_cons.1 hj with rfl | hj
          · unfold StabD
            rw [hoi]
            simp only [hd]
            refine ⟨hfx, hnt, ?_⟩
            rw [want_congr (Y := Y) (fun t ht => hlk t (fun e => hself (e ▸ ht))), hw]
            simp only
            refine ⟨t, ?_, by rw [lk_ins, if_pos rfl]⟩
            rw [evV_keep (Y' := { Y with env := ins Y.env d t }) (Y := Y) (ops := ops) rfl (fun u hu => hlk u (fun e => hself (e ▸ hu)))]
            exact he
          · exact hstS { Y with env := ins Y.env d t } rfl hlk j hj
      | some q =>
        obtain ⟨o, Z, hoi, hone, hq, hr⟩ := hr
        unfold orderD at ho
        simp only [Bool.and_eq_true] at ho
        obtain ⟨⟨⟨_, _⟩, hpre⟩, ⟨⟨hqp, hanc⟩, hblk⟩, hord⟩ := ho
        have hpre : ∀ p ∈ predsD ops i, p ∈ before := fun p hp => List.contains_iff_mem.1 (List.all_eq_true.1 hpre p hp)
        refine ⟨fun hn => absurd hn (h.some hD (.inr (by simp : i ∈ _))), fun k hk => ?_⟩
        obtain ⟨hlt, hSk, hp⟩ := (h.ready hD.all hD.lt).1 hk
        by_cases hkS : k ∈ S
        · exact draw_pend hD hSe (fun S listed a b w h0 h1 h2 h3 h4 h5 => ih ((i, some q) :: r) before pend S listed Y a b w h0 hre ho0 ⟨o, Z, hoi, hone, hq, hr⟩ h1 h2 h3 h4 h5) hi0 hA h hst hf hSr hkS hlt hp
        have hki : k = i := by
          rcases hSk with hc | hc
          · exact absurd hc hkS
          · rcases List.mem_cons.1 hc with rfl | hc
            · rfl
            · exfalso
              obtain ⟨p, hp1, hp2⟩ := List.any_eq_true.1 (List.all_eq_true.1 hblk k hc)
              refine (hp p hp1).2 ?_
              simp only [Bool.or_eq_true, beq_iff_eq] at hp2
              rcases hp2 with rfl | hp2
              · simp
              · exact List.mem_cons_of_mem _ (List.contains_iff_mem.1 hp2)
        subst hki
        have hSq : ∀ j ∈ S, j ∈ q := fun j hj => by
          have h1 := List.all_eq_true.1 hanc j (h.sub j hj)
          rw [Bool.or_eq_true] at h1
          refine (h1.resolve_left (fun hc => ?_) |> List.contains_iff_mem.1)
          exact ancD_done (p := fun x => x ∉ S ∧ x ∉ ((k, some q) :: r).map (·.1)) (l := pend) hp (fun x hx hx1 y hy => by
            constructor
            · intro hc
              exact (h.dn y (.inl hc) x (h.pl x hx) hy).elim hx1.1 hx1.2
            · intro hc
              exact (h.dn y (.inr hc) x (h.pl x hx) hy).elim hx1.1 hx1.2) j (List.contains_iff_mem.1 hc) |>.1 hj
        have hap := hD.apart (h.rl k (by simp)) hSe (fun p hp' => (hp p hp').1)
        rw [looksD_some hoi] at hap
        unfold wpOp
        rw [hoi]
        simp only
        have hqp : ∀ j ∈ q, j ∈ pend := fun j hj => List.contains_iff_mem.1 (List.all_eq_true.1 hqp j hj)
        have hkr : k ∉ r.map (·.1) := (List.nodup_cons.1 hnd).1
        refine hone.real hA hi0 (hD.ns k o · · hoi) hap (fun a' b' w' hA' hi' => ih r (k :: before) q S _ Z a' b' w' hSe (fun p hp => hre p (List.mem_cons_of_mem _ hp)) hord hr hi' hA' ?_ (fun j hj => hq j (hSq j hj)) (by simp only [List.length_cons] at hf; omega))
        exact h.list hD hlt hp (fun j => by
          simp only [List.map_cons, List.mem_cons]
          constructor
          · rintro (h1 | h1)
            · exact ⟨.inl h1, fun e => hkS (e ▸ h1)⟩
            · exact ⟨.inr (.inr h1), fun e => hkr (e ▸ h1)⟩
          · rintro ⟨h1 | h1 | h1, h2⟩
            · exact .inl h1
            · exact absurd h1 h2
            · exact .inr h1) hSq (fun j hj => List.mem_cons_of_mem _ (h.bef j (hqp j hj))) (fun j hj y hy => by
              rcases List.mem_cons.1 hj with e | hj
              · exact List.mem_cons_of_mem _ (hpre y (e ▸ hy))
              · exact List.mem_cons_of_mem _ (h.bp j hj y hy)) (fun j hj => h.pl j (hqp j hj)) (fun j hj => h.rl j (by simp only [List.map_cons]; exact List.mem_cons_of_mem _ hj)) h.nd
end
end Go.Proofs.Ytppfilhlblnmcaa.Abs
/- An abstract machine for the walks, part 30: a drawn region as one goal. No condition. -/
set_option linter.unusedVariables false
namespace Go.Proofs.Ytppfilhlblnmcaa.Abs
open Go

section
variable {an : An} {C : Cx} {X X' Y Y' : St} {ops : Array Oper} {a b : Act} {w : World} {o : Oper} {K : List Item}

theorem orderD_top {ops : Array Oper} : ∀ {r : List (Nat × Option (List Nat))} {before pend : List Nat}, orderD ops before pend r = true → ∀ l1 i l2, r.map (·.1) = l1 ++ i :: l2 → ∀ p ∈ predsD ops i, p ∈ before ∨ p ∈ l1
  | [], before, pend, _, l1, i, l2, he, p, hp => by
    have := congrArg List.length he
    simp at this
  | (k, q) :: r, before, pend, h, l1, i, l2, he, p, hp => by
    unfold orderD at h
    rw [Bool.and_eq_true, Bool.and_eq_true, Bool.and_eq_true, Bool.not_eq_true'] at h
    obtain ⟨⟨_, h1⟩, h2⟩ := h
    have : ∃ pend', orderD ops (k :: before) pend' r = true := by
      cases q with
      | none => exact ⟨_, h2⟩
      | some q => simp only [Bool.and_eq_true] at h2; exact ⟨_, h2.2⟩
    obtain ⟨pend', h3⟩ := this
    rw [List.map_cons] at he
    cases l1 with
    | nil =>
      simp only [List.nil_append, List.cons.injEq] at he
      obtain ⟨rfl, _⟩ := he
      exact .inl (List.contains_iff_mem.1 (List.all_eq_true.1 h1 p hp))
    | cons x l1 =>
      simp only [List.cons_append, List.cons.injEq] at he
      obtain ⟨rfl, he⟩ := he
      rcases orderD_top h3 l1 i l2 he p hp with hc | hc
      · rcases List.mem_cons.1 hc with rfl | hc
        · exact .inr (by simp)
        · exact .inl hc
      · exact .inr (List.mem_cons_of_mem _ hc)
theorem orderD_lt {ops : Array Oper} : ∀ {r : List (Nat × Option (List Nat))} {before pend : List Nat}, orderD ops before pend r = true → ∀ i ∈ r.map (·.1), i < ops.size
  | [], before, pend, _, i, hi => nomatch hi
  | (k, q) :: r, before, pend, h, i, hi => by
    unfold orderD at h
    rw [Bool.and_eq_true, Bool.and_eq_true, Bool.and_eq_true, decide_eq_true_eq] at h
    obtain ⟨⟨⟨h0, _⟩, h1⟩, h2⟩ := h
    have : ∃ pend', orderD ops (k :: before) pend' r = true := by
      cases q with
      | none => exact ⟨_, h2⟩
      | some q => simp only [Bool.and_eq_true] at h2; exact ⟨_, h2.2⟩
    obtain ⟨pend', h3⟩ := this
    rw [List.map_cons] at hi
    rcases List.mem_cons.1 hi with rfl | hi
    · exact h0
    · exact orderD_lt h3 i hi
theorem drawD_spec {r : List (Nat × Option (List Nat))} (h : drawD ops r = true) : r.length = ops.size ∧ orderD ops [] [] r = true ∧ DrawS ops (r.map (·.1)) (earlyD r) := by
  unfold drawD at h
  simp only [Bool.and_eq_true, beq_iff_eq] at h
  obtain ⟨⟨⟨⟨h1, h2⟩, h3⟩, h4⟩, h5⟩ := h
  refine ⟨h1, h2, ⟨fun i => ⟨fun hi => ?_, orderD_lt h2 i⟩, fun l1 i l2 he p hp => (orderD_top h2 l1 i l2 he p hp).resolve_left (fun hc => nomatch hc), fun i hi j hj d hd => ?_, Region.noSelect_spec h4⟩⟩
  · exact List.contains_iff_mem.1 (List.all_eq_true.1 h5 i (List.mem_range.2 hi))
  · have := List.all_eq_true.1 (List.all_eq_true.1 (List.all_eq_true.1 h3 i hi) j hj) d hd
    simp only [Bool.and_eq_true, Bool.or_eq_true, Bool.not_eq_true', beq_iff_eq] at this
    refine ⟨fun hc => ?_, fun hne hc => ?_⟩
    · rcases this.1 with h | h
      · rw [List.contains_iff_mem.2 hc] at h; cases h
      · exact List.contains_iff_mem.1 h
    · rcases this.2 with h | h
      · exact hne h
      · rw [List.contains_iff_mem.2 hc] at h; cases h

theorem Ok.draw {id : Nat} {r : List (Nat × Option (List Nat))} (hm : C.P.follows .mixedOrders = true) (hd : drawD ops r = true) (hr : RunD an C ops r X X') (h : Ok C K X') : Ok C (.code (.region id ops true) :: K) X := by
  intro a w hi cs
  obtain ⟨h1, h2, hD⟩ := drawD_spec hd
  have hi' : In C X a { w with drawn := w.drawn + 1 } := by
    obtain ⟨L, G, hi⟩ := hi
    exact ⟨L, G, hi.ext ⟨rfl, rfl, rfl, Nat.le_refl _, fun _ _ _ => rfl⟩⟩
  have hDue : Due ops (r.map (·.1)) [] [] [] (r.map (·.1)) (Array.replicate ops.size false) :=
    { sub := fun i hi => nomatch hi
      bef := fun i hi => nomatch hi
      bp := fun i hi => nomatch hi
      pl := fun i hi => nomatch hi
      rl := fun i hi => hi
      nd := List.nodup_nil
      li := fun i hi => by
        have hlt := (hD.all i).2 hi
        simp [hlt, hi]
      sz := by simp
      dn := fun j hj i hi _ => .inr hi }
  have hwp := wp_region_any (id := id) hm (draw_main hD ops.size r [] [] [] (Array.replicate ops.size false) X a a { w with drawn := w.drawn + 1 } (fun j hj => nomatch hj) (fun p hp hn => List.mem_map.2 ⟨p, List.mem_filter.2 ⟨hp, by rw [hn]; rfl⟩, rfl⟩) h2 hr hi' (Agree.refl _ a) hDue (fun j hj => nomatch hj) (by simp [h1]))
  obtain ⟨e, a', w', ⟨rfl, hi2⟩, harr⟩ := hwp C.fr K cs
  obtain ⟨v, w2, fr, h3, h4, h5, h6⟩ := h a' w' hi2 cs
  exact ⟨v, w2, fr, h3, Steps.trans harr h4, h5, h6⟩
end

/-- The operations in this order, then K: as goR, for a drawn region. -/
def goD (an : An) (C : Cx) (ops : Array Oper) (K : List Item) : List (Nat × Option (List Nat)) → St → Prop
  | [], X => Ok C K X
  | (i, p) :: r, X => match ops[i]? with
    | none => False
    | some o => match want X ops o with
      | none => False
      | some false => match o.dst with
        | some d => d ∉ C.fx ∧ d < C.nt ∧ (∀ j ∈ p.getD [], StabD C ops { X with env := ins X.env d uT } j) ∧ goD an C ops K r { X with env := ins X.env d uT }
        | none => False
      | some true => match p with
        | none => match o.dst with
          | some d => d ∉ C.fx ∧ d < C.nt ∧ match evV C.P X o with
            | some t => goD an C ops K r { X with env := ins X.env d t }
            | none => False
          | none => False
        | some q => match isCall o.op with
          | true => CallR an C X o (100 + 8 * i) (fun Y => (∀ j ∈ q, StabD C ops Y j) ∧ goD an C ops K r Y)
          | false => match act1 C.P C.nt C.fx X o (100 + 8 * i) with
            | some Y => (∀ j ∈ q, StabD C ops Y j) ∧ goD an C ops K r Y
            | none => False
section
variable {an : An} {C : Cx} {X X' : St} {ops : Array Oper} {K : List Item}
theorem goD.run : ∀ (l : List (Nat × Option (List Nat))) (X : St), goD an C ops K l X → ∃ X', RunD an C ops l X X' ∧ Ok C K X'
  | [], X, h => ⟨X, rfl, h⟩
  | (i, p) :: r, X, h => by
    unfold goD at h
    split at h
    · exact h.elim
    · rename_i o ho
      split at h
      · exact h.elim
      · rename_i hw
        split at h
        · rename_i d hd
          obtain ⟨hfx, hnt, hst, h⟩ := h
          obtain ⟨X', h1, h2⟩ := goD.run r _ h
          cases p with
          | none => exact ⟨X', ⟨o, d, ho, hd, hfx, hnt, .inl ⟨hw, h1⟩⟩, h2⟩
          | some q => exact ⟨X', ⟨o, _, ho, .skip hw hd hfx hnt, hst, h1⟩, h2⟩
        · exact h.elim
      · rename_i hw
        split at h
        · split at h
          · rename_i d hd
            obtain ⟨hfx, hnt, h⟩ := h
            split at h
            · rename_i t ht
              obtain ⟨X', h1, h2⟩ := goD.run r _ h
              exact ⟨X', ⟨o, d, ho, hd, hfx, hnt, .inr ⟨hw, t, ht, h1⟩⟩, h2⟩
            · exact h.elim
          · exact h.elim
        · rename_i q
          split at h
          · obtain ⟨Y, q1, q5, q6⟩ | ⟨f, xs, ts, fid, args, outs, l, m, res, Y, q1, q2, q3, q4, q5, q6⟩ := h
            · obtain ⟨X', h1, h2⟩ := goD.run r _ q6
              exact ⟨X', ⟨o, Y, ho, .sem hw q1, q5, h1⟩, h2⟩
            obtain ⟨X', h1, h2⟩ := goD.run r _ q6
            exact ⟨X', ⟨o, Y, ho, .call hw q1 q2 q3 q4, q5, h1⟩, h2⟩
          · split at h
            · rename_i Y hY
              obtain ⟨hst, h⟩ := h
              obtain ⟨X', h1, h2⟩ := goD.run r _ h
              exact ⟨X', ⟨o, Y, ho, .step hw hY, hst, h1⟩, h2⟩
            · exact h.elim
theorem Ok.goD {id : Nat} (r : List (Nat × Option (List Nat))) (hm : C.P.follows .mixedOrders = true) (hd : drawD ops r = true) (h : goD an C ops K r X) : Ok C (.code (.region id ops true) :: K) X := by
  obtain ⟨X', h1, h2⟩ := goD.run r X h
  exact Ok.draw hm hd h1 h2
end
end Go.Proofs.Ytppfilhlblnmcaa.Abs
