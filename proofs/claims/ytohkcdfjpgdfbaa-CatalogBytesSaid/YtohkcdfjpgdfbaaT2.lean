/- Part 2 of the proof of CatalogBytesSaid: Am19, Am20, Am21, Am22, AmR, Gc, K20. -/
import Derived.Test.YtohkcdfjpgdfbaaT1
import Derived.IntWalk
import Derived.Lib.Overlaps
import Derived.ChangeReads
import Derived.DataReads
import Derived.WideShapes
import Derived.Below
import Derived.Test.YtohkcdfjpgdfbaaProg
section
open Go Go.Lib
set_option linter.unusedVariables false
set_option linter.unusedSimpArgs false
set_option linter.unusedSectionVars false
namespace Am
def CT (P : Program) (f : FuncId) (args : List V) (Hs : Heap) (r : V) (Hs' : Heap) : Prop := CALL P f args Hs fun r' H' => r' = r ∧ H' = Hs'
def idR (m : IdMap) (s j : Nat) : Nat := match idAt m j with
  | some (some b) => b
  | _ => s + j
mutual
def renV (m : IdMap) (s : Nat) : V → V
  | .sr b z off len => .sr (idR m s b) z off len
  | .pb b o => .pb (idR m s b) o
  | .pa b z i f => .pa (idR m s b) z i f
  | .ag cs => .ag (renVs m s cs)
  | .tp cs => .tp (renVs m s cs)
  | .fv fn a b => .fv fn (renVs m s a) (renVs m s b)
  | .iv t x => .iv t (renV m s x)
  | .gd c x => .gd c (renV m s x)
  | .un => .un
  | .u x => .u x
  | .rp o cs => .rp o cs
  | .so b z off len => .so (idR m s b) z off len
  | .mp b => .mp (idR m s b)
  | .nx c i r => .nx c i r
def renVs (m : IdMap) (s : Nat) : List V → List V
  | [] => []
  | x :: l => renV m s x :: renVs m s l
end
def renB (m : IdMap) (s : Nat) : Blk → Blk
  | .box cs => .box (renVs m s cs)
  | .arr e z n F => .arr e z n F
  | .gone => .gone
  | .it t p => .it t p
  | .arc e z n F c => .arc e z n F c
  | .ms k p => .ms k p
  | .ml k l => .ml k l
def renH (m : IdMap) (s : Nat) : Nat → Heap → Delta
  | _, [] => []
  | j, x :: l => (idR m s j, renB m s x) :: renH m s (j + 1) l
def idsM : IdMap → List Nat
  | [] => []
  | some b :: l => b :: idsM l
  | none :: l => idsM l
mutual
def okU (es : List Nat) : U → Prop
  | .sc _ => True
  | .any => True
  | .sv (.new e) _ n f => memT e es = false ∧ ∀ i, i < n → okUs es (f i)
  | .sv .old _ n f => ∀ i, i < n → okUs es (f i)
  | .sv .any _ n _ => n = 0
def okUs (es : List Nat) : List U → Prop
  | [] => True
  | x :: l => okU es x ∧ okUs es l
end
mutual
def okV (es : List Nat) : V → Prop
  | .u x => okU es x
  | .rp _ _ => False
  | .ag cs => okVs es cs
  | .tp cs => okVs es cs
  | .fv _ a b => okVs es a ∧ okVs es b
  | .iv _ x => okV es x
  | .gd _ x => okV es x
  | _ => True
def okVs (es : List Nat) : List V → Prop
  | [] => True
  | x :: l => okV es x ∧ okVs es l
end
def okE (es : List Nat) : List (Int × U) → Prop
  | [] => True
  | (_, x) :: l => okU es x ∧ okE es l
def okB (es : List Nat) : Blk → Prop
  | .box cs => okVs es cs
  | .arr _ _ n F => ∀ i, i < n → okUs es (F i)
  | .arc _ _ n F _ => ∀ i, i < n → okUs es (F i)
  | .ml _ l => okE es l
  | _ => True
def okH (es : List Nat) : Heap → Prop
  | [] => True
  | x :: l => okB es x ∧ okH es l
def tysOf (H : Heap) : List Nat → Option (List Nat)
  | [] => some []
  | b :: l => match arrAt H b, tysOf H l with
    | some (e, _, _, _, _), some r => some (e :: r)
    | _, _ => none
def noFz (H : Heap) (fz : List Nat) (r : V) (H' : Heap) : Prop := match fz with
  | [] => True
  | b :: l => match tysOf H (b :: l) with
    | some es => okV es r ∧ okH es H'
    | none => False
theorem okUs_get {es : List Nat} : ∀ (l : List U), okUs es l → ∀ (j : Nat) (x : U), l[j]? = some x → okU es x
  | [], _, j, x, h => by simp at h
  | y :: l, hp, 0, x, h => by simp at h; subst h; exact hp.1
  | y :: l, hp, j + 1, x, h => okUs_get l hp.2 j x (by simpa using h)
theorem okVs_get {es : List Nat} : ∀ (l : List V), okVs es l → ∀ (j : Nat) (x : V), l[j]? = some x → okV es x
  | [], _, j, x, h => by simp at h
  | y :: l, hp, 0, x, h => by simp at h; subst h; exact hp.1
  | y :: l, hp, j + 1, x, h => okVs_get l hp.2 j x (by simpa using h)
theorem okE_get {es : List Nat} : ∀ (l : List (Int × U)), okE es l → ∀ (j : Nat) (i : Int) (x : U), l[j]? = some (i, x) → okU es x
  | [], _, j, i, x, h => by simp at h
  | (a, y) :: l, hp, 0, i, x, h => by simp at h; obtain ⟨rfl, rfl⟩ := h; exact hp.1
  | (a, y) :: l, hp, j + 1, i, x, h => okE_get l hp.2 j i x (by simpa using h)
theorem okH_get {es : List Nat} : ∀ (l : Heap), okH es l → ∀ (j : Nat) (x : Blk), l[j]? = some x → okB es x
  | [], _, j, x, h => by simp at h
  | y :: l, hp, 0, x, h => by simp at h; subst h; exact hp.1
  | y :: l, hp, j + 1, x, h => okH_get l hp.2 j x (by simpa using h)
theorem renVs_get {m : IdMap} {s : Nat} : ∀ (l : List V) (j : Nat) (y : V), (renVs m s l)[j]? = some y → ∃ x, l[j]? = some x ∧ y = renV m s x
  | [], j, y, h => by simp [renVs] at h
  | x :: l, 0, y, h => by simp [renVs] at h; exact ⟨x, rfl, h.symm⟩
  | x :: l, j + 1, y, h => by simpa using renVs_get l j y (by simpa [renVs] using h)
theorem renVs_length {m : IdMap} {s : Nat} : ∀ l : List V, (renVs m s l).length = l.length
  | [] => rfl
  | x :: l => by simp [renVs, renVs_length l]
theorem idsM_mem {b : Nat} : ∀ m : IdMap, b ∈ idsM m ↔ some b ∈ m
  | [] => by simp [idsM]
  | some c :: l => by simp [idsM, idsM_mem l]
  | none :: l => by simp [idsM, idsM_mem l]
section
variable {w w' : World} {O O' : Own} {ρ ρ' : Place} {m : IdMap} {s : Nat}
def Lent (es : List Nat) (w : World) (O O' : Own) : Prop := (∀ k, O' k → O k ∨ ∃ cur e, e ∈ es ∧ w.heap[k]? = some (.cells cur e (0, 0))) ∧ ∀ k, O.old k → ¬ O' k
theorem Lent.stab {es : List Nat} (h : Lent es w O O') (hold : O'.old = O.old) {o : Tg} {k : Nat} (hs : Stab w O o k) (ho : match o with | .new e => memT e es = false | .old => True | .any => False) : Stab w O' o k := by
  cases o with
  | any => exact ho.elim
  | old => exact ⟨h.2 k hs.2, by show O'.old k; rw [hold]; exact hs.2⟩
  | new e =>
    obtain ⟨h1, h2, cur, h3⟩ := hs
    refine ⟨fun h' => ?_, by rw [hold]; exact h2, cur, h3⟩
    rcases h.1 k h' with q | ⟨cur', e', q1, q2⟩
    · exact h1 q
    · rw [h3] at q2; cases q2
      have : memT e es = false := ho
      rw [(memT_spec e es).2 q1] at this; cases this
theorem RU.ren {es : List Nat} (hl : Lent es w O O') (hold : O'.old = O.old) {x : U} {v : Value} (h : RU w O x v) (hp : okU es x) : RU w O' x v := by
  induction h with
  | sc v h1 => exact .sc v h1
  | any v h1 => exact .any v h1
  | sv o z n c f a g hc ha hlen hr ih =>
    have hrow : ∀ i, i < n → okUs es (f i) := by
      cases o with
      | any => exact fun i hi => by have : n = 0 := hp; omega
      | old => exact hp
      | new e => exact hp.2
    refine .sv o z n c f a g hc ?_ hlen fun i j x hi hx => ih i j x hi hx (okUs_get _ (hrow i hi) j x hx)
    rcases ha with h0 | ⟨ad, e, hs, hcell⟩
    · exact .inl h0
    · cases o with
      | any => exact .inl (by have : n = 0 := hp; simp [this])
      | old => exact .inr ⟨ad, e, hl.stab hold hs trivial, hcell⟩
      | new e' => exact .inr ⟨ad, e, hl.stab hold hs hp.1, hcell⟩
theorem RV.ren {es : List Nat} (hold : O'.old = O.old) (hρ : ∀ j, ρ j ≠ .unset → ρ' (idR m s j) = ρ j) {x : V} {v : Value} (h : RV w O ρ x v) (hp : (Lent es w O O' ∧ okV es x) ∨ ∀ k, O' k → O k) : RV w O' ρ' (renV m s x) v := by
  have ks : (∀ k, O' k → O k) → Keeps w O w O' := fun h => ⟨Nat.le_refl _, fun k _ hk => ⟨rfl, fun h' => hk (h k h')⟩, hold⟩
  have at_ : ∀ {j g c}, ρ j = .at g c → ρ' (idR m s j) = .at g c := fun {j g c} e => by rw [hρ j (by rw [e]; simp), e]
  induction h with
  | un v => exact .un v
  | u x v h =>
    rcases hp with hp | hp
    · exact .u x v (h.ren hp.1 hold hp.2)
    · exact .u x v (h.mono (ks hp))
  | srN b z h => exact .srN _ z (by rw [hρ b (by rw [h]; simp), h])
  | srP b z len g cap h hc => exact .srP _ z len g cap (at_ h) hc
  | srO b z off len c g cap a h h0 ha hc => exact .srO _ z off len c g cap a (at_ h) h0 ha hc
  | so b z off len c a hc ha => exact .so _ z off len c a hc (ha.imp id fun ⟨g, cap, h, e⟩ => ⟨g, cap, at_ h, e⟩)
  | mp b g cap h => exact .mp _ g cap (at_ h)
  | pb b off g cap h => exact .pb _ off g cap (at_ h)
  | pa b z i f g cap h => exact .pa _ z i f g cap (at_ h)
  | rp o cs a g ha hc hlt hr =>
    rcases hp with hp | hp
    · exact (show False from hp.2).elim
    · exact .rp o cs a g ((ks hp).stab hlt ha) hc hlt fun j x hx => (hr j x hx).mono (ks hp)
  | ag cs arr g hs ha hr ih =>
    refine .ag (renVs m s cs) arr g (by rw [hs, renVs_length]) (fun j hj => ha j (by rwa [renVs_length] at hj)) fun j y hy => ?_
    obtain ⟨x, hx, rfl⟩ := renVs_get cs j y hy
    exact ih j x hx (hp.imp (fun h => ⟨h.1, okVs_get cs h.2 j x hx⟩) id)
  | tp cs arr g hs ha hr ih =>
    refine .tp (renVs m s cs) arr g (by rw [hs, renVs_length]) (fun j hj => ha j (by rwa [renVs_length] at hj)) fun j y hy => ?_
    obtain ⟨x, hx, rfl⟩ := renVs_get cs j y hy
    exact ih j x hx (hp.imp (fun h => ⟨h.1, okVs_get cs h.2 j x hx⟩) id)
  | fv fn cs ds arr brr g k hs ha hr hs' ha' hr' ih ih' =>
    refine .fv fn (renVs m s cs) (renVs m s ds) arr brr g k (by rw [hs, renVs_length]) (fun j hj => ha j (by rwa [renVs_length] at hj)) (fun j y hy => ?_) (by rw [hs', renVs_length]) (fun j hj => ha' j (by rwa [renVs_length] at hj)) fun j y hy => ?_
    · obtain ⟨x, hx, rfl⟩ := renVs_get cs j y hy
      exact ih j x hx (hp.imp (fun h => ⟨h.1, okVs_get cs h.2.1 j x hx⟩) id)
    · obtain ⟨x, hx, rfl⟩ := renVs_get ds j y hy
      exact ih' j x hx (hp.imp (fun h => ⟨h.1, okVs_get ds h.2.2 j x hx⟩) id)
  | iv t x v h ih => exact .iv t _ v (ih (hp.imp (fun h => ⟨h.1, h.2⟩) id))
  | gd c x v h h' ih => exact .gd c _ v (fun hc => ih hc (hp.imp (fun h => ⟨h.1, h.2⟩) id)) h'
  | nx c i r => exact .nx c i r
theorem BOK.ren {es : List Nat} (hold : O'.old = O.old) (hρ : ∀ j, ρ j ≠ .unset → ρ' (idR m s j) = ρ j) {j : Nat} {x : Blk} (h : BOK w O ρ j x) (hO : ∀ g c, ρ j = .at g c → O g → O' g) (hp : (Lent es w O O' ∧ okB es x) ∨ ∀ k, O' k → O k) : BOK w O' ρ' (idR m s j) (renB m s x) := by
  have row : ∀ {x : U} {v : Value}, RU w O x v → ((Lent es w O O' ∧ okU es x) ∨ ∀ k, O' k → O k) → RU w O' x v := fun hr hp => by
    rcases hp with hp | hp
    · exact hr.ren hp.1 hold hp.2
    · exact hr.mono ⟨Nat.le_refl _, fun k _ hk => ⟨rfl, fun h' => hk (hp k h')⟩, hold⟩
  cases x with
  | gone => trivial
  | it t p =>
    obtain ⟨g, cap, h1, h2, h3⟩ := h
    exact ⟨g, cap, by rw [hρ j (by rw [h1]; simp), h1], hO g cap h1 h2, h3⟩
  | box cells =>
    obtain ⟨g, cap, cur, e, h1, h2, h3, h4, h5⟩ := h
    refine ⟨g, cap, cur, e, by rw [hρ j (by rw [h1]; simp), h1], hO g cap h1 h2, h3, by rw [h4, renVs_length], fun i y hy => ?_⟩
    obtain ⟨x, hx, rfl⟩ := renVs_get cells i y hy
    obtain ⟨v, hv, hr⟩ := h5 i x hx
    exact ⟨v, hv, hr.ren hold hρ (hp.imp (fun h => ⟨h.1, okVs_get cells h.2 i x hx⟩) id)⟩
  | arr e z n F =>
    rcases h with ⟨h1, h2⟩ | ⟨g, cap, cur, h1, h2, h3, h4, h5, h6, h7, h8⟩
    · exact .inl ⟨by rw [hρ j (by rw [h1]; simp), h1], h2⟩
    · refine .inr ⟨g, cap, cur, by rw [hρ j (by rw [h1]; simp), h1], hO g cap h1 h2, h3, h4, h5, h6, h7, fun i j x hi hx => ?_⟩
      obtain ⟨v, hv, hr⟩ := h8 i j x hi hx
      exact ⟨v, hv, row hr (hp.imp (fun h => ⟨h.1, okUs_get _ (h.2 i hi) j x hx⟩) id)⟩
  | arc e z n F c =>
    rcases h with ⟨h1, h2⟩ | ⟨g, cur, h1, h2, h3, h4, h5, h6, h7, h8⟩
    · exact .inl ⟨by rw [hρ j (by rw [h1]; simp), h1], h2⟩
    · refine .inr ⟨g, cur, by rw [hρ j (by rw [h1]; simp), h1], hO g c h1 h2, h3, h4, h5, h6, h7, fun i j x hi hx => ?_⟩
      obtain ⟨v, hv, hr⟩ := h8 i j x hi hx
      exact ⟨v, hv, row hr (hp.imp (fun h => ⟨h.1, okUs_get _ (h.2 i hi) j x hx⟩) id)⟩
  | ms k p =>
    obtain ⟨g, cap, es', cl, h1, h2, h3⟩ := h
    exact ⟨g, cap, es', cl, by rw [hρ j (by rw [h1]; simp), h1], hO g cap h1 h2, h3⟩
  | ml k l =>
    obtain ⟨g, cap, es', cl, h1, h2, h3, h4, h5⟩ := h
    exact ⟨g, cap, es', cl, by rw [hρ j (by rw [h1]; simp), h1], hO g cap h1 h2, h3, h4, fun i a x hx => by obtain ⟨e, q1, q2, q3⟩ := h5 i a x hx; exact ⟨e, q1, q2, row q3 (hp.imp (fun h => ⟨h.1, okE_get _ h.2 i a x hx⟩) id)⟩⟩
end
theorem renB_live {m : IdMap} {s : Nat} {x : Blk} : (renB m s x).live ↔ x.live := by cases x <;> simp [renB, Blk.live]
theorem renH_keys {m : IdMap} {s b : Nat} : ∀ (l : Heap) (k : Nat), b ∈ keys (renH m s k l) ↔ ∃ j, j < l.length ∧ b = idR m s (k + j)
  | [], k => by simp [renH, keys]
  | x :: l, k => by
    simp only [renH, keys, List.mem_cons, renH_keys l (k + 1), List.length_cons]
    constructor
    · rintro (rfl | ⟨j, h1, h2⟩)
      · exact ⟨0, by omega, rfl⟩
      · exact ⟨j + 1, by omega, by rw [h2]; congr 1; omega⟩
    · rintro ⟨j, h1, h2⟩
      cases j with
      | zero => exact .inl h2
      | succ j => exact .inr ⟨j, by omega, by rw [h2]; congr 1; omega⟩
theorem renH_at {m : IdMap} {s : Nat} (hinj : ∀ j j', idR m s j = idR m s j' → j = j') : ∀ (l : Heap) (k j : Nat) (x y : Blk), l[j]? = some x → dAt (renH m s k l) (idR m s (k + j)) y = renB m s x
  | [], k, j, x, y, h => by simp at h
  | z :: l, k, 0, x, y, h => by
    simp at h; subst h
    simp only [renH, dAt, Nat.add_zero, if_true]
    rw [dAt_none]
    intro hk
    obtain ⟨j, _, hj⟩ := (renH_keys l (k + 1)).1 hk
    have := hinj _ _ hj
    omega
  | z :: l, k, j + 1, x, y, h => by
    simp only [renH, dAt]
    have := renH_at hinj l (k + 1) j x (if idR m s (k + (j + 1)) = idR m s k then renB m s z else y) (by simpa using h)
    rwa [show k + 1 + j = k + (j + 1) by omega] at this
def belowM (n : Nat) : IdMap → Bool
  | [] => true
  | some b :: l => Nat.blt b n && belowM n l
  | none :: l => belowM n l
theorem belowM_spec {n : Nat} : ∀ m : IdMap, belowM n m = true → ∀ b, some b ∈ m → b < n
  | [], _, b, h => nomatch h
  | some c :: l, h, b, hb => by
    simp only [belowM, Bool.and_eq_true] at h
    rcases List.mem_cons.1 hb with e | hb
    · cases e; simpa using h.1
    · exact belowM_spec l h.2 b hb
  | none :: l, h, b, hb => by
    rcases List.mem_cons.1 hb with e | hb
    · cases e
    · exact belowM_spec l h b hb
mutual
theorem fitV_congr {H H' : Heap} {m : IdMap} {fz : List Nat} (he : ∀ b ∈ fz, blkAt H' b = blkAt H b) : ∀ (x y : V), fitV H m fz x y → fitV H' m fz x y
  | x, .un, h => by cases x <;> (unfold fitV; trivial)
  | .gd c x, y, h => by
    cases y <;> first | (unfold fitV; trivial) | exact ⟨h.1, fitV_congr he x _ h.2⟩
  | .u x, .u y, h => h
  | .sr b z off len, .sr j z' off' len', h => h
  | .sr b z off len, .u (.sv o z' n' f), h => by
    obtain ⟨h1, h2⟩ := h
    refine ⟨h1, ?_⟩
    rw [arrAt_congr (he b ((memN_spec b fz).1 h1))]; exact h2
  | .so b z off len, .u (.sv o z' n' f), h => by
    obtain ⟨h1, h2⟩ := h
    refine ⟨h1, ?_⟩
    rw [arrAt_congr (he b ((memN_spec b fz).1 h1))]; exact h2
  | .so b z off len, .so j z' off' len', h => h
  | .mp b, .mp j, h => h
  | .u (.sc v0), .sr j z off len, h => by
    cases v0 <;> first | exact h | (rename_i a b c; cases a <;> cases b <;> cases c <;> exact h)
  | .pb b o, .pb j o', h => h
  | .pa b z i f, .pa j z' i' f', h => h
  | .rp o cs, .rp o' ds, h => h
  | .ag cs, .ag ds, h => fitVs_congr he cs ds h
  | .tp cs, .tp ds, h => fitVs_congr he cs ds h
  | .fv fn a b, .fv fn' a' b', h => ⟨h.1, fitVs_congr he a a' h.2.1, fitVs_congr he b b' h.2.2⟩
  | .iv t x, .iv t' y, h => ⟨h.1, fitV_congr he x y h.2⟩
  | .nx c i r, .nx c' i' r', h => h
theorem fitVs_congr {H H' : Heap} {m : IdMap} {fz : List Nat} (he : ∀ b ∈ fz, blkAt H' b = blkAt H b) : ∀ (cs ds : List V), fitVs H m fz cs ds → fitVs H' m fz cs ds
  | [], [], _ => trivial
  | x :: l, y :: r, h => ⟨fitV_congr he x y h.1, fitVs_congr he l r h.2⟩
end
theorem Wk.congr {H H' Hs : Heap} {m : IdMap} {fz : List Nat} (h1 : ∀ b ∈ fz, blkAt H' b = blkAt H b) (h2 : ∀ b ∈ idsM m, blkAt H' b = blkAt H b) (h : Wk 0 m fz H Hs) : Wk 0 m fz H' Hs := by
  obtain ⟨k1, k2, k3, k4, k5⟩ := h
  refine ⟨k1, k2, k3, ?_, ?_⟩
  · have : ∀ l : List Nat, (∀ b ∈ l, blkAt H' b = blkAt H b) → allLive H l = true → allLive H' l = true := by
      intro l
      induction l with
      | nil => exact fun _ _ => rfl
      | cons b l ih =>
        intro he hl
        simp only [allLive, Bool.and_eq_true] at hl ⊢
        rw [he b (.head _)]
        exact ⟨hl.1, ih (fun c hc => he c (.tail _ hc)) hl.2⟩
    exact this fz h1 k4
  · have : ∀ (l : Heap) (k : Nat), fitBs H m fz k l → fitBs H' m fz k l := by
      intro l
      induction l with
      | nil => exact fun _ _ => trivial
      | cons x l ih =>
        intro k hf
        refine ⟨?_, ih (k + 1) hf.2⟩
        have hx := hf.1
        cases x with
        | gone => trivial
        | box ds =>
          simp only [fitB] at hx ⊢
          split
          · rename_i b hb
            rw [hb] at hx
            simp only at hx
            have e := h2 b ((idsM_mem m).2 (List.mem_of_getElem? (by rw [← idAt_get]; exact hb)))
            refine ⟨hx.1, ?_⟩
            have h' := hx.2
            rw [e]
            split at h'
            · exact fitVs_congr h1 _ _ h'
            · exact h'.elim
          · rename_i hne
            split at hx
            · rename_i b hb; exact (hne b hb).elim
            · exact hx
        | arr e z n F =>
          simp only [fitB] at hx ⊢
          split
          · rename_i b hb
            rw [hb] at hx
            simp only at hx
            have e := h2 b ((idsM_mem m).2 (List.mem_of_getElem? (by rw [← idAt_get]; exact hb)))
            rw [arrAt_congr e]; exact hx
          · rename_i hb; rw [hb] at hx; exact hx
          · rename_i hb; rw [hb] at hx; exact hx
        | _ =>
          simp only [fitB] at hx ⊢
          split
          · rename_i b hb
            rw [hb] at hx
            simp only at hx
            have e := h2 b ((idsM_mem m).2 (List.mem_of_getElem? (by rw [← idAt_get]; exact hb)))
            rw [e]; exact hx
          · rename_i hne
            split at hx
            · rename_i b hb; exact (hne b hb).elim
            · exact hx
    exact this Hs 0 k5
structure Fits (H : Heap) (m : IdMap) (fz : List Nat) (args args' : List V) (Hs : Heap) : Prop where
  wk : Wk 0 m fz H Hs
  ags : fitVs H m fz args args'
  lv : allLive H (idsM m) = true
theorem blkAt_lt {H : Heap} {b : Nat} (h : (blkAt H b).live) : b < H.length := lt_of_get (blkAt_spec H b h)
theorem frameD {P : Program} {f : FuncId} {args args' : List V} {H Hs Hs' : Heap} {r : V} {m : IdMap} {fz : List Nat} (hct : CT P f args' Hs r Hs') (hfit : Fits H m fz args args' Hs) (hlen : Hs.length ≤ Hs'.length) (hfz : noFz H fz r Hs') {k : V → Delta → List Nat → Prop}
    (hk : k (renV m (Am.hlen H) r) (renH m (Am.hlen H) 0 Hs') (fz ++ idsM m)) : CALLD P f args H k := by
  classical
  refine ⟨_, _, _, hk, fun w O ρ vs H' hH hrel htc hun => ?_⟩
  rw [show Am.hlen H = H.length from hlen_eq H] at hk hun ⊢
  generalize hs : H.length = s at hk hun ⊢
  have hW := hfit.wk.congr (fun b hb => htc b (List.mem_append_left _ hb)) (fun b hb => htc b (List.mem_append_right _ hb))
  have hA := fitVs_congr (H' := H') (fun b hb => htc b (List.mem_append_left _ hb)) _ _ hfit.ags
  obtain ⟨hm, _, hdist, hlv, _⟩ := id hW
  have hlm : ∀ b, some b ∈ m → (blkAt H' b).live ∧ b < s := fun b hb => by
    have h1 := allLive_spec H _ hfit.lv b ((idsM_mem m).2 hb)
    exact ⟨by rw [htc b (List.mem_append_right _ ((idsM_mem m).2 hb))]; exact h1, by rw [← hs]; exact blkAt_lt h1⟩
  have hset : ∀ b, (blkAt H' b).live → ρ b ≠ .unset := fun b hb => by
    have := hH.blk b _ (blkAt_spec H' b hb)
    cases hx : blkAt H' b with
    | gone => rw [hx] at hb; exact hb.elim
    | box cs => rw [hx] at this; obtain ⟨g, cap, cur, e, h1, _⟩ := this; rw [h1]; simp
    | arr e z n F => rw [hx] at this; rcases this with ⟨h1, _⟩ | ⟨g, cap, cur, h1, _⟩ <;> rw [h1] <;> simp
    | it t p => rw [hx] at this; obtain ⟨g, cap, h1, _⟩ := this; rw [h1]; simp
    | arc e z n F c => rw [hx] at this; rcases this with ⟨h1, _⟩ | ⟨g, cur, h1, _⟩ <;> rw [h1] <;> simp
    | ms k p => rw [hx] at this; obtain ⟨g, cap, es, cl, h1, _⟩ := this; rw [h1]; simp
    | ml k l => rw [hx] at this; obtain ⟨g, cap, es, cl, h1, _⟩ := this; rw [h1]; simp
  obtain ⟨q1, q2, q3, q4, q5, q6, q7⟩ := weak_ok hH hW
  have hrel' : RVs w (wkO ρ fz O) (wkP ρ m Hs.length) args' vs := by
    obtain ⟨z1, z2⟩ := hrel
    obtain ⟨y1, y2⟩ := fitVs_ok hH (m := m) (n := Hs.length) hm hlv args args' vs.toList hA (by simp [z1]) (by simpa using z2)
    exact ⟨by rw [z1, y1], by simpa using y2⟩
  refine Calls.mono (hct w _ _ vs q2 q7 hrel') fun e w' hq => ?_
  obtain ⟨v, O1, ρ1, r', H1, rfl, ⟨rfl, rfl⟩, hrv, hg, hun1⟩ := hq
  have hid : ∀ j b : Nat, m[j]? = some (some b) → idR m s j = b := fun j b h => by simp [idR, idAt_get, h]
  have hid' : ∀ j : Nat, (∀ b : Nat, m[j]? ≠ some (some b)) → idR m s j = s + j := fun j h => by
    unfold idR
    rw [idAt_get]
    cases hm : m[j]? with
    | none => rfl
    | some o => cases o with
      | none => rfl
      | some b => exact absurd hm (h b)
  have hcase : ∀ j : Nat, (∃ b : Nat, m[j]? = some (some b)) ∨ ∀ b : Nat, m[j]? ≠ some (some b) := fun j => by
    by_cases h : ∃ b, m[j]? = some (some b)
    · exact .inl h
    · exact .inr fun b hb => h ⟨b, hb⟩
  have hinj : ∀ j j', idR m s j = idR m s j' → j = j' := fun j j' e => by
    rcases hcase j with ⟨b, hb⟩ | hn <;> rcases hcase j' with ⟨b', hb'⟩ | hn'
    · rw [hid j b hb, hid j' b' hb'] at e
      subst e
      exact distinct_spec m hdist j j' b hb hb'
    · rw [hid j b hb, hid' j' hn'] at e
      have := (hlm b (List.mem_of_getElem? hb)).2; omega
    · rw [hid' j hn, hid j' b' hb'] at e
      have := (hlm b' (List.mem_of_getElem? hb')).2; omega
    · rw [hid' j hn, hid' j' hn'] at e; omega
  let Fz : Nat → Prop := fun k => ∃ b ∈ fz, ∃ c, ρ b = .at k c
  have fzO : ∀ k, Fz k → O k := fun k ⟨b, hb, c, hc⟩ => by
    have hl := allLive_spec H' fz hlv b hb
    exact img_own hH ⟨b, _, c, blkAt_spec H' b hl, hl, hc⟩
  let O2 : Own := ⟨fun k => O1 k ∨ Fz k, O1.old⟩
  have hwk : ∀ k, wkO ρ fz O k ↔ O k ∧ ¬ Fz k := fun k => ⟨fun h => ⟨h.1, fun ⟨b, hb, c, hc⟩ => h.2 b hb c hc⟩, fun h => ⟨h.1, fun b hb c hc => h.2 ⟨b, hb, c, hc⟩⟩⟩
  have hpure : (∃ es, Lent es w' O1 O2 ∧ okV es r' ∧ okH es H1) ∨ ∀ k, O2 k → O1 k := by
    cases fz with
    | nil => exact .inr fun k hk => hk.elim (fun h => h) fun ⟨b, hb, _⟩ => nomatch hb
    | cons b0 l0 =>
      left
      simp only [noFz] at hfz
      split at hfz
      · rename_i es hes
        refine ⟨es, ⟨fun k hk => ?_, fun k hk hk2 => ?_⟩, hfz⟩
        · rcases hk with hk | ⟨b, hb, c, hc⟩
          · exact .inl hk
          · right
            have hty : ∀ (l : List Nat) (es : List Nat), tysOf H l = some es → ∀ b ∈ l, ∃ e z n F cc, arrAt H b = some (e, z, n, F, cc) ∧ e ∈ es := by
              intro l
              induction l with
              | nil => intro es _ b hb; cases hb
              | cons b' l ih =>
                intro es h b hb
                simp only [tysOf] at h
                split at h
                · rename_i e z n F cc r ha hr
                  cases h
                  rcases List.mem_cons.1 hb with rfl | hb
                  · exact ⟨e, z, n, F, cc, ha, .head _⟩
                  · obtain ⟨e', z', n', F', cc', q1, q2⟩ := ih _ hr b hb
                    exact ⟨e', z', n', F', cc', q1, .tail _ q2⟩
                · cases h
            obtain ⟨e, z, n, F, cc, ha, he⟩ := hty _ _ hes b hb
            have ha' : arrAt H' b = some (e, z, n, F, cc) := by rw [arrAt_congr (htc b (List.mem_append_left _ hb))]; exact ha
            obtain ⟨hb', hlive⟩ := arrAt_blk ha'
            rcases row_of hH hb' with ⟨k1, _⟩ | ⟨g, cap, cur, hr⟩
            · rw [hc] at k1; cases k1
            · have e2 := hr.pl
              rw [hc] at e2; cases e2
              refine ⟨cur, e, he, ?_⟩
              rw [hg.ev.block k (hH.lt k hr.ow) fun hi => ?_]
              · exact hr.hp
              · have := img_own q2 hi
                exact ((hwk k).1 this).2 ⟨b, hb, c, hc⟩
        · have hk' : O.old k := by
            show (wkO ρ (b0 :: l0) O).old k
            rw [← hg.old]; exact hk
          rcases hk2 with h | h
          · rcases hg.inn k h with h | h
            · exact (hH.olt k hk').2 ((hwk k).1 h).1
            · have := (hH.olt k hk').1; omega
          · exact (hH.olt k hk').2 (fzO k h)
      · exact hfz.elim
  let ρ2 : Place := fun b => if s ≤ b ∧ b < s + H1.length ∧ (∀ c : Nat, m[b - s]? ≠ some (some c)) then ρ1 (b - s) else ρ b
  have ρ2low : ∀ b, b < s → ρ2 b = ρ b := fun b hb => if_neg fun h => by omega
  have ρ2new : ∀ j, j < H1.length → (∀ b, m[j]? ≠ some (some b)) → ρ2 (s + j) = ρ1 j := fun j hj hn => by
    show (if _ then _ else _) = _
    rw [if_pos ⟨by omega, by omega, by rw [Nat.add_sub_cancel_left]; exact hn⟩, Nat.add_sub_cancel_left]
  have hρ : ∀ j, ρ1 j ≠ .unset → ρ2 (idR m s j) = ρ1 j := fun j hj => by
    have hjl : j < H1.length := by
      rcases Nat.lt_or_ge j H1.length with h | h
      · exact h
      · exact absurd (hun1 j h) hj
    rcases hcase j with ⟨b, hb⟩ | hn
    · have hbm := hlm b (List.mem_of_getElem? hb)
      rw [hid j b hb, ρ2low b hbm.2]
      have e : wkP ρ m Hs.length j = ρ b := wkP_at hm hb
      rw [hg.pl j (by rw [e]; exact hset b hbm.1), e]
    · rw [hid' j hn]; exact ρ2new j hjl hn
  have himg : ∀ g, Img (wkP ρ m Hs.length) Hs g → ∃ j b y c, j < Hs.length ∧ m[j]? = some (some b) ∧ H'[b]? = some y ∧ y.live ∧ ρ b = .at g c := by
    intro g ⟨j, x, c, hj, hl, hp⟩
    rcases hcase j with ⟨b, hb⟩ | hn
    · rw [wkP_at hm hb] at hp
      have hbm := hlm b (List.mem_of_getElem? hb)
      exact ⟨j, b, _, c, lt_of_get hj, hb, blkAt_spec H' b hbm.1, hbm.1, hp⟩
    · have hjl := lt_of_get hj
      have : wkP ρ m Hs.length j = .nil ∨ wkP ρ m Hs.length j = .unset := by
        simp only [wkP, if_pos hjl]
        split
        · rename_i b hb; exact absurd hb (hn b)
        · exact .inl rfl
        · exact .inr rfl
      rcases this with h | h <;> rw [h] at hp <;> cases hp
  let inIm : Nat → Prop := fun b => ∃ j, j < H1.length ∧ b = idR m s j
  have hkeys : ∀ b, b ∈ keys (renH m s 0 H1) ↔ inIm b := fun b => by
    rw [renH_keys]
    constructor <;> rintro ⟨j, h1, h2⟩ <;> exact ⟨j, h1, by simpa using h2⟩
  have blkIm : ∀ j x, H1[j]? = some x → blkAt (putAll H' (renH m s 0 H1)) (idR m s j) = renB m s x := fun j x hx => by
    rw [blkAt_putAll]
    have := renH_at hinj H1 0 j x (blkAt H' (idR m s j)) hx
    rwa [Nat.zero_add] at this
  have blkOut : ∀ b, ¬ inIm b → blkAt (putAll H' (renH m s 0 H1)) b = blkAt H' b := fun b hb => by
    rw [blkAt_putAll, dAt_none _ _ _ (by rw [hkeys]; exact hb)]
  have ρ2out : ∀ b, ¬ inIm b → ρ2 b = ρ b := fun b hb => by
    show (if _ then _ else _) = _
    rw [if_neg]
    intro ⟨h1, h2, h3⟩
    exact hb ⟨b - s, by omega, by rw [hid' _ h3]; omega⟩
  have hsz := hg.ev.size
  have hold : O1.old = O.old := hg.old
  have kp : Keeps w O w' O2 := by
    refine ⟨hsz, fun k hk ho => ⟨hg.ev.block k hk fun hi => ?_, fun h => ?_⟩, hold⟩
    · exact ho ((hwk k).1 (img_own q2 hi)).1
    · rcases h with h | h
      · rcases hg.inn k h with h | h
        · exact ho ((hwk k).1 h).1
        · omega
      · exact ho (fzO k h)
  have hpl : PlLe ρ ρ2 := fun b hb => by
    by_cases hi : inIm b
    · obtain ⟨j, hj, rfl⟩ := hi
      rcases hcase j with ⟨c, hc⟩ | hn
      · rw [hid j c hc]; exact ρ2low c (hlm c (List.mem_of_getElem? hc)).2
      · rw [hid' j hn] at hb
        obtain ⟨x, hx⟩ := (keys_mem _).1 ((hkeys (s + j)).2 ⟨j, hj, (hid' j hn).symm⟩)
        exact absurd (hun (s + j) x hx (by omega)) hb
    · exact ρ2out b hi
  have hout : ∀ b y g c, ¬ inIm b → H'[b]? = some y → y.live → ρ b = .at g c → ¬ Img (wkP ρ m Hs.length) Hs g := by
    intro b y g c hb hy hl hp hi
    obtain ⟨j, b', y', c', hj, hjb, hy', hl', hp'⟩ := himg g hi
    have := hH.inj b b' y y' g c c' hy hl hy' hl' hp hp'
    subst this
    exact hb ⟨j, by omega, (hid j b hjb).symm⟩
  have hblk : ∀ b x, (putAll H' (renH m s 0 H1))[b]? = some x → x.live → (∃ j y, H1[j]? = some y ∧ b = idR m s j ∧ x = renB m s y) ∨ (¬ inIm b ∧ H'[b]? = some x) := by
    intro b x hx hl
    have e := blkAt_live hx
    by_cases hi : inIm b
    · obtain ⟨j, hj, rfl⟩ := hi
      have hj' := List.getElem?_eq_getElem hj
      rw [blkIm j _ hj'] at e
      exact .inl ⟨j, _, hj', rfl, e.symm⟩
    · rw [blkOut b hi] at e
      exact .inr ⟨hi, blkAt_eq e hl⟩
  have hρ1img : ∀ j y g c, H1[j]? = some y → y.live → ρ2 (idR m s j) = .at g c → ρ1 j = .at g c := by
    intro j y g c hj hl hp
    have hne : ρ1 j ≠ .unset := by
      have := hg.hok.blk j y hj
      cases y with
      | gone => exact hl.elim
      | box cs => obtain ⟨g, cap, cur, e, h1, _⟩ := this; rw [h1]; simp
      | arr e z n F => rcases this with ⟨h1, _⟩ | ⟨g, cap, cur, h1, _⟩ <;> rw [h1] <;> simp
      | it t p => obtain ⟨g, cap, h1, _⟩ := this; rw [h1]; simp
      | arc e z n F c => rcases this with ⟨h1, _⟩ | ⟨g, cur, h1, _⟩ <;> rw [h1] <;> simp
      | ms k p => obtain ⟨g, cap, es, cl, h1, _⟩ := this; rw [h1]; simp
      | ml k l => obtain ⟨g, cap, es, cl, h1, _⟩ := this; rw [h1]; simp
    rw [hρ j hne] at hp; exact hp
  have hpv : ∃ es, (Lent es w' O1 O2 ∧ okV es r') ∨ ∀ k, O2 k → O1 k := by
    rcases hpure with ⟨es, h1, h2, h3⟩ | h
    · exact ⟨es, .inl ⟨h1, h2⟩⟩
    · exact ⟨[], .inr h⟩
  obtain ⟨esv, hpv⟩ := hpv
  have hpb : ∀ (j : Nat) (y : Blk), H1[j]? = some y → ∃ es, (Lent es w' O1 O2 ∧ okB es y) ∨ ∀ k, O2 k → O1 k := by
    intro j y hj
    rcases hpure with ⟨es, h1, h2, h3⟩ | h
    · exact ⟨es, .inl ⟨h1, okH_get _ h3 j y hj⟩⟩
    · exact ⟨[], .inr h⟩
  refine ⟨v, O2, ρ2, rfl, RV.ren (O := O1) (O' := O2) rfl hρ hrv hpv, ⟨⟨fun b x hx => ?_, fun b b' x x' g c c' hx hl hx' hl' hp hp' => ?_, fun k hk => ?_, fun k hk => ?_⟩, ⟨hg.ev.os, hg.ev.tape, hg.ev.output, hsz, fun k hk hn => hg.ev.block k hk fun hi => hn (q3 k hi)⟩, hpl, fun k ⟨b, x, c, hx, hl, hp⟩ => ?_, fun k hk hn => ?_, fun k hk => ?_, hold⟩, fun b hb => ?_⟩
  · by_cases hl : x.live
    · rcases hblk b x hx hl with ⟨j, y, hj, rfl, rfl⟩ | ⟨hi, hy⟩
      · obtain ⟨es, hpb⟩ := hpb j y hj
        exact BOK.ren (O := O1) (O' := O2) rfl hρ (hg.hok.blk j y hj) (fun g c _ h => .inl h) hpb
      · refine (hH.blk b x hy).mono kp hpl fun g c hp hl => ?_
        have ho := img_own hH ⟨b, x, c, hy, hl, hp⟩
        have hni := hout b x g c hi hy hl hp
        refine ⟨hg.ev.block g (hH.lt g ho) hni, ?_⟩
        by_cases hf : Fz g
        · exact .inr hf
        · exact .inl (hg.out g ((hwk g).2 ⟨ho, hf⟩) hni)
    · cases x with
      | gone => trivial
      | _ => exact (hl trivial).elim
  · rcases hblk b x hx hl with ⟨j, y, hj, rfl, rfl⟩ | ⟨hi, hy⟩ <;> rcases hblk b' x' hx' hl' with ⟨j', y', hj', rfl, rfl⟩ | ⟨hi', hy'⟩
    · rw [hg.hok.inj j j' y y' g c c' hj (renB_live.1 hl) hj' (renB_live.1 hl') (hρ1img j y g c hj (renB_live.1 hl) hp) (hρ1img j' y' g c' hj' (renB_live.1 hl') hp')]
    · exfalso
      rw [ρ2out b' hi'] at hp'
      have ho := hH.lt g (img_own hH ⟨b', x', c', hy', hl', hp'⟩)
      rcases hg.img g ⟨j, y, c, hj, renB_live.1 hl, hρ1img j y g c hj (renB_live.1 hl) hp⟩ with h | h
      · exact hout b' x' g c' hi' hy' hl' hp' h
      · omega
    · exfalso
      rw [ρ2out b hi] at hp
      have ho := hH.lt g (img_own hH ⟨b, x, c, hy, hl, hp⟩)
      rcases hg.img g ⟨j', y', c', hj', renB_live.1 hl', hρ1img j' y' g c' hj' (renB_live.1 hl') hp'⟩ with h | h
      · exact hout b x g c hi hy hl hp h
      · omega
    · rw [ρ2out b hi] at hp
      rw [ρ2out b' hi'] at hp'
      exact hH.inj b b' x x' g c c' hy hl hy' hl' hp hp'
  · rcases hk with h | h
    · exact hg.hok.lt k h
    · have := hH.lt k (fzO k h); omega
  · have hk' : O.old k := by rw [← hold]; exact hk
    have h1 := hH.olt k hk'
    refine ⟨by omega, fun h => ?_⟩
    rcases h with h | h
    · rcases hg.inn k h with h | h
      · exact h1.2 ((hwk k).1 h).1
      · omega
    · exact h1.2 (fzO k h)
  · rcases hblk b x hx hl with ⟨j, y, hj, rfl, rfl⟩ | ⟨hi, hy⟩
    · rcases hg.img k ⟨j, y, c, hj, renB_live.1 hl, hρ1img j y k c hj (renB_live.1 hl) hp⟩ with h | h
      · exact .inl (q3 k h)
      · exact .inr h
    · rw [ρ2out b hi] at hp
      exact .inl ⟨b, x, c, hy, hl, hp⟩
  · by_cases hf : Fz k
    · exact .inr hf
    · exact .inl (hg.out k ((hwk k).2 ⟨hk, hf⟩) fun hi => hn (q3 k hi))
  · rcases hk with h | h
    · exact (hg.inn k h).imp (fun h => ((hwk k).1 h).1) id
    · exact .inl (fzO k h)
  · exact ρ2out b fun hi => by
      obtain ⟨x, hx⟩ := (keys_mem _).1 ((hkeys b).2 hi)
      exact hb x hx
theorem CALL_of_CALLD {P : Program} {f : FuncId} {args : List V} {H : Heap} {k : KH} (h : CALLD P f args H fun v d tc => k v (putAll H d)) : CALL P f args H k := by
  obtain ⟨r, d, tc, hk, hc⟩ := h
  intro w O ρ vs hH hf hr
  refine Calls.mono (hc w O ρ vs H hH hr (fun _ _ => rfl) fun b x _ hb => hf b hb) fun e w' hq => ?_
  obtain ⟨v, O', ρ', rfl, h1, h2, h3⟩ := hq
  refine ⟨v, O', ρ', r, _, rfl, hk, h1, h2, fun b hb => ?_⟩
  rw [h3 b fun x hx => by have := putAll_mem d H b x hx; omega]
  exact hf b (Nat.le_trans (putAll_length d H) hb)
theorem call_ct {P : Program} {tab : Tab} {n0 : Nat} {md : Md} {X : Cx} (hX : Cx.std P tab n0 md = X) {f : FuncId} {args args' : List V} {H Hs Hs' : Heap} {r : V} {k : KH} (m : IdMap) (fz : List Nat) (hct : CT P f args' Hs r Hs') (hfit : Fits H m fz args args' Hs) (hlen : Nat.ble (lenL Hs) (lenL Hs') = true) (hfz : noFz H fz r Hs')
    (hk : k (renV m (Am.hlen H) r) (putAll H (renH m (Am.hlen H) 0 Hs'))) : X.call f args H k := by
  subst hX
  exact CALL_of_CALLD (frameD hct hfit (by have := Nat.le_of_ble_eq_true hlen; rwa [lenL_eq, lenL_eq] at this) hfz hk)
theorem calld_ct {P : Program} {tab : Tab} {n0 : Nat} {md : Md} {X : Cx} (hX : Cx.std P tab n0 md = X) {f : FuncId} {args args' : List V} {H Hs Hs' : Heap} {r : V} {k : V → Delta → List Nat → Prop} (m : IdMap) (fz : List Nat) (hct : CT P f args' Hs r Hs') (hfit : Fits H m fz args args' Hs) (hlen : Nat.ble (lenL Hs) (lenL Hs') = true) (hfz : noFz H fz r Hs')
    (hk : k (renV m (Am.hlen H) r) (renH m (Am.hlen H) 0 Hs') (fz ++ idsM m)) : X.calld f args H k := by
  subst hX
  exact frameD hct hfit (by have := Nat.le_of_ble_eq_true hlen; rwa [lenL_eq, lenL_eq] at this) hfz hk
end Am
end
section
open Go Go.Lib Go.IntWalk
set_option linter.unusedVariables false
set_option linter.unusedSimpArgs false
set_option linter.unusedSectionVars false
namespace Am
theorem fitU_refl : ∀ x : U, fitU x x
  | .sc v => by cases v <;> first | rfl | (rename_i a b c; cases a <;> cases b <;> cases c <;> rfl)
  | .sv o z n f => ⟨tgLe_refl o, rfl, rfl, fun _ _ => rfl⟩
  | .any => trivial
theorem IntoR.flat {v : V} {H : Heap} {r : V} (fz : List Nat) (hl : allLive H fz = true) (h : fitV H [] fz v r) : IntoR 0 v H r [] :=
  ⟨[], fz, ⟨rfl, rfl, rfl, hl, trivial⟩, h⟩
theorem ct_end {v : V} {H : Heap} {r : V} {n0 : Nat} {Hs' : Heap} (h : IntoR n0 v H r Hs') : ∃ r' H', (r' = r ∧ H' = Hs') ∧ IntoR n0 v H r' H' := ⟨r, Hs', ⟨rfl, rfl⟩, h⟩
theorem ct_flat {v : V} {H : Heap} {r : V} (fz : List Nat) (hl : allLive H fz = true) (h : fitV H [] fz v r) : ∃ r' H', (r' = r ∧ H' = []) ∧ IntoR 0 v H r' H' := ct_end (.flat fz hl h)
theorem ct_u {x : U} {H : Heap} {r : V} (h : V.u x = r) : ∃ r' H', (r' = r ∧ H' = []) ∧ IntoR 0 (.u x) H r' H' := by
  subst h
  exact ct_flat [] rfl (fitU_refl x)
theorem fits_nil {H : Heap} {args args' : List V} (h : fitVs H [] [] args args') : Fits H [] [] args args' [] := ⟨⟨rfl, rfl, rfl, rfl, trivial⟩, h, rfl⟩
theorem loop_at {P : Program} {tab : Tab} {n0 : Nat} {md : Md} {ob : Ob → Prop} {ib : BinOp → IntKind → Int → Int → Int} {ic : BinOp → Int → Int → Bool} {sb : BinOp → ByteArray → ByteArray → Bool} {cat : ByteArray → ByteArray → ByteArray} {iu : UnOp → IntKind → Int → Int} {nt : Bool → Bool} {an : Bool → Bool → Bool} {be : Bool → Bool → Bool} {pk : Bool → Bool → Bool → Bool} {wr : IntKind → Int → Int} {tn : Int → Nat} {iN : Nat → Int} {aN : Nat → Nat → Nat} {sN : Nat → Nat → Nat} {lN : Nat → Nat → Bool} {eN : Nat → Nat → Bool} {bt : ByteArray → Int → Int} {sub : ByteArray → Int → Int → ByteArray} {sl : ByteArray → Int} {rn : Int → ByteArray} {ofB : Nat → (Nat → List U) → ByteArray} {mn : Int → Int → Int} {dc : ByteArray → Nat → Int} {dn : ByteArray → Nat → Nat} {sI : Int → Int → Int} {X : Cx} (hE : Ax ob ib ic sb cat iu nt an be pk wr tn iN aN sN lN eN bt sub sl rn ofB mn dc dn sI) (hX : Cx.std P tab n0 md = X) (hT : TabOK P tab) (hmix : P.follows .mixedOrders = true) {c : C} {fs : List FuncId} (hfs : FuncsOK P fs) (hF : allIn fs (callsC c) = true) {K : KE} {T : List V} {H : Heap} {α : Type} (st : α → List V × Heap) (pre : α → Prop) (μ : α → Nat)
    (a0 : α) (hp0 : pre a0) (hin : Into n0 T H (st a0))
    (round : ∀ a, pre a → vc ⟨ob, ib, ic, sb, cat, iu, nt, an, be, pk, wr, tn, iN, aN, sN, lN, eN, bt, sub, sl, rn, ofB, mn, dc, dn, sI⟩ X c (onRound (fun T' H' => ∃ a', pre a' ∧ μ a' < μ a ∧ Into n0 T' H' (st a')) K) (st a).1 (st a).2) :
    X.loop c K T H := by
  subst hX
  rw [← hE.eq] at round
  exact loop_rule hT hmix (hfs.sub hF) st pre μ a0 hp0 hin round
def sets : List V → List (Nat × V) → List V
  | T, [] => T
  | T, (t, v) :: l => sets (setT T t v) l
theorem toList_inj {a b : ByteArray} (h : a.toList = b.toList) : a = b := by
  rw [ByteArray.toList_eq, ByteArray.toList_eq] at h
  exact ByteArray.ext (Array.toList_inj.1 h)
section
variable {ob : Ob → Prop} {ib : BinOp → IntKind → Int → Int → Int} {ic : BinOp → Int → Int → Bool} {sb : BinOp → ByteArray → ByteArray → Bool} {cat : ByteArray → ByteArray → ByteArray} {iu : UnOp → IntKind → Int → Int} {nt : Bool → Bool} {an : Bool → Bool → Bool} {be : Bool → Bool → Bool} {pk : Bool → Bool → Bool → Bool} {wr : IntKind → Int → Int} {tn : Int → Nat} {iN : Nat → Int} {aN : Nat → Nat → Nat} {sN : Nat → Nat → Nat} {lN : Nat → Nat → Bool} {eN : Nat → Nat → Bool} {bt : ByteArray → Int → Int} {sub : ByteArray → Int → Int → ByteArray} {sl : ByteArray → Int} {rn : Int → ByteArray} {ofB : Nat → (Nat → List U) → ByteArray} {mn : Int → Int → Int} {dc : ByteArray → Nat → Int} {dn : ByteArray → Nat → Nat} {sI : Int → Int → Int}
theorem Ax.o (hE : Ax ob ib ic sb cat iu nt an be pk wr tn iN aN sN lN eN bt sub sl rn ofB mn dc dn sI) {q : Ob} (h : q.den) : ob q := by
  rw [← hE.h_ob]
  exact h
theorem Ax.e_iN (hE : Ax ob ib ic sb cat iu nt an be pk wr tn iN aN sN lN eN bt sub sl rn ofB mn dc dn sI) {n : Nat} : iN n = (n : Int) := by
  rw [← hE.h_iN]
  rfl
theorem Ax.e_tn (hE : Ax ob ib ic sb cat iu nt an be pk wr tn iN aN sN lN eN bt sub sl rn ofB mn dc dn sI) {i : Int} : tn i = i.toNat := by
  rw [← hE.h_tn]
  rfl
theorem Ax.e_aN (hE : Ax ob ib ic sb cat iu nt an be pk wr tn iN aN sN lN eN bt sub sl rn ofB mn dc dn sI) {a b : Nat} : aN a b = a + b := by
  rw [← hE.h_aN]
  rfl
theorem Ax.e_sN (hE : Ax ob ib ic sb cat iu nt an be pk wr tn iN aN sN lN eN bt sub sl rn ofB mn dc dn sI) {a b : Nat} : sN a b = a - b := by
  rw [← hE.h_sN]
  rfl
theorem Ax.e_lN (hE : Ax ob ib ic sb cat iu nt an be pk wr tn iN aN sN lN eN bt sub sl rn ofB mn dc dn sI) {a b : Nat} : lN a b = decide (a < b) := by
  rw [← hE.h_lN]
  rfl
theorem Ax.e_eN (hE : Ax ob ib ic sb cat iu nt an be pk wr tn iN aN sN lN eN bt sub sl rn ofB mn dc dn sI) {a b : Nat} : eN a b = decide (a = b) := by
  rw [← hE.h_eN]
  rfl
theorem Ax.e_nt (hE : Ax ob ib ic sb cat iu nt an be pk wr tn iN aN sN lN eN bt sub sl rn ofB mn dc dn sI) {b : Bool} : nt b = !b := by
  rw [← hE.h_nt]
  rfl
theorem Ax.e_sl (hE : Ax ob ib ic sb cat iu nt an be pk wr tn iN aN sN lN eN bt sub sl rn ofB mn dc dn sI) {s : ByteArray} : sl s = (s.size : Int) := by
  rw [← hE.h_sl]
  rfl
theorem Ax.e_an (hE : Ax ob ib ic sb cat iu nt an be pk wr tn iN aN sN lN eN bt sub sl rn ofB mn dc dn sI) {a b : Bool} : an a b = (a && b) := by
  rw [← hE.h_an]
  rfl
theorem Ax.e_be (hE : Ax ob ib ic sb cat iu nt an be pk wr tn iN aN sN lN eN bt sub sl rn ofB mn dc dn sI) {a b : Bool} : be a b = (a == b) := by
  rw [← hE.h_be]
  rfl
theorem Ax.e_pk (hE : Ax ob ib ic sb cat iu nt an be pk wr tn iN aN sN lN eN bt sub sl rn ofB mn dc dn sI) {c a b : Bool} : pk c a b = if c then a else b := by
  rw [← hE.h_pk]
  rfl
theorem Ax.e_cat (hE : Ax ob ib ic sb cat iu nt an be pk wr tn iN aN sN lN eN bt sub sl rn ofB mn dc dn sI) {a b : ByteArray} : cat a b = a ++ b := by
  rw [← hE.h_cat]
  rfl
theorem Ax.e_sub (hE : Ax ob ib ic sb cat iu nt an be pk wr tn iN aN sN lN eN bt sub sl rn ofB mn dc dn sI) {s : ByteArray} {a b : Int} : sub s a b = s.extract a.toNat b.toNat := by
  rw [← hE.h_sub]
  rfl
theorem Ax.e_bt (hE : Ax ob ib ic sb cat iu nt an be pk wr tn iN aN sN lN eN bt sub sl rn ofB mn dc dn sI) {s : ByteArray} {i : Int} : bt s i = btI s i := by
  rw [← hE.h_bt]
  rfl
theorem Ax.e_rn (hE : Ax ob ib ic sb cat iu nt an be pk wr tn iN aN sN lN eN bt sub sl rn ofB mn dc dn sI) {n : Int} : rn n = Utf8.encode n := by
  rw [← hE.h_rn]
  rfl
theorem Ax.e_sI (hE : Ax ob ib ic sb cat iu nt an be pk wr tn iN aN sN lN eN bt sub sl rn ofB mn dc dn sI) {a b : Int} : sI a b = a - b := by
  rw [← hE.h_sI]
  rfl
theorem Ax.e_mn (hE : Ax ob ib ic sb cat iu nt an be pk wr tn iN aN sN lN eN bt sub sl rn ofB mn dc dn sI) {a b : Int} : mn a b = if b < a then b else a := by
  rw [← hE.h_mn]
  rfl
theorem Ax.add64 (hE : Ax ob ib ic sb cat iu nt an be pk wr tn iN aN sN lN eN bt sub sl rn ofB mn dc dn sI) {a b : Int} (h : -9223372036854775808 ≤ a + b ∧ a + b ≤ 9223372036854775807) : ib .add .i64 a b = a + b := by
  rw [← hE.h_ib]
  exact i64_in _ h
theorem Ax.sub64 (hE : Ax ob ib ic sb cat iu nt an be pk wr tn iN aN sN lN eN bt sub sl rn ofB mn dc dn sI) {a b : Int} (h : -9223372036854775808 ≤ a - b ∧ a - b ≤ 9223372036854775807) : ib .sub .i64 a b = a - b := by
  rw [← hE.h_ib]
  exact i64_in _ h
theorem Ax.mul64 (hE : Ax ob ib ic sb cat iu nt an be pk wr tn iN aN sN lN eN bt sub sl rn ofB mn dc dn sI) {a b : Int} (h : -9223372036854775808 ≤ a * b ∧ a * b ≤ 9223372036854775807) : ib .mul .i64 a b = a * b := by
  rw [← hE.h_ib]
  exact i64_in _ h
theorem Ax.addU64 (hE : Ax ob ib ic sb cat iu nt an be pk wr tn iN aN sN lN eN bt sub sl rn ofB mn dc dn sI) {a b : Int} (h : 0 ≤ a + b ∧ a + b ≤ 18446744073709551615) : ib .add .u64 a b = a + b := by
  rw [← hE.h_ib]
  exact u64_in _ h
theorem Ax.subU64 (hE : Ax ob ib ic sb cat iu nt an be pk wr tn iN aN sN lN eN bt sub sl rn ofB mn dc dn sI) {a b : Int} (h : 0 ≤ a - b ∧ a - b ≤ 18446744073709551615) : ib .sub .u64 a b = a - b := by
  rw [← hE.h_ib]
  exact u64_in _ h
theorem Ax.mulU64 (hE : Ax ob ib ic sb cat iu nt an be pk wr tn iN aN sN lN eN bt sub sl rn ofB mn dc dn sI) {a b : Int} (h : 0 ≤ a * b ∧ a * b ≤ 18446744073709551615) : ib .mul .u64 a b = a * b := by
  rw [← hE.h_ib]
  exact u64_in _ h
theorem Ax.addU8 (hE : Ax ob ib ic sb cat iu nt an be pk wr tn iN aN sN lN eN bt sub sl rn ofB mn dc dn sI) {a b : Int} (h : 0 ≤ a + b ∧ a + b ≤ 255) : ib .add .u8 a b = a + b := by
  rw [← hE.h_ib]
  exact u8_in _ h
theorem Ax.subU8 (hE : Ax ob ib ic sb cat iu nt an be pk wr tn iN aN sN lN eN bt sub sl rn ofB mn dc dn sI) {a b : Int} (h : 0 ≤ a - b ∧ a - b ≤ 255) : ib .sub .u8 a b = a - b := by
  rw [← hE.h_ib]
  exact u8_in _ h
theorem Ax.mulU8 (hE : Ax ob ib ic sb cat iu nt an be pk wr tn iN aN sN lN eN bt sub sl rn ofB mn dc dn sI) {a b : Int} (h : 0 ≤ a * b ∧ a * b ≤ 255) : ib .mul .u8 a b = a * b := by
  rw [← hE.h_ib]
  exact u8_in _ h
theorem Ax.rem (hE : Ax ob ib ic sb cat iu nt an be pk wr tn iN aN sN lN eN bt sub sl rn ofB mn dc dn sI) {k : IntKind} {a b : Int} (h : 0 ≤ a) : ib .rem k a b = a % b := by
  rw [← hE.h_ib]
  exact Int.tmod_eq_emod_of_nonneg h
theorem Ax.quo64 (hE : Ax ob ib ic sb cat iu nt an be pk wr tn iN aN sN lN eN bt sub sl rn ofB mn dc dn sI) {a b : Int} (h : 0 ≤ a ∧ a ≤ 9223372036854775807 ∧ 1 ≤ b) : ib .quo .i64 a b = a / b := by
  rw [← hE.h_ib]
  exact i64_quo a b h
theorem Ax.wr_i64 (hE : Ax ob ib ic sb cat iu nt an be pk wr tn iN aN sN lN eN bt sub sl rn ofB mn dc dn sI) {a : Int} (h : -9223372036854775808 ≤ a ∧ a ≤ 9223372036854775807) : wr .i64 a = a := by
  rw [← hE.h_wr]
  exact i64_in _ h
theorem Ax.wr_u8 (hE : Ax ob ib ic sb cat iu nt an be pk wr tn iN aN sN lN eN bt sub sl rn ofB mn dc dn sI) {a : Int} (h : 0 ≤ a ∧ a ≤ 255) : wr .u8 a = a := by
  rw [← hE.h_wr]
  exact u8_in _ h
theorem Ax.wr_u64 (hE : Ax ob ib ic sb cat iu nt an be pk wr tn iN aN sN lN eN bt sub sl rn ofB mn dc dn sI) {a : Int} (h : 0 ≤ a ∧ a ≤ 18446744073709551615) : wr .u64 a = a := by
  rw [← hE.h_wr]
  exact u64_in _ h
theorem Ax.wr_u8' (hE : Ax ob ib ic sb cat iu nt an be pk wr tn iN aN sN lN eN bt sub sl rn ofB mn dc dn sI) {a : Int} : wr .u8 a = a % 256 := by
  rw [← hE.h_wr]
  exact IntKind.wrap_u8 a
theorem Ax.lss (hE : Ax ob ib ic sb cat iu nt an be pk wr tn iN aN sN lN eN bt sub sl rn ofB mn dc dn sI) {a b : Int} : ic .lss a b = decide (a < b) := by
  rw [← hE.h_ic]
  rfl
theorem Ax.leq (hE : Ax ob ib ic sb cat iu nt an be pk wr tn iN aN sN lN eN bt sub sl rn ofB mn dc dn sI) {a b : Int} : ic .leq a b = decide (a ≤ b) := by
  rw [← hE.h_ic]
  rfl
theorem Ax.gtr (hE : Ax ob ib ic sb cat iu nt an be pk wr tn iN aN sN lN eN bt sub sl rn ofB mn dc dn sI) {a b : Int} : ic .gtr a b = decide (a > b) := by
  rw [← hE.h_ic]
  rfl
theorem Ax.geq (hE : Ax ob ib ic sb cat iu nt an be pk wr tn iN aN sN lN eN bt sub sl rn ofB mn dc dn sI) {a b : Int} : ic .geq a b = decide (a ≥ b) := by
  rw [← hE.h_ic]
  rfl
theorem Ax.eql (hE : Ax ob ib ic sb cat iu nt an be pk wr tn iN aN sN lN eN bt sub sl rn ofB mn dc dn sI) {a b : Int} : ic .eql a b = decide (a = b) := by
  rw [← hE.h_ic]
  show (a == b) = _; by_cases h : a = b <;> simp [h]
theorem Ax.neq (hE : Ax ob ib ic sb cat iu nt an be pk wr tn iN aN sN lN eN bt sub sl rn ofB mn dc dn sI) {a b : Int} : ic .neq a b = decide (a ≠ b) := by
  rw [← hE.h_ic]
  show (a != b) = _; by_cases h : a = b <;> simp [h]
theorem Ax.seql (hE : Ax ob ib ic sb cat iu nt an be pk wr tn iN aN sN lN eN bt sub sl rn ofB mn dc dn sI) {a b : ByteArray} : sb .eql a b = decide (a = b) := by
  rw [← hE.h_sb]
  show (a.toList == b.toList) = _; by_cases h : a = b
  · simp [h]
  · have : a.toList ≠ b.toList := fun e => h (Am.toList_inj e)
    simp [h, this]
theorem Ax.sneq (hE : Ax ob ib ic sb cat iu nt an be pk wr tn iN aN sN lN eN bt sub sl rn ofB mn dc dn sI) {a b : ByteArray} : sb .neq a b = decide (a ≠ b) := by
  rw [← hE.h_sb]
  show (!(a.toList == b.toList)) = _; by_cases h : a = b
  · simp [h]
  · have : a.toList ≠ b.toList := fun e => h (Am.toList_inj e)
    simp [h, this]
theorem Ax.app1 (hE : Ax ob ib ic sb cat iu nt an be pk wr tn iN aN sN lN eN bt sub sl rn ofB mn dc dn sI) {G : Nat → List U} {k : Nat} {x : List U} (h : G k = x) : ∀ i, i < k.succ → (if lN i k = true then G i else listRow [x] (sN i k)) = G i := by
  intro i hi
  rw [hE.e_lN, hE.e_sN]
  by_cases hk : i < k
  · simp [hk]
  · have : i = k := by omega
    subst this
    simp [listRow, h]
end
def rI (B : Nat → Int) : Nat → List U := fun j => [.sc (.int .u8 (B j))]
abbrev bS (o : Tg) (n : Nat) (B : Nat → Int) : V := .u (.sv o 1 n (rI B))
def bytesOf (n : Nat) (L : Nat → Int) : ByteArray := ⟨((List.range n).map fun j => UInt8.ofNat (L j).toNat).toArray⟩
theorem Ax.ofB_rI {ob : Ob → Prop} {ib : BinOp → IntKind → Int → Int → Int} {ic : BinOp → Int → Int → Bool} {sb : BinOp → ByteArray → ByteArray → Bool} {cat : ByteArray → ByteArray → ByteArray} {iu : UnOp → IntKind → Int → Int} {nt : Bool → Bool} {an : Bool → Bool → Bool} {be : Bool → Bool → Bool} {pk : Bool → Bool → Bool → Bool} {wr : IntKind → Int → Int} {tn : Int → Nat} {iN : Nat → Int} {aN : Nat → Nat → Nat} {sN : Nat → Nat → Nat} {lN : Nat → Nat → Bool} {eN : Nat → Nat → Bool} {bt : ByteArray → Int → Int} {sub : ByteArray → Int → Int → ByteArray} {sl : ByteArray → Int} {rn : Int → ByteArray} {ofB : Nat → (Nat → List U) → ByteArray} {mn : Int → Int → Int} {dc : ByteArray → Nat → Int} {dn : ByteArray → Nat → Nat} {sI : Int → Int → Int} (hE : Ax ob ib ic sb cat iu nt an be pk wr tn iN aN sN lN eN bt sub sl rn ofB mn dc dn sI) {n : Nat} {L : Nat → Int} : ofB n (rI L) = bytesOf n L := by
  rw [← hE.h_ofB]
  rfl
structure IsN (z : Int) (n : Nat) : Prop where
  e : z = n
def Byte (B : Nat → Int) : Prop := ∀ j, 0 ≤ B j ∧ B j ≤ 255
end Am
end
section
open Go Go.Lib
set_option linter.unusedVariables false
set_option linter.unusedSimpArgs false
set_option linter.unusedSectionVars false
namespace Am
theorem bl_irrefl : ∀ l : List UInt8, Op.bytesLess l l = false
  | [] => rfl
  | a :: l => by simp [Op.bytesLess, bl_irrefl l]
theorem bl_tri : ∀ x y : List UInt8, Op.bytesLess x y = true ∨ x = y ∨ Op.bytesLess y x = true
  | [], [] => .inr (.inl rfl)
  | [], _ :: _ => .inl rfl
  | _ :: _, [] => .inr (.inr rfl)
  | a :: x, b :: y => by
    simp only [Op.bytesLess, Bool.or_eq_true, Bool.and_eq_true, decide_eq_true_eq, beq_iff_eq, List.cons.injEq]
    rcases Nat.lt_trichotomy a.toNat b.toNat with h | h | h
    · exact .inl (.inl h)
    · obtain rfl := UInt8.toNat_inj.1 h
      rcases bl_tri x y with h | h | h
      · exact .inl (.inr ⟨rfl, h⟩)
      · exact .inr (.inl ⟨rfl, h⟩)
      · exact .inr (.inr (.inr ⟨rfl, h⟩))
    · exact .inr (.inr (.inl h))
theorem bl_trans : ∀ {x y z : List UInt8}, Op.bytesLess x y = true → Op.bytesLess y z = true → Op.bytesLess x z = true
  | [], [], _, h, _ => by simp [Op.bytesLess] at h
  | [], _ :: _, [], _, k => by simp [Op.bytesLess] at k
  | [], _ :: _, _ :: _, _, _ => rfl
  | _ :: _, [], _, h, _ => by simp [Op.bytesLess] at h
  | _ :: _, _ :: _, [], _, k => by simp [Op.bytesLess] at k
  | a :: x, b :: y, c :: z, h, k => by
    simp only [Op.bytesLess, Bool.or_eq_true, Bool.and_eq_true, decide_eq_true_eq, beq_iff_eq] at h k ⊢
    rcases h with h | ⟨h, h'⟩ <;> rcases k with k | ⟨k, k'⟩
    · exact .inl (UInt8.lt_trans h k)
    · exact .inl (k ▸ h)
    · exact .inl (h ▸ k)
    · exact .inr ⟨h.trans k, bl_trans h' k'⟩
theorem bl_asymm {x y : List UInt8} (h : Op.bytesLess x y = true) : Op.bytesLess y x = false := by
  cases k : Op.bytesLess y x
  · rfl
  · have := bl_trans h k; rw [bl_irrefl] at this; cases this
def bL (a b : ByteArray) : Bool := Op.bytesLess a.toList b.toList
theorem bL_irrefl (a : ByteArray) : bL a a = false := bl_irrefl _
theorem bL_trans {a b c : ByteArray} (h : bL a b = true) (k : bL b c = true) : bL a c = true := bl_trans h k
theorem bL_asymm {a b : ByteArray} (h : bL a b = true) : bL b a = false := bl_asymm h
theorem bL_tri (a b : ByteArray) : bL a b = true ∨ a = b ∨ bL b a = true := (bl_tri a.toList b.toList).imp id (Or.imp toList_inj id)
theorem bL_ne {a b : ByteArray} (h : bL a b = true) : a ≠ b := fun e => by rw [e, bL_irrefl] at h; cases h
section
variable {ob : Ob → Prop} {ib : BinOp → IntKind → Int → Int → Int} {ic : BinOp → Int → Int → Bool} {sb : BinOp → ByteArray → ByteArray → Bool} {cat : ByteArray → ByteArray → ByteArray} {iu : UnOp → IntKind → Int → Int} {nt : Bool → Bool} {an : Bool → Bool → Bool} {be : Bool → Bool → Bool} {pk : Bool → Bool → Bool → Bool} {wr : IntKind → Int → Int} {tn : Int → Nat} {iN : Nat → Int} {aN : Nat → Nat → Nat} {sN : Nat → Nat → Nat} {lN : Nat → Nat → Bool} {eN : Nat → Nat → Bool} {bt : ByteArray → Int → Int} {sub : ByteArray → Int → Int → ByteArray} {sl : ByteArray → Int} {rn : Int → ByteArray} {ofB : Nat → (Nat → List U) → ByteArray} {mn : Int → Int → Int} {dc : ByteArray → Nat → Int} {dn : ByteArray → Nat → Nat} {sI : Int → Int → Int}
theorem Ax.ltN (hE : Ax ob ib ic sb cat iu nt an be pk wr tn iN aN sN lN eN bt sub sl rn ofB mn dc dn sI) {a b : Nat} : ic .lss (iN a) (iN b) = decide (a < b) := by
  rw [hE.lss, hE.e_iN, hE.e_iN]; simp
theorem Ax.leN (hE : Ax ob ib ic sb cat iu nt an be pk wr tn iN aN sN lN eN bt sub sl rn ofB mn dc dn sI) {a b : Nat} : ic .leq (iN a) (iN b) = decide (a ≤ b) := by
  rw [hE.leq, hE.e_iN, hE.e_iN]; simp
theorem Ax.gtN (hE : Ax ob ib ic sb cat iu nt an be pk wr tn iN aN sN lN eN bt sub sl rn ofB mn dc dn sI) {a b : Nat} : ic .gtr (iN a) (iN b) = decide (b < a) := by
  rw [hE.gtr, hE.e_iN, hE.e_iN]; simp
theorem Ax.geN (hE : Ax ob ib ic sb cat iu nt an be pk wr tn iN aN sN lN eN bt sub sl rn ofB mn dc dn sI) {a b : Nat} : ic .geq (iN a) (iN b) = decide (b ≤ a) := by
  rw [hE.geq, hE.e_iN, hE.e_iN]; simp
theorem Ax.eqN (hE : Ax ob ib ic sb cat iu nt an be pk wr tn iN aN sN lN eN bt sub sl rn ofB mn dc dn sI) {a b : Nat} : ic .eql (iN a) (iN b) = decide (a = b) := by
  rw [hE.eql, hE.e_iN, hE.e_iN]; exact decide_eq_decide.2 (by omega)
theorem Ax.neN (hE : Ax ob ib ic sb cat iu nt an be pk wr tn iN aN sN lN eN bt sub sl rn ofB mn dc dn sI) {a b : Nat} : ic .neq (iN a) (iN b) = decide (a ≠ b) := by
  rw [hE.neq, hE.e_iN, hE.e_iN]; exact decide_eq_decide.2 (by omega)
theorem Ax.gt0 (hE : Ax ob ib ic sb cat iu nt an be pk wr tn iN aN sN lN eN bt sub sl rn ofB mn dc dn sI) {a : Nat} : ic .gtr (iN a) 0 = decide (0 < a) := by
  rw [hE.gtr, hE.e_iN]; simp
theorem Ax.tnN (hE : Ax ob ib ic sb cat iu nt an be pk wr tn iN aN sN lN eN bt sub sl rn ofB mn dc dn sI) {a : Nat} : tn (iN a) = a := by
  rw [hE.e_tn, hE.e_iN]; rfl
theorem Ax.incN (hE : Ax ob ib ic sb cat iu nt an be pk wr tn iN aN sN lN eN bt sub sl rn ofB mn dc dn sI) {a : Nat} (h : a < 9223372036854775807) : ib .add .i64 (iN a) 1 = iN (a + 1) := by
  rw [hE.add64 (by rw [hE.e_iN]; omega), hE.e_iN, hE.e_iN]; rfl
theorem Ax.addN (hE : Ax ob ib ic sb cat iu nt an be pk wr tn iN aN sN lN eN bt sub sl rn ofB mn dc dn sI) {a b : Nat} (h : a + b < 9223372036854775807) : ib .add .i64 (iN a) (iN b) = iN (a + b) := by
  rw [hE.add64 (by rw [hE.e_iN, hE.e_iN]; omega), hE.e_iN, hE.e_iN, hE.e_iN]; omega
theorem Ax.subN (hE : Ax ob ib ic sb cat iu nt an be pk wr tn iN aN sN lN eN bt sub sl rn ofB mn dc dn sI) {a b : Nat} (h : b ≤ a) (h2 : a < 9223372036854775807) : ib .sub .i64 (iN a) (iN b) = iN (a - b) := by
  rw [hE.sub64 (by rw [hE.e_iN, hE.e_iN]; omega), hE.e_iN, hE.e_iN, hE.e_iN]; omega
theorem Ax.decN (hE : Ax ob ib ic sb cat iu nt an be pk wr tn iN aN sN lN eN bt sub sl rn ofB mn dc dn sI) {a : Nat} (h : 1 ≤ a) (h2 : a < 9223372036854775807) : ib .sub .i64 (iN a) 1 = iN (a - 1) := by
  rw [hE.sub64 (by rw [hE.e_iN]; omega), hE.e_iN, hE.e_iN]; omega
theorem Ax.ntT (hE : Ax ob ib ic sb cat iu nt an be pk wr tn iN aN sN lN eN bt sub sl rn ofB mn dc dn sI)  : nt true = false := by
  rw [hE.e_nt]; rfl
theorem Ax.ntF (hE : Ax ob ib ic sb cat iu nt an be pk wr tn iN aN sN lN eN bt sub sl rn ofB mn dc dn sI)  : nt false = true := by
  rw [hE.e_nt]; rfl
theorem Ax.pkT (hE : Ax ob ib ic sb cat iu nt an be pk wr tn iN aN sN lN eN bt sub sl rn ofB mn dc dn sI) {a b : Bool} : pk true a b = a := by
  rw [hE.e_pk]; rfl
theorem Ax.pkF (hE : Ax ob ib ic sb cat iu nt an be pk wr tn iN aN sN lN eN bt sub sl rn ofB mn dc dn sI) {a b : Bool} : pk false a b = b := by
  rw [hE.e_pk]; rfl
theorem Ax.anT (hE : Ax ob ib ic sb cat iu nt an be pk wr tn iN aN sN lN eN bt sub sl rn ofB mn dc dn sI) {a : Bool} : an true a = a := by
  rw [hE.e_an]; rfl
theorem Ax.anF (hE : Ax ob ib ic sb cat iu nt an be pk wr tn iN aN sN lN eN bt sub sl rn ofB mn dc dn sI) {a : Bool} : an false a = false := by
  rw [hE.e_an]; rfl
theorem Ax.anT' (hE : Ax ob ib ic sb cat iu nt an be pk wr tn iN aN sN lN eN bt sub sl rn ofB mn dc dn sI) {a : Bool} : an a true = a := by
  rw [hE.e_an]; cases a <;> rfl
theorem Ax.anF' (hE : Ax ob ib ic sb cat iu nt an be pk wr tn iN aN sN lN eN bt sub sl rn ofB mn dc dn sI) {a : Bool} : an a false = false := by
  rw [hE.e_an]; cases a <;> rfl
theorem Ax.iN0 (hE : Ax ob ib ic sb cat iu nt an be pk wr tn iN aN sN lN eN bt sub sl rn ofB mn dc dn sI)  : iN 0 = 0 := by
  rw [hE.e_iN]; rfl
theorem Ax.iN1 (hE : Ax ob ib ic sb cat iu nt an be pk wr tn iN aN sN lN eN bt sub sl rn ofB mn dc dn sI)  : iN 1 = 1 := by
  rw [hE.e_iN]; rfl
theorem Ax.slss (hE : Ax ob ib ic sb cat iu nt an be pk wr tn iN aN sN lN eN bt sub sl rn ofB mn dc dn sI) {a b : ByteArray} : sb .lss a b = bL a b := by
  rw [← hE.h_sb]; rfl
theorem Ax.sgeq (hE : Ax ob ib ic sb cat iu nt an be pk wr tn iN aN sN lN eN bt sub sl rn ofB mn dc dn sI) {a b : ByteArray} : sb .geq a b = !bL a b := by
  rw [← hE.h_sb]; rfl
theorem Ax.sgtr (hE : Ax ob ib ic sb cat iu nt an be pk wr tn iN aN sN lN eN bt sub sl rn ofB mn dc dn sI) {a b : ByteArray} : sb .gtr a b = bL b a := by
  rw [← hE.h_sb]
  show (!(Op.bytesLess a.toList b.toList || a.toList == b.toList)) = Op.bytesLess b.toList a.toList
  rcases bl_tri a.toList b.toList with h | h | h
  · rw [h, bl_asymm h]; rfl
  · rw [h, bl_irrefl]; simp
  · rw [h, bl_asymm h]
    have : a.toList ≠ b.toList := fun e => by rw [e, bl_irrefl] at h; cases h
    simp [this]
theorem Ax.sleq (hE : Ax ob ib ic sb cat iu nt an be pk wr tn iN aN sN lN eN bt sub sl rn ofB mn dc dn sI) {a b : ByteArray} : sb .leq a b = !bL b a := by
  rw [← hE.h_sb]
  show (Op.bytesLess a.toList b.toList || a.toList == b.toList) = !Op.bytesLess b.toList a.toList
  rcases bl_tri a.toList b.toList with h | h | h
  · rw [h, bl_asymm h]; rfl
  · rw [h, bl_irrefl]; simp
  · rw [h, bl_asymm h]
    have : a.toList ≠ b.toList := fun e => by rw [e, bl_irrefl] at h; cases h
    simp [this]
end
end Am
end
section
open Go Go.Lib Go.IntWalk
set_option linter.unusedVariables false
set_option linter.unusedSimpArgs false
set_option linter.unusedSectionVars false
namespace Am
theorem fits_fz {H : Heap} {fz : List Nat} {args args' : List V} (h0 : allLive H fz = true) (h : fitVs H [] fz args args') : Fits H [] fz args args' [] := ⟨⟨rfl, rfl, rfl, h0, trivial⟩, h, rfl⟩
theorem Ax.od {ob : Ob → Prop} {ib : BinOp → IntKind → Int → Int → Int} {ic : BinOp → Int → Int → Bool} {sb : BinOp → ByteArray → ByteArray → Bool} {cat : ByteArray → ByteArray → ByteArray} {iu : UnOp → IntKind → Int → Int} {nt : Bool → Bool} {an : Bool → Bool → Bool} {be : Bool → Bool → Bool} {pk : Bool → Bool → Bool → Bool} {wr : IntKind → Int → Int} {tn : Int → Nat} {iN : Nat → Int} {aN : Nat → Nat → Nat} {sN : Nat → Nat → Nat} {lN : Nat → Nat → Bool} {eN : Nat → Nat → Bool} {bt : ByteArray → Int → Int} {sub : ByteArray → Int → Int → ByteArray} {sl : ByteArray → Int} {rn : Int → ByteArray} {ofB : Nat → (Nat → List U) → ByteArray} {mn : Int → Int → Int} {dc : ByteArray → Nat → Int} {dn : ByteArray → Nat → Nat} {sI : Int → Int → Int} (hE : Ax ob ib ic sb cat iu nt an be pk wr tn iN aN sN lN eN bt sub sl rn ofB mn dc dn sI) {q : Ob} (h : ob q) : q.den := by
  rw [← hE.h_ob] at h
  exact h
theorem Ax.mid {ob : Ob → Prop} {ib : BinOp → IntKind → Int → Int → Int} {ic : BinOp → Int → Int → Bool} {sb : BinOp → ByteArray → ByteArray → Bool} {cat : ByteArray → ByteArray → ByteArray} {iu : UnOp → IntKind → Int → Int} {nt : Bool → Bool} {an : Bool → Bool → Bool} {be : Bool → Bool → Bool} {pk : Bool → Bool → Bool → Bool} {wr : IntKind → Int → Int} {tn : Int → Nat} {iN : Nat → Int} {aN : Nat → Nat → Nat} {sN : Nat → Nat → Nat} {lN : Nat → Nat → Bool} {eN : Nat → Nat → Bool} {bt : ByteArray → Int → Int} {sub : ByteArray → Int → Int → ByteArray} {sl : ByteArray → Int} {rn : Int → ByteArray} {ofB : Nat → (Nat → List U) → ByteArray} {mn : Int → Int → Int} {dc : ByteArray → Nat → Int} {dn : ByteArray → Nat → Nat} {sI : Int → Int → Int} (hE : Ax ob ib ic sb cat iu nt an be pk wr tn iN aN sN lN eN bt sub sl rn ofB mn dc dn sI) {i j : Nat} (h : i + j ≤ 9223372036854775807) : wr .i64 (ib .shr .u64 (wr .u64 (ib .add .i64 (iN i) (iN j))) 1) = iN ((i + j) / 2) := by
  rw [hE.add64 (by rw [hE.e_iN, hE.e_iN]; omega), hE.wr_u64 (by rw [hE.e_iN, hE.e_iN]; omega)]
  have h1 : ib .shr .u64 (iN i + iN j) 1 = (iN i + iN j) / 2 := by
    rw [← hE.h_ib]
    show Int.fdiv _ (2 ^ (min (1 : Int).toNat 64)) = _
    rw [Int.fdiv_eq_ediv_of_nonneg _ (by decide)]
    rfl
  rw [h1, hE.wr_i64 (by rw [hE.e_iN, hE.e_iN]; omega), hE.e_iN, hE.e_iN, hE.e_iN]
  omega
theorem callx_overlaps {P : Program} {tab : Tab} {n0 : Nat} {md : Md} {X : Cx} (hX : Cx.std P tab n0 md = X) {tS tR e size : Nat} {f : FuncId} {fn : Func} (hf : P.funcs[f]? = some fn) (h1 : (fn.name == "runtime.NumGoroutine") = false) (h2 : fn.body.isNone = true) (h3 : Extern.findNext fn = none) (h4 : Extern.find fn = some (Extern.SlicesOverlaps.overlaps #[tS, tS] #[tR])) (h5 : P.underlying tS = some (.slice e)) (hz : ∀ w, (Go.sizeOf e).run P w = .ok size w) {n m c off len : Nat} {F G : Nat → List U} (hs : 1 ≤ size) (hm : 1 ≤ m) (hl : off + len ≤ c) {k : KH} (hk : k (scB false) [.arc e size n F c, .arr e size m G]) :
    X.callx f [.sr 1 size 0 m, .so 0 size off len] [.arc e size n F c, .arr e size m G] k := by
  subst hX
  intro w O ρ vs hH hfr hr
  obtain ⟨hsz, hg⟩ := hr
  obtain ⟨va, ea, ra⟩ := hg 0 _ rfl
  obtain ⟨vb, eb, rb⟩ := hg 1 _ rfl
  obtain rfl : vs = #[va, vb] := by
    apply Array.ext
    · simpa using hsz
    · intro i hi hi2
      match i, hi2 with
      | 0, _ => simpa [Array.getElem?_eq_getElem hi] using ea
      | 1, _ => simpa [Array.getElem?_eq_getElem hi] using eb
  refine ⟨.bool false, w, O, ρ, _, _, ?_, hk, scB_ok _, .refl hH, hfr⟩
  rw [run_callFunc_extern hf h1 h2 h3 h4]
  suffices hq : (Extern.SlicesOverlaps.overlaps #[tS, tS] #[tR] #[va, vb]).run P w = .ok (.bool false) w by rw [hq]; rfl
  have b1 := hH.blk 1 _ rfl
  have b0 := hH.blk 0 _ rfl
  cases ra with
  | srN => omega
  | srO _ _ _ _ _ _ _ _ _ h => omega
  | srP _ _ _ g1 c1 e1 hc1 =>
    rcases b1 with ⟨_, h⟩ | ⟨g, cap, cur, e1', o1, w1, z1, _⟩
    · omega
    rw [e1] at e1'; cases e1'
    cases rb with
    | so _ _ _ _ c2 a hc2 ha =>
      have simple : (m = 0 ∨ len = 0 ∨ size = 0) ∨ a = none → (Extern.SlicesOverlaps.overlaps #[tS, tS] #[tR] #[.slice (some ⟨g1, 0, none⟩) m c1, .slice a len c2]).run P w = .ok (.bool false) w := fun h => by
        change Sem.run P (α := Value) (do
          let some t := (#[tS, tS] : Array TypeId)[0]? | stuck "slices.overlaps: no parameter types"
          let .slice elem ← underlying t | stuck "slices.overlaps: slice type expected"
          let size ← sizeOf elem
          match (some ⟨g1, 0, none⟩ : Option Addr), a with
          | some a, some b =>
            if m = 0 ∨ len = 0 ∨ size = 0 then pure (Value.bool false)
            else if a.block != b.block && (← frozen a) && (← frozen b) then unsupported .addressObserved
            else do
              if a.block != b.block then do
                noView a; noView b
                if ← mayBeOne a b then return Value.bool ((← choose (.extern "sameAddr.stringBytes" 2)) == 1)
              pure (Value.bool (a.block == b.block && a.off < b.off + len * size && b.off < a.off + m * size))
          | _, _ => pure (Value.bool false)) w = _
        rcases h with h | rfl
        · cases a <;> simp [run_underlying h5, hz, h]
        · simp [run_underlying h5, hz]
      rcases ha with h0 | ⟨g0, cap0, e0, rfl⟩
      · exact simple (.inl (.inr (.inl h0)))
      · by_cases hl0 : len = 0
        · exact simple (.inl (.inr (.inl hl0)))
        · rcases b0 with ⟨_, _, h⟩ | ⟨g, cur0, e0', o0, w0, z0, hnc, hcm, _⟩
          · omega
          rw [e0] at e0'; cases e0'
          have hne : g1 ≠ g0 := fun e => by
            subst e
            have := hH.inj 1 0 _ _ g1 c1 _ rfl trivial rfl trivial e1 e0
            omega
          refine run_overlaps_apart w tS tR e h5 size hz ⟨g1, 0, none⟩ ⟨g0, off * size, none⟩ m c1 len c2 hne e e cur.size cur0.size ?_ ?_ ?_ ?_ ?_
          · simp [World.shape?, w1]
          · simp [World.shape?, w0]
          · rw [z0]
            exact Nat.ne_of_gt (Nat.mul_pos (by omega) (by omega))
          · simp [World.frozen?, w1]
          · simp [World.frozen?, w1]
end Am
end
section
open Go Go.Lib Go.RowKit
set_option linter.unusedVariables false
set_option linter.unusedSimpArgs false
set_option linter.unusedSectionVars false
namespace Am
inductive D where
  | bool
  | int (k : IntKind)
  | str
  | sl (ds : List D)
def dFields (P : Program) (r : TypeId → Option (List D)) : List Field → Nat → Option (List D)
  | [], _ => some []
  | f :: l, o => if f.offset = o then
      match r f.type with
      | some d => if P.cellsOf f.type = d.length then (match dFields P r l (o + d.length) with | some e => some (d ++ e) | none => none) else none
      | none => none
    else none
def dOf (P : Program) : Nat → TypeId → Option (List D)
  | 0, _ => none
  | n + 1, t =>
    match P.underlying t with
    | some .bool => some [.bool]
    | some (.int k) => some [.int k]
    | some .string => some [.str]
    | some (.slice e) => (match dOf P n e with | some ds => if P.cellsOf e = ds.length then some [.sl ds] else none | none => none)
    | some (.struct fs) => (match dFields P (dOf P n) fs.toList 0 with | some ds => if P.cellsOf t = ds.length then some ds else none | none => none)
    | _ => none
mutual
def shU : D → U → Prop
  | .bool, u => ∃ b, u = .sc (.bool b)
  | .int k, u => ∃ n, u = .sc (.int k n) ∧ (Lit.int k n).wf = true
  | .str, u => ∃ s, u = .sc (.string s) ∧ s.size ≤ maxLen
  | .sl ds, u => ∃ n f, u = .sv .any ds.length n f ∧ n ≤ maxLen ∧ ∀ i, i < n → shUs ds (f i)
def shUs : List D → List U → Prop
  | [], us => us = []
  | d :: ds, us => ∃ u us', us = u :: us' ∧ shU d u ∧ shUs ds us'
end
theorem shUs_app {e : List D} {us' : List U} (h' : shUs e us') : ∀ {d : List D} {us : List U}, shUs d us → shUs (d ++ e) (us ++ us')
  | [], us, h => by cases h; exact h'
  | x :: d, us, h => by
    obtain ⟨u, v, rfl, h1, h2⟩ := h
    exact ⟨u, v ++ us', rfl, h1, shUs_app h' h2⟩
theorem shUs_length : ∀ {d : List D} {us : List U}, shUs d us → us.length = d.length
  | [], us, h => by cases h; rfl
  | x :: d, us, h => by
    obtain ⟨u, v, rfl, h1, h2⟩ := h
    simp [shUs_length h2]
section
variable {H : Type} {enc : TypeId × Value → H} {P : Program} {w : World} {O : Own} {base : Nat} {spare : Nat → Bool} {held : Bool}
def Rel (w : World) (O : Own) (us : List U) (cs : List Value) : Prop := ∀ (j : Nat) (u : U), us[j]? = some u → ∃ v, cs[j]? = some v ∧ RU w O u v
def OpenAt (enc : TypeId × Value → H) (P : Program) (w : World) (O : Own) (base : Nat) (spare : Nat → Bool) (held : Bool) (n : Nat) : Prop :=
  ∀ t ds, dOf P n t = some ds → ∀ fuel cs d ps, DataW.trod enc P w base spare held fuel t cs = some (d, ps) → cs.length = ds.length ∧ ∃ us, shUs ds us ∧ Rel w O us cs
theorem open_fields {n fuel : Nat} (ih : OpenAt enc P w O base spare held n) {cs : List Value} : ∀ (l : List Field) (o : Nat) (ds : List D), dFields P (dOf P n) l o = some ds →
    (∀ f ∈ l, ∃ x, DataW.trod enc P w base spare held fuel f.type ((cs.drop f.offset).take (P.cellsOf f.type)) = some x) →
    ∃ us, shUs ds us ∧ ∀ (j : Nat) (u : U), us[j]? = some u → ∃ v, cs[o + j]? = some v ∧ RU w O u v
  | [], o, ds, h, _ => by simp [dFields] at h; subst h; exact ⟨[], rfl, fun j u hu => by simp at hu⟩
  | f :: l, o, ds, h, hf => by
    simp only [dFields] at h
    split at h
    · rename_i ho
      split at h
      · rename_i d hd
        split at h
        · rename_i hc
          split at h
          · rename_i e he
            cases h
            obtain ⟨x, hx⟩ := hf f (.head _)
            obtain ⟨hl, us, hs, hr⟩ := ih _ _ hd _ _ x.1 x.2 hx
            obtain ⟨us', hs', hr'⟩ := open_fields ih l _ _ he fun g hg => hf g (.tail _ hg)
            refine ⟨us ++ us', shUs_app hs' hs, fun j u hu => ?_⟩
            have hul := shUs_length hs
            rw [List.getElem?_append] at hu
            split at hu
            · rename_i hj
              obtain ⟨v, hv, r⟩ := hr j u hu
              rw [List.getElem?_take, List.getElem?_drop] at hv
              split at hv
              · exact ⟨v, by rw [← ho]; exact hv, r⟩
              · cases hv
            · rename_i hj
              obtain ⟨v, hv, r⟩ := hr' _ u hu
              exact ⟨v, by rw [show o + j = o + d.length + (j - us.length) by omega]; exact hv, r⟩
          · cases h
        · cases h
      · cases h
    · cases h
theorem open_all (hO : ∀ k, ¬ O k) : ∀ n, OpenAt enc P w O base spare held n
  | 0 => fun t ds h => by simp [dOf] at h
  | n + 1 => fun t ds h fuel cs d ps ht => by
    have ih := open_all hO n
    cases fuel with
    | zero => simp [DataW.trod] at ht
    | succ fuel =>
      rw [DataW.trod_step] at ht
      simp only [dOf] at h
      split at h
      · rename_i hu
        cases h
        simp only [DataW.trodStep, hu] at ht
        split at ht <;> simp_all
        obtain ⟨rfl, rfl⟩ := ht
        exact ⟨[_], ⟨_, [], rfl, ⟨_, rfl⟩, rfl⟩, fun j u hj => by
          cases j with
          | zero => simp at hj; subst hj; exact ⟨_, rfl, .sc _ rfl⟩
          | succ j => simp at hj⟩
      · rename_i k hu
        cases h
        simp only [DataW.trodStep, hu] at ht
        split at ht <;> simp_all
        obtain ⟨⟨rfl, hw⟩, rfl, rfl⟩ := ht
        exact ⟨[_], ⟨_, [], rfl, ⟨_, rfl, hw⟩, rfl⟩, fun j u hj => by
          cases j with
          | zero => simp at hj; subst hj; exact ⟨_, rfl, .sc _ rfl⟩
          | succ j => simp at hj⟩
      · rename_i hu
        cases h
        simp only [DataW.trodStep, hu] at ht
        split at ht <;> simp_all
        obtain ⟨hw, rfl, rfl⟩ := ht
        exact ⟨[_], ⟨_, [], rfl, ⟨_, rfl, hw⟩, rfl⟩, fun j u hj => by
          cases j with
          | zero => simp at hj; subst hj; exact ⟨_, rfl, .sc _ rfl⟩
          | succ j => simp at hj⟩
      · rename_i e hu
        split at h
        · rename_i ds' hd
          split at h
          · rename_i hc
            cases h
            simp only [DataW.trodStep, hu] at ht
            split at ht <;> (first | (exfalso; simp_all; done) | skip)
            · cases ht
              refine ⟨rfl, [.sv .any ds'.length 0 fun _ => []], ⟨_, [], rfl, ⟨0, _, rfl, Nat.zero_le _, fun i hi => absurd hi (Nat.not_lt_zero i)⟩, rfl⟩, fun j u hj => ?_⟩
              cases j with
              | zero => simp at hj; subst hj; exact ⟨_, rfl, .sv _ _ _ _ _ _ (fun _ _ => undef) (Nat.le_refl _) (.inl (by simp)) (fun i hi => absurd hi (Nat.not_lt_zero i)) fun i j x hi => absurd hi (Nat.not_lt_zero i)⟩
              | succ j => simp at hj
            · rename_i x cs' e' a len cap heq
              cases heq
              split at ht
              · rename_i hb
                rw [Option.bind_eq_some_iff] at ht
                obtain ⟨elems, he, hrest⟩ := ht
                have each : ∀ i, ∃ us, i < len → shUs ds' us ∧ ∃ cs, w.cells? base (a.add (i * P.cellsOf e)) (P.cellsOf e) = some cs ∧ Rel w O us cs := fun i => by
                  by_cases hi : i < len
                  · have h1 := mapM_some_get he i i (by simp [hi])
                    have h2 : i < elems.length := by rw [mapM_some_length he]; simpa using hi
                    rw [List.getElem?_eq_getElem h2, Option.bind_eq_some_iff] at h1
                    obtain ⟨cs, hc1, hc2⟩ := h1
                    obtain ⟨_, us, q1, q2⟩ := ih _ _ hd _ _ _ _ hc2
                    exact ⟨us, fun _ => ⟨q1, cs, hc1, q2⟩⟩
                  · exact ⟨[], fun h => absurd h hi⟩
                have each' := fun i => Classical.choose_spec (each i)
                generalize (fun i => Classical.choose (each i)) = f at each'
                refine ⟨rfl, [.sv .any ds'.length len fun i => Classical.choose (each i)], ⟨_, [], rfl, ⟨len, _, rfl, Nat.le_trans hb.2.1 hb.2.2, fun i hi => (each' i hi).1⟩, rfl⟩, fun j u hj => ?_⟩
                cases j with
                | succ j => simp at hj
                | zero =>
                  simp at hj; subst hj
                  refine ⟨_, rfl, .sv _ _ _ _ _ _ (fun i j => (w.cell? (a.add (i * ds'.length + j))).getD undef) hb.2.1 (.inr ⟨a, rfl, ⟨hO _, trivial⟩, fun i j hi hj => ?_⟩) (fun i hi => shUs_length (each' i hi).1) fun i j x hi hx => ?_⟩
                  · obtain ⟨_, cs, h1, h2⟩ := each' i hi
                    rw [hc] at h1
                    obtain ⟨_, h3, h4⟩ := World.cells?_some h1
                    have := h4 j hj
                    rw [add_add, List.getElem?_eq_getElem (by omega)] at this
                    simp only [this]
                    rfl
                  · obtain ⟨hs, cs, h1, h2⟩ := each' i hi
                    obtain ⟨v, hv, r⟩ := h2 j x hx
                    rw [hc] at h1
                    obtain ⟨_, h3, h4⟩ := World.cells?_some h1
                    have hj : j < ds'.length := by rw [← h3]; exact lt_of_get hv
                    have := h4 j hj
                    rw [add_add, hv] at this
                    simp only [this]
                    exact r
              · cases ht
          · cases h
        · cases h
      · rename_i fs hu
        split at h
        · rename_i ds' hd
          split at h
          · rename_i hc
            cases h
            simp only [DataW.trodStep, hu] at ht
            split at ht <;> (first | (exfalso; simp_all; done) | skip)
            rename_i hlen
            rw [Option.map_eq_some_iff] at ht
            obtain ⟨xs, hx, _⟩ := ht
            obtain ⟨us, h1, h2⟩ := open_fields ih fs.toList 0 ds hd fun f hf => WideShapes.mapM_each hx f hf
            exact ⟨by rw [hlen, hc], us, h1, fun j u hu => by simpa using h2 j u hu⟩
          · cases h
        · cases h
      · cases h
def scalar (P : Program) (t : TypeId) : Bool := match P.underlying t with
  | some .bool => true
  | some (.int _) => true
  | some .string => true
  | some (.slice _) => true
  | _ => false
theorem open_one (hO : ∀ k, ¬ O k) (n : Nat) {t : TypeId} {d0 : D} {v : Value} {d : DataW H} {ps : List MemPlace} {r : Reach} {b : Nat} (hd : dOf P n t = some [d0]) (hsc : scalar P t = true) (hval : Value.okWide P w r b t v)
    (h : DataW.Trod enc P w base spare held t v d ps) : ∃ u, shU d0 u ∧ RU w O u v := by
  have hc : v.cells = #[v] := by
    unfold scalar at hsc
    split at hsc
    · rename_i hu; obtain ⟨x, rfl⟩ := WideShapes.okWide_bool hu hval; rfl
    · rename_i hu; obtain ⟨x, rfl⟩ := WideShapes.okWide_int hu hval; rfl
    · rename_i hu; obtain ⟨x, rfl⟩ := WideShapes.okWide_string hu hval; rfl
    · rename_i hu; obtain ⟨x, y, z, rfl⟩ := WideShapes.okWide_slice hu hval; rfl
    · cases hsc
  obtain ⟨fuel, hf⟩ := h
  obtain ⟨_, us, h1, h2⟩ := open_all hO n _ _ hd _ _ _ _ hf
  obtain ⟨u, us', rfl, h3, h4⟩ := h1
  obtain ⟨v', hv, hr⟩ := h2 0 u rfl
  rw [hc] at hv
  cases hv
  exact ⟨u, h3, hr⟩
end
theorem RU.congr {w : World} {O : Own} {o : Tg} {z n : Nat} {f g : Nat → List U} {v : Value} (h : RU w O (.sv o z n f) v) (hfg : ∀ i, i < n → f i = g i) : RU w O (.sv o z n g) v := by
  cases h with
  | sv _ _ _ c _ a G hc ha hl hr => exact .sv o z n c g a G hc ha (fun i hi => by rw [← hfg i hi]; exact hl i hi) fun i j x hi hx => hr i j x hi (by rw [hfg i hi]; exact hx)
def own0 : Own := ⟨fun _ => False, fun _ => False⟩
theorem own0_no (k : Nat) : ¬ own0 k := id
theorem row_core {P : Program} {f : FuncId} {args : List V} (h : CALL P f args [] fun r H' => r = .u (.sc (.bool true)) ∧ H' = []) {w : World} {vs : Array Value} (hr : RVs w own0 (fun _ => .unset) args vs) :
    Calls P f vs w fun e w' => e = .returned (.bool true) ∧ Below w.heap.size w w' := by
  refine Calls.mono (h w own0 (fun _ => .unset) vs ⟨fun b x hb => by simp at hb, fun b b' x x' g c c' hb => by simp at hb, fun k hk => hk.elim, fun k hk => hk.elim⟩ (fun _ _ => rfl) hr) fun e w' hq => ?_
  obtain ⟨v, O', ρ', r, H', rfl, ⟨rfl, rfl⟩, hv, hg, _⟩ := hq
  cases hv with
  | u _ _ hu =>
    cases hu with
    | sc _ _ =>
      exact ⟨rfl, hg.ev.os, hg.ev.tape, hg.ev.output, hg.ev.size, fun k hk => hg.ev.block k hk fun hi => by
        obtain ⟨b, x, c, hb, _⟩ := hi
        simp at hb⟩
theorem rvs_nil {w : World} {O : Own} {ρ : Place} : RVs w O ρ [] #[] := ⟨rfl, fun j x h => by simp at h⟩
def F2 (r : V → Value → Prop) : List V → List Value → Prop
  | [], [] => True
  | x :: l, v :: m => r x v ∧ F2 r l m
  | _, _ => False
theorem rvs_list {w : World} {O : Own} {ρ : Place} : ∀ {xs : List V} {vs : List Value}, F2 (RV w O ρ) xs vs → RVs w O ρ xs vs.toArray
  | [], [], _ => rvs_nil
  | x :: l, v :: m, h => by
    obtain ⟨i1, i2⟩ := rvs_list h.2
    refine ⟨by simpa using i1, fun j x hx => ?_⟩
    cases j with
    | zero => simp at hx; subst hx; exact ⟨_, by simp, h.1⟩
    | succ j => obtain ⟨u, hu, r⟩ := i2 j x (by simpa using hx); exact ⟨u, by simpa using hu, r⟩
  | [], _ :: _, h => h.elim
  | _ :: _, [], h => h.elim
end Am
end
section
open Go Am
set_option maxRecDepth 100000
namespace Ytohkcdfjpgdfbaa
theorem ti3 : TIOK Go.Proofs.Try.prog 3 ⟨.int .i64, 1, 8, [.int .i64 0], false⟩ :=
  ⟨Go.Proofs.Try.underlying3, ⟨Go.Proofs.Try.t3, by kernel_rfl, rfl, rfl, rfl⟩, rfl, rfl, (fun h => rfl), (fun h => nomatch h), (fun h => by kernel_rfl)⟩
theorem ti5 : TIOK Go.Proofs.Try.prog 5 ⟨.int .u8, 1, 1, [.int .u8 0], false⟩ :=
  ⟨Go.Proofs.Try.underlying5, ⟨Go.Proofs.Try.t5, by kernel_rfl, rfl, rfl, rfl⟩, rfl, rfl, (fun h => rfl), (fun h => nomatch h), (fun h => by kernel_rfl)⟩
theorem ti9 : TIOK Go.Proofs.Try.prog 9 ⟨.str, 1, 16, [.string ⟨#[]⟩], false⟩ :=
  ⟨Go.Proofs.Try.underlying9, ⟨Go.Proofs.Try.t9, by kernel_rfl, rfl, rfl, rfl⟩, rfl, rfl, (fun h => rfl), (fun h => nomatch h), (fun h => by kernel_rfl)⟩
theorem ti22 : TIOK Go.Proofs.Try.prog 22 ⟨.slice 5, 1, 24, [.slice none 0 0], false⟩ :=
  ⟨Go.Proofs.Try.underlying22, ⟨Go.Proofs.Try.t22, by kernel_rfl, rfl, rfl, rfl⟩, rfl, rfl, (fun h => rfl), (fun h => nomatch h), (fun h => by kernel_rfl)⟩
theorem ti25 : TIOK Go.Proofs.Try.prog 25 ⟨.int .u64, 1, 8, [.int .u64 0], false⟩ :=
  ⟨Go.Proofs.Try.underlying25, ⟨Go.Proofs.Try.t25, by kernel_rfl, rfl, rfl, rfl⟩, rfl, rfl, (fun h => rfl), (fun h => nomatch h), (fun h => by kernel_rfl)⟩
theorem ti48 : TIOK Go.Proofs.Try.prog 48 ⟨.slice 75, 1, 24, [.slice none 0 0], false⟩ :=
  ⟨Go.Proofs.Try.underlying48, ⟨Go.Proofs.Try.t48, by kernel_rfl, rfl, rfl, rfl⟩, rfl, rfl, (fun h => rfl), (fun h => nomatch h), (fun h => by kernel_rfl)⟩
theorem ti49 : TIOK Go.Proofs.Try.prog 49 ⟨.slice 75, 1, 24, [.slice none 0 0], false⟩ :=
  ⟨Go.Proofs.Try.underlying49, ⟨Go.Proofs.Try.t49, by kernel_rfl, rfl, rfl, rfl⟩, rfl, rfl, (fun h => rfl), (fun h => nomatch h), (fun h => by kernel_rfl)⟩
theorem ti51 : TIOK Go.Proofs.Try.prog 51 ⟨.slice 100, 1, 24, [.slice none 0 0], false⟩ :=
  ⟨Go.Proofs.Try.underlying51, ⟨Go.Proofs.Try.t51, by kernel_rfl, rfl, rfl, rfl⟩, rfl, rfl, (fun h => rfl), (fun h => nomatch h), (fun h => by kernel_rfl)⟩
theorem ti53 : TIOK Go.Proofs.Try.prog 53 ⟨.int .i64, 1, 8, [.int .i64 0], false⟩ :=
  ⟨Go.Proofs.Try.underlying53, ⟨Go.Proofs.Try.t53, by kernel_rfl, rfl, rfl, rfl⟩, rfl, rfl, (fun h => rfl), (fun h => nomatch h), (fun h => by kernel_rfl)⟩
theorem ti68 : TIOK Go.Proofs.Try.prog 68 ⟨.slice 9, 1, 24, [.slice none 0 0], false⟩ :=
  ⟨Go.Proofs.Try.underlying68, ⟨Go.Proofs.Try.t68, by kernel_rfl, rfl, rfl, rfl⟩, rfl, rfl, (fun h => rfl), (fun h => nomatch h), (fun h => by kernel_rfl)⟩
theorem ti75 : TIOK Go.Proofs.Try.prog 75 ⟨.struct [(0, 9), (1, 25)], 2, 24, [.string ⟨#[]⟩, .int .u64 0], true⟩ :=
  ⟨⟨_, Go.Proofs.Try.underlying75, rfl, rfl⟩, ⟨Go.Proofs.Try.t75, by kernel_rfl, rfl, rfl, rfl⟩, rfl, rfl, (fun h => nomatch h), (fun _ => ⟨by kernel_rfl, by kernel_rfl⟩), (fun h => nomatch h)⟩
theorem ti100 : TIOK Go.Proofs.Try.prog 100 ⟨.struct [(0, 9), (1, 25)], 2, 24, [.string ⟨#[]⟩, .int .u64 0], true⟩ :=
  ⟨⟨_, Go.Proofs.Try.underlying100, rfl, rfl⟩, ⟨Go.Proofs.Try.t100, by kernel_rfl, rfl, rfl, rfl⟩, rfl, rfl, (fun h => nomatch h), (fun _ => ⟨by kernel_rfl, by kernel_rfl⟩), (fun h => nomatch h)⟩
theorem ti111 : TIOK Go.Proofs.Try.prog 111 ⟨.struct [], 0, 0, [], true⟩ :=
  ⟨⟨_, Go.Proofs.Try.underlying111, rfl, rfl⟩, ⟨Go.Proofs.Try.t111, by kernel_rfl, rfl, rfl, rfl⟩, rfl, rfl, (fun h => nomatch h), (fun _ => ⟨by kernel_rfl, by kernel_rfl⟩), (fun h => nomatch h)⟩
theorem ti112 : TIOK Go.Proofs.Try.prog 112 ⟨.map 25 111, 1, 8, [.map none], false⟩ :=
  ⟨Go.Proofs.Try.underlying112, ⟨Go.Proofs.Try.t112, by kernel_rfl, rfl, rfl, rfl⟩, rfl, rfl, (fun h => rfl), (fun h => nomatch h), (fun h => by kernel_rfl)⟩
theorem ti133 : TIOK Go.Proofs.Try.prog 133 ⟨.int .u64, 1, 8, [.int .u64 0], false⟩ :=
  ⟨Go.Proofs.Try.underlying133, ⟨Go.Proofs.Try.t133, by kernel_rfl, rfl, rfl, rfl⟩, rfl, rfl, (fun h => rfl), (fun h => nomatch h), (fun h => by kernel_rfl)⟩
def rows : List (Nat × TI) := [
  (3, ⟨.int .i64, 1, 8, [.int .i64 0], false⟩),
  (5, ⟨.int .u8, 1, 1, [.int .u8 0], false⟩),
  (9, ⟨.str, 1, 16, [.string ⟨#[]⟩], false⟩),
  (22, ⟨.slice 5, 1, 24, [.slice none 0 0], false⟩),
  (25, ⟨.int .u64, 1, 8, [.int .u64 0], false⟩),
  (48, ⟨.slice 75, 1, 24, [.slice none 0 0], false⟩),
  (49, ⟨.slice 75, 1, 24, [.slice none 0 0], false⟩),
  (51, ⟨.slice 100, 1, 24, [.slice none 0 0], false⟩),
  (53, ⟨.int .i64, 1, 8, [.int .i64 0], false⟩),
  (68, ⟨.slice 9, 1, 24, [.slice none 0 0], false⟩),
  (75, ⟨.struct [(0, 9), (1, 25)], 2, 24, [.string ⟨#[]⟩, .int .u64 0], true⟩),
  (100, ⟨.struct [(0, 9), (1, 25)], 2, 24, [.string ⟨#[]⟩, .int .u64 0], true⟩),
  (111, ⟨.struct [], 0, 0, [], true⟩),
  (112, ⟨.map 25 111, 1, 8, [.map none], false⟩),
  (133, ⟨.int .u64, 1, 8, [.int .u64 0], false⟩)]
def wildW : Nat → Option (List Nat) := lookW []
def tab : Tab := ⟨lookT rows, [], wildW, [73]⟩
theorem tabOK : TabOK Go.Proofs.Try.prog tab := TabOK.of_rows (by
  refine RowsOK.cons ti3 (RowsOK.cons ti5 (RowsOK.cons ti9 (RowsOK.cons ti22 (RowsOK.cons ti25 (RowsOK.cons ti48 (RowsOK.cons ti49 (RowsOK.cons ti51 (RowsOK.cons ti53 (RowsOK.cons ti68 (RowsOK.cons ti75 (RowsOK.cons ti100 (RowsOK.cons ti111 (RowsOK.cons ti112 (RowsOK.cons ti133 (RowsOK.nil))))))))))))))))
def c6 : C := (.seq (.reg [ ⟨(some 4), .ins (.mv (.const (.bool false))), none⟩]) (.seq (.seq (.reg [ ⟨(some 17), .ins (.mv (.tmp 0)), none⟩, ⟨(some 18), .call 16 [.tmp 17], none⟩, ⟨(some 19), .ins (.un .not (.tmp 18)), none⟩, ⟨(some 20), .ins (.mv (.tmp 19)), none⟩, ⟨(some 21), .ins (.mv (.tmp 1)), (some (20, false))⟩, ⟨(some 22), .ins (.len false (.tmp 21)), (some (20, false))⟩, ⟨(some 23), .ins (.bin .gtr false [0] (.tmp 22) (.const (.int .i64 1000))), (some (20, false))⟩, ⟨(some 24), .ins (.pick (.tmp 20) (.const (.bool true)) (.tmp 23)), none⟩]) (.cond (.tmp 24) (.seq (.reg [ ⟨(some 25), .call 17 [], none⟩, ⟨(some 4), .ins (.mv (.tmp 25)), none⟩]) .ret) .skip)) (.seq (.reg [ ⟨(some 27), .ins (.mv (.tmp 0)), none⟩, ⟨(some 28), .call 35 [.tmp 27], none⟩, ⟨(some 26), .ins (.mv (.tmp 28)), none⟩, ⟨(some 29), .ins (.ext (.tmp 26) 0), none⟩, ⟨(some 30), .ins (.ext (.tmp 26) 1), none⟩, ⟨(some 5), .ins (.mv (.tmp 29)), none⟩, ⟨(some 6), .ins (.mv (.tmp 30)), none⟩]) (.seq (.reg [ ⟨(some 32), .ins (.mv (.tmp 0)), none⟩, ⟨(some 33), .call 18 [.tmp 32], none⟩, ⟨(some 34), .call 36 [.tmp 33], none⟩, ⟨(some 31), .ins (.mv (.tmp 34)), none⟩, ⟨(some 35), .ins (.ext (.tmp 31) 0), none⟩, ⟨(some 36), .ins (.ext (.tmp 31) 1), none⟩, ⟨(some 7), .ins (.mv (.tmp 35)), none⟩, ⟨(some 8), .ins (.mv (.tmp 36)), none⟩]) (.seq (.reg [ ⟨(some 38), .ins (.mv (.tmp 1)), none⟩, ⟨(some 39), .call 37 [.tmp 38], none⟩, ⟨(some 37), .ins (.mv (.tmp 39)), none⟩, ⟨(some 40), .ins (.ext (.tmp 37) 0), none⟩, ⟨(some 41), .ins (.ext (.tmp 37) 1), none⟩, ⟨(some 9), .ins (.mv (.tmp 40)), none⟩, ⟨(some 10), .ins (.mv (.tmp 41)), none⟩]) (.seq (.reg [ ⟨(some 43), .ins (.mv (.tmp 1)), none⟩, ⟨(some 44), .call 38 [.tmp 43], none⟩, ⟨(some 42), .ins (.mv (.tmp 44)), none⟩, ⟨(some 45), .ins (.ext (.tmp 42) 0), none⟩, ⟨(some 46), .ins (.ext (.tmp 42) 1), none⟩, ⟨(some 11), .ins (.mv (.tmp 45)), none⟩, ⟨(some 12), .ins (.mv (.tmp 46)), none⟩]) (.seq (.seq (.reg [ ⟨(some 47), .ins (.mv (.tmp 5)), none⟩, ⟨(some 48), .ins (.mv (.tmp 7)), none⟩, ⟨(some 49), .call 15 [.tmp 47, .tmp 48], none⟩, ⟨(some 50), .ins (.un .not (.tmp 49)), none⟩, ⟨(some 51), .ins (.mv (.tmp 50)), none⟩, ⟨(some 52), .ins (.mv (.tmp 6)), (some (51, false))⟩, ⟨(some 53), .ins (.mv (.tmp 8)), (some (51, false))⟩, ⟨(some 54), .ins (.bin .neq false [0] (.tmp 52) (.tmp 53)), (some (51, false))⟩, ⟨(some 55), .ins (.pick (.tmp 51) (.const (.bool true)) (.tmp 54)), none⟩, ⟨(some 56), .ins (.mv (.tmp 55)), none⟩, ⟨(some 57), .ins (.mv (.tmp 9)), (some (56, false))⟩, ⟨(some 58), .ins (.mv (.tmp 11)), (some (56, false))⟩, ⟨(some 59), .call 27 [.tmp 57, .tmp 58], (some (56, false))⟩, ⟨(some 60), .ins (.un .not (.tmp 59)), (some (56, false))⟩, ⟨(some 61), .ins (.pick (.tmp 56) (.const (.bool true)) (.tmp 60)), none⟩, ⟨(some 62), .ins (.mv (.tmp 61)), none⟩, ⟨(some 63), .ins (.mv (.tmp 10)), (some (62, false))⟩, ⟨(some 64), .ins (.mv (.tmp 12)), (some (62, false))⟩, ⟨(some 65), .ins (.bin .neq false [0] (.tmp 63) (.tmp 64)), (some (62, false))⟩, ⟨(some 66), .ins (.pick (.tmp 62) (.const (.bool true)) (.tmp 65)), none⟩]) (.cond (.tmp 66) (.seq (.reg [ ⟨(some 4), .ins (.mv (.const (.bool false))), none⟩]) .ret) .skip)) (.seq (.seq (.reg [ ⟨(some 67), .ins (.mv (.tmp 6)), none⟩, ⟨(some 68), .ins (.bin .eql false [0] (.tmp 67) (.const (.int .i64 0))), none⟩]) (.cond (.tmp 68) (.seq (.reg [ ⟨(some 70), .ins (.mv (.tmp 5)), none⟩, ⟨(some 71), .call 37 [.tmp 70], none⟩, ⟨(some 69), .ins (.mv (.tmp 71)), none⟩, ⟨(some 72), .ins (.ext (.tmp 69) 0), none⟩, ⟨(some 73), .ins (.ext (.tmp 69) 1), none⟩, ⟨(some 13), .ins (.mv (.tmp 72)), none⟩, ⟨(some 14), .ins (.mv (.tmp 73)), none⟩]) (.seq (.reg [ ⟨(some 74), .ins (.mv (.tmp 14)), none⟩, ⟨(some 75), .ins (.bin .neq false [0] (.tmp 74) (.const (.int .i64 0))), none⟩, ⟨(some 76), .ins (.mv (.tmp 75)), none⟩, ⟨(some 77), .ins (.mv (.tmp 13)), (some (76, false))⟩, ⟨(some 78), .ins (.mv (.tmp 0)), (some (76, false))⟩, ⟨(some 79), .call 18 [.tmp 78], (some (76, false))⟩, ⟨(some 80), .call 27 [.tmp 77, .tmp 79], (some (76, false))⟩, ⟨(some 81), .ins (.un .not (.tmp 80)), (some (76, false))⟩, ⟨(some 82), .ins (.pick (.tmp 76) (.const (.bool true)) (.tmp 81)), none⟩]) (.cond (.tmp 82) (.seq (.reg [ ⟨(some 4), .ins (.mv (.const (.bool false))), none⟩]) .ret) .skip))) .skip)) (.seq (.seq (.reg [ ⟨(some 83), .ins (.mv (.tmp 10)), none⟩, ⟨(some 84), .ins (.bin .eql false [0] (.tmp 83) (.const (.int .i64 0))), none⟩]) (.cond (.tmp 84) (.seq (.reg [ ⟨(some 86), .ins (.mv (.tmp 9)), none⟩, ⟨(some 87), .call 35 [.tmp 86], none⟩, ⟨(some 85), .ins (.mv (.tmp 87)), none⟩, ⟨(some 88), .ins (.ext (.tmp 85) 0), none⟩, ⟨(some 89), .ins (.ext (.tmp 85) 1), none⟩, ⟨(some 15), .ins (.mv (.tmp 88)), none⟩, ⟨(some 16), .ins (.mv (.tmp 89)), none⟩]) (.seq (.reg [ ⟨(some 90), .ins (.mv (.tmp 16)), none⟩, ⟨(some 91), .ins (.bin .neq false [0] (.tmp 90) (.const (.int .i64 0))), none⟩, ⟨(some 92), .ins (.mv (.tmp 91)), none⟩, ⟨(some 93), .ins (.mv (.tmp 15)), (some (92, false))⟩, ⟨(some 94), .ins (.mv (.tmp 1)), (some (92, false))⟩, ⟨(some 95), .call 15 [.tmp 93, .tmp 94], (some (92, false))⟩, ⟨(some 96), .ins (.un .not (.tmp 95)), (some (92, false))⟩, ⟨(some 97), .ins (.pick (.tmp 92) (.const (.bool true)) (.tmp 96)), none⟩]) (.cond (.tmp 97) (.seq (.reg [ ⟨(some 4), .ins (.mv (.const (.bool false))), none⟩]) .ret) .skip))) .skip)) (.seq (.reg [ ⟨(some 98), .call 17 [], none⟩, ⟨(some 4), .ins (.mv (.tmp 98)), none⟩]) .ret))))))))))
def r6 : List RVar := [.tmp 4]
theorem comp6 : comp tab ((Go.Proofs.Try.f6.body).getD .skip) = some c6 := by kernel_rfl
theorem body6 : Go.Proofs.Try.f6.body = some ((Go.Proofs.Try.f6.body).getD .skip) := by kernel_rfl
theorem nt6 : Go.Proofs.Try.f6.ntmps = 99 := by kernel_rfl
theorem res6 : compRes tab Go.Proofs.Try.f6.results.toList = some r6 := by kernel_rfl
def c15 : C := (.seq (.reg [ ⟨(some 4), .ins (.mv (.const (.bool false))), none⟩]) (.seq (.seq (.reg [ ⟨(some 6), .ins (.mv (.tmp 0)), none⟩, ⟨(some 7), .ins (.len false (.tmp 6)), none⟩, ⟨(some 8), .ins (.mv (.tmp 1)), none⟩, ⟨(some 9), .ins (.len false (.tmp 8)), none⟩, ⟨(some 10), .ins (.bin .neq false [0] (.tmp 7) (.tmp 9)), none⟩]) (.cond (.tmp 10) (.seq (.reg [ ⟨(some 4), .ins (.mv (.const (.bool false))), none⟩]) .ret) .skip)) (.seq (.seq (.reg [ ⟨(some 5), .ins (.mv (.const (.int .i64 0))), none⟩]) (.block 0 (.loop (.seq (.seq (.reg [ ⟨(some 11), .ins (.mv (.tmp 5)), none⟩, ⟨(some 12), .ins (.mv (.tmp 0)), none⟩, ⟨(some 13), .ins (.len false (.tmp 12)), none⟩, ⟨(some 14), .ins (.bin .lss false [0] (.tmp 11) (.tmp 13)), none⟩]) (.cond (.tmp 14) .skip (.exit 0))) (.seq (.block 1 (.seq (.draw [ (⟨(some 17), .ins (.mv (.tmp 0)), none⟩, []), (⟨(some 18), .ins (.mv (.tmp 5)), none⟩, []), (⟨(some 19), .ins (.iadS 1 (.tmp 17) (.tmp 18)), none⟩, [0, 1]), (⟨(some 20), .ins (.ld false 1 (.tmp 19)), none⟩, [0, 1, 2]), (⟨(some 21), .ins (.mv (.tmp 1)), none⟩, []), (⟨(some 22), .ins (.mv (.tmp 5)), none⟩, []), (⟨(some 23), .ins (.iadS 1 (.tmp 21) (.tmp 22)), none⟩, [4, 5]), (⟨(some 24), .ins (.ld false 1 (.tmp 23)), none⟩, [4, 5, 6]), (⟨(some 25), .ins (.bin .neq false [0] (.tmp 20) (.tmp 24)), none⟩, [0, 1, 2, 3, 4, 5, 6, 7])]) (.cond (.tmp 25) (.seq (.reg [ ⟨(some 4), .ins (.mv (.const (.bool false))), none⟩]) .ret) .skip))) (.reg [ ⟨(some 15), .ins (.mv (.tmp 5)), none⟩, ⟨(some 16), .ins (.bin .add false [0] (.tmp 15) (.const (.int .i64 1))), none⟩, ⟨(some 5), .ins (.mv (.tmp 16)), none⟩])))))) (.seq (.reg [ ⟨(some 4), .ins (.mv (.const (.bool true))), none⟩]) .ret))))
def r15 : List RVar := [.tmp 4]
theorem comp15 : comp tab ((Go.Proofs.Try.f15.body).getD .skip) = some c15 := by kernel_rfl
theorem body15 : Go.Proofs.Try.f15.body = some ((Go.Proofs.Try.f15.body).getD .skip) := by kernel_rfl
theorem nt15 : Go.Proofs.Try.f15.ntmps = 26 := by kernel_rfl
theorem res15 : compRes tab Go.Proofs.Try.f15.results.toList = some r15 := by kernel_rfl
def c16 : C := (.seq (.reg [ ⟨(some 2), .ins (.mv (.const (.bool false))), none⟩]) (.seq (.seq (.reg [ ⟨(some 3), .ins (.mv (.const (.int .i64 0))), none⟩]) (.block 0 (.loop (.seq (.seq (.reg [ ⟨(some 4), .ins (.mv (.tmp 3)), none⟩, ⟨(some 5), .ins (.mv (.tmp 0)), none⟩, ⟨(some 6), .ins (.len false (.tmp 5)), none⟩, ⟨(some 7), .ins (.bin .lss false [0] (.tmp 4) (.tmp 6)), none⟩, ⟨(some 8), .ins (.mv (.tmp 7)), none⟩, ⟨(some 9), .ins (.mv (.tmp 3)), (some (8, true))⟩, ⟨(some 10), .ins (.bin .lss false [0] (.tmp 9) (.const (.int .i64 21))), (some (8, true))⟩, ⟨(some 11), .ins (.pick (.tmp 8) (.tmp 10) (.const (.bool false))), none⟩]) (.cond (.tmp 11) .skip (.exit 0))) (.seq (.block 1 (.seq (.reg [ ⟨(some 14), .ins (.mv (.tmp 0)), none⟩, ⟨(some 15), .ins (.mv (.tmp 3)), none⟩, ⟨(some 16), .ins (.iadS 2 (.tmp 14) (.tmp 15)), none⟩, ⟨(some 17), .ins (.fad 0 (.tmp 16)), none⟩, ⟨(some 18), .ins (.ld false 1 (.tmp 17)), none⟩, ⟨(some 19), .ins (.len true (.tmp 18)), none⟩, ⟨(some 20), .ins (.bin .gtr false [0] (.tmp 19) (.const (.int .i64 100))), none⟩]) (.cond (.tmp 20) (.seq (.reg [ ⟨(some 2), .ins (.mv (.const (.bool false))), none⟩]) .ret) .skip))) (.reg [ ⟨(some 12), .ins (.mv (.tmp 3)), none⟩, ⟨(some 13), .ins (.bin .add false [0] (.tmp 12) (.const (.int .i64 1))), none⟩, ⟨(some 3), .ins (.mv (.tmp 13)), none⟩])))))) (.seq (.reg [ ⟨(some 21), .ins (.mv (.tmp 0)), none⟩, ⟨(some 22), .ins (.len false (.tmp 21)), none⟩, ⟨(some 23), .ins (.bin .leq false [0] (.tmp 22) (.const (.int .i64 20))), none⟩, ⟨(some 2), .ins (.mv (.tmp 23)), none⟩]) .ret)))
def r16 : List RVar := [.tmp 2]
theorem comp16 : comp tab ((Go.Proofs.Try.f16.body).getD .skip) = some c16 := by kernel_rfl
theorem body16 : Go.Proofs.Try.f16.body = some ((Go.Proofs.Try.f16.body).getD .skip) := by kernel_rfl
theorem nt16 : Go.Proofs.Try.f16.ntmps = 24 := by kernel_rfl
theorem res16 : compRes tab Go.Proofs.Try.f16.results.toList = some r16 := by kernel_rfl
def c17 : C := (.seq (.reg [ ⟨(some 0), .ins (.mv (.const (.bool false))), none⟩]) (.seq (.reg [ ⟨(some 16), .ins (.build [.string ⟨#[]⟩, .int .u64 0] [(0, 1, .const (.string ⟨#[98]⟩)), (1, 1, .const (.int .u64 2))]), none⟩, ⟨(some 17), .ins (.build [.string ⟨#[]⟩, .int .u64 0] [(0, 1, .const (.string ⟨#[100]⟩)), (1, 1, .const (.int .u64 4))]), none⟩, ⟨(some 18), .ins (.xt (.bslF 75 2 2 [.string ⟨#[]⟩, .int .u64 0] [(0, .tmp 16), (1, .tmp 17)])), none⟩, ⟨(some 1), .ins (.mv (.tmp 18)), none⟩]) (.seq (.reg [ ⟨(some 20), .ins (.mv (.tmp 1)), none⟩, ⟨(some 21), .call 21 [.tmp 20, .const (.string ⟨#[99]⟩), .const (.int .u64 3)], none⟩, ⟨(some 19), .ins (.mv (.tmp 21)), none⟩, ⟨(some 22), .ins (.ext (.tmp 19) 0), none⟩, ⟨(some 23), .ins (.ext (.tmp 19) 1), none⟩, ⟨(some 2), .ins (.mv (.tmp 22)), none⟩, ⟨(some 3), .ins (.mv (.tmp 23)), none⟩]) (.seq (.reg [ ⟨(some 25), .ins (.mv (.tmp 1)), none⟩, ⟨(some 26), .call 21 [.tmp 25, .const (.string ⟨#[98]⟩), .const (.int .u64 5)], none⟩, ⟨(some 24), .ins (.mv (.tmp 26)), none⟩, ⟨(some 27), .ins (.ext (.tmp 24) 0), none⟩, ⟨(some 28), .ins (.ext (.tmp 24) 1), none⟩, ⟨(some 4), .ins (.mv (.tmp 27)), none⟩, ⟨(some 5), .ins (.mv (.tmp 28)), none⟩]) (.seq (.reg [ ⟨(some 30), .ins (.mv (.tmp 1)), none⟩, ⟨(some 31), .call 21 [.tmp 30, .const (.string ⟨#[101]⟩), .const (.int .u64 4)], none⟩, ⟨(some 29), .ins (.mv (.tmp 31)), none⟩, ⟨(some 32), .ins (.ext (.tmp 29) 0), none⟩, ⟨(some 33), .ins (.ext (.tmp 29) 1), none⟩, ⟨(some 6), .ins (.mv (.tmp 32)), none⟩, ⟨(some 7), .ins (.mv (.tmp 33)), none⟩]) (.seq (.reg [ ⟨(some 35), .ins (.mv (.tmp 1)), none⟩, ⟨(some 36), .call 25 [.tmp 35, .const (.string ⟨#[98]⟩), .const (.string ⟨#[101]⟩)], none⟩, ⟨(some 34), .ins (.mv (.tmp 36)), none⟩, ⟨(some 37), .ins (.ext (.tmp 34) 0), none⟩, ⟨(some 38), .ins (.ext (.tmp 34) 1), none⟩, ⟨(some 8), .ins (.mv (.tmp 37)), none⟩, ⟨(some 9), .ins (.mv (.tmp 38)), none⟩]) (.seq (.reg [ ⟨(some 40), .ins (.mv (.tmp 1)), none⟩, ⟨(some 41), .call 25 [.tmp 40, .const (.string ⟨#[98]⟩), .const (.string ⟨#[100]⟩)], none⟩, ⟨(some 39), .ins (.mv (.tmp 41)), none⟩, ⟨(some 42), .ins (.ext (.tmp 39) 0), none⟩, ⟨(some 43), .ins (.ext (.tmp 39) 1), none⟩, ⟨(some 10), .ins (.mv (.tmp 42)), none⟩, ⟨(some 11), .ins (.mv (.tmp 43)), none⟩]) (.seq (.reg [ ⟨(some 45), .ins (.mv (.tmp 1)), none⟩, ⟨(some 46), .call 25 [.tmp 45, .const (.string ⟨#[120]⟩), .const (.string ⟨#[100]⟩)], none⟩, ⟨(some 44), .ins (.mv (.tmp 46)), none⟩, ⟨(some 47), .ins (.ext (.tmp 44) 0), none⟩, ⟨(some 48), .ins (.ext (.tmp 44) 1), none⟩, ⟨(some 12), .ins (.mv (.tmp 47)), none⟩, ⟨(some 13), .ins (.mv (.tmp 48)), none⟩]) (.seq (.reg [ ⟨(some 50), .ins (.mv (.tmp 1)), none⟩, ⟨(some 51), .call 23 [.tmp 50, .const (.string ⟨#[100]⟩)], none⟩, ⟨(some 49), .ins (.mv (.tmp 51)), none⟩, ⟨(some 52), .ins (.ext (.tmp 49) 0), none⟩, ⟨(some 53), .ins (.ext (.tmp 49) 1), none⟩, ⟨(some 14), .ins (.mv (.tmp 52)), none⟩, ⟨(some 15), .ins (.mv (.tmp 53)), none⟩]) (.seq (.reg [ ⟨(some 54), .ins (.mv (.tmp 3)), none⟩, ⟨(some 55), .ins (.bin .eql false [0] (.tmp 54) (.const (.int .i64 0))), none⟩, ⟨(some 56), .ins (.mv (.tmp 55)), none⟩, ⟨(some 57), .ins (.mv (.tmp 2)), (some (56, true))⟩, ⟨(some 58), .call 31 [.tmp 57], (some (56, true))⟩, ⟨(some 59), .ins (.xt (.bslF 9 1 3 [.string ⟨#[]⟩] [(0, .const (.string ⟨#[98]⟩)), (1, .const (.string ⟨#[99]⟩)), (2, .const (.string ⟨#[100]⟩))])), (some (56, true))⟩, ⟨(some 60), .call 30 [.tmp 58, .tmp 59], (some (56, true))⟩, ⟨(some 61), .ins (.pick (.tmp 56) (.tmp 60) (.const (.bool false))), none⟩, ⟨(some 62), .ins (.mv (.tmp 61)), none⟩, ⟨(some 63), .ins (.mv (.tmp 5)), (some (62, true))⟩, ⟨(some 64), .ins (.bin .eql false [0] (.tmp 63) (.const (.int .i64 81))), (some (62, true))⟩, ⟨(some 65), .ins (.pick (.tmp 62) (.tmp 64) (.const (.bool false))), none⟩, ⟨(some 66), .ins (.mv (.tmp 65)), none⟩, ⟨(some 67), .ins (.mv (.tmp 7)), (some (66, true))⟩, ⟨(some 68), .ins (.bin .eql false [0] (.tmp 67) (.const (.int .i64 2))), (some (66, true))⟩, ⟨(some 69), .ins (.pick (.tmp 66) (.tmp 68) (.const (.bool false))), none⟩, ⟨(some 70), .ins (.mv (.tmp 69)), none⟩, ⟨(some 71), .ins (.mv (.tmp 9)), (some (70, true))⟩, ⟨(some 72), .ins (.bin .eql false [0] (.tmp 71) (.const (.int .i64 0))), (some (70, true))⟩, ⟨(some 73), .ins (.pick (.tmp 70) (.tmp 72) (.const (.bool false))), none⟩, ⟨(some 74), .ins (.mv (.tmp 73)), none⟩, ⟨(some 75), .ins (.mv (.tmp 8)), (some (74, true))⟩, ⟨(some 76), .ins (.build [.string ⟨#[]⟩, .int .u64 0] [(0, 1, .const (.string ⟨#[100]⟩)), (1, 1, .const (.int .u64 4))]), (some (74, true))⟩, ⟨(some 77), .ins (.build [.string ⟨#[]⟩, .int .u64 0] [(0, 1, .const (.string ⟨#[101]⟩)), (1, 1, .const (.int .u64 2))]), (some (74, true))⟩, ⟨(some 78), .ins (.xt (.bslF 100 2 2 [.string ⟨#[]⟩, .int .u64 0] [(0, .tmp 76), (1, .tmp 77)])), (some (74, true))⟩, ⟨(some 79), .call 27 [.tmp 75, .tmp 78], (some (74, true))⟩, ⟨(some 80), .ins (.pick (.tmp 74) (.tmp 79) (.const (.bool false))), none⟩, ⟨(some 81), .ins (.mv (.tmp 80)), none⟩, ⟨(some 82), .ins (.mv (.tmp 11)), (some (81, true))⟩, ⟨(some 83), .ins (.bin .eql false [0] (.tmp 82) (.const (.int .i64 81))), (some (81, true))⟩, ⟨(some 84), .ins (.pick (.tmp 81) (.tmp 83) (.const (.bool false))), none⟩, ⟨(some 85), .ins (.mv (.tmp 84)), none⟩, ⟨(some 86), .ins (.mv (.tmp 13)), (some (85, true))⟩, ⟨(some 87), .ins (.bin .eql false [0] (.tmp 86) (.const (.int .i64 80))), (some (85, true))⟩, ⟨(some 88), .ins (.pick (.tmp 85) (.tmp 87) (.const (.bool false))), none⟩, ⟨(some 89), .ins (.mv (.tmp 88)), none⟩, ⟨(some 90), .ins (.mv (.tmp 15)), (some (89, true))⟩, ⟨(some 91), .ins (.bin .eql false [0] (.tmp 90) (.const (.int .i64 0))), (some (89, true))⟩, ⟨(some 92), .ins (.pick (.tmp 89) (.tmp 91) (.const (.bool false))), none⟩, ⟨(some 93), .ins (.mv (.tmp 92)), none⟩, ⟨(some 94), .ins (.mv (.tmp 14)), (some (93, true))⟩, ⟨(some 95), .call 31 [.tmp 94], (some (93, true))⟩, ⟨(some 96), .ins (.xt (.bslF 9 1 1 [.string ⟨#[]⟩] [(0, .const (.string ⟨#[98]⟩))])), (some (93, true))⟩, ⟨(some 97), .call 30 [.tmp 95, .tmp 96], (some (93, true))⟩, ⟨(some 98), .ins (.pick (.tmp 93) (.tmp 97) (.const (.bool false))), none⟩, ⟨(some 0), .ins (.mv (.tmp 98)), none⟩]) .ret))))))))))
def r17 : List RVar := [.tmp 0]
theorem comp17 : comp ⟨lookT rows, [18, 59, 78, 96], wildW, [73]⟩ ((Go.Proofs.Try.f17.body).getD .skip) = some c17 := by kernel_rfl
theorem body17 : Go.Proofs.Try.f17.body = some ((Go.Proofs.Try.f17.body).getD .skip) := by kernel_rfl
theorem nt17 : Go.Proofs.Try.f17.ntmps = 99 := by kernel_rfl
theorem res17 : compRes tab Go.Proofs.Try.f17.results.toList = some r17 := by kernel_rfl
def c18 : C := (.seq (.reg [ ⟨(some 2), .ins (.mv (.const (.slice none 0 0))), none⟩]) (.seq (.reg [ ⟨(some 3), .ins (.mv (.const (.slice none 0 0))), none⟩]) (.seq (.seq (.reg [ ⟨(some 4), .ins (.mv (.const (.int .i64 0))), none⟩]) (.block 0 (.loop (.seq (.seq (.reg [ ⟨(some 5), .ins (.mv (.tmp 4)), none⟩, ⟨(some 6), .ins (.mv (.tmp 0)), none⟩, ⟨(some 7), .ins (.len false (.tmp 6)), none⟩, ⟨(some 8), .ins (.bin .lss false [0] (.tmp 5) (.tmp 7)), none⟩]) (.cond (.tmp 8) .skip (.exit 0))) (.seq (.block 1 (.draw [ (⟨(some 11), .ins (.mv (.tmp 3)), none⟩, []), (⟨(some 12), .ins (.mv (.tmp 0)), none⟩, []), (⟨(some 13), .ins (.mv (.tmp 4)), none⟩, []), (⟨(some 14), .ins (.iadS 2 (.tmp 12) (.tmp 13)), none⟩, [1, 2]), (⟨(some 15), .ins (.fad 0 (.tmp 14)), none⟩, [1, 2, 3]), (⟨(some 16), .ins (.ld false 1 (.tmp 15)), none⟩, [1, 2, 3, 4]), (⟨(some 17), .ins (.mv (.tmp 0)), none⟩, []), (⟨(some 18), .ins (.mv (.tmp 4)), none⟩, []), (⟨(some 19), .ins (.iadS 2 (.tmp 17) (.tmp 18)), none⟩, [6, 7]), (⟨(some 20), .ins (.fad 1 (.tmp 19)), none⟩, [6, 7, 8]), (⟨(some 21), .ins (.ld false 1 (.tmp 20)), none⟩, [6, 7, 8, 9]), (⟨(some 22), .ins (.build [.string ⟨#[]⟩, .int .u64 0] [(0, 1, .tmp 16), (1, 1, .tmp 21)]), none⟩, [1, 2, 3, 4, 5, 6, 7, 8, 9, 10]), (⟨(some 23), .ins (.bsl 100 2 1 [.string ⟨#[]⟩, .int .u64 0] [(0, .tmp 22)]), none⟩, [1, 2, 3, 4, 5, 6, 7, 8, 9, 10, 11]), (⟨(some 24), .ins (.app 100 2 24 (.tmp 11) (.tmp 23)), none⟩, [0, 1, 2, 3, 4, 5, 6, 7, 8, 9, 10, 11, 12]), (⟨(some 3), .ins (.mv (.tmp 24)), none⟩, [0, 1, 2, 3, 4, 5, 6, 7, 8, 9, 10, 11, 12, 13])])) (.reg [ ⟨(some 9), .ins (.mv (.tmp 4)), none⟩, ⟨(some 10), .ins (.bin .add false [0] (.tmp 9) (.const (.int .i64 1))), none⟩, ⟨(some 4), .ins (.mv (.tmp 10)), none⟩])))))) (.seq (.reg [ ⟨(some 25), .ins (.mv (.tmp 3)), none⟩, ⟨(some 2), .ins (.mv (.tmp 25)), none⟩]) .ret))))
def r18 : List RVar := [.tmp 2]
theorem comp18 : comp tab ((Go.Proofs.Try.f18.body).getD .skip) = some c18 := by kernel_rfl
theorem body18 : Go.Proofs.Try.f18.body = some ((Go.Proofs.Try.f18.body).getD .skip) := by kernel_rfl
theorem nt18 : Go.Proofs.Try.f18.ntmps = 26 := by kernel_rfl
theorem res18 : compRes tab Go.Proofs.Try.f18.results.toList = some r18 := by kernel_rfl
def c19 : C := (.seq (.reg [ ⟨(some 4), .ins (.mv (.const (.int .u64 0))), none⟩, ⟨(some 5), .ins (.mv (.const (.int .i64 0))), none⟩]) (.seq (.seq (.reg [ ⟨(some 9), .ins (.mv (.tmp 0)), none⟩, ⟨(some 10), .ins (.mv (.tmp 1)), none⟩, ⟨(some 11), .ins (.bsl 9 1 1 [.string ⟨#[]⟩] [(0, .tmp 10)]), none⟩, ⟨(some 12), .call 46 [.tmp 9, .tmp 11], none⟩, ⟨(some 6), .ins (.mv (.tmp 12)), none⟩]) (.seq (.reg [ ⟨(some 13), .ins (.mv (.tmp 6)), none⟩, ⟨(some 14), .ins (.bin .neq false [0] (.tmp 13) (.const (.int .i64 0))), none⟩]) (.cond (.tmp 14) (.seq (.reg [ ⟨(some 15), .ins (.mv (.tmp 6)), none⟩, ⟨(some 4), .ins (.mv (.const (.int .u64 0))), none⟩, ⟨(some 5), .ins (.mv (.tmp 15)), none⟩]) .ret) .skip))) (.seq (.seq (.reg [ ⟨(some 17), .ins (.mv (.tmp 0)), none⟩, ⟨(some 18), .ins (.mv (.tmp 1)), none⟩, ⟨(some 19), .call 47 [.tmp 17, .tmp 18], none⟩, ⟨(some 16), .ins (.mv (.tmp 19)), none⟩, ⟨(some 20), .ins (.ext (.tmp 16) 0), none⟩, ⟨(some 21), .ins (.ext (.tmp 16) 1), none⟩, ⟨(some 7), .ins (.mv (.tmp 20)), none⟩, ⟨(some 8), .ins (.mv (.tmp 21)), none⟩]) (.seq (.reg [ ⟨(some 22), .ins (.mv (.tmp 8)), none⟩]) (.cond (.tmp 22) (.seq (.reg [ ⟨(some 23), .ins (.mv (.tmp 0)), none⟩, ⟨(some 24), .ins (.mv (.tmp 7)), none⟩, ⟨(some 25), .ins (.iadS 2 (.tmp 23) (.tmp 24)), none⟩, ⟨(some 26), .ins (.fad 1 (.tmp 25)), none⟩, ⟨(some 27), .ins (.ld false 1 (.tmp 26)), none⟩, ⟨(some 4), .ins (.mv (.tmp 27)), none⟩, ⟨(some 5), .ins (.mv (.const (.int .i64 0))), none⟩]) .ret) .skip))) (.seq (.reg [ ⟨(some 4), .ins (.mv (.const (.int .u64 0))), none⟩, ⟨(some 5), .ins (.mv (.const (.int .i64 80))), none⟩]) .ret))))
def r19 : List RVar := [.tmp 4, .tmp 5]
theorem comp19 : comp tab ((Go.Proofs.Try.f19.body).getD .skip) = some c19 := by kernel_rfl
theorem body19 : Go.Proofs.Try.f19.body = some ((Go.Proofs.Try.f19.body).getD .skip) := by kernel_rfl
theorem nt19 : Go.Proofs.Try.f19.ntmps = 28 := by kernel_rfl
theorem res19 : compRes tab Go.Proofs.Try.f19.results.toList = some r19 := by kernel_rfl
def c20 : C := (.seq (.reg [ ⟨(some 4), .ins (.mv (.const (.int .u64 0))), none⟩, ⟨(some 5), .ins (.mv (.const (.int .i64 0))), none⟩]) (.seq (.seq (.reg [ ⟨(some 7), .ins (.mv (.tmp 0)), none⟩, ⟨(some 8), .call 29 [.tmp 7], none⟩, ⟨(some 9), .ins (.un .not (.tmp 8)), none⟩]) (.cond (.tmp 9) (.seq (.reg [ ⟨(some 4), .ins (.mv (.const (.int .u64 0))), none⟩, ⟨(some 5), .ins (.mv (.const (.int .i64 2))), none⟩]) .ret) .skip)) (.seq (.seq (.reg [ ⟨(some 10), .ins (.mv (.tmp 1)), none⟩, ⟨(some 11), .call 34 [.tmp 10], none⟩, ⟨(some 12), .ins (.un .not (.tmp 11)), none⟩]) (.cond (.tmp 12) (.seq (.reg [ ⟨(some 4), .ins (.mv (.const (.int .u64 0))), none⟩, ⟨(some 5), .ins (.mv (.const (.int .i64 170))), none⟩]) .ret) .skip)) (.seq (.seq (.reg [ ⟨(some 6), .ins (.mv (.const (.int .i64 0))), none⟩]) (.block 0 (.loop (.seq (.seq (.reg [ ⟨(some 13), .ins (.mv (.tmp 6)), none⟩, ⟨(some 14), .ins (.mv (.tmp 0)), none⟩, ⟨(some 15), .ins (.len false (.tmp 14)), none⟩, ⟨(some 16), .ins (.bin .lss false [0] (.tmp 13) (.tmp 15)), none⟩]) (.cond (.tmp 16) .skip (.exit 0))) (.seq (.block 1 (.seq (.reg [ ⟨(some 19), .ins (.mv (.tmp 0)), none⟩, ⟨(some 20), .ins (.mv (.tmp 6)), none⟩, ⟨(some 21), .ins (.iadS 2 (.tmp 19) (.tmp 20)), none⟩, ⟨(some 22), .ins (.fad 0 (.tmp 21)), none⟩, ⟨(some 23), .ins (.ld false 1 (.tmp 22)), none⟩, ⟨(some 24), .ins (.mv (.tmp 1)), none⟩, ⟨(some 25), .ins (.bin .eql false [1] (.tmp 23) (.tmp 24)), none⟩]) (.cond (.tmp 25) (.seq (.reg [ ⟨(some 26), .ins (.mv (.tmp 0)), none⟩, ⟨(some 27), .ins (.mv (.tmp 6)), none⟩, ⟨(some 28), .ins (.iadS 2 (.tmp 26) (.tmp 27)), none⟩, ⟨(some 29), .ins (.fad 1 (.tmp 28)), none⟩, ⟨(some 30), .ins (.ld false 1 (.tmp 29)), none⟩, ⟨(some 4), .ins (.mv (.tmp 30)), none⟩, ⟨(some 5), .ins (.mv (.const (.int .i64 0))), none⟩]) .ret) .skip))) (.reg [ ⟨(some 17), .ins (.mv (.tmp 6)), none⟩, ⟨(some 18), .ins (.bin .add false [0] (.tmp 17) (.const (.int .i64 1))), none⟩, ⟨(some 6), .ins (.mv (.tmp 18)), none⟩])))))) (.seq (.reg [ ⟨(some 4), .ins (.mv (.const (.int .u64 0))), none⟩, ⟨(some 5), .ins (.mv (.const (.int .i64 80))), none⟩]) .ret)))))
def r20 : List RVar := [.tmp 4, .tmp 5]
theorem comp20 : comp tab ((Go.Proofs.Try.f20.body).getD .skip) = some c20 := by kernel_rfl
theorem body20 : Go.Proofs.Try.f20.body = some ((Go.Proofs.Try.f20.body).getD .skip) := by kernel_rfl
theorem nt20 : Go.Proofs.Try.f20.ntmps = 31 := by kernel_rfl
theorem res20 : compRes tab Go.Proofs.Try.f20.results.toList = some r20 := by kernel_rfl
def c21 : C := (.seq (.reg [ ⟨(some 5), .ins (.box 0 (.tmp 2)), none⟩, ⟨(some 6), .ins (.mv (.const (.slice none 0 0))), none⟩, ⟨(some 7), .ins (.mv (.const (.int .i64 0))), none⟩]) (.seq (.seq (.reg [ ⟨(some 11), .ins (.mv (.tmp 0)), none⟩, ⟨(some 12), .ins (.mv (.tmp 1)), none⟩, ⟨(some 13), .ins (.bsl 9 1 1 [.string ⟨#[]⟩] [(0, .tmp 12)]), none⟩, ⟨(some 14), .call 46 [.tmp 11, .tmp 13], none⟩, ⟨(some 8), .ins (.mv (.tmp 14)), none⟩]) (.seq (.reg [ ⟨(some 15), .ins (.mv (.tmp 8)), none⟩, ⟨(some 16), .ins (.bin .neq false [0] (.tmp 15) (.const (.int .i64 0))), none⟩]) (.cond (.tmp 16) (.seq (.reg [ ⟨(some 17), .ins (.mv (.tmp 8)), none⟩, ⟨(some 6), .ins (.mv (.const (.slice none 0 0))), none⟩, ⟨(some 7), .ins (.mv (.tmp 17)), none⟩]) .ret) .skip))) (.seq (.reg [ ⟨(some 19), .ins (.mv (.tmp 0)), none⟩, ⟨(some 20), .ins (.mv (.tmp 1)), none⟩, ⟨(some 21), .call 47 [.tmp 19, .tmp 20], none⟩, ⟨(some 18), .ins (.mv (.tmp 21)), none⟩, ⟨(some 22), .ins (.ext (.tmp 18) 0), none⟩, ⟨(some 23), .ins (.ext (.tmp 18) 1), none⟩, ⟨(some 9), .ins (.mv (.tmp 22)), none⟩, ⟨(some 10), .ins (.mv (.tmp 23)), none⟩]) (.seq (.block 0 (.seq (.reg [ ⟨(some 25), .ins (.mv (.tmp 10)), none⟩, ⟨(some 24), .ins (.mv (.tmp 25)), none⟩]) (.cond (.tmp 24) (.seq (.reg [ ⟨(some 6), .ins (.mv (.const (.slice none 0 0))), none⟩, ⟨(some 7), .ins (.mv (.const (.int .i64 81))), none⟩]) .ret) (.seq (.reg [ ⟨(some 27), .ins (.ld false 1 (.tmp 5)), none⟩, ⟨(some 28), .ins (.bin .eql false [0] (.tmp 27) (.const (.int .u64 0))), none⟩, ⟨(some 29), .ins (.mv (.tmp 28)), none⟩, ⟨(some 30), .ins (.mv (.tmp 0)), (some (29, false))⟩, ⟨(some 31), .ins (.mkfn (.func 49) [] [.tmp 5]), (some (29, false))⟩, ⟨(some 32), .call 48 [.tmp 30, .tmp 31], (some (29, false))⟩, ⟨(some 33), .ins (.pick (.tmp 29) (.const (.bool true)) (.tmp 32)), none⟩, ⟨(some 26), .ins (.mv (.tmp 33)), none⟩]) (.cond (.tmp 26) (.seq (.reg [ ⟨(some 6), .ins (.mv (.const (.slice none 0 0))), none⟩, ⟨(some 7), .ins (.mv (.const (.int .i64 2))), none⟩]) .ret) .skip))))) (.seq (.draw [ (⟨(some 34), .ins (.mv (.tmp 0)), none⟩, []), (⟨(some 35), .call 51 [.tmp 34], none⟩, [0]), (⟨(some 36), .ins (.mv (.tmp 9)), none⟩, []), (⟨(some 37), .ins (.mv (.tmp 1)), none⟩, []), (⟨(some 38), .ins (.ld false 1 (.tmp 5)), none⟩, []), (⟨(some 39), .ins (.build [.string ⟨#[]⟩, .int .u64 0] [(0, 1, .tmp 37), (1, 1, .tmp 38)]), none⟩, [3, 4]), (⟨(some 40), .ins (.bsl 75 2 1 [.string ⟨#[]⟩, .int .u64 0] [(0, .tmp 39)]), none⟩, [3, 4, 5]), (⟨(some 41), .call 50 [.tmp 35, .tmp 36, .tmp 40], none⟩, [0, 1, 2, 3, 4, 5, 6]), (⟨(some 6), .ins (.mv (.tmp 41)), none⟩, [0, 1, 2, 3, 4, 5, 6, 7]), (⟨(some 7), .ins (.mv (.const (.int .i64 0))), none⟩, [0, 1, 2, 3, 4, 5, 6, 7, 8])]) .ret)))))
def r21 : List RVar := [.tmp 6, .tmp 7]
theorem comp21 : comp tab ((Go.Proofs.Try.f21.body).getD .skip) = some c21 := by kernel_rfl
theorem body21 : Go.Proofs.Try.f21.body = some ((Go.Proofs.Try.f21.body).getD .skip) := by kernel_rfl
theorem nt21 : Go.Proofs.Try.f21.ntmps = 42 := by kernel_rfl
theorem res21 : compRes tab Go.Proofs.Try.f21.results.toList = some r21 := by kernel_rfl
def c22 : C := (.seq (.reg [ ⟨(some 6), .ins (.mv (.const (.slice none 0 0))), none⟩, ⟨(some 7), .ins (.mv (.const (.int .i64 0))), none⟩]) (.seq (.reg [ ⟨(some 12), .ins (.mv (.tmp 0)), none⟩, ⟨(some 13), .ins (.mv (.tmp 1)), none⟩, ⟨(some 14), .call 20 [.tmp 12, .tmp 13], none⟩, ⟨(some 11), .ins (.mv (.tmp 14)), none⟩, ⟨(some 15), .ins (.ext (.tmp 11) 0), none⟩, ⟨(some 16), .ins (.ext (.tmp 11) 1), none⟩, ⟨(some 8), .ins (.mv (.tmp 15)), none⟩, ⟨(some 9), .ins (.mv (.tmp 16)), none⟩]) (.seq (.seq (.reg [ ⟨(some 17), .ins (.mv (.tmp 9)), none⟩, ⟨(some 18), .ins (.bin .eql false [0] (.tmp 17) (.const (.int .i64 0))), none⟩]) (.cond (.tmp 18) (.seq (.reg [ ⟨(some 6), .ins (.mv (.const (.slice none 0 0))), none⟩, ⟨(some 7), .ins (.mv (.const (.int .i64 81))), none⟩]) .ret) .skip)) (.seq (.seq (.reg [ ⟨(some 19), .ins (.mv (.tmp 9)), none⟩, ⟨(some 20), .ins (.bin .neq false [0] (.tmp 19) (.const (.int .i64 80))), none⟩]) (.cond (.tmp 20) (.seq (.reg [ ⟨(some 21), .ins (.mv (.tmp 9)), none⟩, ⟨(some 6), .ins (.mv (.const (.slice none 0 0))), none⟩, ⟨(some 7), .ins (.mv (.tmp 21)), none⟩]) .ret) .skip)) (.seq (.seq (.reg [ ⟨(some 10), .ins (.mv (.const (.int .i64 0))), none⟩]) (.block 0 (.loop (.seq (.seq (.reg [ ⟨(some 22), .ins (.mv (.tmp 10)), none⟩, ⟨(some 23), .ins (.mv (.tmp 0)), none⟩, ⟨(some 24), .ins (.len false (.tmp 23)), none⟩, ⟨(some 25), .ins (.bin .lss false [0] (.tmp 22) (.tmp 24)), none⟩]) (.cond (.tmp 25) .skip (.exit 0))) (.seq (.block 1 (.seq (.reg [ ⟨(some 28), .ins (.mv (.tmp 0)), none⟩, ⟨(some 29), .ins (.mv (.tmp 10)), none⟩, ⟨(some 30), .ins (.iadS 2 (.tmp 28) (.tmp 29)), none⟩, ⟨(some 31), .ins (.fad 1 (.tmp 30)), none⟩, ⟨(some 32), .ins (.ld false 1 (.tmp 31)), none⟩, ⟨(some 33), .ins (.mv (.tmp 2)), none⟩, ⟨(some 34), .ins (.bin .eql false [0] (.tmp 32) (.tmp 33)), none⟩]) (.cond (.tmp 34) (.seq (.reg [ ⟨(some 6), .ins (.mv (.const (.slice none 0 0))), none⟩, ⟨(some 7), .ins (.mv (.const (.int .i64 2))), none⟩]) .ret) .skip))) (.reg [ ⟨(some 26), .ins (.mv (.tmp 10)), none⟩, ⟨(some 27), .ins (.bin .add false [0] (.tmp 26) (.const (.int .i64 1))), none⟩, ⟨(some 10), .ins (.mv (.tmp 27)), none⟩])))))) (.seq (.seq (.reg [ ⟨(some 35), .ins (.mv (.tmp 2)), none⟩, ⟨(some 36), .ins (.bin .eql false [0] (.tmp 35) (.const (.int .u64 0))), none⟩]) (.cond (.tmp 36) (.seq (.reg [ ⟨(some 6), .ins (.mv (.const (.slice none 0 0))), none⟩, ⟨(some 7), .ins (.mv (.const (.int .i64 2))), none⟩]) .ret) .skip)) (.seq (.reg [ ⟨(some 37), .ins (.mv (.tmp 0)), none⟩, ⟨(some 38), .ins (.mv (.tmp 1)), none⟩, ⟨(some 39), .ins (.mv (.tmp 2)), none⟩, ⟨(some 40), .ins (.build [.string ⟨#[]⟩, .int .u64 0] [(0, 1, .tmp 38), (1, 1, .tmp 39)]), none⟩, ⟨(some 41), .call 52 [.tmp 37, .tmp 40], none⟩, ⟨(some 6), .ins (.mv (.tmp 41)), none⟩, ⟨(some 7), .ins (.mv (.const (.int .i64 0))), none⟩]) .ret)))))))
def r22 : List RVar := [.tmp 6, .tmp 7]
theorem comp22 : comp tab ((Go.Proofs.Try.f22.body).getD .skip) = some c22 := by kernel_rfl
theorem body22 : Go.Proofs.Try.f22.body = some ((Go.Proofs.Try.f22.body).getD .skip) := by kernel_rfl
theorem nt22 : Go.Proofs.Try.f22.ntmps = 42 := by kernel_rfl
theorem res22 : compRes tab Go.Proofs.Try.f22.results.toList = some r22 := by kernel_rfl
def c23 : C := (.seq (.reg [ ⟨(some 4), .ins (.mv (.const (.slice none 0 0))), none⟩, ⟨(some 5), .ins (.mv (.const (.int .i64 0))), none⟩]) (.seq (.seq (.reg [ ⟨(some 11), .ins (.mv (.tmp 0)), none⟩, ⟨(some 12), .ins (.mv (.tmp 1)), none⟩, ⟨(some 13), .call 19 [.tmp 11, .tmp 12], none⟩, ⟨(some 10), .ins (.mv (.tmp 13)), none⟩, ⟨(some 14), .ins (.ext (.tmp 10) 0), none⟩, ⟨(some 15), .ins (.ext (.tmp 10) 1), none⟩, ⟨(some 6), .ins (.mv (.tmp 14)), none⟩, ⟨(some 7), .ins (.mv (.tmp 15)), none⟩]) (.seq (.reg [ ⟨(some 16), .ins (.mv (.tmp 7)), none⟩, ⟨(some 17), .ins (.bin .neq false [0] (.tmp 16) (.const (.int .i64 0))), none⟩]) (.cond (.tmp 17) (.seq (.reg [ ⟨(some 18), .ins (.mv (.tmp 7)), none⟩, ⟨(some 4), .ins (.mv (.const (.slice none 0 0))), none⟩, ⟨(some 5), .ins (.mv (.tmp 18)), none⟩]) .ret) .skip))) (.seq (.reg [ ⟨(some 20), .ins (.mv (.tmp 0)), none⟩, ⟨(some 21), .ins (.mv (.tmp 1)), none⟩, ⟨(some 22), .call 47 [.tmp 20, .tmp 21], none⟩, ⟨(some 19), .ins (.mv (.tmp 22)), none⟩, ⟨(some 23), .ins (.ext (.tmp 19) 0), none⟩, ⟨(some 24), .ins (.ext (.tmp 19) 1), none⟩, ⟨(some 8), .ins (.mv (.tmp 23)), none⟩, ⟨(some 9), .ins (.mv (.tmp 24)), none⟩]) (.seq (.reg [ ⟨(some 25), .ins (.mv (.tmp 0)), none⟩, ⟨(some 26), .call 51 [.tmp 25], none⟩, ⟨(some 27), .ins (.mv (.tmp 8)), none⟩, ⟨(some 28), .ins (.mv (.tmp 8)), none⟩, ⟨(some 29), .ins (.bin .add false [0] (.tmp 28) (.const (.int .i64 1))), none⟩, ⟨(some 30), .call 53 [.tmp 26, .tmp 27, .tmp 29], none⟩, ⟨(some 4), .ins (.mv (.tmp 30)), none⟩, ⟨(some 5), .ins (.mv (.const (.int .i64 0))), none⟩]) .ret))))
def r23 : List RVar := [.tmp 4, .tmp 5]
theorem comp23 : comp tab ((Go.Proofs.Try.f23.body).getD .skip) = some c23 := by kernel_rfl
theorem body23 : Go.Proofs.Try.f23.body = some ((Go.Proofs.Try.f23.body).getD .skip) := by kernel_rfl
theorem nt23 : Go.Proofs.Try.f23.ntmps = 31 := by kernel_rfl
theorem res23 : compRes tab Go.Proofs.Try.f23.results.toList = some r23 := by kernel_rfl
def c24 : C := (.seq (.reg [ ⟨(some 4), .ins (.mv (.const (.slice none 0 0))), none⟩, ⟨(some 5), .ins (.mv (.const (.int .i64 0))), none⟩]) (.seq (.reg [ ⟨(some 9), .ins (.mv (.tmp 0)), none⟩, ⟨(some 10), .ins (.mv (.tmp 1)), none⟩, ⟨(some 11), .call 20 [.tmp 9, .tmp 10], none⟩, ⟨(some 8), .ins (.mv (.tmp 11)), none⟩, ⟨(some 12), .ins (.ext (.tmp 8) 0), none⟩, ⟨(some 13), .ins (.ext (.tmp 8) 1), none⟩, ⟨(some 6), .ins (.mv (.tmp 12)), none⟩, ⟨(some 7), .ins (.mv (.tmp 13)), none⟩]) (.seq (.seq (.reg [ ⟨(some 14), .ins (.mv (.tmp 7)), none⟩, ⟨(some 15), .ins (.bin .neq false [0] (.tmp 14) (.const (.int .i64 0))), none⟩]) (.cond (.tmp 15) (.seq (.reg [ ⟨(some 16), .ins (.mv (.tmp 7)), none⟩, ⟨(some 4), .ins (.mv (.const (.slice none 0 0))), none⟩, ⟨(some 5), .ins (.mv (.tmp 16)), none⟩]) .ret) .skip)) (.seq (.reg [ ⟨(some 17), .ins (.mv (.tmp 0)), none⟩, ⟨(some 18), .ins (.mv (.tmp 1)), none⟩, ⟨(some 19), .call 54 [.tmp 17, .tmp 18], none⟩, ⟨(some 4), .ins (.mv (.tmp 19)), none⟩, ⟨(some 5), .ins (.mv (.const (.int .i64 0))), none⟩]) .ret))))
def r24 : List RVar := [.tmp 4, .tmp 5]
theorem comp24 : comp tab ((Go.Proofs.Try.f24.body).getD .skip) = some c24 := by kernel_rfl
theorem body24 : Go.Proofs.Try.f24.body = some ((Go.Proofs.Try.f24.body).getD .skip) := by kernel_rfl
theorem nt24 : Go.Proofs.Try.f24.ntmps = 20 := by kernel_rfl
theorem res24 : compRes tab Go.Proofs.Try.f24.results.toList = some r24 := by kernel_rfl
def c25 : C := (.seq (.reg [ ⟨(some 6), .ins (.mv (.const (.slice none 0 0))), none⟩, ⟨(some 7), .ins (.mv (.const (.int .i64 0))), none⟩]) (.seq (.seq (.reg [ ⟨(some 15), .ins (.mv (.tmp 0)), none⟩, ⟨(some 16), .ins (.mv (.tmp 1)), none⟩, ⟨(some 17), .ins (.mv (.tmp 2)), none⟩, ⟨(some 18), .ins (.bsl 9 1 2 [.string ⟨#[]⟩] [(0, .tmp 16), (1, .tmp 17)]), none⟩, ⟨(some 19), .call 46 [.tmp 15, .tmp 18], none⟩, ⟨(some 8), .ins (.mv (.tmp 19)), none⟩]) (.seq (.reg [ ⟨(some 20), .ins (.mv (.tmp 8)), none⟩, ⟨(some 21), .ins (.bin .neq false [0] (.tmp 20) (.const (.int .i64 0))), none⟩]) (.cond (.tmp 21) (.seq (.reg [ ⟨(some 22), .ins (.mv (.tmp 8)), none⟩, ⟨(some 6), .ins (.mv (.const (.slice none 0 0))), none⟩, ⟨(some 7), .ins (.mv (.tmp 22)), none⟩]) .ret) .skip))) (.seq (.reg [ ⟨(some 24), .ins (.mv (.tmp 0)), none⟩, ⟨(some 25), .ins (.mv (.tmp 1)), none⟩, ⟨(some 26), .call 19 [.tmp 24, .tmp 25], none⟩, ⟨(some 23), .ins (.mv (.tmp 26)), none⟩, ⟨(some 27), .ins (.ext (.tmp 23) 0), none⟩, ⟨(some 28), .ins (.ext (.tmp 23) 1), none⟩, ⟨(some 9), .ins (.mv (.tmp 27)), none⟩, ⟨(some 10), .ins (.mv (.tmp 28)), none⟩]) (.seq (.seq (.reg [ ⟨(some 29), .ins (.mv (.tmp 10)), none⟩, ⟨(some 30), .ins (.bin .neq false [0] (.tmp 29) (.const (.int .i64 0))), none⟩]) (.cond (.tmp 30) (.seq (.reg [ ⟨(some 31), .ins (.mv (.tmp 10)), none⟩, ⟨(some 6), .ins (.mv (.const (.slice none 0 0))), none⟩, ⟨(some 7), .ins (.mv (.tmp 31)), none⟩]) .ret) .skip)) (.seq (.seq (.reg [ ⟨(some 33), .ins (.mv (.tmp 0)), none⟩, ⟨(some 34), .ins (.mv (.tmp 2)), none⟩, ⟨(some 35), .call 47 [.tmp 33, .tmp 34], none⟩, ⟨(some 32), .ins (.mv (.tmp 35)), none⟩, ⟨(some 36), .ins (.ext (.tmp 32) 0), none⟩, ⟨(some 37), .ins (.ext (.tmp 32) 1), none⟩, ⟨(some 11), .ins (.mv (.tmp 36)), none⟩, ⟨(some 12), .ins (.mv (.tmp 37)), none⟩]) (.seq (.reg [ ⟨(some 38), .ins (.mv (.tmp 12)), none⟩]) (.cond (.tmp 38) (.seq (.reg [ ⟨(some 6), .ins (.mv (.const (.slice none 0 0))), none⟩, ⟨(some 7), .ins (.mv (.const (.int .i64 81))), none⟩]) .ret) .skip))) (.seq (.reg [ ⟨(some 40), .ins (.mv (.tmp 0)), none⟩, ⟨(some 41), .ins (.mv (.tmp 1)), none⟩, ⟨(some 42), .call 23 [.tmp 40, .tmp 41], none⟩, ⟨(some 39), .ins (.mv (.tmp 42)), none⟩, ⟨(some 43), .ins (.ext (.tmp 39) 0), none⟩, ⟨(some 44), .ins (.ext (.tmp 39) 1), none⟩, ⟨(some 13), .ins (.mv (.tmp 43)), none⟩, ⟨(some 14), .ins (.mv (.tmp 44)), none⟩]) (.seq (.reg [ ⟨(some 45), .ins (.mv (.tmp 13)), none⟩, ⟨(some 46), .ins (.mv (.tmp 2)), none⟩, ⟨(some 47), .ins (.mv (.tmp 9)), none⟩, ⟨(some 48), .call 21 [.tmp 45, .tmp 46, .tmp 47], none⟩, ⟨(some 49), .ins (.ext (.tmp 48) 0), none⟩, ⟨(some 50), .ins (.ext (.tmp 48) 1), none⟩, ⟨(some 6), .ins (.mv (.tmp 49)), none⟩, ⟨(some 7), .ins (.mv (.tmp 50)), none⟩]) .ret)))))))
def r25 : List RVar := [.tmp 6, .tmp 7]
theorem comp25 : comp tab ((Go.Proofs.Try.f25.body).getD .skip) = some c25 := by kernel_rfl
theorem body25 : Go.Proofs.Try.f25.body = some ((Go.Proofs.Try.f25.body).getD .skip) := by kernel_rfl
theorem nt25 : Go.Proofs.Try.f25.ntmps = 51 := by kernel_rfl
theorem res25 : compRes tab Go.Proofs.Try.f25.results.toList = some r25 := by kernel_rfl
def c26 : C := (.seq (.reg [ ⟨(some 6), .ins (.mv (.const (.slice none 0 0))), none⟩, ⟨(some 7), .ins (.mv (.const (.int .i64 0))), none⟩]) (.seq (.seq (.reg [ ⟨(some 12), .ins (.mv (.tmp 0)), none⟩, ⟨(some 13), .call 29 [.tmp 12], none⟩, ⟨(some 14), .ins (.mv (.tmp 13)), none⟩, ⟨(some 15), .ins (.mv (.tmp 1)), (some (14, true))⟩, ⟨(some 16), .call 34 [.tmp 15], (some (14, true))⟩, ⟨(some 17), .ins (.un .not (.tmp 16)), (some (14, true))⟩, ⟨(some 18), .ins (.mv (.tmp 17)), (some (14, true))⟩, ⟨(some 19), .ins (.mv (.tmp 2)), (some (18, false))⟩, ⟨(some 20), .call 34 [.tmp 19], (some (18, false))⟩, ⟨(some 21), .ins (.un .not (.tmp 20)), (some (18, false))⟩, ⟨(some 22), .ins (.pick (.tmp 18) (.const (.bool true)) (.tmp 21)), (some (14, true))⟩, ⟨(some 23), .ins (.pick (.tmp 14) (.tmp 22) (.const (.bool false))), none⟩]) (.cond (.tmp 23) (.seq (.reg [ ⟨(some 6), .ins (.mv (.const (.slice none 0 0))), none⟩, ⟨(some 7), .ins (.mv (.const (.int .i64 170))), none⟩]) .ret) .skip)) (.seq (.reg [ ⟨(some 25), .ins (.mv (.tmp 0)), none⟩, ⟨(some 26), .ins (.mv (.tmp 1)), none⟩, ⟨(some 27), .call 20 [.tmp 25, .tmp 26], none⟩, ⟨(some 24), .ins (.mv (.tmp 27)), none⟩, ⟨(some 28), .ins (.ext (.tmp 24) 0), none⟩, ⟨(some 29), .ins (.ext (.tmp 24) 1), none⟩, ⟨(some 8), .ins (.mv (.tmp 28)), none⟩, ⟨(some 9), .ins (.mv (.tmp 29)), none⟩]) (.seq (.seq (.reg [ ⟨(some 30), .ins (.mv (.tmp 9)), none⟩, ⟨(some 31), .ins (.bin .neq false [0] (.tmp 30) (.const (.int .i64 0))), none⟩]) (.cond (.tmp 31) (.seq (.reg [ ⟨(some 32), .ins (.mv (.tmp 9)), none⟩, ⟨(some 6), .ins (.mv (.const (.slice none 0 0))), none⟩, ⟨(some 7), .ins (.mv (.tmp 32)), none⟩]) .ret) .skip)) (.seq (.reg [ ⟨(some 34), .ins (.mv (.tmp 0)), none⟩, ⟨(some 35), .ins (.mv (.tmp 2)), none⟩, ⟨(some 36), .call 20 [.tmp 34, .tmp 35], none⟩, ⟨(some 33), .ins (.mv (.tmp 36)), none⟩, ⟨(some 37), .ins (.ext (.tmp 33) 0), none⟩, ⟨(some 38), .ins (.ext (.tmp 33) 1), none⟩, ⟨(some 10), .ins (.mv (.tmp 37)), none⟩, ⟨(some 11), .ins (.mv (.tmp 38)), none⟩]) (.seq (.seq (.reg [ ⟨(some 39), .ins (.mv (.tmp 11)), none⟩, ⟨(some 40), .ins (.bin .eql false [0] (.tmp 39) (.const (.int .i64 0))), none⟩]) (.cond (.tmp 40) (.seq (.reg [ ⟨(some 6), .ins (.mv (.const (.slice none 0 0))), none⟩, ⟨(some 7), .ins (.mv (.const (.int .i64 81))), none⟩]) .ret) .skip)) (.seq (.reg [ ⟨(some 41), .ins (.mv (.tmp 0)), none⟩, ⟨(some 42), .ins (.mv (.tmp 1)), none⟩, ⟨(some 43), .call 54 [.tmp 41, .tmp 42], none⟩, ⟨(some 44), .ins (.mv (.tmp 2)), none⟩, ⟨(some 45), .ins (.mv (.tmp 8)), none⟩, ⟨(some 46), .ins (.build [.string ⟨#[]⟩, .int .u64 0] [(0, 1, .tmp 44), (1, 1, .tmp 45)]), none⟩, ⟨(some 47), .call 52 [.tmp 43, .tmp 46], none⟩, ⟨(some 6), .ins (.mv (.tmp 47)), none⟩, ⟨(some 7), .ins (.mv (.const (.int .i64 0))), none⟩]) .ret)))))))
def r26 : List RVar := [.tmp 6, .tmp 7]
theorem comp26 : comp tab ((Go.Proofs.Try.f26.body).getD .skip) = some c26 := by kernel_rfl
theorem body26 : Go.Proofs.Try.f26.body = some ((Go.Proofs.Try.f26.body).getD .skip) := by kernel_rfl
theorem nt26 : Go.Proofs.Try.f26.ntmps = 48 := by kernel_rfl
theorem res26 : compRes tab Go.Proofs.Try.f26.results.toList = some r26 := by kernel_rfl
def c27 : C := (.seq (.reg [ ⟨(some 4), .ins (.mv (.const (.bool false))), none⟩]) (.seq (.seq (.reg [ ⟨(some 6), .ins (.mv (.tmp 0)), none⟩, ⟨(some 7), .ins (.len false (.tmp 6)), none⟩, ⟨(some 8), .ins (.mv (.tmp 1)), none⟩, ⟨(some 9), .ins (.len false (.tmp 8)), none⟩, ⟨(some 10), .ins (.bin .neq false [0] (.tmp 7) (.tmp 9)), none⟩]) (.cond (.tmp 10) (.seq (.reg [ ⟨(some 4), .ins (.mv (.const (.bool false))), none⟩]) .ret) .skip)) (.seq (.seq (.reg [ ⟨(some 5), .ins (.mv (.const (.int .i64 0))), none⟩]) (.block 0 (.loop (.seq (.seq (.reg [ ⟨(some 11), .ins (.mv (.tmp 5)), none⟩, ⟨(some 12), .ins (.mv (.tmp 0)), none⟩, ⟨(some 13), .ins (.len false (.tmp 12)), none⟩, ⟨(some 14), .ins (.bin .lss false [0] (.tmp 11) (.tmp 13)), none⟩]) (.cond (.tmp 14) .skip (.exit 0))) (.seq (.block 1 (.seq (.draw [ (⟨(some 17), .ins (.mv (.tmp 0)), none⟩, []), (⟨(some 18), .ins (.mv (.tmp 5)), none⟩, []), (⟨(some 19), .ins (.iadS 2 (.tmp 17) (.tmp 18)), none⟩, [0, 1]), (⟨(some 20), .ins (.fad 0 (.tmp 19)), none⟩, [0, 1, 2]), (⟨(some 21), .ins (.ld false 1 (.tmp 20)), none⟩, [0, 1, 2, 3]), (⟨(some 22), .ins (.mv (.tmp 1)), none⟩, []), (⟨(some 23), .ins (.mv (.tmp 5)), none⟩, []), (⟨(some 24), .ins (.iadS 2 (.tmp 22) (.tmp 23)), none⟩, [5, 6]), (⟨(some 25), .ins (.fad 0 (.tmp 24)), none⟩, [5, 6, 7]), (⟨(some 26), .ins (.ld false 1 (.tmp 25)), none⟩, [5, 6, 7, 8]), (⟨(some 27), .ins (.bin .neq false [1] (.tmp 21) (.tmp 26)), none⟩, [0, 1, 2, 3, 4, 5, 6, 7, 8, 9]), (⟨(some 28), .ins (.mv (.tmp 27)), none⟩, [0, 1, 2, 3, 4, 5, 6, 7, 8, 9, 10]), (⟨(some 29), .ins (.mv (.tmp 0)), (some (28, false))⟩, [0, 1, 2, 3, 4, 5, 6, 7, 8, 9, 10, 11]), (⟨(some 30), .ins (.mv (.tmp 5)), (some (28, false))⟩, [0, 1, 2, 3, 4, 5, 6, 7, 8, 9, 10, 11]), (⟨(some 31), .ins (.iadS 2 (.tmp 29) (.tmp 30)), (some (28, false))⟩, [0, 1, 2, 3, 4, 5, 6, 7, 8, 9, 10, 11, 12, 13]), (⟨(some 32), .ins (.fad 1 (.tmp 31)), (some (28, false))⟩, [0, 1, 2, 3, 4, 5, 6, 7, 8, 9, 10, 11, 12, 13, 14]), (⟨(some 33), .ins (.ld false 1 (.tmp 32)), (some (28, false))⟩, [0, 1, 2, 3, 4, 5, 6, 7, 8, 9, 10, 11, 12, 13, 14, 15]), (⟨(some 34), .ins (.mv (.tmp 1)), (some (28, false))⟩, [0, 1, 2, 3, 4, 5, 6, 7, 8, 9, 10, 11]), (⟨(some 35), .ins (.mv (.tmp 5)), (some (28, false))⟩, [0, 1, 2, 3, 4, 5, 6, 7, 8, 9, 10, 11]), (⟨(some 36), .ins (.iadS 2 (.tmp 34) (.tmp 35)), (some (28, false))⟩, [0, 1, 2, 3, 4, 5, 6, 7, 8, 9, 10, 11, 17, 18]), (⟨(some 37), .ins (.fad 1 (.tmp 36)), (some (28, false))⟩, [0, 1, 2, 3, 4, 5, 6, 7, 8, 9, 10, 11, 17, 18, 19]), (⟨(some 38), .ins (.ld false 1 (.tmp 37)), (some (28, false))⟩, [0, 1, 2, 3, 4, 5, 6, 7, 8, 9, 10, 11, 17, 18, 19, 20]), (⟨(some 39), .ins (.bin .neq false [0] (.tmp 33) (.tmp 38)), (some (28, false))⟩, [0, 1, 2, 3, 4, 5, 6, 7, 8, 9, 10, 11, 12, 13, 14, 15, 16, 17, 18, 19, 20, 21]), (⟨(some 40), .ins (.pick (.tmp 28) (.const (.bool true)) (.tmp 39)), none⟩, [0, 1, 2, 3, 4, 5, 6, 7, 8, 9, 10, 11, 12, 13, 14, 15, 16, 17, 18, 19, 20, 21, 22])]) (.cond (.tmp 40) (.seq (.reg [ ⟨(some 4), .ins (.mv (.const (.bool false))), none⟩]) .ret) .skip))) (.reg [ ⟨(some 15), .ins (.mv (.tmp 5)), none⟩, ⟨(some 16), .ins (.bin .add false [0] (.tmp 15) (.const (.int .i64 1))), none⟩, ⟨(some 5), .ins (.mv (.tmp 16)), none⟩])))))) (.seq (.reg [ ⟨(some 4), .ins (.mv (.const (.bool true))), none⟩]) .ret))))
def r27 : List RVar := [.tmp 4]
theorem comp27 : comp tab ((Go.Proofs.Try.f27.body).getD .skip) = some c27 := by kernel_rfl
theorem body27 : Go.Proofs.Try.f27.body = some ((Go.Proofs.Try.f27.body).getD .skip) := by kernel_rfl
theorem nt27 : Go.Proofs.Try.f27.ntmps = 41 := by kernel_rfl
theorem res27 : compRes tab Go.Proofs.Try.f27.results.toList = some r27 := by kernel_rfl
def c28 : C := (.seq (.reg [ ⟨(some 2), .ins (.mv (.const (.bool false))), none⟩]) (.seq (.reg [ ⟨(some 8), .ins (.xt (.mkm .u64 true)), none⟩, ⟨(some 9), .ins (.build [] []), none⟩, ⟨none, .ins (.xt (.mup .u64 (.tmp 8) (.const (.int .u64 0)) (.tmp 9))), none⟩, ⟨(some 10), .ins (.mv (.tmp 8)), none⟩, ⟨(some 3), .ins (.mv (.tmp 10)), none⟩]) (.seq (.seq (.reg [ ⟨(some 11), .ins (.mv (.tmp 0)), none⟩, ⟨(some 12), .ins (.len false (.tmp 11)), none⟩, ⟨(some 13), .ins (.mv (.const (.int .i64 0))), none⟩]) (.block 0 (.loop (.seq (.reg [ ⟨(some 14), .ins (.bin .lss false [0] (.tmp 13) (.tmp 12)), none⟩]) (.seq (.cond (.tmp 14) .skip (.exit 0)) (.seq (.block 1 (.seq (.reg [ ⟨(some 15), .ins (.mv (.tmp 13)), none⟩, ⟨(some 16), .ins (.iadS 2 (.tmp 11) (.tmp 13)), none⟩, ⟨(some 17), .ins (.ld true 2 (.tmp 16)), none⟩, ⟨(some 5), .ins (.alloc [.string ⟨#[]⟩, .int .u64 0]), none⟩, ⟨(some 4), .ins (.mv (.tmp 15)), none⟩, ⟨none, .ins (.st 2 (.tmp 5) (.tmp 17)), none⟩]) (.seq (.reg [ ⟨(some 19), .ins (.mv (.tmp 3)), none⟩, ⟨(some 20), .ins (.fad 1 (.tmp 5)), none⟩, ⟨(some 21), .ins (.ld false 1 (.tmp 20)), none⟩, ⟨(some 22), .ins (.xt (.mlk .u64 true (.tmp 19) (.tmp 21))), none⟩, ⟨(some 18), .ins (.mv (.tmp 22)), none⟩, ⟨(some 23), .ins (.ext (.tmp 18) 0), none⟩, ⟨(some 24), .ins (.ext (.tmp 18) 1), none⟩, ⟨(some 6), .ins (.alloc []), none⟩, ⟨none, .ins (.st 0 (.tmp 6) (.tmp 23)), none⟩, ⟨(some 7), .ins (.mv (.tmp 24)), none⟩]) (.seq (.seq (.draw [ (⟨(some 25), .ins (.mv (.tmp 7)), none⟩, []), (⟨(some 26), .ins (.mv (.tmp 25)), none⟩, [0]), (⟨(some 27), .ins (.fad 0 (.tmp 5)), (some (26, false))⟩, [0, 1]), (⟨(some 28), .ins (.ld false 1 (.tmp 27)), (some (26, false))⟩, [0, 1, 2]), (⟨(some 29), .ins (.bsl 9 1 1 [.string ⟨#[]⟩] [(0, .tmp 28)]), (some (26, false))⟩, [0, 1, 2, 3]), (⟨(some 30), .call 33 [.tmp 29], (some (26, false))⟩, [0, 1, 2, 3, 4]), (⟨(some 31), .ins (.un .not (.tmp 30)), (some (26, false))⟩, [0, 1, 2, 3, 4, 5]), (⟨(some 32), .ins (.pick (.tmp 26) (.const (.bool true)) (.tmp 31)), none⟩, [0, 1, 2, 3, 4, 5, 6]), (⟨(some 33), .ins (.mv (.tmp 32)), none⟩, [0, 1, 2, 3, 4, 5, 6, 7]), (⟨(some 34), .ins (.mv (.tmp 4)), (some (33, false))⟩, [0, 1, 2, 3, 4, 5, 6, 7, 8]), (⟨(some 35), .ins (.bin .gtr false [0] (.tmp 34) (.const (.int .i64 0))), (some (33, false))⟩, [0, 1, 2, 3, 4, 5, 6, 7, 8, 9]), (⟨(some 36), .ins (.mv (.tmp 35)), (some (33, false))⟩, [0, 1, 2, 3, 4, 5, 6, 7, 8, 9, 10]), (⟨(some 37), .ins (.mv (.tmp 0)), (some (36, true))⟩, [0, 1, 2, 3, 4, 5, 6, 7, 8, 9, 10, 11]), (⟨(some 38), .ins (.mv (.tmp 4)), (some (36, true))⟩, [0, 1, 2, 3, 4, 5, 6, 7, 8, 9, 10, 11]), (⟨(some 39), .ins (.bin .sub false [0] (.tmp 38) (.const (.int .i64 1))), (some (36, true))⟩, [0, 1, 2, 3, 4, 5, 6, 7, 8, 9, 10, 11, 13]), (⟨(some 40), .ins (.iadS 2 (.tmp 37) (.tmp 39)), (some (36, true))⟩, [0, 1, 2, 3, 4, 5, 6, 7, 8, 9, 10, 11, 12, 13, 14]), (⟨(some 41), .ins (.fad 0 (.tmp 40)), (some (36, true))⟩, [0, 1, 2, 3, 4, 5, 6, 7, 8, 9, 10, 11, 12, 13, 14, 15]), (⟨(some 42), .ins (.ld false 1 (.tmp 41)), (some (36, true))⟩, [0, 1, 2, 3, 4, 5, 6, 7, 8, 9, 10, 11, 12, 13, 14, 15, 16]), (⟨(some 43), .ins (.fad 0 (.tmp 5)), (some (36, true))⟩, [0, 1, 2, 3, 4, 5, 6, 7, 8, 9, 10, 11]), (⟨(some 44), .ins (.ld false 1 (.tmp 43)), (some (36, true))⟩, [0, 1, 2, 3, 4, 5, 6, 7, 8, 9, 10, 11, 18]), (⟨(some 45), .ins (.bin .geq false [1] (.tmp 42) (.tmp 44)), (some (36, true))⟩, [0, 1, 2, 3, 4, 5, 6, 7, 8, 9, 10, 11, 12, 13, 14, 15, 16, 17, 18, 19]), (⟨(some 46), .ins (.pick (.tmp 36) (.tmp 45) (.const (.bool false))), (some (33, false))⟩, [0, 1, 2, 3, 4, 5, 6, 7, 8, 9, 10, 11, 12, 13, 14, 15, 16, 17, 18, 19, 20]), (⟨(some 47), .ins (.pick (.tmp 33) (.const (.bool true)) (.tmp 46)), none⟩, [0, 1, 2, 3, 4, 5, 6, 7, 8, 9, 10, 11, 12, 13, 14, 15, 16, 17, 18, 19, 20, 21])]) (.cond (.tmp 47) (.seq (.reg [ ⟨(some 2), .ins (.mv (.const (.bool false))), none⟩]) .ret) .skip)) (.reg [ ⟨(some 48), .ins (.mv (.tmp 3)), none⟩, ⟨(some 49), .ins (.fad 1 (.tmp 5)), none⟩, ⟨(some 50), .ins (.ld false 1 (.tmp 49)), none⟩, ⟨(some 51), .ins (.build [] []), none⟩, ⟨none, .ins (.xt (.mup .u64 (.tmp 48) (.tmp 50) (.tmp 51))), none⟩]))))) (.reg [ ⟨(some 52), .ins (.bin .add false [0] (.tmp 13) (.const (.int .i64 1))), none⟩, ⟨(some 13), .ins (.mv (.tmp 52)), none⟩]))))))) (.seq (.reg [ ⟨(some 2), .ins (.mv (.const (.bool true))), none⟩]) .ret))))
def r28 : List RVar := [.tmp 2]
theorem comp28 : comp tab ((Go.Proofs.Try.f28.body).getD .skip) = some c28 := by kernel_rfl
theorem body28 : Go.Proofs.Try.f28.body = some ((Go.Proofs.Try.f28.body).getD .skip) := by kernel_rfl
theorem nt28 : Go.Proofs.Try.f28.ntmps = 53 := by kernel_rfl
theorem res28 : compRes tab Go.Proofs.Try.f28.results.toList = some r28 := by kernel_rfl
def c29 : C := (.seq (.reg [ ⟨(some 2), .ins (.mv (.const (.bool false))), none⟩]) (.seq (.seq (.reg [ ⟨(some 3), .ins (.mv (.const (.int .i64 0))), none⟩]) (.block 0 (.loop (.seq (.seq (.reg [ ⟨(some 5), .ins (.mv (.tmp 3)), none⟩, ⟨(some 6), .ins (.mv (.tmp 0)), none⟩, ⟨(some 7), .ins (.len false (.tmp 6)), none⟩, ⟨(some 8), .ins (.bin .lss false [0] (.tmp 5) (.tmp 7)), none⟩]) (.cond (.tmp 8) .skip (.exit 0))) (.seq (.block 1 (.seq (.seq (.reg [ ⟨(some 11), .ins (.mv (.tmp 0)), none⟩, ⟨(some 12), .ins (.mv (.tmp 3)), none⟩, ⟨(some 13), .ins (.iadS 2 (.tmp 11) (.tmp 12)), none⟩, ⟨(some 14), .ins (.fad 0 (.tmp 13)), none⟩, ⟨(some 15), .ins (.ld false 1 (.tmp 14)), none⟩, ⟨(some 16), .call 34 [.tmp 15], none⟩, ⟨(some 17), .ins (.un .not (.tmp 16)), none⟩, ⟨(some 18), .ins (.mv (.tmp 17)), none⟩, ⟨(some 19), .ins (.mv (.tmp 0)), (some (18, false))⟩, ⟨(some 20), .ins (.mv (.tmp 3)), (some (18, false))⟩, ⟨(some 21), .ins (.iadS 2 (.tmp 19) (.tmp 20)), (some (18, false))⟩, ⟨(some 22), .ins (.fad 1 (.tmp 21)), (some (18, false))⟩, ⟨(some 23), .ins (.ld false 1 (.tmp 22)), (some (18, false))⟩, ⟨(some 24), .ins (.bin .eql false [0] (.tmp 23) (.const (.int .u64 0))), (some (18, false))⟩, ⟨(some 25), .ins (.pick (.tmp 18) (.const (.bool true)) (.tmp 24)), none⟩]) (.cond (.tmp 25) (.seq (.reg [ ⟨(some 2), .ins (.mv (.const (.bool false))), none⟩]) .ret) .skip)) (.seq (.reg [ ⟨(some 4), .ins (.mv (.const (.int .i64 0))), none⟩]) (.block 2 (.loop (.seq (.seq (.reg [ ⟨(some 26), .ins (.mv (.tmp 4)), none⟩, ⟨(some 27), .ins (.mv (.tmp 3)), none⟩, ⟨(some 28), .ins (.bin .lss false [0] (.tmp 26) (.tmp 27)), none⟩]) (.cond (.tmp 28) .skip (.exit 2))) (.seq (.block 3 (.seq (.draw [ (⟨(some 31), .ins (.mv (.tmp 0)), none⟩, []), (⟨(some 32), .ins (.mv (.tmp 4)), none⟩, []), (⟨(some 33), .ins (.iadS 2 (.tmp 31) (.tmp 32)), none⟩, [0, 1]), (⟨(some 34), .ins (.fad 0 (.tmp 33)), none⟩, [0, 1, 2]), (⟨(some 35), .ins (.ld false 1 (.tmp 34)), none⟩, [0, 1, 2, 3]), (⟨(some 36), .ins (.mv (.tmp 0)), none⟩, []), (⟨(some 37), .ins (.mv (.tmp 3)), none⟩, []), (⟨(some 38), .ins (.iadS 2 (.tmp 36) (.tmp 37)), none⟩, [5, 6]), (⟨(some 39), .ins (.fad 0 (.tmp 38)), none⟩, [5, 6, 7]), (⟨(some 40), .ins (.ld false 1 (.tmp 39)), none⟩, [5, 6, 7, 8]), (⟨(some 41), .ins (.bin .geq false [1] (.tmp 35) (.tmp 40)), none⟩, [0, 1, 2, 3, 4, 5, 6, 7, 8, 9]), (⟨(some 42), .ins (.mv (.tmp 41)), none⟩, [0, 1, 2, 3, 4, 5, 6, 7, 8, 9, 10]), (⟨(some 43), .ins (.mv (.tmp 0)), (some (42, false))⟩, [0, 1, 2, 3, 4, 5, 6, 7, 8, 9, 10, 11]), (⟨(some 44), .ins (.mv (.tmp 4)), (some (42, false))⟩, [0, 1, 2, 3, 4, 5, 6, 7, 8, 9, 10, 11]), (⟨(some 45), .ins (.iadS 2 (.tmp 43) (.tmp 44)), (some (42, false))⟩, [0, 1, 2, 3, 4, 5, 6, 7, 8, 9, 10, 11, 12, 13]), (⟨(some 46), .ins (.fad 1 (.tmp 45)), (some (42, false))⟩, [0, 1, 2, 3, 4, 5, 6, 7, 8, 9, 10, 11, 12, 13, 14]), (⟨(some 47), .ins (.ld false 1 (.tmp 46)), (some (42, false))⟩, [0, 1, 2, 3, 4, 5, 6, 7, 8, 9, 10, 11, 12, 13, 14, 15]), (⟨(some 48), .ins (.mv (.tmp 0)), (some (42, false))⟩, [0, 1, 2, 3, 4, 5, 6, 7, 8, 9, 10, 11]), (⟨(some 49), .ins (.mv (.tmp 3)), (some (42, false))⟩, [0, 1, 2, 3, 4, 5, 6, 7, 8, 9, 10, 11]), (⟨(some 50), .ins (.iadS 2 (.tmp 48) (.tmp 49)), (some (42, false))⟩, [0, 1, 2, 3, 4, 5, 6, 7, 8, 9, 10, 11, 17, 18]), (⟨(some 51), .ins (.fad 1 (.tmp 50)), (some (42, false))⟩, [0, 1, 2, 3, 4, 5, 6, 7, 8, 9, 10, 11, 17, 18, 19]), (⟨(some 52), .ins (.ld false 1 (.tmp 51)), (some (42, false))⟩, [0, 1, 2, 3, 4, 5, 6, 7, 8, 9, 10, 11, 17, 18, 19, 20]), (⟨(some 53), .ins (.bin .eql false [0] (.tmp 47) (.tmp 52)), (some (42, false))⟩, [0, 1, 2, 3, 4, 5, 6, 7, 8, 9, 10, 11, 12, 13, 14, 15, 16, 17, 18, 19, 20, 21]), (⟨(some 54), .ins (.pick (.tmp 42) (.const (.bool true)) (.tmp 53)), none⟩, [0, 1, 2, 3, 4, 5, 6, 7, 8, 9, 10, 11, 12, 13, 14, 15, 16, 17, 18, 19, 20, 21, 22])]) (.cond (.tmp 54) (.seq (.reg [ ⟨(some 2), .ins (.mv (.const (.bool false))), none⟩]) .ret) .skip))) (.reg [ ⟨(some 29), .ins (.mv (.tmp 4)), none⟩, ⟨(some 30), .ins (.bin .add false [0] (.tmp 29) (.const (.int .i64 1))), none⟩, ⟨(some 4), .ins (.mv (.tmp 30)), none⟩])))))))) (.reg [ ⟨(some 9), .ins (.mv (.tmp 3)), none⟩, ⟨(some 10), .ins (.bin .add false [0] (.tmp 9) (.const (.int .i64 1))), none⟩, ⟨(some 3), .ins (.mv (.tmp 10)), none⟩])))))) (.seq (.reg [ ⟨(some 2), .ins (.mv (.const (.bool true))), none⟩]) .ret)))
def r29 : List RVar := [.tmp 2]
theorem comp29 : comp tab ((Go.Proofs.Try.f29.body).getD .skip) = some c29 := by kernel_rfl
theorem body29 : Go.Proofs.Try.f29.body = some ((Go.Proofs.Try.f29.body).getD .skip) := by kernel_rfl
theorem nt29 : Go.Proofs.Try.f29.ntmps = 55 := by kernel_rfl
theorem res29 : compRes tab Go.Proofs.Try.f29.results.toList = some r29 := by kernel_rfl
def c30 : C := (.seq (.reg [ ⟨(some 4), .ins (.mv (.const (.bool false))), none⟩]) (.seq (.seq (.reg [ ⟨(some 6), .ins (.mv (.tmp 0)), none⟩, ⟨(some 7), .ins (.len false (.tmp 6)), none⟩, ⟨(some 8), .ins (.mv (.tmp 1)), none⟩, ⟨(some 9), .ins (.len false (.tmp 8)), none⟩, ⟨(some 10), .ins (.bin .neq false [0] (.tmp 7) (.tmp 9)), none⟩]) (.cond (.tmp 10) (.seq (.reg [ ⟨(some 4), .ins (.mv (.const (.bool false))), none⟩]) .ret) .skip)) (.seq (.seq (.reg [ ⟨(some 5), .ins (.mv (.const (.int .i64 0))), none⟩]) (.block 0 (.loop (.seq (.seq (.reg [ ⟨(some 11), .ins (.mv (.tmp 5)), none⟩, ⟨(some 12), .ins (.mv (.tmp 0)), none⟩, ⟨(some 13), .ins (.len false (.tmp 12)), none⟩, ⟨(some 14), .ins (.bin .lss false [0] (.tmp 11) (.tmp 13)), none⟩]) (.cond (.tmp 14) .skip (.exit 0))) (.seq (.block 1 (.seq (.draw [ (⟨(some 17), .ins (.mv (.tmp 0)), none⟩, []), (⟨(some 18), .ins (.mv (.tmp 5)), none⟩, []), (⟨(some 19), .ins (.iadS 1 (.tmp 17) (.tmp 18)), none⟩, [0, 1]), (⟨(some 20), .ins (.ld false 1 (.tmp 19)), none⟩, [0, 1, 2]), (⟨(some 21), .ins (.mv (.tmp 1)), none⟩, []), (⟨(some 22), .ins (.mv (.tmp 5)), none⟩, []), (⟨(some 23), .ins (.iadS 1 (.tmp 21) (.tmp 22)), none⟩, [4, 5]), (⟨(some 24), .ins (.ld false 1 (.tmp 23)), none⟩, [4, 5, 6]), (⟨(some 25), .ins (.bin .neq false [1] (.tmp 20) (.tmp 24)), none⟩, [0, 1, 2, 3, 4, 5, 6, 7])]) (.cond (.tmp 25) (.seq (.reg [ ⟨(some 4), .ins (.mv (.const (.bool false))), none⟩]) .ret) .skip))) (.reg [ ⟨(some 15), .ins (.mv (.tmp 5)), none⟩, ⟨(some 16), .ins (.bin .add false [0] (.tmp 15) (.const (.int .i64 1))), none⟩, ⟨(some 5), .ins (.mv (.tmp 16)), none⟩])))))) (.seq (.reg [ ⟨(some 4), .ins (.mv (.const (.bool true))), none⟩]) .ret))))
def r30 : List RVar := [.tmp 4]
theorem comp30 : comp tab ((Go.Proofs.Try.f30.body).getD .skip) = some c30 := by kernel_rfl
theorem body30 : Go.Proofs.Try.f30.body = some ((Go.Proofs.Try.f30.body).getD .skip) := by kernel_rfl
theorem nt30 : Go.Proofs.Try.f30.ntmps = 26 := by kernel_rfl
theorem res30 : compRes tab Go.Proofs.Try.f30.results.toList = some r30 := by kernel_rfl
def c31 : C := (.seq (.reg [ ⟨(some 2), .ins (.mv (.const (.slice none 0 0))), none⟩]) (.seq (.seq (.reg [ ⟨(some 5), .ins (.mv (.tmp 0)), none⟩, ⟨(some 6), .ins (.len false (.tmp 5)), none⟩, ⟨(some 7), .ins (.mv (.const (.int .i64 0))), none⟩]) (.block 0 (.loop (.seq (.reg [ ⟨(some 8), .ins (.bin .lss false [0] (.tmp 7) (.tmp 6)), none⟩]) (.seq (.cond (.tmp 8) .skip (.exit 0)) (.seq (.block 1 (.seq (.reg [ ⟨(some 9), .ins (.iadS 2 (.tmp 5) (.tmp 7)), none⟩, ⟨(some 10), .ins (.ld true 2 (.tmp 9)), none⟩, ⟨(some 4), .ins (.alloc [.string ⟨#[]⟩, .int .u64 0]), none⟩, ⟨none, .ins (.st 2 (.tmp 4) (.tmp 10)), none⟩]) (.reg [ ⟨(some 11), .ins (.mv (.tmp 2)), none⟩, ⟨(some 12), .ins (.fad 0 (.tmp 4)), none⟩, ⟨(some 13), .ins (.ld false 1 (.tmp 12)), none⟩, ⟨(some 14), .ins (.bsl 9 1 1 [.string ⟨#[]⟩] [(0, .tmp 13)]), none⟩, ⟨(some 15), .ins (.app 9 1 16 (.tmp 11) (.tmp 14)), none⟩, ⟨(some 2), .ins (.mv (.tmp 15)), none⟩]))) (.reg [ ⟨(some 16), .ins (.bin .add false [0] (.tmp 7) (.const (.int .i64 1))), none⟩, ⟨(some 7), .ins (.mv (.tmp 16)), none⟩]))))))) (.seq (.reg [ ⟨(some 17), .ins (.mv (.tmp 2)), none⟩, ⟨(some 2), .ins (.mv (.tmp 17)), none⟩]) .ret)))
def r31 : List RVar := [.tmp 2]
theorem comp31 : comp tab ((Go.Proofs.Try.f31.body).getD .skip) = some c31 := by kernel_rfl
theorem body31 : Go.Proofs.Try.f31.body = some ((Go.Proofs.Try.f31.body).getD .skip) := by kernel_rfl
theorem nt31 : Go.Proofs.Try.f31.ntmps = 18 := by kernel_rfl
theorem res31 : compRes tab Go.Proofs.Try.f31.results.toList = some r31 := by kernel_rfl
def c32 : C := (.seq (.reg [ ⟨(some 2), .ins (.mv (.const (.slice none 0 0))), none⟩]) (.seq (.reg [ ⟨(some 3), .ins (.mv (.const (.slice none 0 0))), none⟩]) (.seq (.seq (.reg [ ⟨(some 4), .ins (.mv (.const (.int .i64 0))), none⟩]) (.block 0 (.loop (.seq (.seq (.reg [ ⟨(some 5), .ins (.mv (.tmp 4)), none⟩, ⟨(some 6), .ins (.mv (.tmp 0)), none⟩, ⟨(some 7), .ins (.len false (.tmp 6)), none⟩, ⟨(some 8), .ins (.bin .lss false [0] (.tmp 5) (.tmp 7)), none⟩]) (.cond (.tmp 8) .skip (.exit 0))) (.seq (.block 1 (.reg [ ⟨(some 11), .ins (.mv (.tmp 3)), none⟩, ⟨(some 12), .ins (.mv (.tmp 0)), none⟩, ⟨(some 13), .ins (.mv (.tmp 4)), none⟩, ⟨(some 14), .ins (.iadS 2 (.tmp 12) (.tmp 13)), none⟩, ⟨(some 15), .ins (.fad 0 (.tmp 14)), none⟩, ⟨(some 16), .ins (.ld false 1 (.tmp 15)), none⟩, ⟨(some 17), .ins (.bsl 9 1 1 [.string ⟨#[]⟩] [(0, .tmp 16)]), none⟩, ⟨(some 18), .ins (.app 9 1 16 (.tmp 11) (.tmp 17)), none⟩, ⟨(some 3), .ins (.mv (.tmp 18)), none⟩])) (.reg [ ⟨(some 9), .ins (.mv (.tmp 4)), none⟩, ⟨(some 10), .ins (.bin .add false [0] (.tmp 9) (.const (.int .i64 1))), none⟩, ⟨(some 4), .ins (.mv (.tmp 10)), none⟩])))))) (.seq (.reg [ ⟨(some 19), .ins (.mv (.tmp 3)), none⟩, ⟨(some 2), .ins (.mv (.tmp 19)), none⟩]) .ret))))
def r32 : List RVar := [.tmp 2]
theorem comp32 : comp tab ((Go.Proofs.Try.f32.body).getD .skip) = some c32 := by kernel_rfl
theorem body32 : Go.Proofs.Try.f32.body = some ((Go.Proofs.Try.f32.body).getD .skip) := by kernel_rfl
theorem nt32 : Go.Proofs.Try.f32.ntmps = 20 := by kernel_rfl
theorem res32 : compRes tab Go.Proofs.Try.f32.results.toList = some r32 := by kernel_rfl
def c33 : C := (.seq (.reg [ ⟨(some 2), .ins (.mv (.const (.bool false))), none⟩]) (.seq .skip (.seq (.seq (.reg [ ⟨(some 5), .ins (.mv (.tmp 0)), none⟩, ⟨(some 6), .ins (.len false (.tmp 5)), none⟩, ⟨(some 7), .ins (.mv (.const (.int .i64 0))), none⟩]) (.block 0 (.loop (.seq (.reg [ ⟨(some 8), .ins (.bin .lss false [0] (.tmp 7) (.tmp 6)), none⟩]) (.seq (.cond (.tmp 8) .skip (.exit 0)) (.seq (.block 1 (.seq (.reg [ ⟨(some 9), .ins (.iadS 1 (.tmp 5) (.tmp 7)), none⟩, ⟨(some 10), .ins (.ld false 1 (.tmp 9)), none⟩, ⟨(some 4), .ins (.mv (.tmp 10)), none⟩]) (.seq (.seq (.reg [ ⟨(some 11), .ins (.mv (.tmp 4)), none⟩, ⟨(some 12), .ins (.bin .neq false [1] (.tmp 11) (.const (.string ⟨#[]⟩))), none⟩, ⟨(some 13), .ins (.mv (.tmp 12)), none⟩, ⟨(some 14), .ins (.mv (.tmp 4)), (some (13, true))⟩, ⟨(some 15), .ins (.len true (.tmp 14)), (some (13, true))⟩, ⟨(some 16), .ins (.bin .leq false [0] (.tmp 15) (.const (.int .i64 64))), (some (13, true))⟩, ⟨(some 17), .ins (.pick (.tmp 13) (.tmp 16) (.const (.bool false))), none⟩]) (.cond (.tmp 17) (.exit 1) .skip)) (.seq (.reg [ ⟨(some 2), .ins (.mv (.const (.bool false))), none⟩]) .ret)))) (.reg [ ⟨(some 18), .ins (.bin .add false [0] (.tmp 7) (.const (.int .i64 1))), none⟩, ⟨(some 7), .ins (.mv (.tmp 18)), none⟩]))))))) (.seq (.reg [ ⟨(some 2), .ins (.mv (.const (.bool true))), none⟩]) .ret))))
def r33 : List RVar := [.tmp 2]
theorem comp33 : comp tab ((Go.Proofs.Try.f33.body).getD .skip) = some c33 := by kernel_rfl
theorem body33 : Go.Proofs.Try.f33.body = some ((Go.Proofs.Try.f33.body).getD .skip) := by kernel_rfl
theorem nt33 : Go.Proofs.Try.f33.ntmps = 19 := by kernel_rfl
theorem res33 : compRes tab Go.Proofs.Try.f33.results.toList = some r33 := by kernel_rfl
def c34 : C := (.seq (.reg [ ⟨(some 2), .ins (.mv (.const (.bool false))), none⟩]) (.seq (.reg [ ⟨(some 3), .ins (.mv (.tmp 0)), none⟩, ⟨(some 4), .ins (.len true (.tmp 3)), none⟩, ⟨(some 5), .ins (.bin .geq false [0] (.tmp 4) (.const (.int .i64 1))), none⟩, ⟨(some 6), .ins (.mv (.tmp 5)), none⟩, ⟨(some 7), .ins (.mv (.tmp 0)), (some (6, true))⟩, ⟨(some 8), .ins (.len true (.tmp 7)), (some (6, true))⟩, ⟨(some 9), .ins (.bin .leq false [0] (.tmp 8) (.const (.int .i64 64))), (some (6, true))⟩, ⟨(some 10), .ins (.pick (.tmp 6) (.tmp 9) (.const (.bool false))), none⟩, ⟨(some 2), .ins (.mv (.tmp 10)), none⟩]) .ret))
def r34 : List RVar := [.tmp 2]
theorem comp34 : comp tab ((Go.Proofs.Try.f34.body).getD .skip) = some c34 := by kernel_rfl
theorem body34 : Go.Proofs.Try.f34.body = some ((Go.Proofs.Try.f34.body).getD .skip) := by kernel_rfl
theorem nt34 : Go.Proofs.Try.f34.ntmps = 11 := by kernel_rfl
theorem res34 : compRes tab Go.Proofs.Try.f34.results.toList = some r34 := by kernel_rfl
def c35 : C := (.seq (.reg [ ⟨(some 2), .ins (.mv (.const (.slice none 0 0))), none⟩, ⟨(some 3), .ins (.mv (.const (.int .i64 0))), none⟩]) (.seq (.seq (.reg [ ⟨(some 7), .ins (.mv (.tmp 0)), none⟩, ⟨(some 8), .call 28 [.tmp 7], none⟩, ⟨(some 9), .ins (.un .not (.tmp 8)), none⟩]) (.cond (.tmp 9) (.seq (.reg [ ⟨(some 2), .ins (.mv (.const (.slice none 0 0))), none⟩, ⟨(some 3), .ins (.mv (.const (.int .i64 2))), none⟩]) .ret) .skip)) (.seq (.reg [ ⟨(some 10), .ins (.mv (.tmp 0)), none⟩, ⟨(some 11), .ins (.len false (.tmp 10)), none⟩, ⟨(some 12), .ins (.cvI .u64 (.tmp 11)), none⟩, ⟨(some 13), .call 55 [.tmp 12], none⟩, ⟨(some 4), .ins (.mv (.tmp 13)), none⟩]) (.seq (.seq (.reg [ ⟨(some 14), .ins (.mv (.tmp 0)), none⟩, ⟨(some 15), .ins (.len false (.tmp 14)), none⟩, ⟨(some 16), .ins (.mv (.const (.int .i64 0))), none⟩]) (.block 0 (.loop (.seq (.reg [ ⟨(some 17), .ins (.bin .lss false [0] (.tmp 16) (.tmp 15)), none⟩]) (.seq (.cond (.tmp 17) .skip (.exit 0)) (.seq (.block 1 (.seq (.reg [ ⟨(some 18), .ins (.iadS 2 (.tmp 14) (.tmp 16)), none⟩, ⟨(some 19), .ins (.ld true 2 (.tmp 18)), none⟩, ⟨(some 6), .ins (.alloc [.string ⟨#[]⟩, .int .u64 0]), none⟩, ⟨none, .ins (.st 2 (.tmp 6) (.tmp 19)), none⟩]) (.draw [ (⟨(some 20), .ins (.mv (.tmp 4)), none⟩, []), (⟨(some 21), .ins (.fad 0 (.tmp 6)), none⟩, []), (⟨(some 22), .ins (.ld false 1 (.tmp 21)), none⟩, [1]), (⟨(some 23), .call 56 [.tmp 22], none⟩, [1, 2]), (⟨(some 24), .ins (.app 5 1 1 (.tmp 20) (.tmp 23)), none⟩, [0, 1, 2, 3]), (⟨(some 25), .ins (.fad 1 (.tmp 6)), none⟩, []), (⟨(some 26), .ins (.ld false 1 (.tmp 25)), none⟩, [5]), (⟨(some 27), .call 55 [.tmp 26], none⟩, [0, 1, 2, 3, 4, 5, 6]), (⟨(some 28), .ins (.app 5 1 1 (.tmp 24) (.tmp 27)), none⟩, [0, 1, 2, 3, 4, 5, 6, 7]), (⟨(some 4), .ins (.mv (.tmp 28)), none⟩, [0, 1, 2, 3, 4, 5, 6, 7, 8])]))) (.reg [ ⟨(some 29), .ins (.bin .add false [0] (.tmp 16) (.const (.int .i64 1))), none⟩, ⟨(some 16), .ins (.mv (.tmp 29)), none⟩]))))))) (.seq (.reg [ ⟨(some 30), .ins (.mv (.tmp 4)), none⟩, ⟨(some 2), .ins (.mv (.tmp 30)), none⟩, ⟨(some 3), .ins (.mv (.const (.int .i64 0))), none⟩]) .ret)))))
def r35 : List RVar := [.tmp 2, .tmp 3]
theorem comp35 : comp tab ((Go.Proofs.Try.f35.body).getD .skip) = some c35 := by kernel_rfl
theorem body35 : Go.Proofs.Try.f35.body = some ((Go.Proofs.Try.f35.body).getD .skip) := by kernel_rfl
theorem nt35 : Go.Proofs.Try.f35.ntmps = 31 := by kernel_rfl
theorem res35 : compRes tab Go.Proofs.Try.f35.results.toList = some r35 := by kernel_rfl
def c36 : C := (.seq (.reg [ ⟨(some 2), .ins (.mv (.const (.slice none 0 0))), none⟩, ⟨(some 3), .ins (.mv (.const (.int .i64 0))), none⟩]) (.seq (.seq (.reg [ ⟨(some 6), .ins (.mv (.tmp 0)), none⟩, ⟨(some 7), .call 29 [.tmp 6], none⟩, ⟨(some 8), .ins (.un .not (.tmp 7)), none⟩]) (.cond (.tmp 8) (.seq (.reg [ ⟨(some 2), .ins (.mv (.const (.slice none 0 0))), none⟩, ⟨(some 3), .ins (.mv (.const (.int .i64 2))), none⟩]) .ret) .skip)) (.seq (.reg [ ⟨(some 9), .ins (.mv (.tmp 0)), none⟩, ⟨(some 10), .ins (.len false (.tmp 9)), none⟩, ⟨(some 11), .ins (.cvI .u64 (.tmp 10)), none⟩, ⟨(some 12), .call 57 [.tmp 11], none⟩, ⟨(some 4), .ins (.mv (.tmp 12)), none⟩]) (.seq (.seq (.reg [ ⟨(some 5), .ins (.mv (.const (.int .i64 0))), none⟩]) (.block 0 (.loop (.seq (.seq (.reg [ ⟨(some 13), .ins (.mv (.tmp 5)), none⟩, ⟨(some 14), .ins (.mv (.tmp 0)), none⟩, ⟨(some 15), .ins (.len false (.tmp 14)), none⟩, ⟨(some 16), .ins (.bin .lss false [0] (.tmp 13) (.tmp 15)), none⟩]) (.cond (.tmp 16) .skip (.exit 0))) (.seq (.block 1 (.seq (.reg [ ⟨(some 19), .ins (.mv (.tmp 4)), none⟩, ⟨(some 20), .ins (.mv (.tmp 0)), none⟩, ⟨(some 21), .ins (.mv (.tmp 5)), none⟩, ⟨(some 22), .ins (.iadS 2 (.tmp 20) (.tmp 21)), none⟩, ⟨(some 23), .ins (.fad 0 (.tmp 22)), none⟩, ⟨(some 24), .ins (.ld false 1 (.tmp 23)), none⟩, ⟨(some 25), .call 58 [.tmp 24], none⟩, ⟨(some 26), .ins (.app 5 1 1 (.tmp 19) (.tmp 25)), none⟩, ⟨(some 4), .ins (.mv (.tmp 26)), none⟩]) (.reg [ ⟨(some 27), .ins (.mv (.tmp 4)), none⟩, ⟨(some 28), .ins (.mv (.tmp 0)), none⟩, ⟨(some 29), .ins (.mv (.tmp 5)), none⟩, ⟨(some 30), .ins (.iadS 2 (.tmp 28) (.tmp 29)), none⟩, ⟨(some 31), .ins (.fad 1 (.tmp 30)), none⟩, ⟨(some 32), .ins (.ld false 1 (.tmp 31)), none⟩, ⟨(some 33), .call 57 [.tmp 32], none⟩, ⟨(some 34), .ins (.app 5 1 1 (.tmp 27) (.tmp 33)), none⟩, ⟨(some 4), .ins (.mv (.tmp 34)), none⟩]))) (.reg [ ⟨(some 17), .ins (.mv (.tmp 5)), none⟩, ⟨(some 18), .ins (.bin .add false [0] (.tmp 17) (.const (.int .i64 1))), none⟩, ⟨(some 5), .ins (.mv (.tmp 18)), none⟩])))))) (.seq (.reg [ ⟨(some 35), .ins (.mv (.tmp 4)), none⟩, ⟨(some 2), .ins (.mv (.tmp 35)), none⟩, ⟨(some 3), .ins (.mv (.const (.int .i64 0))), none⟩]) .ret)))))
def r36 : List RVar := [.tmp 2, .tmp 3]
theorem comp36 : comp tab ((Go.Proofs.Try.f36.body).getD .skip) = some c36 := by kernel_rfl
theorem body36 : Go.Proofs.Try.f36.body = some ((Go.Proofs.Try.f36.body).getD .skip) := by kernel_rfl
theorem nt36 : Go.Proofs.Try.f36.ntmps = 36 := by kernel_rfl
theorem res36 : compRes tab Go.Proofs.Try.f36.results.toList = some r36 := by kernel_rfl
def c37 : C := (.seq (.reg [ ⟨(some 2), .ins (.mv (.const (.slice none 0 0))), none⟩, ⟨(some 3), .ins (.mv (.const (.int .i64 0))), none⟩]) (.seq (.reg [ ⟨(some 11), .ins (.mv (.tmp 0)), none⟩, ⟨(some 12), .call 59 [.tmp 11, .const (.int .i64 0)], none⟩, ⟨(some 10), .ins (.mv (.tmp 12)), none⟩, ⟨(some 13), .ins (.ext (.tmp 10) 0), none⟩, ⟨(some 14), .ins (.ext (.tmp 10) 1), none⟩, ⟨(some 15), .ins (.ext (.tmp 10) 2), none⟩, ⟨(some 4), .ins (.mv (.tmp 13)), none⟩, ⟨(some 5), .ins (.mv (.tmp 14)), none⟩, ⟨(some 6), .ins (.mv (.tmp 15)), none⟩]) (.seq (.reg [ ⟨(some 7), .ins (.mv (.const (.slice none 0 0))), none⟩]) (.seq (.seq (.reg [ ⟨(some 8), .ins (.mv (.const (.int .u64 0))), none⟩]) (.block 0 (.loop (.seq (.seq (.reg [ ⟨(some 16), .ins (.mv (.tmp 8)), none⟩, ⟨(some 17), .ins (.mv (.tmp 4)), none⟩, ⟨(some 18), .ins (.bin .lss false [0] (.tmp 16) (.tmp 17)), none⟩, ⟨(some 19), .ins (.mv (.tmp 18)), none⟩, ⟨(some 20), .ins (.mv (.tmp 6)), (some (19, true))⟩, ⟨(some 21), .ins (.bin .eql false [0] (.tmp 20) (.const (.int .i64 0))), (some (19, true))⟩, ⟨(some 22), .ins (.pick (.tmp 19) (.tmp 21) (.const (.bool false))), none⟩]) (.cond (.tmp 22) .skip (.exit 0))) (.seq (.block 1 (.seq (.reg [ ⟨(some 9), .ins (.alloc [.string ⟨#[]⟩, .int .u64 0]), none⟩]) (.seq (.seq (.reg [ ⟨(some 26), .ins (.mv (.tmp 0)), none⟩, ⟨(some 27), .ins (.mv (.tmp 5)), none⟩, ⟨(some 28), .call 60 [.tmp 26, .tmp 27], none⟩, ⟨(some 25), .ins (.mv (.tmp 28)), none⟩, ⟨(some 29), .ins (.ext (.tmp 25) 0), none⟩, ⟨(some 30), .ins (.ext (.tmp 25) 1), none⟩, ⟨(some 31), .ins (.ext (.tmp 25) 2), none⟩, ⟨(some 32), .ins (.fad 0 (.tmp 9)), none⟩, ⟨none, .ins (.st 1 (.tmp 32) (.tmp 29)), none⟩, ⟨(some 5), .ins (.mv (.tmp 30)), none⟩, ⟨(some 6), .ins (.mv (.tmp 31)), none⟩]) (.seq (.reg [ ⟨(some 33), .ins (.mv (.tmp 6)), none⟩, ⟨(some 34), .ins (.bin .neq false [0] (.tmp 33) (.const (.int .i64 0))), none⟩]) (.cond (.tmp 34) (.exit 0) .skip))) (.seq (.reg [ ⟨(some 36), .ins (.mv (.tmp 0)), none⟩, ⟨(some 37), .ins (.mv (.tmp 5)), none⟩, ⟨(some 38), .call 59 [.tmp 36, .tmp 37], none⟩, ⟨(some 35), .ins (.mv (.tmp 38)), none⟩, ⟨(some 39), .ins (.ext (.tmp 35) 0), none⟩, ⟨(some 40), .ins (.ext (.tmp 35) 1), none⟩, ⟨(some 41), .ins (.ext (.tmp 35) 2), none⟩, ⟨(some 42), .ins (.fad 1 (.tmp 9)), none⟩, ⟨none, .ins (.st 1 (.tmp 42) (.tmp 39)), none⟩, ⟨(some 5), .ins (.mv (.tmp 40)), none⟩, ⟨(some 6), .ins (.mv (.tmp 41)), none⟩]) (.reg [ ⟨(some 43), .ins (.mv (.tmp 7)), none⟩, ⟨(some 44), .ins (.ld true 2 (.tmp 9)), none⟩, ⟨(some 45), .ins (.bsl 75 2 1 [.string ⟨#[]⟩, .int .u64 0] [(0, .tmp 44)]), none⟩, ⟨(some 46), .ins (.app 75 2 24 (.tmp 43) (.tmp 45)), none⟩, ⟨(some 7), .ins (.mv (.tmp 46)), none⟩]))))) (.reg [ ⟨(some 23), .ins (.mv (.tmp 8)), none⟩, ⟨(some 24), .ins (.bin .add false [0] (.tmp 23) (.const (.int .u64 1))), none⟩, ⟨(some 8), .ins (.mv (.tmp 24)), none⟩])))))) (.seq (.block 2 (.seq (.reg [ ⟨(some 48), .ins (.mv (.tmp 6)), none⟩, ⟨(some 49), .ins (.bin .neq false [0] (.tmp 48) (.const (.int .i64 0))), none⟩, ⟨(some 47), .ins (.mv (.tmp 49)), none⟩]) (.cond (.tmp 47) (.seq (.reg [ ⟨(some 50), .ins (.mv (.tmp 6)), none⟩, ⟨(some 2), .ins (.mv (.const (.slice none 0 0))), none⟩, ⟨(some 3), .ins (.mv (.tmp 50)), none⟩]) .ret) (.seq (.reg [ ⟨(some 52), .ins (.mv (.tmp 5)), none⟩, ⟨(some 53), .ins (.mv (.tmp 0)), none⟩, ⟨(some 54), .ins (.len false (.tmp 53)), none⟩, ⟨(some 55), .ins (.bin .neq false [0] (.tmp 52) (.tmp 54)), none⟩, ⟨(some 56), .ins (.mv (.tmp 55)), none⟩, ⟨(some 57), .ins (.mv (.tmp 7)), (some (56, false))⟩, ⟨(some 58), .call 28 [.tmp 57], (some (56, false))⟩, ⟨(some 59), .ins (.un .not (.tmp 58)), (some (56, false))⟩, ⟨(some 60), .ins (.pick (.tmp 56) (.const (.bool true)) (.tmp 59)), none⟩, ⟨(some 51), .ins (.mv (.tmp 60)), none⟩]) (.cond (.tmp 51) (.seq (.reg [ ⟨(some 2), .ins (.mv (.const (.slice none 0 0))), none⟩, ⟨(some 3), .ins (.mv (.const (.int .i64 2))), none⟩]) .ret) .skip))))) (.seq (.reg [ ⟨(some 61), .ins (.mv (.tmp 7)), none⟩, ⟨(some 2), .ins (.mv (.tmp 61)), none⟩, ⟨(some 3), .ins (.mv (.const (.int .i64 0))), none⟩]) .ret))))))
def r37 : List RVar := [.tmp 2, .tmp 3]
theorem comp37 : comp tab ((Go.Proofs.Try.f37.body).getD .skip) = some c37 := by kernel_rfl
theorem body37 : Go.Proofs.Try.f37.body = some ((Go.Proofs.Try.f37.body).getD .skip) := by kernel_rfl
theorem nt37 : Go.Proofs.Try.f37.ntmps = 62 := by kernel_rfl
theorem res37 : compRes tab Go.Proofs.Try.f37.results.toList = some r37 := by kernel_rfl
def c38 : C := (.seq (.reg [ ⟨(some 2), .ins (.mv (.const (.slice none 0 0))), none⟩, ⟨(some 3), .ins (.mv (.const (.int .i64 0))), none⟩]) (.seq (.reg [ ⟨(some 15), .ins (.mv (.tmp 0)), none⟩, ⟨(some 16), .call 61 [.tmp 15, .const (.int .i64 0)], none⟩, ⟨(some 14), .ins (.mv (.tmp 16)), none⟩, ⟨(some 17), .ins (.ext (.tmp 14) 0), none⟩, ⟨(some 18), .ins (.ext (.tmp 14) 1), none⟩, ⟨(some 19), .ins (.ext (.tmp 14) 2), none⟩, ⟨(some 4), .ins (.mv (.tmp 17)), none⟩, ⟨(some 5), .ins (.mv (.tmp 18)), none⟩, ⟨(some 6), .ins (.mv (.tmp 19)), none⟩]) (.seq (.seq (.reg [ ⟨(some 20), .ins (.mv (.tmp 6)), none⟩, ⟨(some 21), .ins (.bin .neq false [0] (.tmp 20) (.const (.int .i64 0))), none⟩]) (.cond (.tmp 21) (.seq (.reg [ ⟨(some 22), .ins (.mv (.tmp 6)), none⟩, ⟨(some 2), .ins (.mv (.const (.slice none 0 0))), none⟩, ⟨(some 3), .ins (.mv (.tmp 22)), none⟩]) .ret) .skip)) (.seq (.reg [ ⟨(some 7), .ins (.mv (.const (.slice none 0 0))), none⟩]) (.seq (.block 0 (.loop (.seq (.seq (.reg [ ⟨(some 23), .ins (.mv (.tmp 7)), none⟩, ⟨(some 24), .ins (.len false (.tmp 23)), none⟩, ⟨(some 25), .ins (.cvI .u64 (.tmp 24)), none⟩, ⟨(some 26), .ins (.mv (.tmp 4)), none⟩, ⟨(some 27), .ins (.bin .lss false [0] (.tmp 25) (.tmp 26)), none⟩]) (.cond (.tmp 27) .skip (.exit 0))) (.block 1 (.seq (.reg [ ⟨(some 29), .ins (.mv (.tmp 0)), none⟩, ⟨(some 30), .ins (.mv (.tmp 5)), none⟩, ⟨(some 31), .call 62 [.tmp 29, .tmp 30], none⟩, ⟨(some 28), .ins (.mv (.tmp 31)), none⟩, ⟨(some 32), .ins (.ext (.tmp 28) 0), none⟩, ⟨(some 33), .ins (.ext (.tmp 28) 1), none⟩, ⟨(some 34), .ins (.ext (.tmp 28) 2), none⟩, ⟨(some 8), .ins (.mv (.tmp 32)), none⟩, ⟨(some 9), .ins (.mv (.tmp 33)), none⟩, ⟨(some 10), .ins (.mv (.tmp 34)), none⟩]) (.seq (.seq (.reg [ ⟨(some 35), .ins (.mv (.tmp 10)), none⟩, ⟨(some 36), .ins (.bin .neq false [0] (.tmp 35) (.const (.int .i64 0))), none⟩]) (.cond (.tmp 36) (.seq (.reg [ ⟨(some 37), .ins (.mv (.tmp 10)), none⟩, ⟨(some 2), .ins (.mv (.const (.slice none 0 0))), none⟩, ⟨(some 3), .ins (.mv (.tmp 37)), none⟩]) .ret) .skip)) (.seq (.reg [ ⟨(some 39), .ins (.mv (.tmp 0)), none⟩, ⟨(some 40), .ins (.mv (.tmp 9)), none⟩, ⟨(some 41), .call 61 [.tmp 39, .tmp 40], none⟩, ⟨(some 38), .ins (.mv (.tmp 41)), none⟩, ⟨(some 42), .ins (.ext (.tmp 38) 0), none⟩, ⟨(some 43), .ins (.ext (.tmp 38) 1), none⟩, ⟨(some 44), .ins (.ext (.tmp 38) 2), none⟩, ⟨(some 11), .ins (.mv (.tmp 42)), none⟩, ⟨(some 12), .ins (.mv (.tmp 43)), none⟩, ⟨(some 13), .ins (.mv (.tmp 44)), none⟩]) (.seq (.seq (.reg [ ⟨(some 45), .ins (.mv (.tmp 13)), none⟩, ⟨(some 46), .ins (.bin .neq false [0] (.tmp 45) (.const (.int .i64 0))), none⟩]) (.cond (.tmp 46) (.seq (.reg [ ⟨(some 47), .ins (.mv (.tmp 13)), none⟩, ⟨(some 2), .ins (.mv (.const (.slice none 0 0))), none⟩, ⟨(some 3), .ins (.mv (.tmp 47)), none⟩]) .ret) .skip)) (.seq (.reg [ ⟨(some 48), .ins (.mv (.tmp 7)), none⟩, ⟨(some 49), .ins (.mv (.tmp 8)), none⟩, ⟨(some 50), .ins (.mv (.tmp 11)), none⟩, ⟨(some 51), .ins (.build [.string ⟨#[]⟩, .int .u64 0] [(0, 1, .tmp 49), (1, 1, .tmp 50)]), none⟩, ⟨(some 52), .ins (.bsl 100 2 1 [.string ⟨#[]⟩, .int .u64 0] [(0, .tmp 51)]), none⟩, ⟨(some 53), .ins (.app 100 2 24 (.tmp 48) (.tmp 52)), none⟩, ⟨(some 7), .ins (.mv (.tmp 53)), none⟩]) (.reg [ ⟨(some 54), .ins (.mv (.tmp 12)), none⟩, ⟨(some 5), .ins (.mv (.tmp 54)), none⟩])))))))))) (.seq (.seq (.reg [ ⟨(some 55), .ins (.mv (.tmp 5)), none⟩, ⟨(some 56), .ins (.mv (.tmp 0)), none⟩, ⟨(some 57), .ins (.len false (.tmp 56)), none⟩, ⟨(some 58), .ins (.bin .neq false [0] (.tmp 55) (.tmp 57)), none⟩, ⟨(some 59), .ins (.mv (.tmp 58)), none⟩, ⟨(some 60), .ins (.mv (.tmp 7)), (some (59, false))⟩, ⟨(some 61), .call 29 [.tmp 60], (some (59, false))⟩, ⟨(some 62), .ins (.un .not (.tmp 61)), (some (59, false))⟩, ⟨(some 63), .ins (.pick (.tmp 59) (.const (.bool true)) (.tmp 62)), none⟩]) (.cond (.tmp 63) (.seq (.reg [ ⟨(some 2), .ins (.mv (.const (.slice none 0 0))), none⟩, ⟨(some 3), .ins (.mv (.const (.int .i64 2))), none⟩]) .ret) .skip)) (.seq (.reg [ ⟨(some 64), .ins (.mv (.tmp 7)), none⟩, ⟨(some 2), .ins (.mv (.tmp 64)), none⟩, ⟨(some 3), .ins (.mv (.const (.int .i64 0))), none⟩]) .ret)))))))
def r38 : List RVar := [.tmp 2, .tmp 3]
theorem comp38 : comp tab ((Go.Proofs.Try.f38.body).getD .skip) = some c38 := by kernel_rfl
theorem body38 : Go.Proofs.Try.f38.body = some ((Go.Proofs.Try.f38.body).getD .skip) := by kernel_rfl
theorem nt38 : Go.Proofs.Try.f38.ntmps = 65 := by kernel_rfl
theorem res38 : compRes tab Go.Proofs.Try.f38.results.toList = some r38 := by kernel_rfl
def c46 : C := (.seq (.reg [ ⟨(some 4), .ins (.mv (.const (.int .i64 0))), none⟩]) (.seq (.block 0 (.seq (.reg [ ⟨(some 6), .ins (.mv (.tmp 0)), none⟩, ⟨(some 7), .call 28 [.tmp 6], none⟩, ⟨(some 8), .ins (.un .not (.tmp 7)), none⟩, ⟨(some 5), .ins (.mv (.tmp 8)), none⟩]) (.cond (.tmp 5) (.seq (.reg [ ⟨(some 4), .ins (.mv (.const (.int .i64 2))), none⟩]) .ret) (.seq (.reg [ ⟨(some 10), .ins (.mv (.tmp 1)), none⟩, ⟨(some 11), .call 33 [.tmp 10], none⟩, ⟨(some 12), .ins (.un .not (.tmp 11)), none⟩, ⟨(some 9), .ins (.mv (.tmp 12)), none⟩]) (.cond (.tmp 9) (.seq (.reg [ ⟨(some 4), .ins (.mv (.const (.int .i64 170))), none⟩]) .ret) .skip))))) (.seq (.reg [ ⟨(some 4), .ins (.mv (.const (.int .i64 0))), none⟩]) .ret)))
def r46 : List RVar := [.tmp 4]
theorem comp46 : comp tab ((Go.Proofs.Try.f46.body).getD .skip) = some c46 := by kernel_rfl
theorem body46 : Go.Proofs.Try.f46.body = some ((Go.Proofs.Try.f46.body).getD .skip) := by kernel_rfl
theorem nt46 : Go.Proofs.Try.f46.ntmps = 13 := by kernel_rfl
theorem res46 : compRes tab Go.Proofs.Try.f46.results.toList = some r46 := by kernel_rfl
def c47 : C := (.seq (.reg [ ⟨(some 4), .ins (.mv (.const (.int .i64 0))), none⟩, ⟨(some 5), .ins (.mv (.const (.bool false))), none⟩]) (.seq (.reg [ ⟨(some 6), .ins (.mv (.tmp 0)), none⟩, ⟨(some 7), .ins (.mv (.tmp 1)), none⟩, ⟨(some 8), .call 69 [.tmp 6, .tmp 7, .func 70], none⟩, ⟨(some 9), .ins (.ext (.tmp 8) 0), none⟩, ⟨(some 10), .ins (.ext (.tmp 8) 1), none⟩, ⟨(some 4), .ins (.mv (.tmp 9)), none⟩, ⟨(some 5), .ins (.mv (.tmp 10)), none⟩]) .ret))
def r47 : List RVar := [.tmp 4, .tmp 5]
theorem comp47 : comp tab ((Go.Proofs.Try.f47.body).getD .skip) = some c47 := by kernel_rfl
theorem body47 : Go.Proofs.Try.f47.body = some ((Go.Proofs.Try.f47.body).getD .skip) := by kernel_rfl
theorem nt47 : Go.Proofs.Try.f47.ntmps = 11 := by kernel_rfl
theorem res47 : compRes tab Go.Proofs.Try.f47.results.toList = some r47 := by kernel_rfl
def c48 : C := (.seq (.reg [ ⟨(some 4), .ins (.mv (.const (.bool false))), none⟩]) (.seq (.reg [ ⟨(some 5), .ins (.mv (.tmp 0)), none⟩, ⟨(some 6), .ins (.mv (.tmp 1)), none⟩, ⟨(some 7), .call 72 [.tmp 5, .tmp 6], none⟩, ⟨(some 8), .ins (.bin .geq false [0] (.tmp 7) (.const (.int .i64 0))), none⟩, ⟨(some 4), .ins (.mv (.tmp 8)), none⟩]) .ret))
def r48 : List RVar := [.tmp 4]
theorem comp48 : comp tab ((Go.Proofs.Try.f48.body).getD .skip) = some c48 := by kernel_rfl
theorem body48 : Go.Proofs.Try.f48.body = some ((Go.Proofs.Try.f48.body).getD .skip) := by kernel_rfl
theorem nt48 : Go.Proofs.Try.f48.ntmps = 9 := by kernel_rfl
theorem res48 : compRes tab Go.Proofs.Try.f48.results.toList = some r48 := by kernel_rfl
def c49 : C := (.seq (.reg [ ⟨(some 2), .ins (.box 0 (.tmp 0)), none⟩, ⟨(some 3), .ins (.mv (.const (.bool false))), none⟩]) (.seq (.reg [ ⟨(some 4), .ins (.fad 1 (.tmp 2)), none⟩, ⟨(some 5), .ins (.ld false 1 (.tmp 4)), none⟩, ⟨(some 6), .ins (.ld false 1 (.tmp 1)), none⟩, ⟨(some 7), .ins (.bin .eql false [0] (.tmp 5) (.tmp 6)), none⟩, ⟨(some 3), .ins (.mv (.tmp 7)), none⟩]) .ret))
def r49 : List RVar := [.tmp 3]
theorem comp49 : comp tab ((Go.Proofs.Try.f49.body).getD .skip) = some c49 := by kernel_rfl
theorem body49 : Go.Proofs.Try.f49.body = some ((Go.Proofs.Try.f49.body).getD .skip) := by kernel_rfl
theorem nt49 : Go.Proofs.Try.f49.ntmps = 8 := by kernel_rfl
theorem res49 : compRes tab Go.Proofs.Try.f49.results.toList = some r49 := by kernel_rfl
def c50 : C := (.seq (.reg [ ⟨(some 6), .ins (.mv (.const (.slice none 0 0))), none⟩]) (.seq (.reg [ ⟨(some 10), .ins (.mv (.tmp 0)), none⟩, ⟨(some 11), .ins (.mv (.tmp 1)), none⟩, ⟨(some 12), .ins (.slL 2 (.tmp 10) (some (.tmp 11)) none), none⟩]) (.seq (.reg [ ⟨(some 13), .ins (.mv (.tmp 2)), none⟩, ⟨(some 14), .ins (.len false (.tmp 13)), none⟩, ⟨(some 7), .ins (.mv (.tmp 14)), none⟩]) (.seq (.seq (.reg [ ⟨(some 15), .ins (.mv (.tmp 7)), none⟩, ⟨(some 16), .ins (.bin .eql false [0] (.tmp 15) (.const (.int .i64 0))), none⟩]) (.cond (.tmp 16) (.seq (.reg [ ⟨(some 17), .ins (.mv (.tmp 0)), none⟩, ⟨(some 6), .ins (.mv (.tmp 17)), none⟩]) .ret) .skip)) (.seq (.reg [ ⟨(some 18), .ins (.mv (.tmp 0)), none⟩, ⟨(some 19), .ins (.len false (.tmp 18)), none⟩, ⟨(some 8), .ins (.mv (.tmp 19)), none⟩]) (.seq (.seq (.reg [ ⟨(some 20), .ins (.mv (.tmp 1)), none⟩, ⟨(some 21), .ins (.mv (.tmp 8)), none⟩, ⟨(some 22), .ins (.bin .eql false [0] (.tmp 20) (.tmp 21)), none⟩]) (.cond (.tmp 22) (.seq (.reg [ ⟨(some 23), .ins (.mv (.tmp 0)), none⟩, ⟨(some 24), .ins (.mv (.tmp 2)), none⟩, ⟨(some 25), .ins (.app 75 2 24 (.tmp 23) (.tmp 24)), none⟩, ⟨(some 6), .ins (.mv (.tmp 25)), none⟩]) .ret) .skip)) (.seq (.seq (.reg [ ⟨(some 26), .ins (.mv (.tmp 8)), none⟩, ⟨(some 27), .ins (.mv (.tmp 7)), none⟩, ⟨(some 28), .ins (.bin .add false [0] (.tmp 26) (.tmp 27)), none⟩, ⟨(some 29), .ins (.mv (.tmp 0)), none⟩, ⟨(some 30), .xq (.capq (.tmp 29)), none⟩, ⟨(some 31), .ins (.bin .gtr false [0] (.tmp 28) (.tmp 30)), none⟩]) (.cond (.tmp 31) (.seq (.reg [ ⟨(some 32), .ins (.mv (.tmp 0)), none⟩, ⟨(some 33), .ins (.mv (.tmp 1)), none⟩, ⟨(some 34), .ins (.slL 2 (.tmp 32) none (some (.tmp 33))), none⟩, ⟨(some 35), .ins (.mv (.tmp 8)), none⟩, ⟨(some 36), .ins (.mv (.tmp 7)), none⟩, ⟨(some 37), .ins (.bin .add false [0] (.tmp 35) (.tmp 36)), none⟩, ⟨(some 38), .ins (.mv (.tmp 1)), none⟩, ⟨(some 39), .ins (.bin .sub false [0] (.tmp 37) (.tmp 38)), none⟩, ⟨(some 40), .ins (.xt (.appZ 75 2 24 [.string ⟨#[]⟩, .int .u64 0] (.tmp 34) (.tmp 39))), none⟩, ⟨(some 9), .ins (.mv (.tmp 40)), none⟩]) (.seq (.reg [ ⟨(some 41), .ins (.mv (.tmp 9)), none⟩, ⟨(some 42), .ins (.mv (.tmp 1)), none⟩, ⟨(some 43), .ins (.slL 2 (.tmp 41) (some (.tmp 42)) none), none⟩, ⟨(some 44), .ins (.mv (.tmp 2)), none⟩, ⟨(some 45), .ins (.xt (.cpy 2 (.tmp 43) (.tmp 44))), none⟩]) (.seq (.draw [ (⟨(some 46), .ins (.mv (.tmp 9)), none⟩, []), (⟨(some 47), .ins (.mv (.tmp 1)), none⟩, []), (⟨(some 48), .ins (.mv (.tmp 7)), none⟩, []), (⟨(some 49), .ins (.bin .add false [0] (.tmp 47) (.tmp 48)), none⟩, [1, 2]), (⟨(some 50), .ins (.slL 2 (.tmp 46) (some (.tmp 49)) none), none⟩, [0, 1, 2, 3]), (⟨(some 51), .ins (.mv (.tmp 0)), none⟩, []), (⟨(some 52), .ins (.mv (.tmp 1)), none⟩, []), (⟨(some 53), .ins (.slL 2 (.tmp 51) (some (.tmp 52)) none), none⟩, [5, 6]), (⟨(some 54), .ins (.xt (.cpy 2 (.tmp 50) (.tmp 53))), none⟩, [0, 1, 2, 3, 4, 5, 6, 7])]) (.seq (.reg [ ⟨(some 55), .ins (.mv (.tmp 9)), none⟩, ⟨(some 6), .ins (.mv (.tmp 55)), none⟩]) .ret)))) .skip)) (.seq (.reg [ ⟨(some 56), .ins (.mv (.tmp 0)), none⟩, ⟨(some 57), .ins (.mv (.tmp 8)), none⟩, ⟨(some 58), .ins (.mv (.tmp 7)), none⟩, ⟨(some 59), .ins (.bin .add false [0] (.tmp 57) (.tmp 58)), none⟩, ⟨(some 60), .ins (.slL 2 (.tmp 56) none (some (.tmp 59))), none⟩, ⟨(some 0), .ins (.mv (.tmp 60)), none⟩]) (.seq (.seq (.reg [ ⟨(some 61), .ins (.mv (.tmp 2)), none⟩, ⟨(some 62), .ins (.mv (.tmp 0)), none⟩, ⟨(some 63), .ins (.mv (.tmp 1)), none⟩, ⟨(some 64), .ins (.mv (.tmp 7)), none⟩, ⟨(some 65), .ins (.bin .add false [0] (.tmp 63) (.tmp 64)), none⟩, ⟨(some 66), .ins (.slL 2 (.tmp 62) (some (.tmp 65)) none), none⟩, ⟨(some 67), .callx 73 [.tmp 61, .tmp 66], none⟩, ⟨(some 68), .ins (.un .not (.tmp 67)), none⟩]) (.cond (.tmp 68) (.seq (.draw [ (⟨(some 69), .ins (.mv (.tmp 0)), none⟩, []), (⟨(some 70), .ins (.mv (.tmp 1)), none⟩, []), (⟨(some 71), .ins (.mv (.tmp 7)), none⟩, []), (⟨(some 72), .ins (.bin .add false [0] (.tmp 70) (.tmp 71)), none⟩, [1, 2]), (⟨(some 73), .ins (.slL 2 (.tmp 69) (some (.tmp 72)) none), none⟩, [0, 1, 2, 3]), (⟨(some 74), .ins (.mv (.tmp 0)), none⟩, []), (⟨(some 75), .ins (.mv (.tmp 1)), none⟩, []), (⟨(some 76), .ins (.slL 2 (.tmp 74) (some (.tmp 75)) none), none⟩, [5, 6]), (⟨(some 77), .ins (.xt (.cpy 2 (.tmp 73) (.tmp 76))), none⟩, [0, 1, 2, 3, 4, 5, 6, 7])]) (.seq (.reg [ ⟨(some 78), .ins (.mv (.tmp 0)), none⟩, ⟨(some 79), .ins (.mv (.tmp 1)), none⟩, ⟨(some 80), .ins (.slL 2 (.tmp 78) (some (.tmp 79)) none), none⟩, ⟨(some 81), .ins (.mv (.tmp 2)), none⟩, ⟨(some 82), .ins (.xt (.cpy 2 (.tmp 80) (.tmp 81))), none⟩]) (.seq (.reg [ ⟨(some 83), .ins (.mv (.tmp 0)), none⟩, ⟨(some 6), .ins (.mv (.tmp 83)), none⟩]) .ret))) .skip)) (.seq (.reg [ ⟨(some 84), .ins (.mv (.tmp 0)), none⟩, ⟨(some 85), .ins (.mv (.tmp 8)), none⟩, ⟨(some 86), .ins (.slL 2 (.tmp 84) (some (.tmp 85)) none), none⟩, ⟨(some 87), .ins (.mv (.tmp 2)), none⟩, ⟨(some 88), .ins (.xt (.cpy 2 (.tmp 86) (.tmp 87))), none⟩]) (.seq (.reg [ ⟨(some 89), .ins (.mv (.tmp 0)), none⟩, ⟨(some 90), .ins (.mv (.tmp 1)), none⟩, ⟨(some 91), .ins (.slL 2 (.tmp 89) (some (.tmp 90)) none), none⟩, ⟨(some 92), .ins (.mv (.tmp 7)), none⟩, ⟨(some 93), .call 74 [.tmp 91, .tmp 92], none⟩]) (.seq (.reg [ ⟨(some 94), .ins (.mv (.tmp 0)), none⟩, ⟨(some 6), .ins (.mv (.tmp 94)), none⟩]) .ret))))))))))))
def r50 : List RVar := [.tmp 6]
theorem comp50 : comp tab ((Go.Proofs.Try.f50.body).getD .skip) = some c50 := by kernel_rfl
theorem body50 : Go.Proofs.Try.f50.body = some ((Go.Proofs.Try.f50.body).getD .skip) := by kernel_rfl
theorem nt50 : Go.Proofs.Try.f50.ntmps = 95 := by kernel_rfl
theorem res50 : compRes tab Go.Proofs.Try.f50.results.toList = some r50 := by kernel_rfl
def c51 : C := (.seq (.reg [ ⟨(some 2), .ins (.mv (.const (.slice none 0 0))), none⟩]) (.seq (.seq (.reg [ ⟨(some 3), .ins (.mv (.tmp 0)), none⟩, ⟨(some 4), .xq (.nilq false (.tmp 3)), none⟩]) (.cond (.tmp 4) (.seq (.reg [ ⟨(some 2), .ins (.mv (.const (.slice none 0 0))), none⟩]) .ret) .skip)) (.seq (.reg [ ⟨(some 5), .ins (.xt (.bsl0 75 2)), none⟩, ⟨(some 6), .ins (.mv (.tmp 0)), none⟩, ⟨(some 7), .ins (.app 75 2 24 (.tmp 5) (.tmp 6)), none⟩, ⟨(some 2), .ins (.mv (.tmp 7)), none⟩]) .ret)))
def r51 : List RVar := [.tmp 2]
theorem comp51 : comp tab ((Go.Proofs.Try.f51.body).getD .skip) = some c51 := by kernel_rfl
theorem body51 : Go.Proofs.Try.f51.body = some ((Go.Proofs.Try.f51.body).getD .skip) := by kernel_rfl
theorem nt51 : Go.Proofs.Try.f51.ntmps = 8 := by kernel_rfl
theorem res51 : compRes tab Go.Proofs.Try.f51.results.toList = some r51 := by kernel_rfl
def c52 : C := (.seq (.reg [ ⟨(some 3), .ins (.box 0 (.tmp 1)), none⟩, ⟨(some 4), .ins (.mv (.const (.slice none 0 0))), none⟩]) (.seq (.reg [ ⟨(some 5), .ins (.mv (.const (.slice none 0 0))), none⟩]) (.seq (.reg [ ⟨(some 6), .ins (.mv (.const (.bool false))), none⟩]) (.seq (.seq (.reg [ ⟨(some 7), .ins (.mv (.const (.int .i64 0))), none⟩]) (.block 0 (.loop (.seq (.seq (.reg [ ⟨(some 8), .ins (.mv (.tmp 7)), none⟩, ⟨(some 9), .ins (.mv (.tmp 0)), none⟩, ⟨(some 10), .ins (.len false (.tmp 9)), none⟩, ⟨(some 11), .ins (.bin .lss false [0] (.tmp 8) (.tmp 10)), none⟩]) (.cond (.tmp 11) .skip (.exit 0))) (.seq (.block 1 (.seq (.seq (.draw [ (⟨(some 14), .ins (.mv (.tmp 6)), none⟩, []), (⟨(some 15), .ins (.un .not (.tmp 14)), none⟩, [0]), (⟨(some 16), .ins (.mv (.tmp 15)), none⟩, [0, 1]), (⟨(some 17), .ins (.mv (.tmp 0)), (some (16, true))⟩, [0, 1, 2]), (⟨(some 18), .ins (.mv (.tmp 7)), (some (16, true))⟩, [0, 1, 2]), (⟨(some 19), .ins (.iadS 2 (.tmp 17) (.tmp 18)), (some (16, true))⟩, [0, 1, 2, 3, 4]), (⟨(some 20), .ins (.fad 0 (.tmp 19)), (some (16, true))⟩, [0, 1, 2, 3, 4, 5]), (⟨(some 21), .ins (.ld false 1 (.tmp 20)), (some (16, true))⟩, [0, 1, 2, 3, 4, 5, 6]), (⟨(some 22), .ins (.fad 0 (.tmp 3)), (some (16, true))⟩, [0, 1, 2]), (⟨(some 23), .ins (.ld false 1 (.tmp 22)), (some (16, true))⟩, [0, 1, 2, 8]), (⟨(some 24), .ins (.bin .gtr false [1] (.tmp 21) (.tmp 23)), (some (16, true))⟩, [0, 1, 2, 3, 4, 5, 6, 7, 8, 9]), (⟨(some 25), .ins (.pick (.tmp 16) (.tmp 24) (.const (.bool false))), none⟩, [0, 1, 2, 3, 4, 5, 6, 7, 8, 9, 10])]) (.cond (.tmp 25) (.seq (.reg [ ⟨(some 26), .ins (.mv (.tmp 5)), none⟩, ⟨(some 27), .ins (.ld true 2 (.tmp 3)), none⟩, ⟨(some 28), .ins (.bsl 100 2 1 [.string ⟨#[]⟩, .int .u64 0] [(0, .tmp 27)]), none⟩, ⟨(some 29), .ins (.app 100 2 24 (.tmp 26) (.tmp 28)), none⟩, ⟨(some 5), .ins (.mv (.tmp 29)), none⟩]) (.reg [ ⟨(some 6), .ins (.mv (.const (.bool true))), none⟩])) .skip)) (.reg [ ⟨(some 30), .ins (.mv (.tmp 5)), none⟩, ⟨(some 31), .ins (.mv (.tmp 0)), none⟩, ⟨(some 32), .ins (.mv (.tmp 7)), none⟩, ⟨(some 33), .ins (.iadS 2 (.tmp 31) (.tmp 32)), none⟩, ⟨(some 34), .ins (.ld true 2 (.tmp 33)), none⟩, ⟨(some 35), .ins (.bsl 100 2 1 [.string ⟨#[]⟩, .int .u64 0] [(0, .tmp 34)]), none⟩, ⟨(some 36), .ins (.app 100 2 24 (.tmp 30) (.tmp 35)), none⟩, ⟨(some 5), .ins (.mv (.tmp 36)), none⟩]))) (.reg [ ⟨(some 12), .ins (.mv (.tmp 7)), none⟩, ⟨(some 13), .ins (.bin .add false [0] (.tmp 12) (.const (.int .i64 1))), none⟩, ⟨(some 7), .ins (.mv (.tmp 13)), none⟩])))))) (.seq (.seq (.reg [ ⟨(some 37), .ins (.mv (.tmp 6)), none⟩, ⟨(some 38), .ins (.un .not (.tmp 37)), none⟩]) (.cond (.tmp 38) (.reg [ ⟨(some 39), .ins (.mv (.tmp 5)), none⟩, ⟨(some 40), .ins (.ld true 2 (.tmp 3)), none⟩, ⟨(some 41), .ins (.bsl 100 2 1 [.string ⟨#[]⟩, .int .u64 0] [(0, .tmp 40)]), none⟩, ⟨(some 42), .ins (.app 100 2 24 (.tmp 39) (.tmp 41)), none⟩, ⟨(some 5), .ins (.mv (.tmp 42)), none⟩]) .skip)) (.seq (.reg [ ⟨(some 43), .ins (.mv (.tmp 5)), none⟩, ⟨(some 4), .ins (.mv (.tmp 43)), none⟩]) .ret))))))
def r52 : List RVar := [.tmp 4]
theorem comp52 : comp tab ((Go.Proofs.Try.f52.body).getD .skip) = some c52 := by kernel_rfl
theorem body52 : Go.Proofs.Try.f52.body = some ((Go.Proofs.Try.f52.body).getD .skip) := by kernel_rfl
theorem nt52 : Go.Proofs.Try.f52.ntmps = 44 := by kernel_rfl
theorem res52 : compRes tab Go.Proofs.Try.f52.results.toList = some r52 := by kernel_rfl
def c53 : C := (.seq (.reg [ ⟨(some 6), .ins (.mv (.const (.slice none 0 0))), none⟩]) (.seq (.reg [ ⟨(some 8), .ins (.mv (.tmp 0)), none⟩, ⟨(some 9), .ins (.mv (.tmp 1)), none⟩, ⟨(some 10), .ins (.mv (.tmp 2)), none⟩, ⟨(some 11), .ins (.mv (.tmp 0)), none⟩, ⟨(some 12), .ins (.len false (.tmp 11)), none⟩, ⟨(some 13), .ins (.xt (.sl3 2 (.tmp 8) (.tmp 9) (.tmp 10) (.tmp 12))), none⟩]) (.seq (.seq (.reg [ ⟨(some 14), .ins (.mv (.tmp 1)), none⟩, ⟨(some 15), .ins (.mv (.tmp 2)), none⟩, ⟨(some 16), .ins (.bin .eql false [0] (.tmp 14) (.tmp 15)), none⟩]) (.cond (.tmp 16) (.seq (.reg [ ⟨(some 17), .ins (.mv (.tmp 0)), none⟩, ⟨(some 6), .ins (.mv (.tmp 17)), none⟩]) .ret) .skip)) (.seq (.reg [ ⟨(some 18), .ins (.mv (.tmp 0)), none⟩, ⟨(some 19), .ins (.len false (.tmp 18)), none⟩, ⟨(some 7), .ins (.mv (.tmp 19)), none⟩]) (.seq (.draw [ (⟨(some 20), .ins (.mv (.tmp 0)), none⟩, []), (⟨(some 21), .ins (.mv (.tmp 1)), none⟩, []), (⟨(some 22), .ins (.slL 2 (.tmp 20) none (some (.tmp 21))), none⟩, [0, 1]), (⟨(some 23), .ins (.mv (.tmp 0)), none⟩, []), (⟨(some 24), .ins (.mv (.tmp 2)), none⟩, []), (⟨(some 25), .ins (.slL 2 (.tmp 23) (some (.tmp 24)) none), none⟩, [3, 4]), (⟨(some 26), .ins (.xt (.appW 2 (.tmp 22) (.tmp 25))), none⟩, [0, 1, 2, 3, 4, 5]), (⟨(some 0), .ins (.mv (.tmp 26)), none⟩, [0, 1, 2, 3, 4, 5, 6])]) (.seq (.reg [ ⟨(some 27), .ins (.mv (.tmp 0)), none⟩, ⟨(some 28), .ins (.mv (.tmp 0)), none⟩, ⟨(some 29), .ins (.len false (.tmp 28)), none⟩, ⟨(some 30), .ins (.mv (.tmp 7)), none⟩, ⟨(some 31), .ins (.slL 2 (.tmp 27) (some (.tmp 29)) (some (.tmp 30))), none⟩, ⟨none, .ins (.xt (.clr 2 [.string ⟨#[]⟩, .int .u64 0] (.tmp 31))), none⟩]) (.seq (.reg [ ⟨(some 32), .ins (.mv (.tmp 0)), none⟩, ⟨(some 6), .ins (.mv (.tmp 32)), none⟩]) .ret)))))))
def r53 : List RVar := [.tmp 6]
theorem comp53 : comp ⟨lookT rows, [26], wildW, [73]⟩ ((Go.Proofs.Try.f53.body).getD .skip) = some c53 := by kernel_rfl
theorem body53 : Go.Proofs.Try.f53.body = some ((Go.Proofs.Try.f53.body).getD .skip) := by kernel_rfl
theorem nt53 : Go.Proofs.Try.f53.ntmps = 33 := by kernel_rfl
theorem res53 : compRes tab Go.Proofs.Try.f53.results.toList = some r53 := by kernel_rfl
def c54 : C := (.seq (.reg [ ⟨(some 4), .ins (.mv (.const (.slice none 0 0))), none⟩]) (.seq (.reg [ ⟨(some 5), .ins (.mv (.const (.slice none 0 0))), none⟩]) (.seq (.seq (.reg [ ⟨(some 6), .ins (.mv (.const (.int .i64 0))), none⟩]) (.block 0 (.loop (.seq (.seq (.reg [ ⟨(some 7), .ins (.mv (.tmp 6)), none⟩, ⟨(some 8), .ins (.mv (.tmp 0)), none⟩, ⟨(some 9), .ins (.len false (.tmp 8)), none⟩, ⟨(some 10), .ins (.bin .lss false [0] (.tmp 7) (.tmp 9)), none⟩]) (.cond (.tmp 10) .skip (.exit 0))) (.seq (.block 1 (.seq (.reg [ ⟨(some 13), .ins (.mv (.tmp 0)), none⟩, ⟨(some 14), .ins (.mv (.tmp 6)), none⟩, ⟨(some 15), .ins (.iadS 2 (.tmp 13) (.tmp 14)), none⟩, ⟨(some 16), .ins (.fad 0 (.tmp 15)), none⟩, ⟨(some 17), .ins (.ld false 1 (.tmp 16)), none⟩, ⟨(some 18), .ins (.mv (.tmp 1)), none⟩, ⟨(some 19), .ins (.bin .neq false [1] (.tmp 17) (.tmp 18)), none⟩]) (.cond (.tmp 19) (.reg [ ⟨(some 20), .ins (.mv (.tmp 5)), none⟩, ⟨(some 21), .ins (.mv (.tmp 0)), none⟩, ⟨(some 22), .ins (.mv (.tmp 6)), none⟩, ⟨(some 23), .ins (.iadS 2 (.tmp 21) (.tmp 22)), none⟩, ⟨(some 24), .ins (.ld true 2 (.tmp 23)), none⟩, ⟨(some 25), .ins (.bsl 100 2 1 [.string ⟨#[]⟩, .int .u64 0] [(0, .tmp 24)]), none⟩, ⟨(some 26), .ins (.app 100 2 24 (.tmp 20) (.tmp 25)), none⟩, ⟨(some 5), .ins (.mv (.tmp 26)), none⟩]) .skip))) (.reg [ ⟨(some 11), .ins (.mv (.tmp 6)), none⟩, ⟨(some 12), .ins (.bin .add false [0] (.tmp 11) (.const (.int .i64 1))), none⟩, ⟨(some 6), .ins (.mv (.tmp 12)), none⟩])))))) (.seq (.reg [ ⟨(some 27), .ins (.mv (.tmp 5)), none⟩, ⟨(some 4), .ins (.mv (.tmp 27)), none⟩]) .ret))))
def r54 : List RVar := [.tmp 4]
theorem comp54 : comp tab ((Go.Proofs.Try.f54.body).getD .skip) = some c54 := by kernel_rfl
theorem body54 : Go.Proofs.Try.f54.body = some ((Go.Proofs.Try.f54.body).getD .skip) := by kernel_rfl
theorem nt54 : Go.Proofs.Try.f54.ntmps = 28 := by kernel_rfl
theorem res54 : compRes tab Go.Proofs.Try.f54.results.toList = some r54 := by kernel_rfl
def c55 : C := (.seq (.reg [ ⟨(some 2), .ins (.mv (.const (.slice none 0 0))), none⟩]) (.seq (.reg [ ⟨(some 3), .ins (.mv (.const (.slice none 0 0))), none⟩]) (.seq (.block 0 (.loop (.seq (.seq (.reg [ ⟨(some 4), .ins (.mv (.tmp 0)), none⟩, ⟨(some 5), .ins (.bin .geq false [0] (.tmp 4) (.const (.int .u64 128))), none⟩]) (.cond (.tmp 5) .skip (.exit 0))) (.seq (.block 1 (.reg [ ⟨(some 8), .ins (.mv (.tmp 3)), none⟩, ⟨(some 9), .ins (.mv (.tmp 0)), none⟩, ⟨(some 10), .ins (.cvI .u8 (.tmp 9)), none⟩, ⟨(some 11), .ins (.bin .or false [0] (.tmp 10) (.const (.int .u8 128))), none⟩, ⟨(some 12), .ins (.bsl 5 1 1 [.int .u8 0] [(0, .tmp 11)]), none⟩, ⟨(some 13), .ins (.app 5 1 1 (.tmp 8) (.tmp 12)), none⟩, ⟨(some 3), .ins (.mv (.tmp 13)), none⟩])) (.reg [ ⟨(some 6), .ins (.mv (.tmp 0)), none⟩, ⟨(some 7), .ins (.bin .shr false [0] (.tmp 6) (.const (.int .u64 7))), none⟩, ⟨(some 0), .ins (.mv (.tmp 7)), none⟩]))))) (.seq (.reg [ ⟨(some 14), .ins (.mv (.tmp 3)), none⟩, ⟨(some 15), .ins (.mv (.tmp 0)), none⟩, ⟨(some 16), .ins (.cvI .u8 (.tmp 15)), none⟩, ⟨(some 17), .ins (.bsl 5 1 1 [.int .u8 0] [(0, .tmp 16)]), none⟩, ⟨(some 18), .ins (.app 5 1 1 (.tmp 14) (.tmp 17)), none⟩, ⟨(some 2), .ins (.mv (.tmp 18)), none⟩]) .ret))))
def r55 : List RVar := [.tmp 2]
theorem comp55 : comp tab ((Go.Proofs.Try.f55.body).getD .skip) = some c55 := by kernel_rfl
theorem body55 : Go.Proofs.Try.f55.body = some ((Go.Proofs.Try.f55.body).getD .skip) := by kernel_rfl
theorem nt55 : Go.Proofs.Try.f55.ntmps = 19 := by kernel_rfl
theorem res55 : compRes tab Go.Proofs.Try.f55.results.toList = some r55 := by kernel_rfl
def c56 : C := (.seq (.reg [ ⟨(some 2), .ins (.mv (.const (.slice none 0 0))), none⟩]) (.seq (.reg [ ⟨(some 3), .ins (.mv (.tmp 0)), none⟩, ⟨(some 4), .ins (.len true (.tmp 3)), none⟩, ⟨(some 5), .ins (.cvI .u64 (.tmp 4)), none⟩, ⟨(some 6), .call 55 [.tmp 5], none⟩, ⟨(some 7), .ins (.mv (.tmp 0)), none⟩, ⟨(some 8), .ins (.appS 5 1 (.tmp 6) (.tmp 7)), none⟩, ⟨(some 2), .ins (.mv (.tmp 8)), none⟩]) .ret))
def r56 : List RVar := [.tmp 2]
theorem comp56 : comp tab ((Go.Proofs.Try.f56.body).getD .skip) = some c56 := by kernel_rfl
theorem body56 : Go.Proofs.Try.f56.body = some ((Go.Proofs.Try.f56.body).getD .skip) := by kernel_rfl
theorem nt56 : Go.Proofs.Try.f56.ntmps = 9 := by kernel_rfl
theorem res56 : compRes tab Go.Proofs.Try.f56.results.toList = some r56 := by kernel_rfl
def c57 : C := (.seq (.reg [ ⟨(some 2), .ins (.mv (.const (.slice none 0 0))), none⟩]) (.seq (.reg [ ⟨(some 3), .ins (.mv (.const (.slice none 0 0))), none⟩]) (.seq (.reg [ ⟨(some 7), .ins (.mv (.tmp 0)), none⟩, ⟨(some 8), .call 75 [.tmp 7], none⟩, ⟨(some 4), .ins (.mv (.tmp 8)), none⟩]) (.seq (.seq (.reg [ ⟨(some 5), .ins (.mv (.const (.int .i64 0))), none⟩]) (.block 0 (.loop (.seq (.seq (.reg [ ⟨(some 9), .ins (.mv (.tmp 5)), none⟩, ⟨(some 10), .ins (.mv (.tmp 4)), none⟩, ⟨(some 11), .ins (.bin .lss false [0] (.tmp 9) (.tmp 10)), none⟩]) (.cond (.tmp 11) .skip (.exit 0))) (.seq (.block 1 (.seq (.reg [ ⟨(some 14), .ins (.mv (.tmp 0)), none⟩, ⟨(some 15), .ins (.bin .rem false [0] (.tmp 14) (.const (.int .u64 128))), none⟩, ⟨(some 16), .ins (.cvI .u8 (.tmp 15)), none⟩, ⟨(some 6), .ins (.mv (.tmp 16)), none⟩]) (.seq (.seq (.reg [ ⟨(some 17), .ins (.mv (.tmp 5)), none⟩, ⟨(some 18), .ins (.bin .add false [0] (.tmp 17) (.const (.int .i64 1))), none⟩, ⟨(some 19), .ins (.mv (.tmp 4)), none⟩, ⟨(some 20), .ins (.bin .lss false [0] (.tmp 18) (.tmp 19)), none⟩]) (.cond (.tmp 20) (.reg [ ⟨(some 21), .ins (.mv (.tmp 6)), none⟩, ⟨(some 22), .ins (.bin .add false [0] (.tmp 21) (.const (.int .u8 128))), none⟩, ⟨(some 6), .ins (.mv (.tmp 22)), none⟩]) .skip)) (.seq (.reg [ ⟨(some 23), .ins (.mv (.tmp 3)), none⟩, ⟨(some 24), .ins (.mv (.tmp 6)), none⟩, ⟨(some 25), .ins (.bsl 5 1 1 [.int .u8 0] [(0, .tmp 24)]), none⟩, ⟨(some 26), .ins (.app 5 1 1 (.tmp 23) (.tmp 25)), none⟩, ⟨(some 3), .ins (.mv (.tmp 26)), none⟩]) (.reg [ ⟨(some 27), .ins (.mv (.tmp 0)), none⟩, ⟨(some 28), .ins (.bin .quo false [0] (.tmp 27) (.const (.int .u64 128))), none⟩, ⟨(some 0), .ins (.mv (.tmp 28)), none⟩]))))) (.reg [ ⟨(some 12), .ins (.mv (.tmp 5)), none⟩, ⟨(some 13), .ins (.bin .add false [0] (.tmp 12) (.const (.int .i64 1))), none⟩, ⟨(some 5), .ins (.mv (.tmp 13)), none⟩])))))) (.seq (.reg [ ⟨(some 29), .ins (.mv (.tmp 3)), none⟩, ⟨(some 2), .ins (.mv (.tmp 29)), none⟩]) .ret)))))
def r57 : List RVar := [.tmp 2]
theorem comp57 : comp tab ((Go.Proofs.Try.f57.body).getD .skip) = some c57 := by kernel_rfl
theorem body57 : Go.Proofs.Try.f57.body = some ((Go.Proofs.Try.f57.body).getD .skip) := by kernel_rfl
theorem nt57 : Go.Proofs.Try.f57.ntmps = 30 := by kernel_rfl
theorem res57 : compRes tab Go.Proofs.Try.f57.results.toList = some r57 := by kernel_rfl
def c58 : C := (.seq (.reg [ ⟨(some 2), .ins (.mv (.const (.slice none 0 0))), none⟩]) (.seq (.reg [ ⟨(some 5), .ins (.mv (.tmp 0)), none⟩, ⟨(some 6), .ins (.len true (.tmp 5)), none⟩, ⟨(some 7), .ins (.cvI .u64 (.tmp 6)), none⟩, ⟨(some 8), .call 57 [.tmp 7], none⟩, ⟨(some 3), .ins (.mv (.tmp 8)), none⟩]) (.seq (.seq (.reg [ ⟨(some 4), .ins (.mv (.const (.int .i64 0))), none⟩]) (.block 0 (.loop (.seq (.seq (.reg [ ⟨(some 9), .ins (.mv (.tmp 4)), none⟩, ⟨(some 10), .ins (.mv (.tmp 0)), none⟩, ⟨(some 11), .ins (.len true (.tmp 10)), none⟩, ⟨(some 12), .ins (.bin .lss false [0] (.tmp 9) (.tmp 11)), none⟩]) (.cond (.tmp 12) .skip (.exit 0))) (.seq (.block 1 (.reg [ ⟨(some 15), .ins (.mv (.tmp 3)), none⟩, ⟨(some 16), .ins (.mv (.tmp 0)), none⟩, ⟨(some 17), .ins (.mv (.tmp 4)), none⟩, ⟨(some 18), .ins (.ixS (.tmp 16) (.tmp 17)), none⟩, ⟨(some 19), .ins (.bsl 5 1 1 [.int .u8 0] [(0, .tmp 18)]), none⟩, ⟨(some 20), .ins (.app 5 1 1 (.tmp 15) (.tmp 19)), none⟩, ⟨(some 3), .ins (.mv (.tmp 20)), none⟩])) (.reg [ ⟨(some 13), .ins (.mv (.tmp 4)), none⟩, ⟨(some 14), .ins (.bin .add false [0] (.tmp 13) (.const (.int .i64 1))), none⟩, ⟨(some 4), .ins (.mv (.tmp 14)), none⟩])))))) (.seq (.reg [ ⟨(some 21), .ins (.mv (.tmp 3)), none⟩, ⟨(some 2), .ins (.mv (.tmp 21)), none⟩]) .ret))))
def r58 : List RVar := [.tmp 2]
theorem comp58 : comp tab ((Go.Proofs.Try.f58.body).getD .skip) = some c58 := by kernel_rfl
theorem body58 : Go.Proofs.Try.f58.body = some ((Go.Proofs.Try.f58.body).getD .skip) := by kernel_rfl
theorem nt58 : Go.Proofs.Try.f58.ntmps = 22 := by kernel_rfl
theorem res58 : compRes tab Go.Proofs.Try.f58.results.toList = some r58 := by kernel_rfl
def c59 : C := (.seq (.reg [ ⟨(some 4), .ins (.mv (.const (.int .u64 0))), none⟩, ⟨(some 5), .ins (.mv (.const (.int .i64 0))), none⟩, ⟨(some 6), .ins (.mv (.const (.int .i64 0))), none⟩]) (.seq (.seq (.reg [ ⟨(some 10), .ins (.mv (.tmp 1)), none⟩, ⟨(some 11), .ins (.bin .lss false [0] (.tmp 10) (.const (.int .i64 0))), none⟩, ⟨(some 12), .ins (.mv (.tmp 11)), none⟩, ⟨(some 13), .ins (.mv (.tmp 1)), (some (12, false))⟩, ⟨(some 14), .ins (.mv (.tmp 0)), (some (12, false))⟩, ⟨(some 15), .ins (.len false (.tmp 14)), (some (12, false))⟩, ⟨(some 16), .ins (.bin .geq false [0] (.tmp 13) (.tmp 15)), (some (12, false))⟩, ⟨(some 17), .ins (.pick (.tmp 12) (.const (.bool true)) (.tmp 16)), none⟩]) (.cond (.tmp 17) (.seq (.reg [ ⟨(some 18), .ins (.mv (.tmp 1)), none⟩, ⟨(some 4), .ins (.mv (.const (.int .u64 0))), none⟩, ⟨(some 5), .ins (.mv (.tmp 18)), none⟩, ⟨(some 6), .ins (.mv (.const (.int .i64 10))), none⟩]) .ret) .skip)) (.seq (.reg [ ⟨(some 6), .ins (.mv (.const (.int .i64 10))), none⟩]) (.seq .skip (.seq (.seq (.reg [ ⟨(some 19), .ins (.mv (.tmp 0)), none⟩, ⟨(some 20), .ins (.mv (.tmp 1)), none⟩, ⟨(some 21), .ins (.slL 1 (.tmp 19) (some (.tmp 20)) none), none⟩, ⟨(some 22), .ins (.len false (.tmp 21)), none⟩, ⟨(some 23), .ins (.mv (.const (.int .i64 0))), none⟩]) (.block 0 (.loop (.seq (.reg [ ⟨(some 24), .ins (.bin .lss false [0] (.tmp 23) (.tmp 22)), none⟩]) (.seq (.cond (.tmp 24) .skip (.exit 0)) (.seq (.block 1 (.seq (.reg [ ⟨(some 25), .ins (.mv (.tmp 23)), none⟩, ⟨(some 26), .ins (.iadS 1 (.tmp 21) (.tmp 23)), none⟩, ⟨(some 27), .ins (.ld false 1 (.tmp 26)), none⟩, ⟨(some 7), .ins (.mv (.tmp 25)), none⟩, ⟨(some 8), .ins (.mv (.tmp 27)), none⟩]) (.seq (.reg [ ⟨(some 28), .ins (.mv (.tmp 8)), none⟩, ⟨(some 29), .ins (.bin .lss false [0] (.tmp 28) (.const (.int .u8 128))), none⟩, ⟨(some 9), .ins (.mv (.tmp 29)), none⟩]) (.seq (.block 2 (.seq (.seq (.reg [ ⟨(some 31), .ins (.mv (.tmp 7)), none⟩, ⟨(some 32), .ins (.bin .eql false [0] (.tmp 31) (.const (.int .i64 9))), none⟩, ⟨(some 33), .ins (.mv (.tmp 32)), none⟩, ⟨(some 34), .ins (.mv (.tmp 8)), (some (33, true))⟩, ⟨(some 35), .ins (.bin .gtr false [0] (.tmp 34) (.const (.int .u8 1))), (some (33, true))⟩, ⟨(some 36), .ins (.pick (.tmp 33) (.tmp 35) (.const (.bool false))), none⟩, ⟨(some 30), .ins (.mv (.tmp 36)), none⟩]) (.cond (.tmp 30) .skip (.reg [ ⟨(some 37), .ins (.mv (.tmp 9)), none⟩, ⟨(some 38), .ins (.mv (.tmp 37)), none⟩, ⟨(some 39), .ins (.mv (.tmp 8)), (some (38, true))⟩, ⟨(some 40), .ins (.bin .eql false [0] (.tmp 39) (.const (.int .u8 0))), (some (38, true))⟩, ⟨(some 41), .ins (.pick (.tmp 38) (.tmp 40) (.const (.bool false))), none⟩, ⟨(some 42), .ins (.mv (.tmp 41)), none⟩, ⟨(some 43), .ins (.mv (.tmp 7)), (some (42, true))⟩, ⟨(some 44), .ins (.bin .gtr false [0] (.tmp 43) (.const (.int .i64 0))), (some (42, true))⟩, ⟨(some 45), .ins (.pick (.tmp 42) (.tmp 44) (.const (.bool false))), none⟩, ⟨(some 30), .ins (.mv (.tmp 45)), none⟩]))) (.cond (.tmp 30) (.seq (.reg [ ⟨(some 6), .ins (.mv (.const (.int .i64 11))), none⟩]) (.exit 0)) .skip))) (.seq (.reg [ ⟨(some 46), .ins (.mv (.tmp 4)), none⟩, ⟨(some 47), .ins (.mv (.tmp 8)), none⟩, ⟨(some 48), .ins (.bin .andNot false [0] (.tmp 47) (.const (.int .u8 128))), none⟩, ⟨(some 49), .ins (.cvI .u64 (.tmp 48)), none⟩, ⟨(some 50), .ins (.mv (.tmp 7)), none⟩, ⟨(some 51), .ins (.bin .mul false [0] (.const (.int .i64 7)) (.tmp 50)), none⟩, ⟨(some 52), .ins (.bin .shl false [0] (.tmp 49) (.tmp 51)), none⟩, ⟨(some 53), .ins (.bin .or false [0] (.tmp 46) (.tmp 52)), none⟩, ⟨(some 4), .ins (.mv (.tmp 53)), none⟩]) (.seq (.reg [ ⟨(some 54), .ins (.mv (.tmp 9)), none⟩]) (.cond (.tmp 54) (.seq (.reg [ ⟨(some 55), .ins (.mv (.tmp 4)), none⟩, ⟨(some 56), .ins (.mv (.tmp 1)), none⟩, ⟨(some 57), .ins (.mv (.tmp 7)), none⟩, ⟨(some 58), .ins (.bin .add false [0] (.tmp 56) (.tmp 57)), none⟩, ⟨(some 59), .ins (.bin .add false [0] (.tmp 58) (.const (.int .i64 1))), none⟩, ⟨(some 4), .ins (.mv (.tmp 55)), none⟩, ⟨(some 5), .ins (.mv (.tmp 59)), none⟩, ⟨(some 6), .ins (.mv (.const (.int .i64 0))), none⟩]) .ret) .skip))))))) (.reg [ ⟨(some 60), .ins (.bin .add false [0] (.tmp 23) (.const (.int .i64 1))), none⟩, ⟨(some 23), .ins (.mv (.tmp 60)), none⟩]))))))) (.seq (.reg [ ⟨(some 61), .ins (.mv (.tmp 1)), none⟩, ⟨(some 62), .ins (.mv (.tmp 6)), none⟩, ⟨(some 4), .ins (.mv (.const (.int .u64 0))), none⟩, ⟨(some 5), .ins (.mv (.tmp 61)), none⟩, ⟨(some 6), .ins (.mv (.tmp 62)), none⟩]) .ret))))))
def r59 : List RVar := [.tmp 4, .tmp 5, .tmp 6]
theorem comp59 : comp tab ((Go.Proofs.Try.f59.body).getD .skip) = some c59 := by kernel_rfl
theorem body59 : Go.Proofs.Try.f59.body = some ((Go.Proofs.Try.f59.body).getD .skip) := by kernel_rfl
theorem nt59 : Go.Proofs.Try.f59.ntmps = 63 := by kernel_rfl
theorem res59 : compRes tab Go.Proofs.Try.f59.results.toList = some r59 := by kernel_rfl
def c60 : C := (.seq (.reg [ ⟨(some 4), .ins (.mv (.const (.string ⟨#[]⟩))), none⟩, ⟨(some 5), .ins (.mv (.const (.int .i64 0))), none⟩, ⟨(some 6), .ins (.mv (.const (.int .i64 0))), none⟩]) (.seq (.reg [ ⟨(some 9), .ins (.mv (.tmp 0)), none⟩, ⟨(some 10), .ins (.mv (.tmp 1)), none⟩, ⟨(some 11), .call 59 [.tmp 9, .tmp 10], none⟩, ⟨(some 8), .ins (.mv (.tmp 11)), none⟩, ⟨(some 12), .ins (.ext (.tmp 8) 0), none⟩, ⟨(some 13), .ins (.ext (.tmp 8) 1), none⟩, ⟨(some 14), .ins (.ext (.tmp 8) 2), none⟩, ⟨(some 7), .ins (.mv (.tmp 12)), none⟩, ⟨(some 5), .ins (.mv (.tmp 13)), none⟩, ⟨(some 6), .ins (.mv (.tmp 14)), none⟩]) (.seq (.block 0 (.seq (.reg [ ⟨(some 16), .ins (.mv (.tmp 6)), none⟩, ⟨(some 17), .ins (.bin .neq false [0] (.tmp 16) (.const (.int .i64 0))), none⟩, ⟨(some 15), .ins (.mv (.tmp 17)), none⟩]) (.cond (.tmp 15) (.seq (.reg [ ⟨(some 18), .ins (.mv (.tmp 1)), none⟩, ⟨(some 19), .ins (.mv (.tmp 6)), none⟩, ⟨(some 4), .ins (.mv (.const (.string ⟨#[]⟩))), none⟩, ⟨(some 5), .ins (.mv (.tmp 18)), none⟩, ⟨(some 6), .ins (.mv (.tmp 19)), none⟩]) .ret) (.seq (.reg [ ⟨(some 21), .ins (.mv (.tmp 7)), none⟩, ⟨(some 22), .ins (.mv (.tmp 0)), none⟩, ⟨(some 23), .ins (.len false (.tmp 22)), none⟩, ⟨(some 24), .ins (.mv (.tmp 5)), none⟩, ⟨(some 25), .ins (.bin .sub false [0] (.tmp 23) (.tmp 24)), none⟩, ⟨(some 26), .ins (.cvI .u64 (.tmp 25)), none⟩, ⟨(some 27), .ins (.bin .gtr false [0] (.tmp 21) (.tmp 26)), none⟩, ⟨(some 20), .ins (.mv (.tmp 27)), none⟩]) (.cond (.tmp 20) (.seq (.reg [ ⟨(some 28), .ins (.mv (.tmp 1)), none⟩, ⟨(some 4), .ins (.mv (.const (.string ⟨#[]⟩))), none⟩, ⟨(some 5), .ins (.mv (.tmp 28)), none⟩, ⟨(some 6), .ins (.mv (.const (.int .i64 10))), none⟩]) .ret) .skip))))) (.seq (.reg [ ⟨(some 29), .ins (.mv (.tmp 0)), none⟩, ⟨(some 30), .ins (.mv (.tmp 5)), none⟩, ⟨(some 31), .ins (.mv (.tmp 5)), none⟩, ⟨(some 32), .ins (.mv (.tmp 7)), none⟩, ⟨(some 33), .ins (.cvI .i64 (.tmp 32)), none⟩, ⟨(some 34), .ins (.bin .add false [0] (.tmp 31) (.tmp 33)), none⟩, ⟨(some 35), .ins (.slL 1 (.tmp 29) (some (.tmp 30)) (some (.tmp 34))), none⟩, ⟨(some 36), .ins (.cvB (.tmp 35)), none⟩, ⟨(some 37), .ins (.mv (.tmp 5)), none⟩, ⟨(some 38), .ins (.mv (.tmp 7)), none⟩, ⟨(some 39), .ins (.cvI .i64 (.tmp 38)), none⟩, ⟨(some 40), .ins (.bin .add false [0] (.tmp 37) (.tmp 39)), none⟩, ⟨(some 4), .ins (.mv (.tmp 36)), none⟩, ⟨(some 5), .ins (.mv (.tmp 40)), none⟩, ⟨(some 6), .ins (.mv (.const (.int .i64 0))), none⟩]) .ret))))
def r60 : List RVar := [.tmp 4, .tmp 5, .tmp 6]
theorem comp60 : comp tab ((Go.Proofs.Try.f60.body).getD .skip) = some c60 := by kernel_rfl
theorem body60 : Go.Proofs.Try.f60.body = some ((Go.Proofs.Try.f60.body).getD .skip) := by kernel_rfl
theorem nt60 : Go.Proofs.Try.f60.ntmps = 41 := by kernel_rfl
theorem res60 : compRes tab Go.Proofs.Try.f60.results.toList = some r60 := by kernel_rfl
def c61 : C := (.seq (.reg [ ⟨(some 4), .ins (.mv (.const (.int .u64 0))), none⟩, ⟨(some 5), .ins (.mv (.const (.int .i64 0))), none⟩, ⟨(some 6), .ins (.mv (.const (.int .i64 0))), none⟩]) (.seq (.seq (.reg [ ⟨(some 11), .ins (.mv (.tmp 1)), none⟩, ⟨(some 12), .ins (.bin .lss false [0] (.tmp 11) (.const (.int .i64 0))), none⟩, ⟨(some 13), .ins (.mv (.tmp 12)), none⟩, ⟨(some 14), .ins (.mv (.tmp 1)), (some (13, false))⟩, ⟨(some 15), .ins (.mv (.tmp 0)), (some (13, false))⟩, ⟨(some 16), .ins (.len false (.tmp 15)), (some (13, false))⟩, ⟨(some 17), .ins (.bin .geq false [0] (.tmp 14) (.tmp 16)), (some (13, false))⟩, ⟨(some 18), .ins (.pick (.tmp 13) (.const (.bool true)) (.tmp 17)), none⟩]) (.cond (.tmp 18) (.seq (.reg [ ⟨(some 19), .ins (.mv (.tmp 1)), none⟩, ⟨(some 4), .ins (.mv (.const (.int .u64 0))), none⟩, ⟨(some 5), .ins (.mv (.tmp 19)), none⟩, ⟨(some 6), .ins (.mv (.const (.int .i64 10))), none⟩]) .ret) .skip)) (.seq (.reg [ ⟨(some 7), .ins (.mv (.const (.int .u64 0))), none⟩]) (.seq (.seq (.reg [ ⟨(some 8), .ins (.mv (.const (.int .i64 0))), none⟩]) (.block 0 (.loop (.seq (.seq (.reg [ ⟨(some 20), .ins (.mv (.tmp 8)), none⟩, ⟨(some 21), .ins (.bin .lss false [0] (.tmp 20) (.const (.int .i64 10))), none⟩]) (.cond (.tmp 21) .skip (.exit 0))) (.seq (.block 1 (.seq (.seq (.reg [ ⟨(some 24), .ins (.mv (.tmp 1)), none⟩, ⟨(some 25), .ins (.mv (.tmp 8)), none⟩, ⟨(some 26), .ins (.bin .add false [0] (.tmp 24) (.tmp 25)), none⟩, ⟨(some 27), .ins (.mv (.tmp 0)), none⟩, ⟨(some 28), .ins (.len false (.tmp 27)), none⟩, ⟨(some 29), .ins (.bin .geq false [0] (.tmp 26) (.tmp 28)), none⟩]) (.cond (.tmp 29) (.seq (.reg [ ⟨(some 30), .ins (.mv (.tmp 1)), none⟩, ⟨(some 4), .ins (.mv (.const (.int .u64 0))), none⟩, ⟨(some 5), .ins (.mv (.tmp 30)), none⟩, ⟨(some 6), .ins (.mv (.const (.int .i64 10))), none⟩]) .ret) .skip)) (.seq (.reg [ ⟨(some 31), .ins (.mv (.tmp 0)), none⟩, ⟨(some 32), .ins (.mv (.tmp 1)), none⟩, ⟨(some 33), .ins (.mv (.tmp 8)), none⟩, ⟨(some 34), .ins (.bin .add false [0] (.tmp 32) (.tmp 33)), none⟩, ⟨(some 35), .ins (.iadS 1 (.tmp 31) (.tmp 34)), none⟩, ⟨(some 36), .ins (.ld false 1 (.tmp 35)), none⟩, ⟨(some 37), .ins (.cvI .u64 (.tmp 36)), none⟩, ⟨(some 9), .ins (.mv (.tmp 37)), none⟩]) (.seq (.reg [ ⟨(some 38), .ins (.mv (.tmp 8)), none⟩, ⟨(some 39), .ins (.bin .mul false [0] (.const (.int .i64 7)) (.tmp 38)), none⟩, ⟨(some 40), .ins (.bin .shl false [0] (.const (.int .u64 1)) (.tmp 39)), none⟩, ⟨(some 10), .ins (.mv (.tmp 40)), none⟩]) (.seq (.seq (.reg [ ⟨(some 41), .ins (.mv (.tmp 8)), none⟩, ⟨(some 42), .ins (.bin .eql false [0] (.tmp 41) (.const (.int .i64 9))), none⟩, ⟨(some 43), .ins (.mv (.tmp 42)), none⟩, ⟨(some 44), .ins (.mv (.tmp 9)), (some (43, true))⟩, ⟨(some 45), .ins (.bin .gtr false [0] (.tmp 44) (.const (.int .u64 1))), (some (43, true))⟩, ⟨(some 46), .ins (.pick (.tmp 43) (.tmp 45) (.const (.bool false))), none⟩]) (.cond (.tmp 46) (.seq (.reg [ ⟨(some 47), .ins (.mv (.tmp 1)), none⟩, ⟨(some 4), .ins (.mv (.const (.int .u64 0))), none⟩, ⟨(some 5), .ins (.mv (.tmp 47)), none⟩, ⟨(some 6), .ins (.mv (.const (.int .i64 11))), none⟩]) .ret) .skip)) (.seq (.reg [ ⟨(some 48), .ins (.mv (.tmp 7)), none⟩, ⟨(some 49), .ins (.mv (.tmp 9)), none⟩, ⟨(some 50), .ins (.bin .rem false [0] (.tmp 49) (.const (.int .u64 128))), none⟩, ⟨(some 51), .ins (.mv (.tmp 10)), none⟩, ⟨(some 52), .ins (.bin .mul false [0] (.tmp 50) (.tmp 51)), none⟩, ⟨(some 53), .ins (.bin .add false [0] (.tmp 48) (.tmp 52)), none⟩, ⟨(some 7), .ins (.mv (.tmp 53)), none⟩]) (.seq (.reg [ ⟨(some 54), .ins (.mv (.tmp 9)), none⟩, ⟨(some 55), .ins (.bin .lss false [0] (.tmp 54) (.const (.int .u64 128))), none⟩]) (.cond (.tmp 55) (.seq (.seq (.reg [ ⟨(some 56), .ins (.mv (.tmp 0)), none⟩, ⟨(some 57), .ins (.mv (.tmp 1)), none⟩, ⟨(some 58), .ins (.mv (.tmp 7)), none⟩, ⟨(some 59), .call 57 [.tmp 58], none⟩, ⟨(some 60), .call 76 [.tmp 56, .tmp 57, .tmp 59], none⟩, ⟨(some 61), .ins (.un .not (.tmp 60)), none⟩, ⟨(some 62), .ins (.mv (.tmp 61)), none⟩, ⟨(some 63), .ins (.mv (.tmp 8)), (some (62, false))⟩, ⟨(some 64), .ins (.bin .add false [0] (.tmp 63) (.const (.int .i64 1))), (some (62, false))⟩, ⟨(some 65), .ins (.mv (.tmp 7)), (some (62, false))⟩, ⟨(some 66), .call 57 [.tmp 65], (some (62, false))⟩, ⟨(some 67), .ins (.len false (.tmp 66)), (some (62, false))⟩, ⟨(some 68), .ins (.bin .neq false [0] (.tmp 64) (.tmp 67)), (some (62, false))⟩, ⟨(some 69), .ins (.pick (.tmp 62) (.const (.bool true)) (.tmp 68)), none⟩]) (.cond (.tmp 69) (.seq (.reg [ ⟨(some 70), .ins (.mv (.tmp 1)), none⟩, ⟨(some 4), .ins (.mv (.const (.int .u64 0))), none⟩, ⟨(some 5), .ins (.mv (.tmp 70)), none⟩, ⟨(some 6), .ins (.mv (.const (.int .i64 11))), none⟩]) .ret) .skip)) (.seq (.reg [ ⟨(some 71), .ins (.mv (.tmp 7)), none⟩, ⟨(some 72), .ins (.mv (.tmp 1)), none⟩, ⟨(some 73), .ins (.mv (.tmp 8)), none⟩, ⟨(some 74), .ins (.bin .add false [0] (.tmp 72) (.tmp 73)), none⟩, ⟨(some 75), .ins (.bin .add false [0] (.tmp 74) (.const (.int .i64 1))), none⟩, ⟨(some 4), .ins (.mv (.tmp 71)), none⟩, ⟨(some 5), .ins (.mv (.tmp 75)), none⟩, ⟨(some 6), .ins (.mv (.const (.int .i64 0))), none⟩]) .ret)) .skip)))))))) (.reg [ ⟨(some 22), .ins (.mv (.tmp 8)), none⟩, ⟨(some 23), .ins (.bin .add false [0] (.tmp 22) (.const (.int .i64 1))), none⟩, ⟨(some 8), .ins (.mv (.tmp 23)), none⟩])))))) (.seq (.reg [ ⟨(some 76), .ins (.mv (.tmp 1)), none⟩, ⟨(some 4), .ins (.mv (.const (.int .u64 0))), none⟩, ⟨(some 5), .ins (.mv (.tmp 76)), none⟩, ⟨(some 6), .ins (.mv (.const (.int .i64 11))), none⟩]) .ret)))))
def r61 : List RVar := [.tmp 4, .tmp 5, .tmp 6]
theorem comp61 : comp tab ((Go.Proofs.Try.f61.body).getD .skip) = some c61 := by kernel_rfl
theorem body61 : Go.Proofs.Try.f61.body = some ((Go.Proofs.Try.f61.body).getD .skip) := by kernel_rfl
theorem nt61 : Go.Proofs.Try.f61.ntmps = 77 := by kernel_rfl
theorem res61 : compRes tab Go.Proofs.Try.f61.results.toList = some r61 := by kernel_rfl
def c62 : C := (.seq (.reg [ ⟨(some 4), .ins (.mv (.const (.string ⟨#[]⟩))), none⟩, ⟨(some 5), .ins (.mv (.const (.int .i64 0))), none⟩, ⟨(some 6), .ins (.mv (.const (.int .i64 0))), none⟩]) (.seq (.reg [ ⟨(some 11), .ins (.mv (.tmp 0)), none⟩, ⟨(some 12), .ins (.mv (.tmp 1)), none⟩, ⟨(some 13), .call 61 [.tmp 11, .tmp 12], none⟩, ⟨(some 10), .ins (.mv (.tmp 13)), none⟩, ⟨(some 14), .ins (.ext (.tmp 10) 0), none⟩, ⟨(some 15), .ins (.ext (.tmp 10) 1), none⟩, ⟨(some 16), .ins (.ext (.tmp 10) 2), none⟩, ⟨(some 7), .ins (.mv (.tmp 14)), none⟩, ⟨(some 8), .ins (.mv (.tmp 15)), none⟩, ⟨(some 9), .ins (.mv (.tmp 16)), none⟩]) (.seq (.seq (.reg [ ⟨(some 17), .ins (.mv (.tmp 9)), none⟩, ⟨(some 18), .ins (.bin .neq false [0] (.tmp 17) (.const (.int .i64 0))), none⟩]) (.cond (.tmp 18) (.seq (.reg [ ⟨(some 19), .ins (.mv (.tmp 1)), none⟩, ⟨(some 20), .ins (.mv (.tmp 9)), none⟩, ⟨(some 4), .ins (.mv (.const (.string ⟨#[]⟩))), none⟩, ⟨(some 5), .ins (.mv (.tmp 19)), none⟩, ⟨(some 6), .ins (.mv (.tmp 20)), none⟩]) .ret) .skip)) (.seq (.seq (.reg [ ⟨(some 21), .ins (.mv (.tmp 7)), none⟩, ⟨(some 22), .ins (.mv (.tmp 0)), none⟩, ⟨(some 23), .ins (.len false (.tmp 22)), none⟩, ⟨(some 24), .ins (.cvI .u64 (.tmp 23)), none⟩, ⟨(some 25), .ins (.bin .gtr false [0] (.tmp 21) (.tmp 24)), none⟩, ⟨(some 26), .ins (.mv (.tmp 25)), none⟩, ⟨(some 27), .ins (.mv (.tmp 8)), (some (26, false))⟩, ⟨(some 28), .ins (.mv (.tmp 7)), (some (26, false))⟩, ⟨(some 29), .ins (.cvI .i64 (.tmp 28)), (some (26, false))⟩, ⟨(some 30), .ins (.bin .add false [0] (.tmp 27) (.tmp 29)), (some (26, false))⟩, ⟨(some 31), .ins (.mv (.tmp 0)), (some (26, false))⟩, ⟨(some 32), .ins (.len false (.tmp 31)), (some (26, false))⟩, ⟨(some 33), .ins (.bin .gtr false [0] (.tmp 30) (.tmp 32)), (some (26, false))⟩, ⟨(some 34), .ins (.pick (.tmp 26) (.const (.bool true)) (.tmp 33)), none⟩]) (.cond (.tmp 34) (.seq (.reg [ ⟨(some 35), .ins (.mv (.tmp 1)), none⟩, ⟨(some 4), .ins (.mv (.const (.string ⟨#[]⟩))), none⟩, ⟨(some 5), .ins (.mv (.tmp 35)), none⟩, ⟨(some 6), .ins (.mv (.const (.int .i64 10))), none⟩]) .ret) .skip)) (.seq (.reg [ ⟨(some 36), .ins (.mv (.tmp 0)), none⟩, ⟨(some 37), .ins (.mv (.tmp 8)), none⟩, ⟨(some 38), .ins (.mv (.tmp 8)), none⟩, ⟨(some 39), .ins (.mv (.tmp 7)), none⟩, ⟨(some 40), .ins (.cvI .i64 (.tmp 39)), none⟩, ⟨(some 41), .ins (.bin .add false [0] (.tmp 38) (.tmp 40)), none⟩, ⟨(some 42), .ins (.slL 1 (.tmp 36) (some (.tmp 37)) (some (.tmp 41))), none⟩, ⟨(some 43), .ins (.cvB (.tmp 42)), none⟩, ⟨(some 44), .ins (.mv (.tmp 8)), none⟩, ⟨(some 45), .ins (.mv (.tmp 7)), none⟩, ⟨(some 46), .ins (.cvI .i64 (.tmp 45)), none⟩, ⟨(some 47), .ins (.bin .add false [0] (.tmp 44) (.tmp 46)), none⟩, ⟨(some 4), .ins (.mv (.tmp 43)), none⟩, ⟨(some 5), .ins (.mv (.tmp 47)), none⟩, ⟨(some 6), .ins (.mv (.const (.int .i64 0))), none⟩]) .ret)))))
def r62 : List RVar := [.tmp 4, .tmp 5, .tmp 6]
theorem comp62 : comp tab ((Go.Proofs.Try.f62.body).getD .skip) = some c62 := by kernel_rfl
theorem body62 : Go.Proofs.Try.f62.body = some ((Go.Proofs.Try.f62.body).getD .skip) := by kernel_rfl
theorem nt62 : Go.Proofs.Try.f62.ntmps = 48 := by kernel_rfl
theorem res62 : compRes tab Go.Proofs.Try.f62.results.toList = some r62 := by kernel_rfl
def c69 : C := (.seq (.reg [ ⟨(some 6), .ins (.mv (.const (.int .i64 0))), none⟩, ⟨(some 7), .ins (.mv (.const (.bool false))), none⟩]) (.seq (.reg [ ⟨(some 12), .ins (.mv (.tmp 0)), none⟩, ⟨(some 13), .ins (.len false (.tmp 12)), none⟩, ⟨(some 8), .ins (.mv (.tmp 13)), none⟩]) (.seq (.reg [ ⟨(some 14), .ins (.mv (.tmp 8)), none⟩, ⟨(some 9), .ins (.mv (.const (.int .i64 0))), none⟩, ⟨(some 10), .ins (.mv (.tmp 14)), none⟩]) (.seq (.block 0 (.loop (.seq (.seq (.reg [ ⟨(some 15), .ins (.mv (.tmp 9)), none⟩, ⟨(some 16), .ins (.mv (.tmp 10)), none⟩, ⟨(some 17), .ins (.bin .lss false [0] (.tmp 15) (.tmp 16)), none⟩]) (.cond (.tmp 17) .skip (.exit 0))) (.block 1 (.seq (.reg [ ⟨(some 18), .ins (.mv (.tmp 9)), none⟩, ⟨(some 19), .ins (.mv (.tmp 10)), none⟩, ⟨(some 20), .ins (.bin .add false [0] (.tmp 18) (.tmp 19)), none⟩, ⟨(some 21), .ins (.cvI .u64 (.tmp 20)), none⟩, ⟨(some 22), .ins (.bin .shr false [0] (.tmp 21) (.const (.int .u64 1))), none⟩, ⟨(some 23), .ins (.cvI .i64 (.tmp 22)), none⟩, ⟨(some 11), .ins (.mv (.tmp 23)), none⟩]) (.seq (.reg [ ⟨(some 24), .ins (.mv (.tmp 2)), none⟩, ⟨(some 25), .ins (.mv (.tmp 0)), none⟩, ⟨(some 26), .ins (.mv (.tmp 11)), none⟩, ⟨(some 27), .ins (.iadS 2 (.tmp 25) (.tmp 26)), none⟩, ⟨(some 28), .ins (.ld true 2 (.tmp 27)), none⟩, ⟨(some 29), .ins (.mv (.tmp 1)), none⟩, ⟨(some 30), .callv (.tmp 24) [.tmp 28, .tmp 29], none⟩, ⟨(some 31), .ins (.bin .lss false [0] (.tmp 30) (.const (.int .i64 0))), none⟩]) (.cond (.tmp 31) (.reg [ ⟨(some 32), .ins (.mv (.tmp 11)), none⟩, ⟨(some 33), .ins (.bin .add false [0] (.tmp 32) (.const (.int .i64 1))), none⟩, ⟨(some 9), .ins (.mv (.tmp 33)), none⟩]) (.reg [ ⟨(some 34), .ins (.mv (.tmp 11)), none⟩, ⟨(some 10), .ins (.mv (.tmp 34)), none⟩])))))))) (.seq (.reg [ ⟨(some 35), .ins (.mv (.tmp 9)), none⟩, ⟨(some 36), .ins (.mv (.tmp 9)), none⟩, ⟨(some 37), .ins (.mv (.tmp 8)), none⟩, ⟨(some 38), .ins (.bin .lss false [0] (.tmp 36) (.tmp 37)), none⟩, ⟨(some 39), .ins (.mv (.tmp 38)), none⟩, ⟨(some 40), .ins (.mv (.tmp 2)), (some (39, true))⟩, ⟨(some 41), .ins (.mv (.tmp 0)), (some (39, true))⟩, ⟨(some 42), .ins (.mv (.tmp 9)), (some (39, true))⟩, ⟨(some 43), .ins (.iadS 2 (.tmp 41) (.tmp 42)), (some (39, true))⟩, ⟨(some 44), .ins (.ld true 2 (.tmp 43)), (some (39, true))⟩, ⟨(some 45), .ins (.mv (.tmp 1)), (some (39, true))⟩, ⟨(some 46), .callv (.tmp 40) [.tmp 44, .tmp 45], (some (39, true))⟩, ⟨(some 47), .ins (.bin .eql false [0] (.tmp 46) (.const (.int .i64 0))), (some (39, true))⟩, ⟨(some 48), .ins (.pick (.tmp 39) (.tmp 47) (.const (.bool false))), none⟩, ⟨(some 6), .ins (.mv (.tmp 35)), none⟩, ⟨(some 7), .ins (.mv (.tmp 48)), none⟩]) .ret)))))
def r69 : List RVar := [.tmp 6, .tmp 7]
theorem comp69 : comp tab ((Go.Proofs.Try.f69.body).getD .skip) = some c69 := by kernel_rfl
theorem body69 : Go.Proofs.Try.f69.body = some ((Go.Proofs.Try.f69.body).getD .skip) := by kernel_rfl
theorem nt69 : Go.Proofs.Try.f69.ntmps = 49 := by kernel_rfl
theorem res69 : compRes tab Go.Proofs.Try.f69.results.toList = some r69 := by kernel_rfl
def c70 : C := (.seq (.reg [ ⟨(some 2), .ins (.box 0 (.tmp 0)), none⟩, ⟨(some 4), .ins (.mv (.const (.int .i64 0))), none⟩]) (.seq (.reg [ ⟨(some 5), .ins (.fad 0 (.tmp 2)), none⟩, ⟨(some 6), .ins (.ld false 1 (.tmp 5)), none⟩, ⟨(some 7), .ins (.mv (.tmp 1)), none⟩, ⟨(some 8), .call 71 [.tmp 6, .tmp 7], none⟩, ⟨(some 4), .ins (.mv (.tmp 8)), none⟩]) .ret))
def r70 : List RVar := [.tmp 4]
theorem comp70 : comp tab ((Go.Proofs.Try.f70.body).getD .skip) = some c70 := by kernel_rfl
theorem body70 : Go.Proofs.Try.f70.body = some ((Go.Proofs.Try.f70.body).getD .skip) := by kernel_rfl
theorem nt70 : Go.Proofs.Try.f70.ntmps = 9 := by kernel_rfl
theorem res70 : compRes tab Go.Proofs.Try.f70.results.toList = some r70 := by kernel_rfl
def c71 : C := (.seq (.reg [ ⟨(some 4), .ins (.mv (.const (.int .i64 0))), none⟩]) (.seq (.reg [ ⟨(some 7), .ins (.mv (.tmp 0)), none⟩, ⟨(some 8), .call 86 [.tmp 7], none⟩, ⟨(some 5), .ins (.mv (.tmp 8)), none⟩]) (.seq (.reg [ ⟨(some 9), .ins (.mv (.tmp 1)), none⟩, ⟨(some 10), .call 86 [.tmp 9], none⟩, ⟨(some 6), .ins (.mv (.tmp 10)), none⟩]) (.seq (.seq (.reg [ ⟨(some 11), .ins (.mv (.tmp 5)), none⟩]) (.cond (.tmp 11) (.seq (.seq (.reg [ ⟨(some 12), .ins (.mv (.tmp 6)), none⟩]) (.cond (.tmp 12) (.seq (.reg [ ⟨(some 4), .ins (.mv (.const (.int .i64 0))), none⟩]) .ret) .skip)) (.seq (.reg [ ⟨(some 4), .ins (.mv (.const (.int .i64 (-1)))), none⟩]) .ret)) .skip)) (.seq (.seq (.reg [ ⟨(some 13), .ins (.mv (.tmp 6)), none⟩]) (.cond (.tmp 13) (.seq (.reg [ ⟨(some 4), .ins (.mv (.const (.int .i64 1))), none⟩]) .ret) .skip)) (.seq (.seq (.reg [ ⟨(some 14), .ins (.mv (.tmp 0)), none⟩, ⟨(some 15), .ins (.mv (.tmp 1)), none⟩, ⟨(some 16), .ins (.bin .lss false [1] (.tmp 14) (.tmp 15)), none⟩]) (.cond (.tmp 16) (.seq (.reg [ ⟨(some 4), .ins (.mv (.const (.int .i64 (-1)))), none⟩]) .ret) .skip)) (.seq (.seq (.reg [ ⟨(some 17), .ins (.mv (.tmp 0)), none⟩, ⟨(some 18), .ins (.mv (.tmp 1)), none⟩, ⟨(some 19), .ins (.bin .gtr false [1] (.tmp 17) (.tmp 18)), none⟩]) (.cond (.tmp 19) (.seq (.reg [ ⟨(some 4), .ins (.mv (.const (.int .i64 1))), none⟩]) .ret) .skip)) (.seq (.reg [ ⟨(some 4), .ins (.mv (.const (.int .i64 0))), none⟩]) .ret))))))))
def r71 : List RVar := [.tmp 4]
theorem comp71 : comp tab ((Go.Proofs.Try.f71.body).getD .skip) = some c71 := by kernel_rfl
theorem body71 : Go.Proofs.Try.f71.body = some ((Go.Proofs.Try.f71.body).getD .skip) := by kernel_rfl
theorem nt71 : Go.Proofs.Try.f71.ntmps = 20 := by kernel_rfl
theorem res71 : compRes tab Go.Proofs.Try.f71.results.toList = some r71 := by kernel_rfl
def c72 : C := (.seq (.reg [ ⟨(some 4), .ins (.mv (.const (.int .i64 0))), none⟩]) (.seq (.seq (.reg [ ⟨(some 6), .ins (.mv (.tmp 0)), none⟩, ⟨(some 7), .ins (.len false (.tmp 6)), none⟩, ⟨(some 8), .ins (.mv (.const (.int .i64 0))), none⟩]) (.block 0 (.loop (.seq (.reg [ ⟨(some 9), .ins (.bin .lss false [0] (.tmp 8) (.tmp 7)), none⟩]) (.seq (.cond (.tmp 9) .skip (.exit 0)) (.seq (.block 1 (.seq (.reg [ ⟨(some 10), .ins (.mv (.tmp 8)), none⟩, ⟨(some 5), .ins (.mv (.tmp 10)), none⟩]) (.seq (.reg [ ⟨(some 11), .ins (.mv (.tmp 1)), none⟩, ⟨(some 12), .ins (.mv (.tmp 0)), none⟩, ⟨(some 13), .ins (.mv (.tmp 5)), none⟩, ⟨(some 14), .ins (.iadS 2 (.tmp 12) (.tmp 13)), none⟩, ⟨(some 15), .ins (.ld true 2 (.tmp 14)), none⟩, ⟨(some 16), .callv (.tmp 11) [.tmp 15], none⟩]) (.cond (.tmp 16) (.seq (.reg [ ⟨(some 17), .ins (.mv (.tmp 5)), none⟩, ⟨(some 4), .ins (.mv (.tmp 17)), none⟩]) .ret) .skip)))) (.reg [ ⟨(some 18), .ins (.bin .add false [0] (.tmp 8) (.const (.int .i64 1))), none⟩, ⟨(some 8), .ins (.mv (.tmp 18)), none⟩]))))))) (.seq (.reg [ ⟨(some 4), .ins (.mv (.const (.int .i64 (-1)))), none⟩]) .ret)))
def r72 : List RVar := [.tmp 4]
theorem comp72 : comp tab ((Go.Proofs.Try.f72.body).getD .skip) = some c72 := by kernel_rfl
theorem body72 : Go.Proofs.Try.f72.body = some ((Go.Proofs.Try.f72.body).getD .skip) := by kernel_rfl
theorem nt72 : Go.Proofs.Try.f72.ntmps = 19 := by kernel_rfl
theorem res72 : compRes tab Go.Proofs.Try.f72.results.toList = some r72 := by kernel_rfl
def c75 : C := (.seq (.reg [ ⟨(some 2), .ins (.mv (.const (.int .i64 0))), none⟩]) (.seq (.reg [ ⟨(some 3), .ins (.mv (.const (.int .i64 1))), none⟩]) (.seq (.block 0 (.loop (.seq (.seq (.reg [ ⟨(some 4), .ins (.mv (.tmp 0)), none⟩, ⟨(some 5), .ins (.bin .quo false [0] (.tmp 4) (.const (.int .u64 128))), none⟩, ⟨(some 6), .ins (.bin .gtr false [0] (.tmp 5) (.const (.int .u64 0))), none⟩]) (.cond (.tmp 6) .skip (.exit 0))) (.block 1 (.seq (.reg [ ⟨(some 7), .ins (.mv (.tmp 0)), none⟩, ⟨(some 8), .ins (.bin .quo false [0] (.tmp 7) (.const (.int .u64 128))), none⟩, ⟨(some 0), .ins (.mv (.tmp 8)), none⟩]) (.reg [ ⟨(some 9), .ins (.mv (.tmp 3)), none⟩, ⟨(some 10), .ins (.bin .add false [0] (.tmp 9) (.const (.int .i64 1))), none⟩, ⟨(some 3), .ins (.mv (.tmp 10)), none⟩])))))) (.seq (.reg [ ⟨(some 11), .ins (.mv (.tmp 3)), none⟩, ⟨(some 2), .ins (.mv (.tmp 11)), none⟩]) .ret))))
def r75 : List RVar := [.tmp 2]
theorem comp75 : comp tab ((Go.Proofs.Try.f75.body).getD .skip) = some c75 := by kernel_rfl
theorem body75 : Go.Proofs.Try.f75.body = some ((Go.Proofs.Try.f75.body).getD .skip) := by kernel_rfl
theorem nt75 : Go.Proofs.Try.f75.ntmps = 12 := by kernel_rfl
theorem res75 : compRes tab Go.Proofs.Try.f75.results.toList = some r75 := by kernel_rfl
def c76 : C := (.seq (.reg [ ⟨(some 6), .ins (.mv (.const (.bool false))), none⟩]) (.seq (.seq (.reg [ ⟨(some 8), .ins (.mv (.tmp 1)), none⟩, ⟨(some 9), .ins (.mv (.tmp 2)), none⟩, ⟨(some 10), .ins (.len false (.tmp 9)), none⟩, ⟨(some 11), .ins (.bin .add false [0] (.tmp 8) (.tmp 10)), none⟩, ⟨(some 12), .ins (.mv (.tmp 0)), none⟩, ⟨(some 13), .ins (.len false (.tmp 12)), none⟩, ⟨(some 14), .ins (.bin .gtr false [0] (.tmp 11) (.tmp 13)), none⟩]) (.cond (.tmp 14) (.seq (.reg [ ⟨(some 6), .ins (.mv (.const (.bool false))), none⟩]) .ret) .skip)) (.seq (.seq (.reg [ ⟨(some 7), .ins (.mv (.const (.int .i64 0))), none⟩]) (.block 0 (.loop (.seq (.seq (.reg [ ⟨(some 15), .ins (.mv (.tmp 7)), none⟩, ⟨(some 16), .ins (.mv (.tmp 2)), none⟩, ⟨(some 17), .ins (.len false (.tmp 16)), none⟩, ⟨(some 18), .ins (.bin .lss false [0] (.tmp 15) (.tmp 17)), none⟩]) (.cond (.tmp 18) .skip (.exit 0))) (.seq (.block 1 (.seq (.draw [ (⟨(some 21), .ins (.mv (.tmp 0)), none⟩, []), (⟨(some 22), .ins (.mv (.tmp 1)), none⟩, []), (⟨(some 23), .ins (.mv (.tmp 7)), none⟩, []), (⟨(some 24), .ins (.bin .add false [0] (.tmp 22) (.tmp 23)), none⟩, [1, 2]), (⟨(some 25), .ins (.iadS 1 (.tmp 21) (.tmp 24)), none⟩, [0, 1, 2, 3]), (⟨(some 26), .ins (.ld false 1 (.tmp 25)), none⟩, [0, 1, 2, 3, 4]), (⟨(some 27), .ins (.mv (.tmp 2)), none⟩, []), (⟨(some 28), .ins (.mv (.tmp 7)), none⟩, []), (⟨(some 29), .ins (.iadS 1 (.tmp 27) (.tmp 28)), none⟩, [6, 7]), (⟨(some 30), .ins (.ld false 1 (.tmp 29)), none⟩, [6, 7, 8]), (⟨(some 31), .ins (.bin .neq false [0] (.tmp 26) (.tmp 30)), none⟩, [0, 1, 2, 3, 4, 5, 6, 7, 8, 9])]) (.cond (.tmp 31) (.seq (.reg [ ⟨(some 6), .ins (.mv (.const (.bool false))), none⟩]) .ret) .skip))) (.reg [ ⟨(some 19), .ins (.mv (.tmp 7)), none⟩, ⟨(some 20), .ins (.bin .add false [0] (.tmp 19) (.const (.int .i64 1))), none⟩, ⟨(some 7), .ins (.mv (.tmp 20)), none⟩])))))) (.seq (.reg [ ⟨(some 6), .ins (.mv (.const (.bool true))), none⟩]) .ret))))
def r76 : List RVar := [.tmp 6]
theorem comp76 : comp tab ((Go.Proofs.Try.f76.body).getD .skip) = some c76 := by kernel_rfl
theorem body76 : Go.Proofs.Try.f76.body = some ((Go.Proofs.Try.f76.body).getD .skip) := by kernel_rfl
theorem nt76 : Go.Proofs.Try.f76.ntmps = 32 := by kernel_rfl
theorem res76 : compRes tab Go.Proofs.Try.f76.results.toList = some r76 := by kernel_rfl
def c86 : C := (.seq (.reg [ ⟨(some 2), .ins (.mv (.const (.bool false))), none⟩]) (.seq (.reg [ ⟨(some 3), .ins (.mv (.tmp 0)), none⟩, ⟨(some 4), .ins (.mv (.tmp 0)), none⟩, ⟨(some 5), .ins (.bin .neq false [1] (.tmp 3) (.tmp 4)), none⟩, ⟨(some 2), .ins (.mv (.tmp 5)), none⟩]) .ret))
def r86 : List RVar := [.tmp 2]
theorem comp86 : comp tab ((Go.Proofs.Try.f86.body).getD .skip) = some c86 := by kernel_rfl
theorem body86 : Go.Proofs.Try.f86.body = some ((Go.Proofs.Try.f86.body).getD .skip) := by kernel_rfl
theorem nt86 : Go.Proofs.Try.f86.ntmps = 6 := by kernel_rfl
theorem res86 : compRes tab Go.Proofs.Try.f86.results.toList = some r86 := by kernel_rfl
theorem funcsOK : FuncsOK Go.Proofs.Try.prog [6, 15, 16, 17, 18, 19, 20, 21, 22, 23, 24, 25, 26, 27, 28, 29, 30, 31, 32, 33, 34, 35, 36, 37, 38, 46, 47, 48, 49, 50, 51, 52, 53, 54, 55, 56, 57, 58, 59, 60, 61, 62, 69, 70, 71, 72, 74, 75, 76, 86] := by
  refine FuncsOK.cons Go.Proofs.Try.func6 (by kernel_rfl) (by kernel_rfl) (FuncsOK.cons Go.Proofs.Try.func15 (by kernel_rfl) (by kernel_rfl) (FuncsOK.cons Go.Proofs.Try.func16 (by kernel_rfl) (by kernel_rfl) (FuncsOK.cons Go.Proofs.Try.func17 (by kernel_rfl) (by kernel_rfl) (FuncsOK.cons Go.Proofs.Try.func18 (by kernel_rfl) (by kernel_rfl) (FuncsOK.cons Go.Proofs.Try.func19 (by kernel_rfl) (by kernel_rfl) (FuncsOK.cons Go.Proofs.Try.func20 (by kernel_rfl) (by kernel_rfl) (FuncsOK.cons Go.Proofs.Try.func21 (by kernel_rfl) (by kernel_rfl) (FuncsOK.cons Go.Proofs.Try.func22 (by kernel_rfl) (by kernel_rfl) (FuncsOK.cons Go.Proofs.Try.func23 (by kernel_rfl) (by kernel_rfl) (FuncsOK.cons Go.Proofs.Try.func24 (by kernel_rfl) (by kernel_rfl) (FuncsOK.cons Go.Proofs.Try.func25 (by kernel_rfl) (by kernel_rfl) (FuncsOK.cons Go.Proofs.Try.func26 (by kernel_rfl) (by kernel_rfl) (FuncsOK.cons Go.Proofs.Try.func27 (by kernel_rfl) (by kernel_rfl) (FuncsOK.cons Go.Proofs.Try.func28 (by kernel_rfl) (by kernel_rfl) (FuncsOK.cons Go.Proofs.Try.func29 (by kernel_rfl) (by kernel_rfl) (FuncsOK.cons Go.Proofs.Try.func30 (by kernel_rfl) (by kernel_rfl) (FuncsOK.cons Go.Proofs.Try.func31 (by kernel_rfl) (by kernel_rfl) (FuncsOK.cons Go.Proofs.Try.func32 (by kernel_rfl) (by kernel_rfl) (FuncsOK.cons Go.Proofs.Try.func33 (by kernel_rfl) (by kernel_rfl) (FuncsOK.cons Go.Proofs.Try.func34 (by kernel_rfl) (by kernel_rfl) (FuncsOK.cons Go.Proofs.Try.func35 (by kernel_rfl) (by kernel_rfl) (FuncsOK.cons Go.Proofs.Try.func36 (by kernel_rfl) (by kernel_rfl) (FuncsOK.cons Go.Proofs.Try.func37 (by kernel_rfl) (by kernel_rfl) (FuncsOK.cons Go.Proofs.Try.func38 (by kernel_rfl) (by kernel_rfl) (FuncsOK.cons Go.Proofs.Try.func46 (by kernel_rfl) (by kernel_rfl) (FuncsOK.cons Go.Proofs.Try.func47 (by kernel_rfl) (by kernel_rfl) (FuncsOK.cons Go.Proofs.Try.func48 (by kernel_rfl) (by kernel_rfl) (FuncsOK.cons Go.Proofs.Try.func49 (by kernel_rfl) (by kernel_rfl) (FuncsOK.cons Go.Proofs.Try.func50 (by kernel_rfl) (by kernel_rfl) (FuncsOK.cons Go.Proofs.Try.func51 (by kernel_rfl) (by kernel_rfl) (FuncsOK.cons Go.Proofs.Try.func52 (by kernel_rfl) (by kernel_rfl) (FuncsOK.cons Go.Proofs.Try.func53 (by kernel_rfl) (by kernel_rfl) (FuncsOK.cons Go.Proofs.Try.func54 (by kernel_rfl) (by kernel_rfl) (FuncsOK.cons Go.Proofs.Try.func55 (by kernel_rfl) (by kernel_rfl) (FuncsOK.cons Go.Proofs.Try.func56 (by kernel_rfl) (by kernel_rfl) (FuncsOK.cons Go.Proofs.Try.func57 (by kernel_rfl) (by kernel_rfl) (FuncsOK.cons Go.Proofs.Try.func58 (by kernel_rfl) (by kernel_rfl) (FuncsOK.cons Go.Proofs.Try.func59 (by kernel_rfl) (by kernel_rfl) (FuncsOK.cons Go.Proofs.Try.func60 (by kernel_rfl) (by kernel_rfl) (FuncsOK.cons Go.Proofs.Try.func61 (by kernel_rfl) (by kernel_rfl) (FuncsOK.cons Go.Proofs.Try.func62 (by kernel_rfl) (by kernel_rfl) (FuncsOK.cons Go.Proofs.Try.func69 (by kernel_rfl) (by kernel_rfl) (FuncsOK.cons Go.Proofs.Try.func70 (by kernel_rfl) (by kernel_rfl) (FuncsOK.cons Go.Proofs.Try.func71 (by kernel_rfl) (by kernel_rfl) (FuncsOK.cons Go.Proofs.Try.func72 (by kernel_rfl) (by kernel_rfl) (FuncsOK.cons Go.Proofs.Try.func74 (by kernel_rfl) (by kernel_rfl) (FuncsOK.cons Go.Proofs.Try.func75 (by kernel_rfl) (by kernel_rfl) (FuncsOK.cons Go.Proofs.Try.func76 (by kernel_rfl) (by kernel_rfl) (FuncsOK.cons Go.Proofs.Try.func86 (by kernel_rfl) (by kernel_rfl) (FuncsOK.nil))))))))))))))))))))))))))))))))))))))))))))))))))
theorem enter6 {args : List V} {H0 : Heap} {n0 : Nat} {k : KH} (hn0 : H0.length = n0) (hle : Nat.ble args.length 99 = true) (h : ∀ ob ib ic sb cat iu nt an be pk wr tn iN aN sN lN eN bt sub sl rn ofB mn dc dn sI X, Ax ob ib ic sb cat iu nt an be pk wr tn iN aN sN lN eN bt sub sl rn ofB mn dc dn sI → Cx.std Go.Proofs.Try.prog tab n0 {} = X → vc ⟨ob, ib, ic, sb, cat, iu, nt, an, be, pk, wr, tn, iN, aN, sN, lN, eN, bt, sub, sl, rn, ofB, mn, dc, dn, sI⟩ X c6 (RetK ⟨ob, ib, ic, sb, cat, iu, nt, an, be, pk, wr, tn, iN, aN, sN, lN, eN, bt, sub, sl, rn, ofB, mn, dc, dn, sI⟩ r6 fun v H => ∃ r H', k r H' ∧ IntoR n0 v H r H') (frame args 99) H0) : CALL Go.Proofs.Try.prog 6 args H0 k :=
  enter (tab := tab) (fun t ti h => tabOK t ti h) (by kernel_rfl) Go.Proofs.Try.func6 body6 comp6 (funcsOK.sub rfl) res6 nt6 hn0 hle h
theorem enter15 {args : List V} {H0 : Heap} {n0 : Nat} {k : KH} (hn0 : H0.length = n0) (hle : Nat.ble args.length 26 = true) (h : ∀ ob ib ic sb cat iu nt an be pk wr tn iN aN sN lN eN bt sub sl rn ofB mn dc dn sI X, Ax ob ib ic sb cat iu nt an be pk wr tn iN aN sN lN eN bt sub sl rn ofB mn dc dn sI → Cx.std Go.Proofs.Try.prog tab n0 {} = X → vc ⟨ob, ib, ic, sb, cat, iu, nt, an, be, pk, wr, tn, iN, aN, sN, lN, eN, bt, sub, sl, rn, ofB, mn, dc, dn, sI⟩ X c15 (RetK ⟨ob, ib, ic, sb, cat, iu, nt, an, be, pk, wr, tn, iN, aN, sN, lN, eN, bt, sub, sl, rn, ofB, mn, dc, dn, sI⟩ r15 fun v H => ∃ r H', k r H' ∧ IntoR n0 v H r H') (frame args 26) H0) : CALL Go.Proofs.Try.prog 15 args H0 k :=
  enter (tab := tab) (fun t ti h => tabOK t ti h) (by kernel_rfl) Go.Proofs.Try.func15 body15 comp15 (funcsOK.sub rfl) res15 nt15 hn0 hle h
theorem enter16 {args : List V} {H0 : Heap} {n0 : Nat} {k : KH} (hn0 : H0.length = n0) (hle : Nat.ble args.length 24 = true) (h : ∀ ob ib ic sb cat iu nt an be pk wr tn iN aN sN lN eN bt sub sl rn ofB mn dc dn sI X, Ax ob ib ic sb cat iu nt an be pk wr tn iN aN sN lN eN bt sub sl rn ofB mn dc dn sI → Cx.std Go.Proofs.Try.prog tab n0 {} = X → vc ⟨ob, ib, ic, sb, cat, iu, nt, an, be, pk, wr, tn, iN, aN, sN, lN, eN, bt, sub, sl, rn, ofB, mn, dc, dn, sI⟩ X c16 (RetK ⟨ob, ib, ic, sb, cat, iu, nt, an, be, pk, wr, tn, iN, aN, sN, lN, eN, bt, sub, sl, rn, ofB, mn, dc, dn, sI⟩ r16 fun v H => ∃ r H', k r H' ∧ IntoR n0 v H r H') (frame args 24) H0) : CALL Go.Proofs.Try.prog 16 args H0 k :=
  enter (tab := tab) (fun t ti h => tabOK t ti h) (by kernel_rfl) Go.Proofs.Try.func16 body16 comp16 (funcsOK.sub rfl) res16 nt16 hn0 hle h
theorem enter17 {args : List V} {H0 : Heap} {n0 : Nat} {k : KH} (hn0 : H0.length = n0) (hle : Nat.ble args.length 99 = true) (h : ∀ ob ib ic sb cat iu nt an be pk wr tn iN aN sN lN eN bt sub sl rn ofB mn dc dn sI X, Ax ob ib ic sb cat iu nt an be pk wr tn iN aN sN lN eN bt sub sl rn ofB mn dc dn sI → Cx.std Go.Proofs.Try.prog ⟨lookT rows, [18, 59, 78, 96], wildW, [73]⟩ n0 {} = X → vc ⟨ob, ib, ic, sb, cat, iu, nt, an, be, pk, wr, tn, iN, aN, sN, lN, eN, bt, sub, sl, rn, ofB, mn, dc, dn, sI⟩ X c17 (RetK ⟨ob, ib, ic, sb, cat, iu, nt, an, be, pk, wr, tn, iN, aN, sN, lN, eN, bt, sub, sl, rn, ofB, mn, dc, dn, sI⟩ r17 fun v H => ∃ r H', k r H' ∧ IntoR n0 v H r H') (frame args 99) H0) : CALL Go.Proofs.Try.prog 17 args H0 k :=
  enter (tab := ⟨lookT rows, [18, 59, 78, 96], wildW, [73]⟩) (fun t ti h => tabOK t ti h) (by kernel_rfl) Go.Proofs.Try.func17 body17 comp17 (funcsOK.sub rfl) res17 nt17 hn0 hle h
theorem enter18 {args : List V} {H0 : Heap} {n0 : Nat} {k : KH} (hn0 : H0.length = n0) (hle : Nat.ble args.length 26 = true) (h : ∀ ob ib ic sb cat iu nt an be pk wr tn iN aN sN lN eN bt sub sl rn ofB mn dc dn sI X, Ax ob ib ic sb cat iu nt an be pk wr tn iN aN sN lN eN bt sub sl rn ofB mn dc dn sI → Cx.std Go.Proofs.Try.prog tab n0 {} = X → vc ⟨ob, ib, ic, sb, cat, iu, nt, an, be, pk, wr, tn, iN, aN, sN, lN, eN, bt, sub, sl, rn, ofB, mn, dc, dn, sI⟩ X c18 (RetK ⟨ob, ib, ic, sb, cat, iu, nt, an, be, pk, wr, tn, iN, aN, sN, lN, eN, bt, sub, sl, rn, ofB, mn, dc, dn, sI⟩ r18 fun v H => ∃ r H', k r H' ∧ IntoR n0 v H r H') (frame args 26) H0) : CALL Go.Proofs.Try.prog 18 args H0 k :=
  enter (tab := tab) (fun t ti h => tabOK t ti h) (by kernel_rfl) Go.Proofs.Try.func18 body18 comp18 (funcsOK.sub rfl) res18 nt18 hn0 hle h
theorem enter19 {args : List V} {H0 : Heap} {n0 : Nat} {k : KH} (hn0 : H0.length = n0) (hle : Nat.ble args.length 28 = true) (h : ∀ ob ib ic sb cat iu nt an be pk wr tn iN aN sN lN eN bt sub sl rn ofB mn dc dn sI X, Ax ob ib ic sb cat iu nt an be pk wr tn iN aN sN lN eN bt sub sl rn ofB mn dc dn sI → Cx.std Go.Proofs.Try.prog tab n0 {} = X → vc ⟨ob, ib, ic, sb, cat, iu, nt, an, be, pk, wr, tn, iN, aN, sN, lN, eN, bt, sub, sl, rn, ofB, mn, dc, dn, sI⟩ X c19 (RetK ⟨ob, ib, ic, sb, cat, iu, nt, an, be, pk, wr, tn, iN, aN, sN, lN, eN, bt, sub, sl, rn, ofB, mn, dc, dn, sI⟩ r19 fun v H => ∃ r H', k r H' ∧ IntoR n0 v H r H') (frame args 28) H0) : CALL Go.Proofs.Try.prog 19 args H0 k :=
  enter (tab := tab) (fun t ti h => tabOK t ti h) (by kernel_rfl) Go.Proofs.Try.func19 body19 comp19 (funcsOK.sub rfl) res19 nt19 hn0 hle h
theorem enter20 {args : List V} {H0 : Heap} {n0 : Nat} {k : KH} (hn0 : H0.length = n0) (hle : Nat.ble args.length 31 = true) (h : ∀ ob ib ic sb cat iu nt an be pk wr tn iN aN sN lN eN bt sub sl rn ofB mn dc dn sI X, Ax ob ib ic sb cat iu nt an be pk wr tn iN aN sN lN eN bt sub sl rn ofB mn dc dn sI → Cx.std Go.Proofs.Try.prog tab n0 {} = X → vc ⟨ob, ib, ic, sb, cat, iu, nt, an, be, pk, wr, tn, iN, aN, sN, lN, eN, bt, sub, sl, rn, ofB, mn, dc, dn, sI⟩ X c20 (RetK ⟨ob, ib, ic, sb, cat, iu, nt, an, be, pk, wr, tn, iN, aN, sN, lN, eN, bt, sub, sl, rn, ofB, mn, dc, dn, sI⟩ r20 fun v H => ∃ r H', k r H' ∧ IntoR n0 v H r H') (frame args 31) H0) : CALL Go.Proofs.Try.prog 20 args H0 k :=
  enter (tab := tab) (fun t ti h => tabOK t ti h) (by kernel_rfl) Go.Proofs.Try.func20 body20 comp20 (funcsOK.sub rfl) res20 nt20 hn0 hle h
theorem enter21 {args : List V} {H0 : Heap} {n0 : Nat} {k : KH} (hn0 : H0.length = n0) (hle : Nat.ble args.length 42 = true) (h : ∀ ob ib ic sb cat iu nt an be pk wr tn iN aN sN lN eN bt sub sl rn ofB mn dc dn sI X, Ax ob ib ic sb cat iu nt an be pk wr tn iN aN sN lN eN bt sub sl rn ofB mn dc dn sI → Cx.std Go.Proofs.Try.prog tab n0 {} = X → vc ⟨ob, ib, ic, sb, cat, iu, nt, an, be, pk, wr, tn, iN, aN, sN, lN, eN, bt, sub, sl, rn, ofB, mn, dc, dn, sI⟩ X c21 (RetK ⟨ob, ib, ic, sb, cat, iu, nt, an, be, pk, wr, tn, iN, aN, sN, lN, eN, bt, sub, sl, rn, ofB, mn, dc, dn, sI⟩ r21 fun v H => ∃ r H', k r H' ∧ IntoR n0 v H r H') (frame args 42) H0) : CALL Go.Proofs.Try.prog 21 args H0 k :=
  enter (tab := tab) (fun t ti h => tabOK t ti h) (by kernel_rfl) Go.Proofs.Try.func21 body21 comp21 (funcsOK.sub rfl) res21 nt21 hn0 hle h
theorem enter22 {args : List V} {H0 : Heap} {n0 : Nat} {k : KH} (hn0 : H0.length = n0) (hle : Nat.ble args.length 42 = true) (h : ∀ ob ib ic sb cat iu nt an be pk wr tn iN aN sN lN eN bt sub sl rn ofB mn dc dn sI X, Ax ob ib ic sb cat iu nt an be pk wr tn iN aN sN lN eN bt sub sl rn ofB mn dc dn sI → Cx.std Go.Proofs.Try.prog tab n0 {} = X → vc ⟨ob, ib, ic, sb, cat, iu, nt, an, be, pk, wr, tn, iN, aN, sN, lN, eN, bt, sub, sl, rn, ofB, mn, dc, dn, sI⟩ X c22 (RetK ⟨ob, ib, ic, sb, cat, iu, nt, an, be, pk, wr, tn, iN, aN, sN, lN, eN, bt, sub, sl, rn, ofB, mn, dc, dn, sI⟩ r22 fun v H => ∃ r H', k r H' ∧ IntoR n0 v H r H') (frame args 42) H0) : CALL Go.Proofs.Try.prog 22 args H0 k :=
  enter (tab := tab) (fun t ti h => tabOK t ti h) (by kernel_rfl) Go.Proofs.Try.func22 body22 comp22 (funcsOK.sub rfl) res22 nt22 hn0 hle h
theorem enter23 {args : List V} {H0 : Heap} {n0 : Nat} {k : KH} (hn0 : H0.length = n0) (hle : Nat.ble args.length 31 = true) (h : ∀ ob ib ic sb cat iu nt an be pk wr tn iN aN sN lN eN bt sub sl rn ofB mn dc dn sI X, Ax ob ib ic sb cat iu nt an be pk wr tn iN aN sN lN eN bt sub sl rn ofB mn dc dn sI → Cx.std Go.Proofs.Try.prog tab n0 {} = X → vc ⟨ob, ib, ic, sb, cat, iu, nt, an, be, pk, wr, tn, iN, aN, sN, lN, eN, bt, sub, sl, rn, ofB, mn, dc, dn, sI⟩ X c23 (RetK ⟨ob, ib, ic, sb, cat, iu, nt, an, be, pk, wr, tn, iN, aN, sN, lN, eN, bt, sub, sl, rn, ofB, mn, dc, dn, sI⟩ r23 fun v H => ∃ r H', k r H' ∧ IntoR n0 v H r H') (frame args 31) H0) : CALL Go.Proofs.Try.prog 23 args H0 k :=
  enter (tab := tab) (fun t ti h => tabOK t ti h) (by kernel_rfl) Go.Proofs.Try.func23 body23 comp23 (funcsOK.sub rfl) res23 nt23 hn0 hle h
theorem enter24 {args : List V} {H0 : Heap} {n0 : Nat} {k : KH} (hn0 : H0.length = n0) (hle : Nat.ble args.length 20 = true) (h : ∀ ob ib ic sb cat iu nt an be pk wr tn iN aN sN lN eN bt sub sl rn ofB mn dc dn sI X, Ax ob ib ic sb cat iu nt an be pk wr tn iN aN sN lN eN bt sub sl rn ofB mn dc dn sI → Cx.std Go.Proofs.Try.prog tab n0 {} = X → vc ⟨ob, ib, ic, sb, cat, iu, nt, an, be, pk, wr, tn, iN, aN, sN, lN, eN, bt, sub, sl, rn, ofB, mn, dc, dn, sI⟩ X c24 (RetK ⟨ob, ib, ic, sb, cat, iu, nt, an, be, pk, wr, tn, iN, aN, sN, lN, eN, bt, sub, sl, rn, ofB, mn, dc, dn, sI⟩ r24 fun v H => ∃ r H', k r H' ∧ IntoR n0 v H r H') (frame args 20) H0) : CALL Go.Proofs.Try.prog 24 args H0 k :=
  enter (tab := tab) (fun t ti h => tabOK t ti h) (by kernel_rfl) Go.Proofs.Try.func24 body24 comp24 (funcsOK.sub rfl) res24 nt24 hn0 hle h
theorem enter25 {args : List V} {H0 : Heap} {n0 : Nat} {k : KH} (hn0 : H0.length = n0) (hle : Nat.ble args.length 51 = true) (h : ∀ ob ib ic sb cat iu nt an be pk wr tn iN aN sN lN eN bt sub sl rn ofB mn dc dn sI X, Ax ob ib ic sb cat iu nt an be pk wr tn iN aN sN lN eN bt sub sl rn ofB mn dc dn sI → Cx.std Go.Proofs.Try.prog tab n0 {} = X → vc ⟨ob, ib, ic, sb, cat, iu, nt, an, be, pk, wr, tn, iN, aN, sN, lN, eN, bt, sub, sl, rn, ofB, mn, dc, dn, sI⟩ X c25 (RetK ⟨ob, ib, ic, sb, cat, iu, nt, an, be, pk, wr, tn, iN, aN, sN, lN, eN, bt, sub, sl, rn, ofB, mn, dc, dn, sI⟩ r25 fun v H => ∃ r H', k r H' ∧ IntoR n0 v H r H') (frame args 51) H0) : CALL Go.Proofs.Try.prog 25 args H0 k :=
  enter (tab := tab) (fun t ti h => tabOK t ti h) (by kernel_rfl) Go.Proofs.Try.func25 body25 comp25 (funcsOK.sub rfl) res25 nt25 hn0 hle h
theorem enter26 {args : List V} {H0 : Heap} {n0 : Nat} {k : KH} (hn0 : H0.length = n0) (hle : Nat.ble args.length 48 = true) (h : ∀ ob ib ic sb cat iu nt an be pk wr tn iN aN sN lN eN bt sub sl rn ofB mn dc dn sI X, Ax ob ib ic sb cat iu nt an be pk wr tn iN aN sN lN eN bt sub sl rn ofB mn dc dn sI → Cx.std Go.Proofs.Try.prog tab n0 {} = X → vc ⟨ob, ib, ic, sb, cat, iu, nt, an, be, pk, wr, tn, iN, aN, sN, lN, eN, bt, sub, sl, rn, ofB, mn, dc, dn, sI⟩ X c26 (RetK ⟨ob, ib, ic, sb, cat, iu, nt, an, be, pk, wr, tn, iN, aN, sN, lN, eN, bt, sub, sl, rn, ofB, mn, dc, dn, sI⟩ r26 fun v H => ∃ r H', k r H' ∧ IntoR n0 v H r H') (frame args 48) H0) : CALL Go.Proofs.Try.prog 26 args H0 k :=
  enter (tab := tab) (fun t ti h => tabOK t ti h) (by kernel_rfl) Go.Proofs.Try.func26 body26 comp26 (funcsOK.sub rfl) res26 nt26 hn0 hle h
theorem enter27 {args : List V} {H0 : Heap} {n0 : Nat} {k : KH} (hn0 : H0.length = n0) (hle : Nat.ble args.length 41 = true) (h : ∀ ob ib ic sb cat iu nt an be pk wr tn iN aN sN lN eN bt sub sl rn ofB mn dc dn sI X, Ax ob ib ic sb cat iu nt an be pk wr tn iN aN sN lN eN bt sub sl rn ofB mn dc dn sI → Cx.std Go.Proofs.Try.prog tab n0 {} = X → vc ⟨ob, ib, ic, sb, cat, iu, nt, an, be, pk, wr, tn, iN, aN, sN, lN, eN, bt, sub, sl, rn, ofB, mn, dc, dn, sI⟩ X c27 (RetK ⟨ob, ib, ic, sb, cat, iu, nt, an, be, pk, wr, tn, iN, aN, sN, lN, eN, bt, sub, sl, rn, ofB, mn, dc, dn, sI⟩ r27 fun v H => ∃ r H', k r H' ∧ IntoR n0 v H r H') (frame args 41) H0) : CALL Go.Proofs.Try.prog 27 args H0 k :=
  enter (tab := tab) (fun t ti h => tabOK t ti h) (by kernel_rfl) Go.Proofs.Try.func27 body27 comp27 (funcsOK.sub rfl) res27 nt27 hn0 hle h
theorem enter28 {args : List V} {H0 : Heap} {n0 : Nat} {k : KH} (hn0 : H0.length = n0) (hle : Nat.ble args.length 53 = true) (h : ∀ ob ib ic sb cat iu nt an be pk wr tn iN aN sN lN eN bt sub sl rn ofB mn dc dn sI X, Ax ob ib ic sb cat iu nt an be pk wr tn iN aN sN lN eN bt sub sl rn ofB mn dc dn sI → Cx.std Go.Proofs.Try.prog tab n0 {} = X → vc ⟨ob, ib, ic, sb, cat, iu, nt, an, be, pk, wr, tn, iN, aN, sN, lN, eN, bt, sub, sl, rn, ofB, mn, dc, dn, sI⟩ X c28 (RetK ⟨ob, ib, ic, sb, cat, iu, nt, an, be, pk, wr, tn, iN, aN, sN, lN, eN, bt, sub, sl, rn, ofB, mn, dc, dn, sI⟩ r28 fun v H => ∃ r H', k r H' ∧ IntoR n0 v H r H') (frame args 53) H0) : CALL Go.Proofs.Try.prog 28 args H0 k :=
  enter (tab := tab) (fun t ti h => tabOK t ti h) (by kernel_rfl) Go.Proofs.Try.func28 body28 comp28 (funcsOK.sub rfl) res28 nt28 hn0 hle h
theorem enter29 {args : List V} {H0 : Heap} {n0 : Nat} {k : KH} (hn0 : H0.length = n0) (hle : Nat.ble args.length 55 = true) (h : ∀ ob ib ic sb cat iu nt an be pk wr tn iN aN sN lN eN bt sub sl rn ofB mn dc dn sI X, Ax ob ib ic sb cat iu nt an be pk wr tn iN aN sN lN eN bt sub sl rn ofB mn dc dn sI → Cx.std Go.Proofs.Try.prog tab n0 {} = X → vc ⟨ob, ib, ic, sb, cat, iu, nt, an, be, pk, wr, tn, iN, aN, sN, lN, eN, bt, sub, sl, rn, ofB, mn, dc, dn, sI⟩ X c29 (RetK ⟨ob, ib, ic, sb, cat, iu, nt, an, be, pk, wr, tn, iN, aN, sN, lN, eN, bt, sub, sl, rn, ofB, mn, dc, dn, sI⟩ r29 fun v H => ∃ r H', k r H' ∧ IntoR n0 v H r H') (frame args 55) H0) : CALL Go.Proofs.Try.prog 29 args H0 k :=
  enter (tab := tab) (fun t ti h => tabOK t ti h) (by kernel_rfl) Go.Proofs.Try.func29 body29 comp29 (funcsOK.sub rfl) res29 nt29 hn0 hle h
theorem enter30 {args : List V} {H0 : Heap} {n0 : Nat} {k : KH} (hn0 : H0.length = n0) (hle : Nat.ble args.length 26 = true) (h : ∀ ob ib ic sb cat iu nt an be pk wr tn iN aN sN lN eN bt sub sl rn ofB mn dc dn sI X, Ax ob ib ic sb cat iu nt an be pk wr tn iN aN sN lN eN bt sub sl rn ofB mn dc dn sI → Cx.std Go.Proofs.Try.prog tab n0 {} = X → vc ⟨ob, ib, ic, sb, cat, iu, nt, an, be, pk, wr, tn, iN, aN, sN, lN, eN, bt, sub, sl, rn, ofB, mn, dc, dn, sI⟩ X c30 (RetK ⟨ob, ib, ic, sb, cat, iu, nt, an, be, pk, wr, tn, iN, aN, sN, lN, eN, bt, sub, sl, rn, ofB, mn, dc, dn, sI⟩ r30 fun v H => ∃ r H', k r H' ∧ IntoR n0 v H r H') (frame args 26) H0) : CALL Go.Proofs.Try.prog 30 args H0 k :=
  enter (tab := tab) (fun t ti h => tabOK t ti h) (by kernel_rfl) Go.Proofs.Try.func30 body30 comp30 (funcsOK.sub rfl) res30 nt30 hn0 hle h
theorem enter31 {args : List V} {H0 : Heap} {n0 : Nat} {k : KH} (hn0 : H0.length = n0) (hle : Nat.ble args.length 18 = true) (h : ∀ ob ib ic sb cat iu nt an be pk wr tn iN aN sN lN eN bt sub sl rn ofB mn dc dn sI X, Ax ob ib ic sb cat iu nt an be pk wr tn iN aN sN lN eN bt sub sl rn ofB mn dc dn sI → Cx.std Go.Proofs.Try.prog tab n0 {} = X → vc ⟨ob, ib, ic, sb, cat, iu, nt, an, be, pk, wr, tn, iN, aN, sN, lN, eN, bt, sub, sl, rn, ofB, mn, dc, dn, sI⟩ X c31 (RetK ⟨ob, ib, ic, sb, cat, iu, nt, an, be, pk, wr, tn, iN, aN, sN, lN, eN, bt, sub, sl, rn, ofB, mn, dc, dn, sI⟩ r31 fun v H => ∃ r H', k r H' ∧ IntoR n0 v H r H') (frame args 18) H0) : CALL Go.Proofs.Try.prog 31 args H0 k :=
  enter (tab := tab) (fun t ti h => tabOK t ti h) (by kernel_rfl) Go.Proofs.Try.func31 body31 comp31 (funcsOK.sub rfl) res31 nt31 hn0 hle h
theorem enter32 {args : List V} {H0 : Heap} {n0 : Nat} {k : KH} (hn0 : H0.length = n0) (hle : Nat.ble args.length 20 = true) (h : ∀ ob ib ic sb cat iu nt an be pk wr tn iN aN sN lN eN bt sub sl rn ofB mn dc dn sI X, Ax ob ib ic sb cat iu nt an be pk wr tn iN aN sN lN eN bt sub sl rn ofB mn dc dn sI → Cx.std Go.Proofs.Try.prog tab n0 {} = X → vc ⟨ob, ib, ic, sb, cat, iu, nt, an, be, pk, wr, tn, iN, aN, sN, lN, eN, bt, sub, sl, rn, ofB, mn, dc, dn, sI⟩ X c32 (RetK ⟨ob, ib, ic, sb, cat, iu, nt, an, be, pk, wr, tn, iN, aN, sN, lN, eN, bt, sub, sl, rn, ofB, mn, dc, dn, sI⟩ r32 fun v H => ∃ r H', k r H' ∧ IntoR n0 v H r H') (frame args 20) H0) : CALL Go.Proofs.Try.prog 32 args H0 k :=
  enter (tab := tab) (fun t ti h => tabOK t ti h) (by kernel_rfl) Go.Proofs.Try.func32 body32 comp32 (funcsOK.sub rfl) res32 nt32 hn0 hle h
theorem enter33 {args : List V} {H0 : Heap} {n0 : Nat} {k : KH} (hn0 : H0.length = n0) (hle : Nat.ble args.length 19 = true) (h : ∀ ob ib ic sb cat iu nt an be pk wr tn iN aN sN lN eN bt sub sl rn ofB mn dc dn sI X, Ax ob ib ic sb cat iu nt an be pk wr tn iN aN sN lN eN bt sub sl rn ofB mn dc dn sI → Cx.std Go.Proofs.Try.prog tab n0 {} = X → vc ⟨ob, ib, ic, sb, cat, iu, nt, an, be, pk, wr, tn, iN, aN, sN, lN, eN, bt, sub, sl, rn, ofB, mn, dc, dn, sI⟩ X c33 (RetK ⟨ob, ib, ic, sb, cat, iu, nt, an, be, pk, wr, tn, iN, aN, sN, lN, eN, bt, sub, sl, rn, ofB, mn, dc, dn, sI⟩ r33 fun v H => ∃ r H', k r H' ∧ IntoR n0 v H r H') (frame args 19) H0) : CALL Go.Proofs.Try.prog 33 args H0 k :=
  enter (tab := tab) (fun t ti h => tabOK t ti h) (by kernel_rfl) Go.Proofs.Try.func33 body33 comp33 (funcsOK.sub rfl) res33 nt33 hn0 hle h
theorem enter34 {args : List V} {H0 : Heap} {n0 : Nat} {k : KH} (hn0 : H0.length = n0) (hle : Nat.ble args.length 11 = true) (h : ∀ ob ib ic sb cat iu nt an be pk wr tn iN aN sN lN eN bt sub sl rn ofB mn dc dn sI X, Ax ob ib ic sb cat iu nt an be pk wr tn iN aN sN lN eN bt sub sl rn ofB mn dc dn sI → Cx.std Go.Proofs.Try.prog tab n0 {} = X → vc ⟨ob, ib, ic, sb, cat, iu, nt, an, be, pk, wr, tn, iN, aN, sN, lN, eN, bt, sub, sl, rn, ofB, mn, dc, dn, sI⟩ X c34 (RetK ⟨ob, ib, ic, sb, cat, iu, nt, an, be, pk, wr, tn, iN, aN, sN, lN, eN, bt, sub, sl, rn, ofB, mn, dc, dn, sI⟩ r34 fun v H => ∃ r H', k r H' ∧ IntoR n0 v H r H') (frame args 11) H0) : CALL Go.Proofs.Try.prog 34 args H0 k :=
  enter (tab := tab) (fun t ti h => tabOK t ti h) (by kernel_rfl) Go.Proofs.Try.func34 body34 comp34 (funcsOK.sub rfl) res34 nt34 hn0 hle h
theorem enter35 {args : List V} {H0 : Heap} {n0 : Nat} {k : KH} (hn0 : H0.length = n0) (hle : Nat.ble args.length 31 = true) (h : ∀ ob ib ic sb cat iu nt an be pk wr tn iN aN sN lN eN bt sub sl rn ofB mn dc dn sI X, Ax ob ib ic sb cat iu nt an be pk wr tn iN aN sN lN eN bt sub sl rn ofB mn dc dn sI → Cx.std Go.Proofs.Try.prog tab n0 {} = X → vc ⟨ob, ib, ic, sb, cat, iu, nt, an, be, pk, wr, tn, iN, aN, sN, lN, eN, bt, sub, sl, rn, ofB, mn, dc, dn, sI⟩ X c35 (RetK ⟨ob, ib, ic, sb, cat, iu, nt, an, be, pk, wr, tn, iN, aN, sN, lN, eN, bt, sub, sl, rn, ofB, mn, dc, dn, sI⟩ r35 fun v H => ∃ r H', k r H' ∧ IntoR n0 v H r H') (frame args 31) H0) : CALL Go.Proofs.Try.prog 35 args H0 k :=
  enter (tab := tab) (fun t ti h => tabOK t ti h) (by kernel_rfl) Go.Proofs.Try.func35 body35 comp35 (funcsOK.sub rfl) res35 nt35 hn0 hle h
theorem enter36 {args : List V} {H0 : Heap} {n0 : Nat} {k : KH} (hn0 : H0.length = n0) (hle : Nat.ble args.length 36 = true) (h : ∀ ob ib ic sb cat iu nt an be pk wr tn iN aN sN lN eN bt sub sl rn ofB mn dc dn sI X, Ax ob ib ic sb cat iu nt an be pk wr tn iN aN sN lN eN bt sub sl rn ofB mn dc dn sI → Cx.std Go.Proofs.Try.prog tab n0 {} = X → vc ⟨ob, ib, ic, sb, cat, iu, nt, an, be, pk, wr, tn, iN, aN, sN, lN, eN, bt, sub, sl, rn, ofB, mn, dc, dn, sI⟩ X c36 (RetK ⟨ob, ib, ic, sb, cat, iu, nt, an, be, pk, wr, tn, iN, aN, sN, lN, eN, bt, sub, sl, rn, ofB, mn, dc, dn, sI⟩ r36 fun v H => ∃ r H', k r H' ∧ IntoR n0 v H r H') (frame args 36) H0) : CALL Go.Proofs.Try.prog 36 args H0 k :=
  enter (tab := tab) (fun t ti h => tabOK t ti h) (by kernel_rfl) Go.Proofs.Try.func36 body36 comp36 (funcsOK.sub rfl) res36 nt36 hn0 hle h
theorem enter37 {args : List V} {H0 : Heap} {n0 : Nat} {k : KH} (hn0 : H0.length = n0) (hle : Nat.ble args.length 62 = true) (h : ∀ ob ib ic sb cat iu nt an be pk wr tn iN aN sN lN eN bt sub sl rn ofB mn dc dn sI X, Ax ob ib ic sb cat iu nt an be pk wr tn iN aN sN lN eN bt sub sl rn ofB mn dc dn sI → Cx.std Go.Proofs.Try.prog tab n0 {} = X → vc ⟨ob, ib, ic, sb, cat, iu, nt, an, be, pk, wr, tn, iN, aN, sN, lN, eN, bt, sub, sl, rn, ofB, mn, dc, dn, sI⟩ X c37 (RetK ⟨ob, ib, ic, sb, cat, iu, nt, an, be, pk, wr, tn, iN, aN, sN, lN, eN, bt, sub, sl, rn, ofB, mn, dc, dn, sI⟩ r37 fun v H => ∃ r H', k r H' ∧ IntoR n0 v H r H') (frame args 62) H0) : CALL Go.Proofs.Try.prog 37 args H0 k :=
  enter (tab := tab) (fun t ti h => tabOK t ti h) (by kernel_rfl) Go.Proofs.Try.func37 body37 comp37 (funcsOK.sub rfl) res37 nt37 hn0 hle h
theorem enter38 {args : List V} {H0 : Heap} {n0 : Nat} {k : KH} (hn0 : H0.length = n0) (hle : Nat.ble args.length 65 = true) (h : ∀ ob ib ic sb cat iu nt an be pk wr tn iN aN sN lN eN bt sub sl rn ofB mn dc dn sI X, Ax ob ib ic sb cat iu nt an be pk wr tn iN aN sN lN eN bt sub sl rn ofB mn dc dn sI → Cx.std Go.Proofs.Try.prog tab n0 {} = X → vc ⟨ob, ib, ic, sb, cat, iu, nt, an, be, pk, wr, tn, iN, aN, sN, lN, eN, bt, sub, sl, rn, ofB, mn, dc, dn, sI⟩ X c38 (RetK ⟨ob, ib, ic, sb, cat, iu, nt, an, be, pk, wr, tn, iN, aN, sN, lN, eN, bt, sub, sl, rn, ofB, mn, dc, dn, sI⟩ r38 fun v H => ∃ r H', k r H' ∧ IntoR n0 v H r H') (frame args 65) H0) : CALL Go.Proofs.Try.prog 38 args H0 k :=
  enter (tab := tab) (fun t ti h => tabOK t ti h) (by kernel_rfl) Go.Proofs.Try.func38 body38 comp38 (funcsOK.sub rfl) res38 nt38 hn0 hle h
theorem enter46 {args : List V} {H0 : Heap} {n0 : Nat} {k : KH} (hn0 : H0.length = n0) (hle : Nat.ble args.length 13 = true) (h : ∀ ob ib ic sb cat iu nt an be pk wr tn iN aN sN lN eN bt sub sl rn ofB mn dc dn sI X, Ax ob ib ic sb cat iu nt an be pk wr tn iN aN sN lN eN bt sub sl rn ofB mn dc dn sI → Cx.std Go.Proofs.Try.prog tab n0 {} = X → vc ⟨ob, ib, ic, sb, cat, iu, nt, an, be, pk, wr, tn, iN, aN, sN, lN, eN, bt, sub, sl, rn, ofB, mn, dc, dn, sI⟩ X c46 (RetK ⟨ob, ib, ic, sb, cat, iu, nt, an, be, pk, wr, tn, iN, aN, sN, lN, eN, bt, sub, sl, rn, ofB, mn, dc, dn, sI⟩ r46 fun v H => ∃ r H', k r H' ∧ IntoR n0 v H r H') (frame args 13) H0) : CALL Go.Proofs.Try.prog 46 args H0 k :=
  enter (tab := tab) (fun t ti h => tabOK t ti h) (by kernel_rfl) Go.Proofs.Try.func46 body46 comp46 (funcsOK.sub rfl) res46 nt46 hn0 hle h
theorem enter47 {args : List V} {H0 : Heap} {n0 : Nat} {k : KH} (hn0 : H0.length = n0) (hle : Nat.ble args.length 11 = true) (h : ∀ ob ib ic sb cat iu nt an be pk wr tn iN aN sN lN eN bt sub sl rn ofB mn dc dn sI X, Ax ob ib ic sb cat iu nt an be pk wr tn iN aN sN lN eN bt sub sl rn ofB mn dc dn sI → Cx.std Go.Proofs.Try.prog tab n0 {} = X → vc ⟨ob, ib, ic, sb, cat, iu, nt, an, be, pk, wr, tn, iN, aN, sN, lN, eN, bt, sub, sl, rn, ofB, mn, dc, dn, sI⟩ X c47 (RetK ⟨ob, ib, ic, sb, cat, iu, nt, an, be, pk, wr, tn, iN, aN, sN, lN, eN, bt, sub, sl, rn, ofB, mn, dc, dn, sI⟩ r47 fun v H => ∃ r H', k r H' ∧ IntoR n0 v H r H') (frame args 11) H0) : CALL Go.Proofs.Try.prog 47 args H0 k :=
  enter (tab := tab) (fun t ti h => tabOK t ti h) (by kernel_rfl) Go.Proofs.Try.func47 body47 comp47 (funcsOK.sub rfl) res47 nt47 hn0 hle h
theorem enter48 {args : List V} {H0 : Heap} {n0 : Nat} {k : KH} (hn0 : H0.length = n0) (hle : Nat.ble args.length 9 = true) (h : ∀ ob ib ic sb cat iu nt an be pk wr tn iN aN sN lN eN bt sub sl rn ofB mn dc dn sI X, Ax ob ib ic sb cat iu nt an be pk wr tn iN aN sN lN eN bt sub sl rn ofB mn dc dn sI → Cx.std Go.Proofs.Try.prog tab n0 {} = X → vc ⟨ob, ib, ic, sb, cat, iu, nt, an, be, pk, wr, tn, iN, aN, sN, lN, eN, bt, sub, sl, rn, ofB, mn, dc, dn, sI⟩ X c48 (RetK ⟨ob, ib, ic, sb, cat, iu, nt, an, be, pk, wr, tn, iN, aN, sN, lN, eN, bt, sub, sl, rn, ofB, mn, dc, dn, sI⟩ r48 fun v H => ∃ r H', k r H' ∧ IntoR n0 v H r H') (frame args 9) H0) : CALL Go.Proofs.Try.prog 48 args H0 k :=
  enter (tab := tab) (fun t ti h => tabOK t ti h) (by kernel_rfl) Go.Proofs.Try.func48 body48 comp48 (funcsOK.sub rfl) res48 nt48 hn0 hle h
theorem enter49 {args : List V} {H0 : Heap} {n0 : Nat} {k : KH} (hn0 : H0.length = n0) (hle : Nat.ble args.length 8 = true) (h : ∀ ob ib ic sb cat iu nt an be pk wr tn iN aN sN lN eN bt sub sl rn ofB mn dc dn sI X, Ax ob ib ic sb cat iu nt an be pk wr tn iN aN sN lN eN bt sub sl rn ofB mn dc dn sI → Cx.std Go.Proofs.Try.prog tab n0 {} = X → vc ⟨ob, ib, ic, sb, cat, iu, nt, an, be, pk, wr, tn, iN, aN, sN, lN, eN, bt, sub, sl, rn, ofB, mn, dc, dn, sI⟩ X c49 (RetK ⟨ob, ib, ic, sb, cat, iu, nt, an, be, pk, wr, tn, iN, aN, sN, lN, eN, bt, sub, sl, rn, ofB, mn, dc, dn, sI⟩ r49 fun v H => ∃ r H', k r H' ∧ IntoR n0 v H r H') (frame args 8) H0) : CALL Go.Proofs.Try.prog 49 args H0 k :=
  enter (tab := tab) (fun t ti h => tabOK t ti h) (by kernel_rfl) Go.Proofs.Try.func49 body49 comp49 (funcsOK.sub rfl) res49 nt49 hn0 hle h
theorem enter50 {args : List V} {H0 : Heap} {n0 : Nat} {k : KH} (hn0 : H0.length = n0) (hle : Nat.ble args.length 95 = true) (h : ∀ ob ib ic sb cat iu nt an be pk wr tn iN aN sN lN eN bt sub sl rn ofB mn dc dn sI X, Ax ob ib ic sb cat iu nt an be pk wr tn iN aN sN lN eN bt sub sl rn ofB mn dc dn sI → Cx.std Go.Proofs.Try.prog tab n0 {} = X → vc ⟨ob, ib, ic, sb, cat, iu, nt, an, be, pk, wr, tn, iN, aN, sN, lN, eN, bt, sub, sl, rn, ofB, mn, dc, dn, sI⟩ X c50 (RetK ⟨ob, ib, ic, sb, cat, iu, nt, an, be, pk, wr, tn, iN, aN, sN, lN, eN, bt, sub, sl, rn, ofB, mn, dc, dn, sI⟩ r50 fun v H => ∃ r H', k r H' ∧ IntoR n0 v H r H') (frame args 95) H0) : CALL Go.Proofs.Try.prog 50 args H0 k :=
  enter (tab := tab) (fun t ti h => tabOK t ti h) (by kernel_rfl) Go.Proofs.Try.func50 body50 comp50 (funcsOK.sub rfl) res50 nt50 hn0 hle h
theorem enter51 {args : List V} {H0 : Heap} {n0 : Nat} {k : KH} (hn0 : H0.length = n0) (hle : Nat.ble args.length 8 = true) (h : ∀ ob ib ic sb cat iu nt an be pk wr tn iN aN sN lN eN bt sub sl rn ofB mn dc dn sI X, Ax ob ib ic sb cat iu nt an be pk wr tn iN aN sN lN eN bt sub sl rn ofB mn dc dn sI → Cx.std Go.Proofs.Try.prog tab n0 {} = X → vc ⟨ob, ib, ic, sb, cat, iu, nt, an, be, pk, wr, tn, iN, aN, sN, lN, eN, bt, sub, sl, rn, ofB, mn, dc, dn, sI⟩ X c51 (RetK ⟨ob, ib, ic, sb, cat, iu, nt, an, be, pk, wr, tn, iN, aN, sN, lN, eN, bt, sub, sl, rn, ofB, mn, dc, dn, sI⟩ r51 fun v H => ∃ r H', k r H' ∧ IntoR n0 v H r H') (frame args 8) H0) : CALL Go.Proofs.Try.prog 51 args H0 k :=
  enter (tab := tab) (fun t ti h => tabOK t ti h) (by kernel_rfl) Go.Proofs.Try.func51 body51 comp51 (funcsOK.sub rfl) res51 nt51 hn0 hle h
theorem enter52 {args : List V} {H0 : Heap} {n0 : Nat} {k : KH} (hn0 : H0.length = n0) (hle : Nat.ble args.length 44 = true) (h : ∀ ob ib ic sb cat iu nt an be pk wr tn iN aN sN lN eN bt sub sl rn ofB mn dc dn sI X, Ax ob ib ic sb cat iu nt an be pk wr tn iN aN sN lN eN bt sub sl rn ofB mn dc dn sI → Cx.std Go.Proofs.Try.prog tab n0 {} = X → vc ⟨ob, ib, ic, sb, cat, iu, nt, an, be, pk, wr, tn, iN, aN, sN, lN, eN, bt, sub, sl, rn, ofB, mn, dc, dn, sI⟩ X c52 (RetK ⟨ob, ib, ic, sb, cat, iu, nt, an, be, pk, wr, tn, iN, aN, sN, lN, eN, bt, sub, sl, rn, ofB, mn, dc, dn, sI⟩ r52 fun v H => ∃ r H', k r H' ∧ IntoR n0 v H r H') (frame args 44) H0) : CALL Go.Proofs.Try.prog 52 args H0 k :=
  enter (tab := tab) (fun t ti h => tabOK t ti h) (by kernel_rfl) Go.Proofs.Try.func52 body52 comp52 (funcsOK.sub rfl) res52 nt52 hn0 hle h
theorem enter53 {args : List V} {H0 : Heap} {n0 : Nat} {k : KH} (hn0 : H0.length = n0) (hle : Nat.ble args.length 33 = true) (h : ∀ ob ib ic sb cat iu nt an be pk wr tn iN aN sN lN eN bt sub sl rn ofB mn dc dn sI X, Ax ob ib ic sb cat iu nt an be pk wr tn iN aN sN lN eN bt sub sl rn ofB mn dc dn sI → Cx.std Go.Proofs.Try.prog ⟨lookT rows, [26], wildW, [73]⟩ n0 {} = X → vc ⟨ob, ib, ic, sb, cat, iu, nt, an, be, pk, wr, tn, iN, aN, sN, lN, eN, bt, sub, sl, rn, ofB, mn, dc, dn, sI⟩ X c53 (RetK ⟨ob, ib, ic, sb, cat, iu, nt, an, be, pk, wr, tn, iN, aN, sN, lN, eN, bt, sub, sl, rn, ofB, mn, dc, dn, sI⟩ r53 fun v H => ∃ r H', k r H' ∧ IntoR n0 v H r H') (frame args 33) H0) : CALL Go.Proofs.Try.prog 53 args H0 k :=
  enter (tab := ⟨lookT rows, [26], wildW, [73]⟩) (fun t ti h => tabOK t ti h) (by kernel_rfl) Go.Proofs.Try.func53 body53 comp53 (funcsOK.sub rfl) res53 nt53 hn0 hle h
theorem enter54 {args : List V} {H0 : Heap} {n0 : Nat} {k : KH} (hn0 : H0.length = n0) (hle : Nat.ble args.length 28 = true) (h : ∀ ob ib ic sb cat iu nt an be pk wr tn iN aN sN lN eN bt sub sl rn ofB mn dc dn sI X, Ax ob ib ic sb cat iu nt an be pk wr tn iN aN sN lN eN bt sub sl rn ofB mn dc dn sI → Cx.std Go.Proofs.Try.prog tab n0 {} = X → vc ⟨ob, ib, ic, sb, cat, iu, nt, an, be, pk, wr, tn, iN, aN, sN, lN, eN, bt, sub, sl, rn, ofB, mn, dc, dn, sI⟩ X c54 (RetK ⟨ob, ib, ic, sb, cat, iu, nt, an, be, pk, wr, tn, iN, aN, sN, lN, eN, bt, sub, sl, rn, ofB, mn, dc, dn, sI⟩ r54 fun v H => ∃ r H', k r H' ∧ IntoR n0 v H r H') (frame args 28) H0) : CALL Go.Proofs.Try.prog 54 args H0 k :=
  enter (tab := tab) (fun t ti h => tabOK t ti h) (by kernel_rfl) Go.Proofs.Try.func54 body54 comp54 (funcsOK.sub rfl) res54 nt54 hn0 hle h
theorem enter55 {args : List V} {H0 : Heap} {n0 : Nat} {k : KH} (hn0 : H0.length = n0) (hle : Nat.ble args.length 19 = true) (h : ∀ ob ib ic sb cat iu nt an be pk wr tn iN aN sN lN eN bt sub sl rn ofB mn dc dn sI X, Ax ob ib ic sb cat iu nt an be pk wr tn iN aN sN lN eN bt sub sl rn ofB mn dc dn sI → Cx.std Go.Proofs.Try.prog tab n0 {} = X → vc ⟨ob, ib, ic, sb, cat, iu, nt, an, be, pk, wr, tn, iN, aN, sN, lN, eN, bt, sub, sl, rn, ofB, mn, dc, dn, sI⟩ X c55 (RetK ⟨ob, ib, ic, sb, cat, iu, nt, an, be, pk, wr, tn, iN, aN, sN, lN, eN, bt, sub, sl, rn, ofB, mn, dc, dn, sI⟩ r55 fun v H => ∃ r H', k r H' ∧ IntoR n0 v H r H') (frame args 19) H0) : CALL Go.Proofs.Try.prog 55 args H0 k :=
  enter (tab := tab) (fun t ti h => tabOK t ti h) (by kernel_rfl) Go.Proofs.Try.func55 body55 comp55 (funcsOK.sub rfl) res55 nt55 hn0 hle h
theorem enter56 {args : List V} {H0 : Heap} {n0 : Nat} {k : KH} (hn0 : H0.length = n0) (hle : Nat.ble args.length 9 = true) (h : ∀ ob ib ic sb cat iu nt an be pk wr tn iN aN sN lN eN bt sub sl rn ofB mn dc dn sI X, Ax ob ib ic sb cat iu nt an be pk wr tn iN aN sN lN eN bt sub sl rn ofB mn dc dn sI → Cx.std Go.Proofs.Try.prog tab n0 {} = X → vc ⟨ob, ib, ic, sb, cat, iu, nt, an, be, pk, wr, tn, iN, aN, sN, lN, eN, bt, sub, sl, rn, ofB, mn, dc, dn, sI⟩ X c56 (RetK ⟨ob, ib, ic, sb, cat, iu, nt, an, be, pk, wr, tn, iN, aN, sN, lN, eN, bt, sub, sl, rn, ofB, mn, dc, dn, sI⟩ r56 fun v H => ∃ r H', k r H' ∧ IntoR n0 v H r H') (frame args 9) H0) : CALL Go.Proofs.Try.prog 56 args H0 k :=
  enter (tab := tab) (fun t ti h => tabOK t ti h) (by kernel_rfl) Go.Proofs.Try.func56 body56 comp56 (funcsOK.sub rfl) res56 nt56 hn0 hle h
theorem enter57 {args : List V} {H0 : Heap} {n0 : Nat} {k : KH} (hn0 : H0.length = n0) (hle : Nat.ble args.length 30 = true) (h : ∀ ob ib ic sb cat iu nt an be pk wr tn iN aN sN lN eN bt sub sl rn ofB mn dc dn sI X, Ax ob ib ic sb cat iu nt an be pk wr tn iN aN sN lN eN bt sub sl rn ofB mn dc dn sI → Cx.std Go.Proofs.Try.prog tab n0 {} = X → vc ⟨ob, ib, ic, sb, cat, iu, nt, an, be, pk, wr, tn, iN, aN, sN, lN, eN, bt, sub, sl, rn, ofB, mn, dc, dn, sI⟩ X c57 (RetK ⟨ob, ib, ic, sb, cat, iu, nt, an, be, pk, wr, tn, iN, aN, sN, lN, eN, bt, sub, sl, rn, ofB, mn, dc, dn, sI⟩ r57 fun v H => ∃ r H', k r H' ∧ IntoR n0 v H r H') (frame args 30) H0) : CALL Go.Proofs.Try.prog 57 args H0 k :=
  enter (tab := tab) (fun t ti h => tabOK t ti h) (by kernel_rfl) Go.Proofs.Try.func57 body57 comp57 (funcsOK.sub rfl) res57 nt57 hn0 hle h
theorem enter58 {args : List V} {H0 : Heap} {n0 : Nat} {k : KH} (hn0 : H0.length = n0) (hle : Nat.ble args.length 22 = true) (h : ∀ ob ib ic sb cat iu nt an be pk wr tn iN aN sN lN eN bt sub sl rn ofB mn dc dn sI X, Ax ob ib ic sb cat iu nt an be pk wr tn iN aN sN lN eN bt sub sl rn ofB mn dc dn sI → Cx.std Go.Proofs.Try.prog tab n0 {} = X → vc ⟨ob, ib, ic, sb, cat, iu, nt, an, be, pk, wr, tn, iN, aN, sN, lN, eN, bt, sub, sl, rn, ofB, mn, dc, dn, sI⟩ X c58 (RetK ⟨ob, ib, ic, sb, cat, iu, nt, an, be, pk, wr, tn, iN, aN, sN, lN, eN, bt, sub, sl, rn, ofB, mn, dc, dn, sI⟩ r58 fun v H => ∃ r H', k r H' ∧ IntoR n0 v H r H') (frame args 22) H0) : CALL Go.Proofs.Try.prog 58 args H0 k :=
  enter (tab := tab) (fun t ti h => tabOK t ti h) (by kernel_rfl) Go.Proofs.Try.func58 body58 comp58 (funcsOK.sub rfl) res58 nt58 hn0 hle h
theorem enter59 {args : List V} {H0 : Heap} {n0 : Nat} {k : KH} (hn0 : H0.length = n0) (hle : Nat.ble args.length 63 = true) (h : ∀ ob ib ic sb cat iu nt an be pk wr tn iN aN sN lN eN bt sub sl rn ofB mn dc dn sI X, Ax ob ib ic sb cat iu nt an be pk wr tn iN aN sN lN eN bt sub sl rn ofB mn dc dn sI → Cx.std Go.Proofs.Try.prog tab n0 {} = X → vc ⟨ob, ib, ic, sb, cat, iu, nt, an, be, pk, wr, tn, iN, aN, sN, lN, eN, bt, sub, sl, rn, ofB, mn, dc, dn, sI⟩ X c59 (RetK ⟨ob, ib, ic, sb, cat, iu, nt, an, be, pk, wr, tn, iN, aN, sN, lN, eN, bt, sub, sl, rn, ofB, mn, dc, dn, sI⟩ r59 fun v H => ∃ r H', k r H' ∧ IntoR n0 v H r H') (frame args 63) H0) : CALL Go.Proofs.Try.prog 59 args H0 k :=
  enter (tab := tab) (fun t ti h => tabOK t ti h) (by kernel_rfl) Go.Proofs.Try.func59 body59 comp59 (funcsOK.sub rfl) res59 nt59 hn0 hle h
theorem enter60 {args : List V} {H0 : Heap} {n0 : Nat} {k : KH} (hn0 : H0.length = n0) (hle : Nat.ble args.length 41 = true) (h : ∀ ob ib ic sb cat iu nt an be pk wr tn iN aN sN lN eN bt sub sl rn ofB mn dc dn sI X, Ax ob ib ic sb cat iu nt an be pk wr tn iN aN sN lN eN bt sub sl rn ofB mn dc dn sI → Cx.std Go.Proofs.Try.prog tab n0 {} = X → vc ⟨ob, ib, ic, sb, cat, iu, nt, an, be, pk, wr, tn, iN, aN, sN, lN, eN, bt, sub, sl, rn, ofB, mn, dc, dn, sI⟩ X c60 (RetK ⟨ob, ib, ic, sb, cat, iu, nt, an, be, pk, wr, tn, iN, aN, sN, lN, eN, bt, sub, sl, rn, ofB, mn, dc, dn, sI⟩ r60 fun v H => ∃ r H', k r H' ∧ IntoR n0 v H r H') (frame args 41) H0) : CALL Go.Proofs.Try.prog 60 args H0 k :=
  enter (tab := tab) (fun t ti h => tabOK t ti h) (by kernel_rfl) Go.Proofs.Try.func60 body60 comp60 (funcsOK.sub rfl) res60 nt60 hn0 hle h
theorem enter61 {args : List V} {H0 : Heap} {n0 : Nat} {k : KH} (hn0 : H0.length = n0) (hle : Nat.ble args.length 77 = true) (h : ∀ ob ib ic sb cat iu nt an be pk wr tn iN aN sN lN eN bt sub sl rn ofB mn dc dn sI X, Ax ob ib ic sb cat iu nt an be pk wr tn iN aN sN lN eN bt sub sl rn ofB mn dc dn sI → Cx.std Go.Proofs.Try.prog tab n0 {} = X → vc ⟨ob, ib, ic, sb, cat, iu, nt, an, be, pk, wr, tn, iN, aN, sN, lN, eN, bt, sub, sl, rn, ofB, mn, dc, dn, sI⟩ X c61 (RetK ⟨ob, ib, ic, sb, cat, iu, nt, an, be, pk, wr, tn, iN, aN, sN, lN, eN, bt, sub, sl, rn, ofB, mn, dc, dn, sI⟩ r61 fun v H => ∃ r H', k r H' ∧ IntoR n0 v H r H') (frame args 77) H0) : CALL Go.Proofs.Try.prog 61 args H0 k :=
  enter (tab := tab) (fun t ti h => tabOK t ti h) (by kernel_rfl) Go.Proofs.Try.func61 body61 comp61 (funcsOK.sub rfl) res61 nt61 hn0 hle h
theorem enter62 {args : List V} {H0 : Heap} {n0 : Nat} {k : KH} (hn0 : H0.length = n0) (hle : Nat.ble args.length 48 = true) (h : ∀ ob ib ic sb cat iu nt an be pk wr tn iN aN sN lN eN bt sub sl rn ofB mn dc dn sI X, Ax ob ib ic sb cat iu nt an be pk wr tn iN aN sN lN eN bt sub sl rn ofB mn dc dn sI → Cx.std Go.Proofs.Try.prog tab n0 {} = X → vc ⟨ob, ib, ic, sb, cat, iu, nt, an, be, pk, wr, tn, iN, aN, sN, lN, eN, bt, sub, sl, rn, ofB, mn, dc, dn, sI⟩ X c62 (RetK ⟨ob, ib, ic, sb, cat, iu, nt, an, be, pk, wr, tn, iN, aN, sN, lN, eN, bt, sub, sl, rn, ofB, mn, dc, dn, sI⟩ r62 fun v H => ∃ r H', k r H' ∧ IntoR n0 v H r H') (frame args 48) H0) : CALL Go.Proofs.Try.prog 62 args H0 k :=
  enter (tab := tab) (fun t ti h => tabOK t ti h) (by kernel_rfl) Go.Proofs.Try.func62 body62 comp62 (funcsOK.sub rfl) res62 nt62 hn0 hle h
theorem enter69 {args : List V} {H0 : Heap} {n0 : Nat} {k : KH} (hn0 : H0.length = n0) (hle : Nat.ble args.length 49 = true) (h : ∀ ob ib ic sb cat iu nt an be pk wr tn iN aN sN lN eN bt sub sl rn ofB mn dc dn sI X, Ax ob ib ic sb cat iu nt an be pk wr tn iN aN sN lN eN bt sub sl rn ofB mn dc dn sI → Cx.std Go.Proofs.Try.prog tab n0 {} = X → vc ⟨ob, ib, ic, sb, cat, iu, nt, an, be, pk, wr, tn, iN, aN, sN, lN, eN, bt, sub, sl, rn, ofB, mn, dc, dn, sI⟩ X c69 (RetK ⟨ob, ib, ic, sb, cat, iu, nt, an, be, pk, wr, tn, iN, aN, sN, lN, eN, bt, sub, sl, rn, ofB, mn, dc, dn, sI⟩ r69 fun v H => ∃ r H', k r H' ∧ IntoR n0 v H r H') (frame args 49) H0) : CALL Go.Proofs.Try.prog 69 args H0 k :=
  enter (tab := tab) (fun t ti h => tabOK t ti h) (by kernel_rfl) Go.Proofs.Try.func69 body69 comp69 (funcsOK.sub rfl) res69 nt69 hn0 hle h
theorem enter70 {args : List V} {H0 : Heap} {n0 : Nat} {k : KH} (hn0 : H0.length = n0) (hle : Nat.ble args.length 9 = true) (h : ∀ ob ib ic sb cat iu nt an be pk wr tn iN aN sN lN eN bt sub sl rn ofB mn dc dn sI X, Ax ob ib ic sb cat iu nt an be pk wr tn iN aN sN lN eN bt sub sl rn ofB mn dc dn sI → Cx.std Go.Proofs.Try.prog tab n0 {} = X → vc ⟨ob, ib, ic, sb, cat, iu, nt, an, be, pk, wr, tn, iN, aN, sN, lN, eN, bt, sub, sl, rn, ofB, mn, dc, dn, sI⟩ X c70 (RetK ⟨ob, ib, ic, sb, cat, iu, nt, an, be, pk, wr, tn, iN, aN, sN, lN, eN, bt, sub, sl, rn, ofB, mn, dc, dn, sI⟩ r70 fun v H => ∃ r H', k r H' ∧ IntoR n0 v H r H') (frame args 9) H0) : CALL Go.Proofs.Try.prog 70 args H0 k :=
  enter (tab := tab) (fun t ti h => tabOK t ti h) (by kernel_rfl) Go.Proofs.Try.func70 body70 comp70 (funcsOK.sub rfl) res70 nt70 hn0 hle h
theorem enter71 {args : List V} {H0 : Heap} {n0 : Nat} {k : KH} (hn0 : H0.length = n0) (hle : Nat.ble args.length 20 = true) (h : ∀ ob ib ic sb cat iu nt an be pk wr tn iN aN sN lN eN bt sub sl rn ofB mn dc dn sI X, Ax ob ib ic sb cat iu nt an be pk wr tn iN aN sN lN eN bt sub sl rn ofB mn dc dn sI → Cx.std Go.Proofs.Try.prog tab n0 {} = X → vc ⟨ob, ib, ic, sb, cat, iu, nt, an, be, pk, wr, tn, iN, aN, sN, lN, eN, bt, sub, sl, rn, ofB, mn, dc, dn, sI⟩ X c71 (RetK ⟨ob, ib, ic, sb, cat, iu, nt, an, be, pk, wr, tn, iN, aN, sN, lN, eN, bt, sub, sl, rn, ofB, mn, dc, dn, sI⟩ r71 fun v H => ∃ r H', k r H' ∧ IntoR n0 v H r H') (frame args 20) H0) : CALL Go.Proofs.Try.prog 71 args H0 k :=
  enter (tab := tab) (fun t ti h => tabOK t ti h) (by kernel_rfl) Go.Proofs.Try.func71 body71 comp71 (funcsOK.sub rfl) res71 nt71 hn0 hle h
theorem enter72 {args : List V} {H0 : Heap} {n0 : Nat} {k : KH} (hn0 : H0.length = n0) (hle : Nat.ble args.length 19 = true) (h : ∀ ob ib ic sb cat iu nt an be pk wr tn iN aN sN lN eN bt sub sl rn ofB mn dc dn sI X, Ax ob ib ic sb cat iu nt an be pk wr tn iN aN sN lN eN bt sub sl rn ofB mn dc dn sI → Cx.std Go.Proofs.Try.prog tab n0 {} = X → vc ⟨ob, ib, ic, sb, cat, iu, nt, an, be, pk, wr, tn, iN, aN, sN, lN, eN, bt, sub, sl, rn, ofB, mn, dc, dn, sI⟩ X c72 (RetK ⟨ob, ib, ic, sb, cat, iu, nt, an, be, pk, wr, tn, iN, aN, sN, lN, eN, bt, sub, sl, rn, ofB, mn, dc, dn, sI⟩ r72 fun v H => ∃ r H', k r H' ∧ IntoR n0 v H r H') (frame args 19) H0) : CALL Go.Proofs.Try.prog 72 args H0 k :=
  enter (tab := tab) (fun t ti h => tabOK t ti h) (by kernel_rfl) Go.Proofs.Try.func72 body72 comp72 (funcsOK.sub rfl) res72 nt72 hn0 hle h
theorem enter75 {args : List V} {H0 : Heap} {n0 : Nat} {k : KH} (hn0 : H0.length = n0) (hle : Nat.ble args.length 12 = true) (h : ∀ ob ib ic sb cat iu nt an be pk wr tn iN aN sN lN eN bt sub sl rn ofB mn dc dn sI X, Ax ob ib ic sb cat iu nt an be pk wr tn iN aN sN lN eN bt sub sl rn ofB mn dc dn sI → Cx.std Go.Proofs.Try.prog tab n0 {} = X → vc ⟨ob, ib, ic, sb, cat, iu, nt, an, be, pk, wr, tn, iN, aN, sN, lN, eN, bt, sub, sl, rn, ofB, mn, dc, dn, sI⟩ X c75 (RetK ⟨ob, ib, ic, sb, cat, iu, nt, an, be, pk, wr, tn, iN, aN, sN, lN, eN, bt, sub, sl, rn, ofB, mn, dc, dn, sI⟩ r75 fun v H => ∃ r H', k r H' ∧ IntoR n0 v H r H') (frame args 12) H0) : CALL Go.Proofs.Try.prog 75 args H0 k :=
  enter (tab := tab) (fun t ti h => tabOK t ti h) (by kernel_rfl) Go.Proofs.Try.func75 body75 comp75 (funcsOK.sub rfl) res75 nt75 hn0 hle h
theorem enter76 {args : List V} {H0 : Heap} {n0 : Nat} {k : KH} (hn0 : H0.length = n0) (hle : Nat.ble args.length 32 = true) (h : ∀ ob ib ic sb cat iu nt an be pk wr tn iN aN sN lN eN bt sub sl rn ofB mn dc dn sI X, Ax ob ib ic sb cat iu nt an be pk wr tn iN aN sN lN eN bt sub sl rn ofB mn dc dn sI → Cx.std Go.Proofs.Try.prog tab n0 {} = X → vc ⟨ob, ib, ic, sb, cat, iu, nt, an, be, pk, wr, tn, iN, aN, sN, lN, eN, bt, sub, sl, rn, ofB, mn, dc, dn, sI⟩ X c76 (RetK ⟨ob, ib, ic, sb, cat, iu, nt, an, be, pk, wr, tn, iN, aN, sN, lN, eN, bt, sub, sl, rn, ofB, mn, dc, dn, sI⟩ r76 fun v H => ∃ r H', k r H' ∧ IntoR n0 v H r H') (frame args 32) H0) : CALL Go.Proofs.Try.prog 76 args H0 k :=
  enter (tab := tab) (fun t ti h => tabOK t ti h) (by kernel_rfl) Go.Proofs.Try.func76 body76 comp76 (funcsOK.sub rfl) res76 nt76 hn0 hle h
theorem enter86 {args : List V} {H0 : Heap} {n0 : Nat} {k : KH} (hn0 : H0.length = n0) (hle : Nat.ble args.length 6 = true) (h : ∀ ob ib ic sb cat iu nt an be pk wr tn iN aN sN lN eN bt sub sl rn ofB mn dc dn sI X, Ax ob ib ic sb cat iu nt an be pk wr tn iN aN sN lN eN bt sub sl rn ofB mn dc dn sI → Cx.std Go.Proofs.Try.prog tab n0 {} = X → vc ⟨ob, ib, ic, sb, cat, iu, nt, an, be, pk, wr, tn, iN, aN, sN, lN, eN, bt, sub, sl, rn, ofB, mn, dc, dn, sI⟩ X c86 (RetK ⟨ob, ib, ic, sb, cat, iu, nt, an, be, pk, wr, tn, iN, aN, sN, lN, eN, bt, sub, sl, rn, ofB, mn, dc, dn, sI⟩ r86 fun v H => ∃ r H', k r H' ∧ IntoR n0 v H r H') (frame args 6) H0) : CALL Go.Proofs.Try.prog 86 args H0 k :=
  enter (tab := tab) (fun t ti h => tabOK t ti h) (by kernel_rfl) Go.Proofs.Try.func86 body86 comp86 (funcsOK.sub rfl) res86 nt86 hn0 hle h
end Ytohkcdfjpgdfbaa
end
section
open Go Am
set_option maxRecDepth 100000
set_option maxHeartbeats 4000000
set_option linter.unusedVariables false
set_option linter.unusedSimpArgs false
namespace Ytohkcdfjpgdfbaa
def nmB (s : ByteArray) : Bool := decide (1 ≤ s.size ∧ s.size ≤ 64)
abbrev strS (o : Tg) (n : Nat) (S : Nat → ByteArray) : V := .u (.sv o 1 n fun i => [.sc (.string (S i))])
abbrev strV (s : ByteArray) : V := .u (.sc (.string s))
abbrev erV (e : Int) : V := .u (.sc (.int .u8 e))
theorem _root_.Am.Ax.isName {ob : Ob → Prop} {ib : BinOp → IntKind → Int → Int → Int} {ic : BinOp → Int → Int → Bool} {sb : BinOp → ByteArray → ByteArray → Bool} {cat : ByteArray → ByteArray → ByteArray} {iu : UnOp → IntKind → Int → Int} {nt : Bool → Bool} {an : Bool → Bool → Bool} {be : Bool → Bool → Bool} {pk : Bool → Bool → Bool → Bool} {wr : IntKind → Int → Int} {tn : Int → Nat} {iN : Nat → Int} {aN : Nat → Nat → Nat} {sN : Nat → Nat → Nat} {lN : Nat → Nat → Bool} {eN : Nat → Nat → Bool} {bt : ByteArray → Int → Int} {sub : ByteArray → Int → Int → ByteArray} {sl : ByteArray → Int} {rn : Int → ByteArray} {ofB : Nat → (Nat → List U) → ByteArray} {mn : Int → Int → Int} {dc : ByteArray → Nat → Int} {dn : ByteArray → Nat → Nat} {sI : Int → Int → Int} (hE : Ax ob ib ic sb cat iu nt an be pk wr tn iN aN sN lN eN bt sub sl rn ofB mn dc dn sI) {s : ByteArray} : pk (sb .neq s ⟨⟨[]⟩⟩) (ic .leq (sl s) 64) false = nmB s := by
  rw [hE.e_pk, hE.sneq, hE.leq, hE.e_sl]
  unfold nmB
  by_cases h : s = ⟨⟨[]⟩⟩
  · subst h; simp; intro h; exact absurd h (by decide)
  · have : s.size ≠ 0 := fun e => h (ByteArray.ext (Array.eq_empty_of_size_eq_zero e))
    simp only [h, not_false_eq_true, decide_true, ne_eq, if_true]
    exact decide_eq_decide.2 (by omega)
theorem bfalse {b : Bool} (h : b = true → False) : b = false := by
  cases b
  · rfl
  · exact (h rfl).elim
theorem snoc {P : Nat → Prop} {k : Nat} (h : ∀ i, i < k → P i) (hk : P k) : ∀ i, i < k + 1 → P i := fun i hi => by
  rcases Nat.lt_or_ge i k with h3 | h3
  · exact h i h3
  · rwa [show i = k by omega]
theorem ct33 (o : Tg) (n : Nat) (S : Nat → ByteArray) (hn : n ≤ 100000) (b : Bool) (hb : b = true ↔ ∀ i, i < n → nmB (S i) = true) : CT Go.Proofs.Try.prog 33 [strS o n S] [] (scB b) [] := by
  refine enter33 rfl rfl ?_
  intro ob ib ic sb cat iu nt an be pk wr tn iN aN sN lN eN bt sub sl rn ofB mn dc dn sI X hE hX
  cbv
  refine loop_at hE hX tabOK (by kernel_rfl) funcsOK rfl (α := Nat) (fun k => (sets (pad 19) [(0, strS o n S), (5, strS o n S), (6, scI .i64 (iN n)), (7, scI .i64 (iN k))], [])) (fun k => k ≤ n ∧ ∀ i, i < k → nmB (S i) = true) (fun k => n - k) 0 ⟨by omega, by omega⟩ ?_ ?_
  · refine ⟨[], [], ⟨rfl, rfl, rfl, rfl, trivial⟩, ?_⟩
    cbv
    (repeat' first | exact True.intro | exact ⟨.inr trivial, fun _ _ => rfl⟩ | exact rfl | exact fun _ _ => rfl | refine And.intro ?_ ?_ | rw [hE.iN0] | rw [hE.e_aN])
  · rintro k ⟨hk, hs⟩
    cbv
    split
    · rename_i h
      cbv
      rw [hE.ltN, decide_eq_true_eq] at h
      rw [hE.tnN]
      (repeat first | refine ⟨(fun h => absurd h Bool.false_ne_true), ?_⟩ | refine ⟨(hE.o (by simp only [Ob.den, hE.e_iN, hE.e_tn, hE.e_aN, hE.e_sN, hE.e_sI, hE.e_mn] <;> omega)), ?_⟩ | refine ⟨fun _ => (hE.o (by simp only [Ob.den, hE.e_iN, hE.e_tn, hE.e_aN, hE.e_sN, hE.e_sI, hE.e_mn] <;> omega)), ?_⟩ | refine ⟨fun h => h, ?_⟩ | refine ⟨fun _ => rfl, ?_⟩ | refine ⟨fun _ h => h, ?_⟩ | refine ⟨fun _ _ => True.intro, ?_⟩ | refine ⟨fun _ h => absurd h Bool.false_ne_true, ?_⟩ | refine ⟨fun _ => True.intro, ?_⟩ | refine ⟨fun _ _ => rfl, ?_⟩ | refine ⟨(fun h => Bool.noConfusion h), ?_⟩ | refine ⟨True.intro, ?_⟩)
      rw [hE.isName]
      cases h2 : nmB (S k)
      rotate_left
      · cbv
        rw [hE.incN (by omega)]
        exact ⟨k + 1, ⟨by omega, fun i hi => by
          rcases Nat.lt_or_ge i k with h3 | h3
          · exact hs i h3
          · rwa [show i = k by omega]⟩, by omega, [], [], ⟨rfl, rfl, rfl, rfl, trivial⟩, by cbv; (repeat' first | exact True.intro | exact ⟨.inr trivial, fun _ _ => rfl⟩ | exact rfl | exact fun _ _ => rfl | refine And.intro ?_ ?_ | rw [hE.iN0] | rw [hE.e_aN])⟩
      · cbv
        have : b = false := by
          cases b
          · rfl
          · exact absurd (hb.1 rfl k h) (by rw [h2]; exact Bool.false_ne_true)
        rw [this]
        exact ct_u rfl
    · rename_i h
      cbv
      rw [hE.ltN, decide_eq_false_iff_not] at h
      rw [hb.2 fun i hi => hs i (by omega)]
      exact ct_u rfl
theorem ct34 (s : ByteArray) : CT Go.Proofs.Try.prog 34 [strV s] [] (scB (nmB s)) [] := by
  refine enter34 rfl rfl ?_
  intro ob ib ic sb cat iu nt an be pk wr tn iN aN sN lN eN bt sub sl rn ofB mn dc dn sI X hE hX
  cbv
  (repeat first | refine ⟨(fun h => absurd h Bool.false_ne_true), ?_⟩ | refine ⟨(hE.o (by simp only [Ob.den, hE.e_iN, hE.e_tn, hE.e_aN, hE.e_sN, hE.e_sI, hE.e_mn] <;> omega)), ?_⟩ | refine ⟨fun _ => (hE.o (by simp only [Ob.den, hE.e_iN, hE.e_tn, hE.e_aN, hE.e_sN, hE.e_sI, hE.e_mn] <;> omega)), ?_⟩ | refine ⟨fun h => h, ?_⟩ | refine ⟨fun _ => rfl, ?_⟩ | refine ⟨fun _ h => h, ?_⟩ | refine ⟨fun _ _ => True.intro, ?_⟩ | refine ⟨fun _ h => absurd h Bool.false_ne_true, ?_⟩ | refine ⟨fun _ => True.intro, ?_⟩ | refine ⟨fun _ _ => rfl, ?_⟩ | refine ⟨(fun h => Bool.noConfusion h), ?_⟩ | refine ⟨True.intro, ?_⟩)
  have : pk (ic .geq (sl s) 1) (ic .leq (sl s) 64) false = nmB s := by
    rw [hE.e_pk, hE.geq, hE.leq, hE.e_sl]
    unfold nmB
    by_cases h : s.size = 0
    · simp [h]
    · simp only [show ((s.size : Int) ≥ 1) by omega, decide_true, if_true]
      exact decide_eq_decide.2 (by omega)
  rw [this]
  exact ct_u rfl
abbrev catS (o : Tg) (n : Nat) (nm : Nat → ByteArray) (id : Nat → Int) : V := .u (.sv o 2 n fun i => [.sc (.string (nm i)), .sc (.int .u64 (id i))])
def Rt (n : Nat) (nm : Nat → ByteArray) (id : Nat → Int) : Prop := ∀ i, i < n → nmB (nm i) = true ∧ id i ≠ 0 ∧ ∀ k, k < i → bL (nm k) (nm i) = true ∧ id k ≠ id i
theorem ct29 (o : Tg) (n : Nat) (nm : Nat → ByteArray) (id : Nat → Int) (hn : n ≤ 100000) (b : Bool) (hb : b = true ↔ Rt n nm id) : CT Go.Proofs.Try.prog 29 [catS o n nm id] [] (scB b) [] := by
  refine enter29 rfl rfl ?_
  intro ob ib ic sb cat iu nt an be pk wr tn iN aN sN lN eN bt sub sl rn ofB mn dc dn sI X hE hX
  cbv
  refine loop_at hE hX tabOK (by kernel_rfl) funcsOK rfl (α := Nat) (fun k => (sets (pad 55) [(0, catS o n nm id), (3, scI .i64 (iN k))], [])) (fun k => k ≤ n ∧ Rt k nm id) (fun k => n - k) 0 ⟨by omega, fun i hi => by omega⟩ ?_ ?_
  · refine ⟨[], [], ⟨rfl, rfl, rfl, rfl, trivial⟩, ?_⟩
    cbv
    (repeat' first | exact True.intro | exact ⟨.inr trivial, fun _ _ => rfl⟩ | exact rfl | exact fun _ _ => rfl | refine And.intro ?_ ?_ | rw [hE.iN0] | rw [hE.e_aN])
  · rintro k ⟨hk, hs⟩
    cbv
    split
    · rename_i h
      cbv
      rw [hE.ltN, decide_eq_true_eq] at h
      rw [hE.tnN]
      (repeat first | refine ⟨(fun h => absurd h Bool.false_ne_true), ?_⟩ | refine ⟨(hE.o (by simp only [Ob.den, hE.e_iN, hE.e_tn, hE.e_aN, hE.e_sN, hE.e_sI, hE.e_mn] <;> omega)), ?_⟩ | refine ⟨fun _ => (hE.o (by simp only [Ob.den, hE.e_iN, hE.e_tn, hE.e_aN, hE.e_sN, hE.e_sI, hE.e_mn] <;> omega)), ?_⟩ | refine ⟨fun h => h, ?_⟩ | refine ⟨fun _ => rfl, ?_⟩ | refine ⟨fun _ h => h, ?_⟩ | refine ⟨fun _ _ => True.intro, ?_⟩ | refine ⟨fun _ h => absurd h Bool.false_ne_true, ?_⟩ | refine ⟨fun _ => True.intro, ?_⟩ | refine ⟨fun _ _ => rfl, ?_⟩ | refine ⟨(fun h => Bool.noConfusion h), ?_⟩ | refine ⟨True.intro, ?_⟩)
      refine call_ct hX [] [] (ct34 (nm k)) (fits_nil ⟨fitU_refl _, trivial⟩) rfl trivial ?_
      cases h1 : nmB (nm k)
      · cbv
        simp only [hE.ntT, hE.ntF, hE.pkT, hE.pkF, hE.anT, hE.anF, hE.anT', hE.anF']
        cbv
        (try simp only [hE.ntT, hE.ntF, hE.pkT, hE.pkF, hE.anT, hE.anF, hE.anT', hE.anF']); (repeat first | refine ⟨(fun h => absurd h Bool.false_ne_true), ?_⟩ | refine ⟨(hE.o (by simp only [Ob.den, hE.e_iN, hE.e_tn, hE.e_aN, hE.e_sN, hE.e_sI, hE.e_mn] <;> omega)), ?_⟩ | refine ⟨fun _ => (hE.o (by simp only [Ob.den, hE.e_iN, hE.e_tn, hE.e_aN, hE.e_sN, hE.e_sI, hE.e_mn] <;> omega)), ?_⟩ | refine ⟨fun h => h, ?_⟩ | refine ⟨fun _ => rfl, ?_⟩ | refine ⟨fun _ h => h, ?_⟩ | refine ⟨fun _ _ => True.intro, ?_⟩ | refine ⟨fun _ h => absurd h Bool.false_ne_true, ?_⟩ | refine ⟨fun _ => True.intro, ?_⟩ | refine ⟨fun _ _ => rfl, ?_⟩ | refine ⟨(fun h => Bool.noConfusion h), ?_⟩ | refine ⟨True.intro, ?_⟩)
        rw [bfalse fun e => absurd ((hb.1 e) k h).1 (by rw [h1]; exact Bool.false_ne_true)]
        exact ct_u rfl
      cbv
      simp only [hE.ntT, hE.ntF, hE.pkT, hE.pkF, hE.anT, hE.anF, hE.anT', hE.anF']
      cbv
      rw [hE.tnN, hE.eql]
      (repeat first | refine ⟨(fun h => absurd h Bool.false_ne_true), ?_⟩ | refine ⟨(hE.o (by simp only [Ob.den, hE.e_iN, hE.e_tn, hE.e_aN, hE.e_sN, hE.e_sI, hE.e_mn] <;> omega)), ?_⟩ | refine ⟨fun _ => (hE.o (by simp only [Ob.den, hE.e_iN, hE.e_tn, hE.e_aN, hE.e_sN, hE.e_sI, hE.e_mn] <;> omega)), ?_⟩ | refine ⟨fun h => h, ?_⟩ | refine ⟨fun _ => rfl, ?_⟩ | refine ⟨fun _ h => h, ?_⟩ | refine ⟨fun _ _ => True.intro, ?_⟩ | refine ⟨fun _ h => absurd h Bool.false_ne_true, ?_⟩ | refine ⟨fun _ => True.intro, ?_⟩ | refine ⟨fun _ _ => rfl, ?_⟩ | refine ⟨(fun h => Bool.noConfusion h), ?_⟩ | refine ⟨True.intro, ?_⟩)
      by_cases h2 : id k = 0
      · rw [decide_eq_true h2]
        cbv
        rw [bfalse fun e => absurd h2 ((hb.1 e) k h).2.1]
        exact ct_u rfl
      rw [decide_eq_false h2]
      cbv
      refine loop_at hE hX tabOK (by kernel_rfl) funcsOK rfl (α := Nat) (fun j => (sets (pad 55) [(0, catS o n nm id), (3, scI .i64 (iN k)), (4, scI .i64 (iN j))], [])) (fun j => j ≤ k ∧ ∀ i, i < j → bL (nm i) (nm k) = true ∧ id i ≠ id k) (fun j => k - j) 0 ⟨by omega, fun i hi => by omega⟩ ?_ ?_
      · refine ⟨[], [], ⟨rfl, rfl, rfl, rfl, trivial⟩, ?_⟩
        cbv
        (repeat' first | exact True.intro | exact ⟨.inr trivial, fun _ _ => rfl⟩ | exact rfl | exact fun _ _ => rfl | refine And.intro ?_ ?_ | rw [hE.iN0] | rw [hE.e_aN])
      · rintro j ⟨hj, hjs⟩
        cbv
        split
        · rename_i h3
          cbv
          rw [hE.ltN, decide_eq_true_eq] at h3
          rw [hE.tnN, hE.tnN, hE.sgeq, hE.eql]
          (repeat first | refine ⟨(fun h => absurd h Bool.false_ne_true), ?_⟩ | refine ⟨(hE.o (by simp only [Ob.den, hE.e_iN, hE.e_tn, hE.e_aN, hE.e_sN, hE.e_sI, hE.e_mn] <;> omega)), ?_⟩ | refine ⟨fun _ => (hE.o (by simp only [Ob.den, hE.e_iN, hE.e_tn, hE.e_aN, hE.e_sN, hE.e_sI, hE.e_mn] <;> omega)), ?_⟩ | refine ⟨fun h => h, ?_⟩ | refine ⟨fun _ => rfl, ?_⟩ | refine ⟨fun _ h => h, ?_⟩ | refine ⟨fun _ _ => True.intro, ?_⟩ | refine ⟨fun _ h => absurd h Bool.false_ne_true, ?_⟩ | refine ⟨fun _ => True.intro, ?_⟩ | refine ⟨fun _ _ => rfl, ?_⟩ | refine ⟨(fun h => Bool.noConfusion h), ?_⟩ | refine ⟨True.intro, ?_⟩)
          cases h4 : bL (nm j) (nm k)
          · simp only [Bool.not_false, hE.pkT]
            cbv
            (try simp only [hE.ntT, hE.ntF, hE.pkT, hE.pkF, hE.anT, hE.anF, hE.anT', hE.anF']); (repeat first | refine ⟨(fun h => absurd h Bool.false_ne_true), ?_⟩ | refine ⟨(hE.o (by simp only [Ob.den, hE.e_iN, hE.e_tn, hE.e_aN, hE.e_sN, hE.e_sI, hE.e_mn] <;> omega)), ?_⟩ | refine ⟨fun _ => (hE.o (by simp only [Ob.den, hE.e_iN, hE.e_tn, hE.e_aN, hE.e_sN, hE.e_sI, hE.e_mn] <;> omega)), ?_⟩ | refine ⟨fun h => h, ?_⟩ | refine ⟨fun _ => rfl, ?_⟩ | refine ⟨fun _ h => h, ?_⟩ | refine ⟨fun _ _ => True.intro, ?_⟩ | refine ⟨fun _ h => absurd h Bool.false_ne_true, ?_⟩ | refine ⟨fun _ => True.intro, ?_⟩ | refine ⟨fun _ _ => rfl, ?_⟩ | refine ⟨(fun h => Bool.noConfusion h), ?_⟩ | refine ⟨True.intro, ?_⟩)
            rw [bfalse fun e => absurd (((hb.1 e) k h).2.2 j h3).1 (by rw [h4]; exact Bool.false_ne_true)]
            exact ct_u rfl
          simp only [Bool.not_true, hE.pkF]
          by_cases h5 : id j = id k
          · rw [decide_eq_true h5]
            cbv
            (try simp only [hE.ntT, hE.ntF, hE.pkT, hE.pkF, hE.anT, hE.anF, hE.anT', hE.anF']); (repeat first | refine ⟨(fun h => absurd h Bool.false_ne_true), ?_⟩ | refine ⟨(hE.o (by simp only [Ob.den, hE.e_iN, hE.e_tn, hE.e_aN, hE.e_sN, hE.e_sI, hE.e_mn] <;> omega)), ?_⟩ | refine ⟨fun _ => (hE.o (by simp only [Ob.den, hE.e_iN, hE.e_tn, hE.e_aN, hE.e_sN, hE.e_sI, hE.e_mn] <;> omega)), ?_⟩ | refine ⟨fun h => h, ?_⟩ | refine ⟨fun _ => rfl, ?_⟩ | refine ⟨fun _ h => h, ?_⟩ | refine ⟨fun _ _ => True.intro, ?_⟩ | refine ⟨fun _ h => absurd h Bool.false_ne_true, ?_⟩ | refine ⟨fun _ => True.intro, ?_⟩ | refine ⟨fun _ _ => rfl, ?_⟩ | refine ⟨(fun h => Bool.noConfusion h), ?_⟩ | refine ⟨True.intro, ?_⟩)
            rw [bfalse fun e => absurd h5 (((hb.1 e) k h).2.2 j h3).2]
            exact ct_u rfl
          rw [decide_eq_false h5]
          cbv
          (try simp only [hE.ntT, hE.ntF, hE.pkT, hE.pkF, hE.anT, hE.anF, hE.anT', hE.anF']); (repeat first | refine ⟨(fun h => absurd h Bool.false_ne_true), ?_⟩ | refine ⟨(hE.o (by simp only [Ob.den, hE.e_iN, hE.e_tn, hE.e_aN, hE.e_sN, hE.e_sI, hE.e_mn] <;> omega)), ?_⟩ | refine ⟨fun _ => (hE.o (by simp only [Ob.den, hE.e_iN, hE.e_tn, hE.e_aN, hE.e_sN, hE.e_sI, hE.e_mn] <;> omega)), ?_⟩ | refine ⟨fun h => h, ?_⟩ | refine ⟨fun _ => rfl, ?_⟩ | refine ⟨fun _ h => h, ?_⟩ | refine ⟨fun _ _ => True.intro, ?_⟩ | refine ⟨fun _ h => absurd h Bool.false_ne_true, ?_⟩ | refine ⟨fun _ => True.intro, ?_⟩ | refine ⟨fun _ _ => rfl, ?_⟩ | refine ⟨(fun h => Bool.noConfusion h), ?_⟩ | refine ⟨True.intro, ?_⟩)
          rw [hE.incN (by omega)]
          exact ⟨j + 1, ⟨by omega, snoc hjs ⟨h4, h5⟩⟩, by omega, [], [], ⟨rfl, rfl, rfl, rfl, trivial⟩, by cbv; (repeat' first | exact True.intro | exact ⟨.inr trivial, fun _ _ => rfl⟩ | exact rfl | exact fun _ _ => rfl | refine And.intro ?_ ?_ | rw [hE.iN0] | rw [hE.e_aN])⟩
        · rename_i h3
          cbv
          rw [hE.ltN, decide_eq_false_iff_not] at h3
          rw [hE.incN (by omega)]
          exact ⟨k + 1, ⟨by omega, snoc hs ⟨h1, h2, fun i hi => hjs i (by omega)⟩⟩, by omega, [], [], ⟨rfl, rfl, rfl, rfl, trivial⟩, by cbv; (repeat' first | exact True.intro | exact ⟨.inr trivial, fun _ _ => rfl⟩ | exact rfl | exact fun _ _ => rfl | refine And.intro ?_ ?_ | rw [hE.iN0] | rw [hE.e_aN])⟩
    · rename_i h
      cbv
      rw [hE.ltN, decide_eq_false_iff_not] at h
      rw [hb.2 (by rwa [show n = k by omega])]
      exact ct_u rfl
end Ytohkcdfjpgdfbaa
end
