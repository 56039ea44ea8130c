/- Part 1 of the proof of CatalogBytesSaid: Am14, Am14x, AmCg, AmW, Am15, Am15b, Am15d, Am15e, Am15c, Am16, Am17, Am18. -/
import Derived.Test.YtohkcdfjpgdfbaaT0
import Derived.Laws.RangeString
import Derived.Scope
import Derived.LoopN
section
open Go Go.Lib
set_option linter.unusedVariables false
set_option linter.unusedSimpArgs false
namespace Am
section
variable {P : Program} {w : World} {O : Own} {ρ : Place} {H : Heap}
theorem rv_gd {c : Bool} {x : V} {v : Value} (h : RV w O ρ (.gd c x) v) (hc : c = true) : RV w O ρ x v := by cases h with | gd _ _ _ h _ => exact h hc
theorem pick_ok {g : Bool} {x y r : V} {va vb : Value} {l : List Prop} (h : pickV Env.std g x y = some (r, l)) (hl : ∀ p ∈ l, p) (hx : RV w O ρ x va) (hy : RV w O ρ y vb) : RV w O ρ r (if g then va else vb) := by
  unfold pickV at h
  split at h
  · cases h
    cases hx.scv; cases hy.scv
    cases g <;> exact scB_ok _
  · cases h
    cases hy.scv
    cases g with
    | false => exact scB_ok _
    | true =>
      have := rv_gd hx (hl _ (.head _) rfl)
      cases this.scv
      exact scB_ok _
  · cases h
    cases hx.scv
    cases g with
    | true => exact scB_ok _
    | false =>
      have := rv_gd hy (hl _ (.head _) rfl)
      cases this.scv
      exact scB_ok _
  · cases h
    have hg : g = false := hl _ (.head _)
    subst hg
    exact hy
  · cases h
    have hg : g = true := hl _ (.head _)
    subst hg
    exact hx
  · cases h
    cases hy.scv
    cases g with
    | false => exact scB_ok _
    | true =>
      have := rv_gd (rv_gd hx (hl _ (.head _) rfl)) (hl _ (.tail _ (.head _)) rfl)
      cases this.scv
      exact scB_ok _
  · cases h
    cases hx.scv
    cases g with
    | true => exact scB_ok _
    | false =>
      have := rv_gd (rv_gd hy (hl _ (.head _) rfl)) (hl _ (.tail _ (.head _)) rfl)
      cases this.scv
      exact scB_ok _
  · cases h
    have hg : g = false := hl _ (.head _)
    subst hg
    exact hy
  · cases h
    have hg : g = true := hl _ (.head _)
    subst hg
    exact hx
  · cases h
theorem nilck_run {v : Value} (h : (∃ a, v = .pointer (some a)) ∨ ∃ g c d, v = .func (.func g) c d) (o : Operand → Value) (x : Operand) (hx : o x = v) (t : TypeId) (pos : String) (af : Array Edge) (gd : Option (Nat × Bool)) (dst : Option Nat) :
    (execOp o ⟨dst, .nilCheck x, t, pos, af, gd⟩).run P w = .ok (.value v) w := by
  rcases h with ⟨a, rfl⟩ | ⟨g, c, d, rfl⟩ <;> simp [execOp, hx]
theorem tp_get {vs : List V} {v : Value} (h : RV w O ρ (.tp vs) v) (i : Nat) {r : V} (hr : vs[i]? = some r) : ∃ arr u, v = .tuple arr ∧ arr[i]? = some u ∧ RV w O ρ r u := by
  cases h with
  | tp _ arr g hs ha hrr => exact ⟨arr, g i, rfl, ha i (lt_of_get hr), hrr i r hr⟩
theorem getV_get : ∀ (l : List V) (i : Nat), (getV l i = .un) ∨ l[i]? = some (getV l i)
  | [], i => .inl rfl
  | x :: l, 0 => .inr rfl
  | x :: l, i + 1 => by simpa [getV] using getV_get l i
theorem map_rel {xs : List Operand} {f : Operand → V} {g : Operand → Value} (h : ∀ x ∈ xs, RV w O ρ (f x) (g x)) : ∀ (j : Nat) (y : V), (xs.map f)[j]? = some y → ∃ u, (xs.toArray.map g)[j]? = some u ∧ RV w O ρ y u := by
  intro j y hy
  simp only [List.getElem?_map] at hy
  cases hq : xs[j]? with
  | none => simp [hq] at hy
  | some x =>
    simp [hq] at hy
    subst hy
    exact ⟨g x, by simp [hq], h x (List.mem_of_getElem? hq)⟩
theorem joined_std (n : Nat) (F G : Nat → List U) : (fun k => if Env.std.lN k n then F k else G (Env.std.sN k n)) = joined n F G := by
  funext k; simp [joined, Env.std]
theorem joined_str (n : Nat) (F : Nat → List U) (s : ByteArray) : (fun k => if Env.std.lN k n then F k else [U.sc (.int .u8 (Env.std.bt s (Env.std.iN (Env.std.sN k n))))]) = joined n F (strRow s) := by
  funext k; simp [joined, strRow, Env.std]
theorem one_of {α : Type} {a : Array α} {x : α} (h : a.toList = [x]) : a = #[x] := by rw [← Array.toArray_toList (xs := a), h]
theorem two_of {α : Type} {a : Array α} {x y : α} (h : a.toList = [x, y]) : a = #[x, y] := by rw [← Array.toArray_toList (xs := a), h]
theorem call_ok {tab : Tab} (hT : TabOK P tab) {callee : Callee} {args : Array Operand} {ats : Array TypeId} {i : In} (hc : compCall tab callee args.toList ats.toList = some i) {ev : Operand → Value} {raw : Operand → V} (hraw : ∀ x, RV w O ρ (raw x) (ev x)) (hp : ∀ x ∈ looks i, RV w O ρ (peel (raw x)) (ev x)) (hH : HOK w O ρ H) {s : Nat} (hs : ρ s = .unset)
    {v : V} {d : Delta} {l : List Prop} (h : istep Env.std raw H s i = some (v, d, l)) (hl : ∀ p ∈ l, p) {dst : Option Tmp} {type : TypeId} {pos : String} {after : Array Edge} {guard : Option (Nat × Bool)} :
    StepOK P w O ρ H s (execOp ev ⟨dst, .call ⟨callee, args, ats⟩, type, pos, after, guard⟩) v d := by
  unfold compCall at hc
  split at hc
  · rename_i x t ha ht
    have ha := one_of ha
    have ht := one_of ht
    subst ha ht
    split at hc
    · rename_i ti hti
      have hk := (hT _ _ hti).kd
      split at hc
      · rename_i q; rw [q] at hk
        cases hc
        have hx := hp x (by simp [looks])
        simp only [istep, if_true] at h
        split at h
        · rename_i s' q'; rw [q'] at hx; cases h
          exact .same hH (by simp [execOp, resolve, invoke, builtin, Builtin.len_, run_underlying hk, hx.scv, goInt, Env.std]) (scI_ok _ _)
        · cases h
      · rename_i e q; rw [q] at hk
        cases hc
        have hx := hp x (by simp [looks])
        simp only [istep, Bool.false_eq_true, if_false] at h
        have key : ∀ (a : Option Addr) (n c : Nat), ev x = .slice a n c → StepOK P w O ρ H s (execOp ev ⟨dst, .call ⟨.builtin .len, #[x], #[t]⟩, type, pos, after, guard⟩) (scI .i64 (n : Int)) [] := fun a n c e =>
          .same hH (by simp [execOp, resolve, invoke, builtin, Builtin.len_, run_underlying hk, e, goInt]) (scI_ok _ _)
        generalize hv : ev x = vx at hx
        split at h
        · rename_i q'; rw [q'] at hx; cases h
          cases hx with | u _ _ hu => cases hu with | sv o z _ c f a g => exact key a _ c hv
        · rename_i q'; rw [q'] at hx; cases h
          have := hx.scv
          subst this
          exact key none 0 0 hv
        · rename_i q'; rw [q'] at hx; cases h
          cases hx with
          | srN => exact key none 0 0 hv
          | srP _ _ _ g cap => exact key _ _ cap hv
          | srO _ _ _ _ c g cap a => exact key _ _ c hv
        · rename_i q'; rw [q'] at hx; cases h
          cases hx with
          | so _ _ _ _ c a => exact key _ _ c hv
        · cases h
      · cases hc
    · cases hc
  · rename_i x y t t' ha ht
    have ha := two_of ha
    have ht := two_of ht
    subst ha ht
    split at hc
    · rename_i ti tj hti htj
      have hk := (hT _ _ hti).kd
      have hk' := (hT _ _ htj).kd
      split at hc
      · rename_i e e' q q'; rw [q] at hk; rw [q'] at hk'
        split at hc
        · rename_i htt
          subst htt
          split at hc
          · rename_i te hte
            cases hc
            have hx := hp x (by simp [looks])
            have hy := hp y (by simp [looks])
            simp only [istep] at h
            split at h
            · rename_i m G lr hrows
              have hlr : ∀ p ∈ lr, p := fun p hp' => hl p (by
                split at h
                · cases h; exact List.mem_append_left _ hp'
                · split at h
                  · split at h
                    · split at h
                      · split at h
                        · cases h; exact List.mem_append_left _ hp'
                        · cases h
                      · cases h
                    · cases h
                  · cases h
                · cases h)
              obtain ⟨a, c, g, hv, hcell, hlen, hrel⟩ := rowsOf_ok hH hrows hlr hy
              have hexec : execOp ev ⟨dst, .call ⟨.builtin .append, #[x, y], #[t, t']⟩, type, pos, after, guard⟩ = (do pure (.value (← Builtin.append_ #[t, t'] type #[ev x, .slice a m c]))) := by
                simp only [execOp, resolve, invoke, builtin, hv, List.map_toArray, List.map_cons, List.map_nil]
                rfl
              rw [hexec]
              refine .congr (s2 := do pure (.value (← Builtin.append_ #[t, t] type #[ev x, .slice a m c]))) (by simp only [Sem.run_bind, append_ty (w := w) t t' type e e hk hk']) ?_
              split at h
              · rename_i q1; rw [q1] at hx
                cases h
                rw [hx.scv]
                exact append_ok hH hs hk (hT _ _ hte) (hl _ (by simp)) hcell hlen hrel (hl _ (by simp)) (hl _ (by simp))
              · rename_i b z' len q1; rw [q1] at hx
                split at h
                · rename_i e2 z'' n F hb
                  split at h
                  · rename_i z1
                    split at h
                    · rename_i z2
                      split at h
                      · rename_i z3
                        subst z1 z2 z3
                        cases h
                        have h1 : len = n := hl _ (by simp)
                        subst h1
                        have hb' := blkAt_eq hb trivial
                        rw [joined_std]
                        exact app_own_ok hH hs hk (hT _ _ hte) (hl _ (by simp)) hb' hx hcell ⟨hlen, hrel⟩ (hl (Env.std.aN len m * te.by_ ≤ 140737488355328) (by simp)) (hl (Env.std.aN len m ≤ 4611686018427387904) (by simp))
                      · cases h
                    · cases h
                  · cases h
                · cases h
              · cases h
            · cases h
          · cases hc
        · cases hc
      · rename_i e q q'; rw [q] at hk; rw [q'] at hk'
        split at hc
        · rename_i te hte
          split at hc
          · rename_i k1
            split at hc
            · rename_i hz1
              cases hc
              have hx := hp x (by simp [looks])
              have hy := hp y (by simp [looks])
              simp only [istep] at h
              split at h
              · rename_i s' q1
                rw [q1] at hy
                have hexec : execOp ev ⟨dst, .call ⟨.builtin .append, #[x, y], #[t, t']⟩, type, pos, after, guard⟩ = (do pure (.value (← Builtin.append_ #[t, t'] type #[ev x, .string s']))) := by
                  simp only [execOp, resolve, invoke, builtin, hy.scv, List.map_toArray, List.map_cons, List.map_nil]
                  rfl
                rw [hexec]
                have hsz : Env.std.tn (Env.std.sl s') = s'.size := by simp [Env.std]
                have hrow : (fun k => [U.sc (.int .u8 (Env.std.bt s' (Env.std.iN k)))]) = strRow s' := rfl
                split at h
                · rename_i q2; rw [q2] at hx
                  cases h
                  rw [hx.scv, hsz, hrow]
                  have b1 : (s'.size : Int) * te.by_ ≤ 140737488355328 := hl (Env.std.sl s' * te.by_ ≤ 140737488355328) (by simp)
                  have b2 : (s'.size : Int) ≤ 4611686018427387904 := hl (Env.std.sl s' ≤ 4611686018427387904) (by simp)
                  exact appS_nil_ok hH hs hk hk' (hT _ _ hte) hz1 s' (Int.ofNat_le.1 (by rw [Int.natCast_mul]; exact b1)) (by omega)
                · rename_i b z' len q2; rw [q2] at hx
                  split at h
                  · rename_i e2 z'' n F hb
                    split at h
                    · rename_i z1
                      split at h
                      · rename_i z2
                        split at h
                        · rename_i z3
                          subst z1 z2 z3
                          rw [hsz] at h
                          cases h
                          have h1 : len = n := hl _ (by simp)
                          subst h1
                          have hb' := blkAt_eq hb trivial
                          rw [joined_str]
                          exact appS_own_ok hH hs hk hk' (hT _ _ hte) hz1 hb' hx s' (hl _ (.tail _ (.head _))) (hl _ (.tail _ (.tail _ (.head _))))
                        · cases h
                      · cases h
                    · cases h
                  · cases h
                · cases h
              · cases h
            · cases hc
          · cases hc
        · cases hc
      · cases hc
    · cases hc
  · rename_i x y t t' ha ht
    have ha := two_of ha
    have ht := two_of ht
    subst ha ht
    split at hc
    · split at hc
      · cases hc
        have hx := hp x (by simp [looks])
        have hy := hp y (by simp [looks])
        simp only [istep] at h
        split at h
        · rename_i k a k' b q1 q2
          rw [q1] at hx; rw [q2] at hy
          cases h
          exact .same hH (by simp [execOp, resolve, invoke, builtin, hx.scv, hy.scv, run_min_int2]; rfl) (scI_ok _ _)
        · cases h
      · cases hc
    · cases hc
  · cases hc
theorem setObjW_same {g : Nat} {o : Obj} (h : w.heap[g]? = some o) : setObjW w g o = w := by
  have : w.heap.setIfInBounds g o = w.heap := by
    apply Array.ext_getElem?
    intro i
    by_cases hi : i = g
    · subst hi
      have hlt : i < w.heap.size := by
        rcases Nat.lt_or_ge i w.heap.size with h' | h'
        · exact h'
        · simp [Array.getElem?_eq_none h'] at h
      simp [hlt] at h ⊢
      exact h.symm
    · rw [Array.getElem?_setIfInBounds_ne (Ne.symm hi)]
  simp [setObjW, this]
theorem rng_ok (hH : HOK w O ρ H) {s : Nat} (hs : ρ s = .unset) {t : TypeId} (ht : P.underlying t = some .string) (b : ByteArray) :
    StepOK P w O ρ H s (do pure (.value (← Instr.range t (.string b)))) (.pb s 0) [(s, .it b 0)] := by
  have g2 := good_new hH hs (.stringIter b 0) 0 (.it b 0) ⟨w.heap.size, 0, upd_same _ _ _, .inr rfl, heap_alloc_new w _⟩
  exact ⟨_, _, _, _, _, by simp [run_range_string w t b ht, World.iter], .inl rfl, .pb s 0 w.heap.size 0 (upd_same _ _ _), g2, fun b hb => upd_other _ _ _ (nmem hb)⟩
theorem nxt_ok (hH : HOK w O ρ H) {s b p : Nat} {t : ByteArray} {ty : TypeId} {v : Value} (hx : RV w O ρ (.pb b 0) v) (hb : blkAt H b = .it t p) :
    StepOK P w O ρ H s (do pure (.value (← Instr.next v true ty))) (.nx (Env.std.lN p (Env.std.tn (Env.std.sl t))) (Env.std.iN p) (Env.std.dc t p)) [(b, .it t (Env.std.dn t p))] := by
  have hb' := blkAt_eq hb trivial
  obtain ⟨g, cap, h1, h2, h3⟩ := hH.blk b _ hb'
  have hlt : g < w.heap.size := hH.lt g h2
  cases hx with
  | pb _ _ g' cap' hg =>
    rw [h1] at hg; cases hg
    have hgood := good_obj hH hb' trivial h1 (.stringIter t (Env.std.dn t p)) (.it t (Env.std.dn t p)) ⟨g, cap, h1, h2, by simp [setObjW, hlt]⟩
    by_cases hp : p < t.size
    · have e : Env.std.lN p (Env.std.tn (Env.std.sl t)) = true := by simp [Env.std, hp]
      rw [e]
      have hdn : Env.std.dn t p = p + (Utf8.decode t p).2 := if_pos hp
      rw [hdn] at hgood ⊢
      refine ⟨_, _, setObjW w g (.stringIter t (p + (Utf8.decode t p).2)), O, ρ, ?_, .inl rfl, .nx true (p : Int) (Utf8.decode t p).1, hgood, fun _ _ => rfl⟩
      simp [Instr.next, getObj, setObj, Sem.run, h3, hp, goInt, setObjW]
    · have e : Env.std.lN p (Env.std.tn (Env.std.sl t)) = false := by simp [Env.std, hp]
      rw [e]
      have hdn : Env.std.dn t p = p := if_neg hp
      rw [hdn] at hgood ⊢
      rw [setObjW_same h3] at hgood
      refine ⟨_, _, w, O, ρ, ?_, .inl rfl, .nx false (Env.std.iN p) (Env.std.dc t p), hgood, fun _ _ => rfl⟩
      simp [Instr.next, getObj, Sem.run, h3, hp]
theorem istep_ok {tab : Tab} (hT : TabOK P tab) {o : Oper} {i : In} (hc : compOp tab o = some i) {ev : Operand → Value} {raw : Operand → V} (hraw : ∀ x, RV w O ρ (raw x) (ev x)) (hp : ∀ x ∈ looks i, RV w O ρ (peel (raw x)) (ev x)) (hH : HOK w O ρ H) {s : Nat} (hs : ρ s = .unset)
    {v : V} {d : Delta} {l : List Prop} (h : istep Env.std raw H s i = some (v, d, l)) (hl : ∀ p ∈ l, p) : StepOK P w O ρ H s (execOp ev o) v d := by
  obtain ⟨dst, op, type, pos, after, guard⟩ := o
  cases op with
  | move x =>
    simp only [compOp] at hc; cases hc; cases h
    exact .same hH (by simp [execOp]) (hraw x)
  | assign x =>
    simp only [compOp] at hc; cases hc; cases h
    exact .same hH (by simp [execOp]) (hraw x)
  | pick c a b =>
    simp only [compOp] at hc; cases hc
    simp only [istep] at h
    split at h
    · rename_i g hg
      split at h
      · rename_i r q hq
        cases h
        have := hp c (by simp [looks])
        rw [hg] at this
        have e := this.scv
        exact .same hH (by simp [execOp, e, asBool]) (pick_ok hq hl (hraw a) (hraw b))
      · cases h
    · cases h
  | alloc e =>
    simp only [compOp] at hc
    split at hc
    · rename_i ti hti
      cases hc; cases h
      exact alloc_ok hH hs (hT _ _ hti)
    · cases hc
  | box e x =>
    simp only [compOp] at hc; cases hc
    simp only [istep] at h
    split at h
    · rename_i cs hcs
      cases h
      exact box_ok hH hs (hp x (by simp [looks])) hcs
    · cases h
  | build t ps =>
    simp only [compOp] at hc
    split at hc
    · rename_i ti hti
      split at hc
      · rename_i fs hk
        split at hc
        · rename_i hall
          split at hc
          · rename_i qs hqs
            cases hc
            simp only [istep] at h
            split at h
            · rename_i cs hcs
              cases h
              obtain ⟨_, hq⟩ := places_spec _ _ hqs
              refine build_struct_ok hT hH (hT _ _ hti) hk hall (fun p hp' => ?_) hqs hcs
              exact hp p.2 (by simp only [looks]; rw [hq]; simp only [List.map_map, List.mem_map, Function.comp]; exact ⟨p, hp', rfl⟩)
            · cases h
          · cases hc
        · cases hc
      · rename_i n e hk
        split at hc
        · rename_i te hte
          cases hc
          simp only [istep] at h
          split at h
          · rename_i cs hcs
            cases h
            refine build_array_ok hT hH (hT _ _ hti) hk (hT _ _ hte) (fun p hp' => ?_) hcs
            exact hp p.2 (by simp only [looks, List.map_map, List.mem_map, Function.comp]; exact ⟨p, hp', rfl⟩)
          · cases h
        · cases hc
      · cases hc
    · cases hc
  | buildSlice t n ps =>
    simp only [compOp] at hc
    split at hc
    · rename_i ti hti
      split at hc
      · rename_i e hk
        split at hc
        · rename_i te hte
          split at hc
          · rename_i hcond
            cases hc
            simp only [istep] at h
            split at h
            · rename_i us hus
              split at h
              · rename_i rows hrows
                cases h
                have ht := (hT _ _ hti).kd
                rw [hk] at ht
                refine bsl_ok hH hs ht (hT _ _ hte) hcond.2.2 hcond.2.1 hcond.1 hus (fun p hp' => ?_) hrows
                exact hp p.2 (by simp only [looks, List.mem_map]; exact ⟨p, hp', rfl⟩)
              · cases h
            · cases h
          · cases hc
        · cases hc
      · cases hc
    · cases hc
  | load t x =>
    simp only [compOp] at hc
    split at hc
    · rename_i ti hti
      cases hc
      simp only [istep] at h
      split at h
      · rename_i cs ob hr
        split at h
        · rename_i r hr'
          cases h
          exact ld_ok hH (hT _ _ hti) (hp x (by simp [looks])) hr (hl _ (.head _)) hr'
        · cases h
      · cases h
    · cases hc
  | store t a x =>
    simp only [compOp] at hc
    split at hc
    · rename_i ti hti
      cases hc
      simp only [istep] at h
      have ha := hp a (by simp [looks])
      have hx := hp x (by simp [looks])
      split at h
      · rename_i cs hcs
        split at h
        · rename_i hcond
          simp only [Bool.and_eq_true] at hcond
          split at h
          · rename_i b o hb
            rw [hb] at ha
            split at h
            · rename_i cells hcells
              split at h
              · rename_i r hr
                cases h
                exact st_box_ok hH (hT _ _ hti) hx hcs hcond.1 hcond.2 ha hcells hr
              · cases h
            · cases h
          · rename_i b z' i f hb
            rw [hb] at ha
            split at h
            · rename_i e z'' n F hcells
              split at h
              · rename_i hz
                subst hz
                split at h
                · rename_i us hus
                  cases h
                  exact st_arr_ok hH (hT _ _ hti) hx hcs hcond.1 hcond.2 hus ha hcells (hl _ (.head _)) (hl _ (.tail _ (.head _)))
                · cases h
              · cases h
            · cases h
          · cases h
        · cases h
      · cases h
    · cases hc
  | nilCheck x =>
    simp only [compOp] at hc; cases hc
    simp only [istep] at h
    have hx := hp x (by simp [looks])
    generalize hv : ev x = vx at hx
    split at h
    · rename_i hq; rw [hq] at hx
      cases h
      cases hx with | pb b o g cap hg => exact .same hH (nilck_run (.inl ⟨_, rfl⟩) ev x hv ..) (.pb _ _ g cap hg)
    · rename_i hq; rw [hq] at hx
      cases h
      cases hx with | pa b z i f g cap hg => exact .same hH (nilck_run (.inl ⟨_, rfl⟩) ev x hv ..) (.pa _ _ _ _ g cap hg)
    · rename_i hq; rw [hq] at hx
      cases h
      cases hx with | rp o cs a g h1 h2 h3 h4 => exact .same hH (nilck_run (.inl ⟨_, rfl⟩) ev x hv ..) (.rp _ _ a g h1 h2 h3 h4)
    · rename_i hq; rw [hq] at hx
      cases h
      have hx' := hx
      cases hx with | fv fn cs ds arr brr g k h1 h2 h3 h4 h5 h6 => exact .same hH (nilck_run (.inr ⟨_, _, _, rfl⟩) ev x hv ..) hx'
    · cases h
  | binOp op t x y yt =>
    simp only [compOp] at hc
    split at hc
    · rename_i ti hti
      split at hc
      · cases hc
        simp only [istep] at h
        split at h
        · rename_i r q hq; cases h
          exact bin_int_ok hH hq hl (hp x (by simp [looks])) (hp y (by simp [looks]))
        · cases h
      · cases hc
        simp only [istep] at h
        split at h
        · rename_i r q hq; cases h
          exact bin_str_ok hH hq hl (hp x (by simp [looks])) (hp y (by simp [looks]))
        · cases h
      · rename_i hk
        split at hc
        · cases hc
          simp only [istep] at h
          have ht := (hT _ _ hti).kd
          rw [hk] at ht
          split at h
          · rename_i r q hq; cases h
            exact bin_bool_ok hH ht hq (hp x (by simp [looks])) (hp y (by simp [looks]))
          · cases h
        · cases hc
      · rename_i fs hk
        split at hc
        · split at hc
          · rename_i q hq
            cases hc
            simp only [istep] at h
            split at h
            · rename_i r q' hq'; cases h
              exact bin_agg_ok hT hH hti hk hq hq' (hp x (by simp [looks])) (hp y (by simp [looks]))
            · cases h
          · cases hc
        · cases hc
      · cases hc
    · cases hc
  | unOp op t x =>
    simp only [compOp] at hc; cases hc
    simp only [istep] at h
    have hx := hp x (by simp [looks])
    split at h
    · rename_i b hq; rw [hq] at hx; cases h
      exact .same hH (by simp [execOp, hx.scv, Op.unary, Env.std]) (scB_ok _)
    · rename_i k n hq; rw [hq] at hx; cases h
      exact .same hH (by simp [execOp, hx.scv, Op.unary, Op.intArith, Env.std]) (scI_ok _ _)
    · rename_i k n hq; rw [hq] at hx; cases h
      exact .same hH (by simp [execOp, hx.scv, Op.unary, Op.intBits, Env.std]) (scI_ok _ _)
    · cases h
  | convert sr ds x =>
    simp only [compOp] at hc
    split at hc
    · rename_i a b ha hb
      have hka := (hT _ _ ha).kd
      have hkb := (hT _ _ hb).kd
      split at hc
      · rename_i q1 q2; rw [q1] at hka; rw [q2] at hkb
        cases hc
        simp only [istep] at h
        have hx := hp x (by simp [looks])
        split at h
        · rename_i hq; rw [hq] at hx; cases h
          exact .same hH (by simp [execOp, hx.scv, convert, run_underlying hka, run_underlying hkb, Conv.intToInt]; rfl) (scI_ok _ _)
        · cases h
      · rename_i q1 q2; rw [q1] at hka; rw [q2] at hkb
        cases hc
        simp only [istep] at h
        have hx := hp x (by simp [looks])
        split at h
        · rename_i hq; rw [hq] at hx; cases h
          exact .same hH (by simp [execOp, hx.scv, convert, run_underlying hka, run_underlying hkb, Conv.intToString]; rfl) (scS_ok _)
        · rename_i hq; rw [hq] at hx; cases h
          exact .same hH (by simp [execOp, hx.scv, convert, run_underlying hka, run_underlying hkb]) (scS_ok _)
        · cases h
      · rename_i q1 q2; rw [q1] at hka; rw [q2] at hkb
        cases hc
        simp only [istep] at h
        have hx := hp x (by simp [looks])
        split at h
        · rename_i hq; rw [hq] at hx; cases h
          exact .same hH (by simp [execOp, hx.scv, convert, run_underlying hka, run_underlying hkb, Conv.intToString]; rfl) (scS_ok _)
        · rename_i hq; rw [hq] at hx; cases h
          exact .same hH (by simp [execOp, hx.scv, convert, run_underlying hka, run_underlying hkb]) (scS_ok _)
        · cases h
      · rename_i e q1 q2; rw [q1] at hka; rw [q2] at hkb
        split at hc
        · rename_i te hte
          have hke := (hT _ _ hte).kd
          split at hc
          · rename_i q3; rw [q3] at hke
            cases hc
            simp only [istep] at h
            have hx := hp x (by simp [looks])
            split at h
            · rename_i t hq; rw [hq] at hx; cases h
              have := cvS_ok (sid := s) (P := P) hH hka hkb hke t
              simp only [execOp, hx.scv]
              exact this
            · cases h
          · cases hc
        · cases hc
      · rename_i e q1 q2; rw [q1] at hka; rw [q2] at hkb
        split at hc
        · rename_i te hte
          have hke := (hT _ _ hte).kd
          split at hc
          · rename_i q3; rw [q3] at hke
            cases hc
            simp only [istep] at h
            have hx := hp x (by simp [looks])
            split at h
            · rename_i n f q hq
              cases h
              exact cvB_ok hH hka hkb hke hq (fun p hp => hl p (.tail _ hp)) (hl _ (.head _)) hx
            · cases h
          · cases hc
        · cases hc
      · cases hc
    · cases hc
  | fieldAddr t x f =>
    simp only [compOp] at hc
    split at hc
    · rename_i ti hti
      split at hc
      · rename_i fs hk
        split at hc
        · rename_i off tf hf
          split at hc
          · rename_i tt htt
            split at hc
            · cases hc
            · rename_i hz
              cases hc
              exact fad_ok hH (hT _ _ hti) hk hf (hT _ _ htt) hz (hp x (by simp [looks])) rfl h
          · cases hc
        · cases hc
      · cases hc
    · cases hc
  | field t x f =>
    simp only [compOp] at hc
    split at hc
    · rename_i ti hti
      split at hc
      · rename_i fs hk
        split at hc
        · rename_i off tf hf
          split at hc
          · rename_i tt htt
            cases hc
            simp only [istep] at h
            have hx := hp x (by simp [looks])
            split at h
            · rename_i cs hq
              rw [hq] at hx
              split at h
              · rename_i r hr
                split at h
                · rename_i q hq'
                  cases h
                  exact fld_ok hH (hT _ _ hti) hk hf (hT _ _ htt) hx hr hq'
                · cases h
              · cases h
            · cases h
          · cases hc
        · cases hc
      · cases hc
    · cases hc
  | indexAddr t x i =>
    simp only [compOp] at hc
    split at hc
    · rename_i ti hti
      have hk := (hT _ _ hti).kd
      split at hc
      · rename_i e q; rw [q] at hk
        split at hc
        · rename_i te hte
          cases hc
          exact iadS_ok hH hk (hT _ _ hte) (hp x (by simp [looks])) (hp i (by simp [looks])) rfl rfl h hl
        · cases hc
      · rename_i n e q; rw [q] at hk
        split at hc
        · rename_i te hte
          cases hc
          exact iadA_ok hH hk (hT _ _ hte) (hp x (by simp [looks])) (hp i (by simp [looks])) rfl rfl h
        · cases hc
      · cases hc
    · cases hc
  | index t x i =>
    simp only [compOp] at hc
    split at hc
    · rename_i ti hti
      have hk := (hT _ _ hti).kd
      split at hc
      · rename_i n e q; rw [q] at hk
        split at hc
        · rename_i te hte
          cases hc
          simp only [istep] at h
          have hx := hp x (by simp [looks])
          have hi := hp i (by simp [looks])
          split at h
          · rename_i cs k j q1 q2
            rw [q1] at hx; rw [q2] at hi
            split at h
            · rename_i jj hj
              split at h
              · rename_i hlt
                split at h
                · rename_i r hr
                  split at h
                  · rename_i q hq'
                    cases h
                    have := ixA_ok (s := s) (k := k) hH hk (hT _ _ hte) hx (litNat_spec hj) (Nat.lt_of_succ_le (by simpa [Nat.blt] using hlt)) hr hq'
                    simp only [execOp, hi.scv]
                    exact this
                  · cases h
                · cases h
              · cases h
            · cases h
          · cases h
        · cases hc
      · rename_i q; rw [q] at hk
        cases hc
        simp only [istep] at h
        have hx := hp x (by simp [looks])
        have hi := hp i (by simp [looks])
        split at h
        · rename_i t k j q1 q2
          rw [q1] at hx; rw [q2] at hi
          cases h
          have := ixS_ok (sid := s) (k := k) hH hk (hl _ (.head _)) (hl _ (.tail _ (.head _)))
          simp only [execOp, hi.scv, hx.scv]
          exact this
        · cases h
      · cases hc
    · cases hc
  | slice t x lo hi mx =>
    cases mx with
    | some m => simp [compOp] at hc
    | none =>
      simp only [compOp] at hc
      split at hc
      · rename_i ti hti
        have hk := (hT _ _ hti).kd
        split at hc
        · rename_i q; rw [q] at hk
          cases hc
          simp only [istep] at h
          have hx := hp x (by simp [looks])
          split at h
          · rename_i s' q1
            rw [q1] at hx
            split at h
            · rename_i l0 h0 o1 o2
              cases h
              have := slS_ok (sid := s) (P := P) (ev := ev) (val := fun y => peel (raw y)) hH hk (s := s') (lo := lo) (hi := hi) (fun y hy => hp y (by simp [looks, hy])) (fun y hy => hp y (by simp [looks, hy])) o1 o2 (hl _ (.head _)) (hl _ (.tail _ (.head _))) (hl _ (.tail _ (.tail _ (.head _))))
              simp only [execOp, hx.scv, Option.map_none]
              exact this
            · cases h
          · cases h
        · rename_i e q; rw [q] at hk
          split at hc
          · rename_i te hte
            cases hc
            have := slL_ok (s := s) (ev := ev) hH hk (hT _ _ hte) (hp x (by simp [looks])) rfl (lo := lo) (hi := hi) (fun y hy => hp y (by simp [looks, hy])) (fun y hy => hp y (by simp [looks, hy])) h hl
            simp only [execOp, Option.map_none]
            exact this
          · cases hc
        · cases hc
      · cases hc
  | extract x i =>
    simp only [compOp] at hc; cases hc
    simp only [istep] at h
    have hx := hp x (by simp [looks])
    split at h
    · rename_i vs q
      rw [q] at hx
      split at h
      · rename_i v' r hd
        cases h
        obtain ⟨_, h2⟩ := dropL_spec _ _ _ hd
        have hg : vs[i]? = some v := by
          have : (vs.drop i)[0]? = some v := by rw [← h2]; rfl
          simpa using this
        obtain ⟨arr, u, e, hu, hr⟩ := tp_get hx i hg
        exact .same hH (by simp [execOp, e, Instr.extract, hu]) hr
      · cases h
    · rename_i c p r q
      rw [q] at hx
      generalize hv : ev x = vx at hx
      cases hx with
      | nx =>
        split at h
        · cases h
          cases c <;> exact .same hH (by simp [execOp, hv, Instr.extract]) (scB_ok _)
        · cases h
          have hc : c = true := hl _ (.head _)
          subst hc
          exact .same hH (by simp [execOp, hv, Instr.extract]) (scI_ok _ _)
        · cases h
          have hc : c = true := hl _ (.head _)
          subst hc
          exact .same hH (by simp [execOp, hv, Instr.extract]) (scI_ok _ _)
        · cases h
    · cases h
  | range t x =>
    simp only [compOp] at hc
    split at hc
    · rename_i ti hti
      have hk := (hT _ _ hti).kd
      split at hc
      · rename_i q; rw [q] at hk
        cases hc
        simp only [istep] at h
        have hx := hp x (by simp [looks])
        split at h
        · rename_i b q'
          rw [q'] at hx
          cases h
          have := rng_ok (P := P) hH hs hk b
          simpa [execOp, hx.scv] using this
        · cases h
      · cases hc
    · cases hc
  | next x isS =>
    cases isS with
    | false => simp [compOp] at hc
    | true =>
      simp only [compOp] at hc; cases hc
      simp only [istep] at h
      have hx := hp x (by simp [looks])
      split at h
      · rename_i b q
        rw [q] at hx
        split at h
        · rename_i t p hb
          cases h
          exact nxt_ok hH hx hb
        · cases h
      · cases h
  | makeFunc fn a b =>
    simp only [compOp] at hc; cases hc; cases h
    have h1 := map_rel (w := w) (O := O) (ρ := ρ) (xs := a.toList) (f := fun x => peel (raw x)) (g := ev) (fun x hx => hp x (by simp only [looks, List.mem_append]; exact .inl hx))
    have h2 := map_rel (w := w) (O := O) (ρ := ρ) (xs := b.toList) (f := fun x => peel (raw x)) (g := ev) (fun x hx => hp x (by simp only [looks, List.mem_append]; exact .inr hx))
    simp only [Array.toArray_toList] at h1 h2
    refine .same hH (v' := .func fn (a.map ev) (b.map ev)) (by simp [execOp, Instr.makeFunc]) (.fv fn _ _ _ _ (fun j => (a.map ev).getD j undef) (fun j => (b.map ev).getD j undef) (by simp) (fun j hj => ?_) (fun j x hx => ?_) (by simp) (fun j hj => ?_) (fun j x hx => ?_))
    · simp at hj; simp [hj]
    · obtain ⟨u, hu, hr⟩ := h1 j x hx
      rw [show (a.map ev).getD j undef = u by simp only [Array.getD_eq_getD_getElem?, hu, Option.getD_some]]; exact hr
    · simp at hj; simp [hj]
    · obtain ⟨u, hu, hr⟩ := h2 j x hx
      rw [show (b.map ev).getD j undef = u by simp only [Array.getD_eq_getD_getElem?, hu, Option.getD_some]]; exact hr
  | call c =>
    obtain ⟨callee, args, argTypes⟩ := c
    simp only [compOp] at hc
    exact call_ok hT hc hraw hp hH hs h hl
  | _ => simp [compOp] at hc
end
end Am
end
section
open Go Go.Lib
set_option linter.unusedVariables false
set_option linter.unusedSimpArgs false
set_option linter.unusedSectionVars false
namespace Am
section
variable {P : Program} {w : World} {O : Own} {ρ : Place} {H : Heap}
theorem nil_of {α : Type} {a : Array α} (h : a.toList = []) : a = #[] := by rw [← Array.toArray_toList (xs := a), h]
theorem xstep_ok {tab : Tab} (hT : TabOK P tab) {o : Oper} {i : Xt} (hc : compXt tab o = some i) {ev : Operand → Value} {raw : Operand → V} (hp : ∀ x ∈ xlooks i, RV w O ρ (peel (raw x)) (ev x)) (hH : HOK w O ρ H) {s : Nat} (hs : ρ s = .unset)
    {v : V} {d : Delta} {l : List Prop} (h : xstep Env.std (fun y => peel (raw y)) H s i = some (v, d, l)) (hl : ∀ p ∈ l, p) (hconst : ∀ c, ev (.const c) = c) : StepOK P w O ρ H s (execOp ev o) v d := by
  obtain ⟨dst, op, type, pos, after, guard⟩ := o
  unfold compXt at hc
  dsimp only at hc
  split at hc
  · rename_i t ps
    split at hc
    · rename_i ti hti
      have hk := (hT _ _ hti).kd
      split at hc
      · rename_i e q; rw [q] at hk
        split at hc
        · rename_i te hte hps
          cases hc
          have hps := nil_of hps
          subst hps
          simp only [xstep] at h
          cases h
          exact .congr (by simp [execOp]) (bsl0_ok hH hs hk (hT _ _ hte))
        · cases hc
      · cases hc
    · cases hc
  · rename_i t n ps _
    split at hc
    · split at hc
      · rename_i ti hti
        have hk := (hT _ _ hti).kd
        split at hc
        · rename_i e q; rw [q] at hk
          split at hc
          · rename_i te hte
            split at hc
            · rename_i hcond
              cases hc
              simp only [xstep] at h
              split at h
              · rename_i us hus
                split at h
                · rename_i rows hrows
                  cases h
                  exact .congr (by simp [execOp]) (bslF_ok hH hs hk (hT _ _ hte) hcond.2.2 hcond.2.1 hcond.1 hus (fun p hp' => hp p.2 (by simp only [xlooks, List.mem_map]; exact ⟨p, hp', rfl⟩)) hrows)
                · cases h
              · cases h
            · cases hc
          · cases hc
        · cases hc
      · cases hc
    · cases hc
  · rename_i t x lo hi mx
    split at hc
    · rename_i ti hti
      have hk := (hT _ _ hti).kd
      split at hc
      · rename_i e q; rw [q] at hk
        split at hc
        · rename_i te hte
          cases hc
          exact sl3_ok (ev := ev) (val := fun y => peel (raw y)) hH hk (hT _ _ hte) (fun y hy => hp y hy) h hl
        · cases hc
      · cases hc
    · cases hc
  · rename_i t a b
    split at hc
    · rename_i hab
      subst hab
      split at hc
      · rename_i ti hti
        have hk := (hT _ _ hti).kd
        split at hc
        · rename_i e q; rw [q] at hk
          split at hc
          · rename_i te hte
            cases hc
            exact mks_ok hH hs hk (hT _ _ hte) (hp _ (by simp [xlooks])) rfl h hl
          · cases hc
        · cases hc
      · cases hc
    · cases hc
  · rename_i t a b
    split at hc
    · rename_i hab
      subst hab
      split at hc
      · rename_i ti hti
        have hk := (hT _ _ hti).kd
        split at hc
        · rename_i e q; rw [q] at hk
          split at hc
          · rename_i te hte
            cases hc
            exact mks_ok hH hs hk (hT _ _ hte) (hp _ (by simp [xlooks])) rfl h hl
          · cases hc
        · cases hc
      · cases hc
    · cases hc
  · rename_i t
    split at hc
    · rename_i ti hti
      split at hc
      · split at hc
        · split at hc
          · cases hc
            simp only [xstep] at h
            cases h
            exact mkm_ok hH hs t _ _
          · cases hc
        · cases hc
      · cases hc
    · cases hc
  · rename_i t m k x
    split at hc
    · rename_i ti hti
      have hk := (hT _ _ hti).kd
      split at hc
      · rename_i kt e q; rw [q] at hk
        split at hc
        · rename_i tk te htk hte
          have hkk := (hT _ _ htk).kd
          split at hc
          · rename_i kk q2; rw [q2] at hkk
            cases hc
            exact mup_ok (ev := ev) (val := fun y => peel (raw y)) hH hk hkk (fun y hy => hp y hy) h hl
          · cases hc
        · cases hc
      · cases hc
    · cases hc
  · rename_i t m k x
    split at hc
    · rename_i ti hti
      have hk := (hT _ _ hti).kd
      split at hc
      · rename_i kt e q; rw [q] at hk
        split at hc
        · rename_i tk te htk hte
          have hkk := (hT _ _ htk).kd
          split at hc
          · rename_i kk q2; rw [q2] at hkk
            cases hc
            exact mup_ok (ev := ev) (val := fun y => peel (raw y)) hH hk hkk (fun y hy => hp y hy) h hl
          · cases hc
        · cases hc
      · cases hc
    · cases hc
  · rename_i t m k ok
    split at hc
    · rename_i ti hti
      have hk := (hT _ _ hti).kd
      split at hc
      · rename_i kt e q; rw [q] at hk
        split at hc
        · rename_i tk te htk hte
          have hkk := (hT _ _ htk).kd
          split at hc
          · rename_i kk q2; rw [q2] at hkk
            split at hc
            · rename_i hz
              cases hc
              exact mlk_ok (ev := ev) (val := fun y => peel (raw y)) hH hk hkk (hT _ _ hte) hz (fun y hy => hp y hy) h hl
            · cases hc
          · cases hc
        · cases hc
      · cases hc
    · cases hc
  · rename_i c
    obtain ⟨callee, args, ats⟩ := c
    dsimp only at hc
    split at hc
    · rename_i x y t t' ha ht
      have ha := two_of ha
      have ht := two_of ht
      subst ha ht
      have hexec : execOp ev ⟨dst, .call ⟨.builtin .append, #[x, y], #[t, t']⟩, type, pos, after, guard⟩ = (do pure (.value (← Builtin.append_ #[t, t'] type #[ev x, ev y]))) := by
        simp only [execOp, resolve, invoke, builtin, List.map_toArray, List.map_cons, List.map_nil]
        rfl
      rw [hexec]
      split at hc
      · rename_i ti tj hti htj
        have hk := (hT _ _ hti).kd
        have hk' := (hT _ _ htj).kd
        split at hc
        · rename_i e e' q q'; rw [q] at hk; rw [q'] at hk'
          split at hc
          · rename_i hee
            subst hee
            split at hc
            · split at hc
              · rename_i te hte
                cases hc
                exact appW_ok hH hk hk' (hT _ _ hte) (hp _ (by simp [xlooks])) (hp _ (by simp [xlooks])) rfl rfl h hl
              · cases hc
            · cases hc
          · cases hc
        · rename_i e q q'; rw [q] at hk; rw [q'] at hk'
          split at hc
          · rename_i te hte
            cases hc
            exact appZ_ok hH hs hk hk' (hT _ _ hte) (hp _ (by simp [xlooks])) (hp _ (by simp [xlooks])) rfl rfl h hl
          · cases hc
        · cases hc
      · cases hc
    · rename_i x y t t' ha ht
      have ha := two_of ha
      have ht := two_of ht
      subst ha ht
      have hexec : execOp ev ⟨dst, .call ⟨.builtin .copy, #[x, y], #[t, t']⟩, type, pos, after, guard⟩ = (do pure (.value (← Builtin.copy_ #[t, t'] type #[ev x, ev y]))) := by
        simp only [execOp, resolve, invoke, builtin, List.map_toArray, List.map_cons, List.map_nil]
        rfl
      rw [hexec]
      split at hc
      · rename_i ti tj hti htj
        have hk := (hT _ _ hti).kd
        split at hc
        · rename_i e e' q q'; rw [q] at hk
          split at hc
          · split at hc
            · rename_i te hte
              cases hc
              exact cpy_ok hH hk (hT _ _ hte) (hp _ (by simp [xlooks])) (hp _ (by simp [xlooks])) rfl rfl h hl
            · cases hc
          · cases hc
        · cases hc
      · cases hc
    · rename_i x t ha ht
      have ha := one_of ha
      have ht := one_of ht
      subst ha ht
      have hexec : execOp ev ⟨dst, .call ⟨.builtin .clear, #[x], #[t]⟩, type, pos, after, guard⟩ = (do pure (.value (← Builtin.clear_ #[t] type #[ev x]))) := by
        simp only [execOp, resolve, invoke, builtin, List.map_toArray, List.map_cons, List.map_nil]
        rfl
      rw [hexec]
      split at hc
      · rename_i ti hti
        have hk := (hT _ _ hti).kd
        split at hc
        · rename_i e q; rw [q] at hk
          split at hc
          · rename_i te hte
            cases hc
            exact clr_ok hH hk (hT _ _ hte) (hp _ (by simp [xlooks])) rfl h hl
          · cases hc
        · cases hc
      · cases hc
    · cases hc
  · cases hc
theorem any_ok {tab : Tab} (hT : TabOK P tab) {o : Oper} {i : In} (hc : compAny tab o = some i) {ev : Operand → Value} {raw : Operand → V} (hraw : ∀ x, RV w O ρ (raw x) (ev x)) (hp : ∀ x ∈ looks i, RV w O ρ (peel (raw x)) (ev x)) (hH : HOK w O ρ H) {s : Nat} (hs : ρ s = .unset)
    {v : V} {d : Delta} {l : List Prop} (h : istep Env.std raw H s i = some (v, d, l)) (hl : ∀ p ∈ l, p) (hconst : ∀ c, ev (.const c) = c) : StepOK P w O ρ H s (execOp ev o) v d := by
  unfold compAny at hc
  split at hc
  · rename_i x hx
    cases hc
    exact xstep_ok hT hx hp hH hs h hl hconst
  · exact istep_ok hT hc hraw hp hH hs h hl
end
end Am
end
section
open Go Go.Lib
set_option linter.unusedVariables false
set_option linter.unusedSimpArgs false
set_option linter.unusedSectionVars false
namespace Am
def opds : In → List Operand
  | .xt x => xlooks x
  | .mv x => [x] | .pick c a b => [c, a, b] | .alloc _ => []
  | .box _ x | .ld _ _ x | .nilck x | .un _ x | .cvI _ x | .cvR x | .cvS _ x | .cvB x | .fad _ x | .fld _ _ _ x | .ext x _ | .len _ x | .rng x | .nxt x => [x]
  | .build _ ps => ps.map fun p => p.2.2
  | .bsl _ _ _ _ ps => ps.map fun p => p.2
  | .st _ a x | .bin _ _ _ a x | .iadS _ a x | .iadA _ _ a x | .ixA _ _ _ a x | .ixS a x | .app _ _ _ a x | .appS _ _ a x | .mn a x => [a, x]
  | .slS x lo hi | .slL _ x lo hi => x :: (lo.toList ++ hi.toList)
  | .mkfn _ a b => a ++ b
def idV : V → List Nat
  | .sr b _ _ _ => [b]
  | .pb b _ => [b]
  | .pa b _ _ _ => [b]
  | .so b _ _ _ => [b]
  | .mp b => [b]
  | _ => []
def tcOf (raw : Operand → V) : In → List Nat
  | .ld _ _ x => idV (peel (raw x))
  | .st _ a _ => idV (peel (raw a))
  | .cvB x => idV (peel (raw x))
  | .app _ _ _ x y => idV (peel (raw x)) ++ idV (peel (raw y))
  | .appS _ _ x _ => idV (peel (raw x))
  | .nxt x => idV (peel (raw x))
  | .slL _ x _ _ => idV (peel (raw x))
  | .xt x => (xlooks x).flatMap fun y => idV (peel (raw y))
  | _ => []
def xallocs : Xt → Bool
  | .bsl0 .. | .appZ .. | .mks .. | .mkm .. => true
  | _ => false
def allocs : In → Bool
  | .xt x => xallocs x
  | .alloc _ | .box _ _ | .bsl .. | .app .. | .appS .. | .rng _ => true
  | _ => false
section
variable {E : Env} {raw raw' : Operand → V} {H H' : Heap}
theorem readP_congr {z : Nat} {x : V} (h : ∀ b ∈ idV x, blkAt H b = blkAt H' b) : readP E H z x = readP E H' z x := by
  cases x <;> simp only [readP, idV] at h ⊢
  · rw [h _ (by simp)]
  · rw [h _ (by simp)]
theorem rowsOf_congr {z : Nat} {x : V} (h : ∀ b ∈ idV x, blkAt H b = blkAt H' b) : rowsOf E H z x = rowsOf E H' z x := by
  cases x with
  | sr b z' off len => simp only [rowsOf, idV] at h ⊢; rw [h _ (by simp)]
  | so b z' off len => simp only [rowsOf, idV] at h ⊢; rw [h _ (by simp)]
  | u x =>
    cases x with
    | sv o z' n f => rfl
    | any => rfl
    | sc v =>
      cases v <;> try rfl
      rename_i a b c
      cases a <;> cases b <;> cases c <;> rfl
  | _ => simp only [rowsOf]
theorem fillV_congr {val val' : Operand → V} : ∀ (ps : List (Nat × Nat × Operand)) (cells : List V), (∀ p ∈ ps, val p.2.2 = val' p.2.2) → fillV val cells ps = fillV val' cells ps
  | [], cells, h => rfl
  | (off, size, x) :: rest, cells, h => by
    simp only [fillV, h _ (.head _)]
    split
    · split
      · split
        · exact fillV_congr rest _ fun p hp => h p (.tail _ hp)
        · rfl
      · rfl
    · rfl
theorem fillR_congr {val val' : Operand → V} {z : Nat} : ∀ (ps : List (Nat × Operand)) (rows : List (List U)), (∀ p ∈ ps, val p.2 = val' p.2) → fillR val z rows ps = fillR val' z rows ps
  | [], rows, h => rfl
  | (i, x) :: rest, rows, h => by
    simp only [fillR, h _ (.head _)]
    split
    · split
      · split
        · split
          · exact fillR_congr rest _ fun p hp => h p (.tail _ hp)
          · rfl
        · rfl
      · rfl
    · rfl
theorem optI_congr {val val' : Operand → V} {d : Int} : ∀ (o : Option Operand), (∀ x ∈ o.toList, val x = val' x) → optI d val o = optI d val' o
  | none, h => rfl
  | some x, h => by simp only [optI, h x (by simp)]
theorem arrAt_congr {b : Nat} (h : blkAt H b = blkAt H' b) : arrAt H b = arrAt H' b := by unfold arrAt; rw [h]
theorem ownAt_id {x : V} {b z len : Nat} {off : Option Nat} (h : ownAt x = some (b, z, off, len)) : b ∈ idV x := by
  unfold ownAt at h
  split at h <;> first | (cases h; simp [idV]; done) | cases h
theorem srcOf_congr {z : Nat} {x : V} (h : ∀ b ∈ idV x, blkAt H b = blkAt H' b) : srcOf E H z x = srcOf E H' z x := by
  unfold srcOf
  split
  · rfl
  · rfl
  · split
    · rename_i b z' off len ho
      rw [arrAt_congr (h b (ownAt_id ho))]
    · rfl
theorem xstep_congr {s s' : Nat} {val val' : Operand → V} (i : Xt) (hr : ∀ x ∈ xlooks i, val x = val' x) (hH : ∀ b ∈ (xlooks i).flatMap fun y => idV (val y), blkAt H b = blkAt H' b) (hs : xallocs i = true → s = s') : xstep E val H s i = xstep E val' H' s' i := by
  have hid : ∀ y ∈ xlooks i, ∀ b ∈ idV (val y), blkAt H b = blkAt H' b := fun y hy b hb => hH b (List.mem_flatMap.2 ⟨y, hy, hb⟩)
  cases i with
  | bsl0 e z => rw [hs rfl]; rfl
  | bslF e z len zero ps =>
    simp only [xstep]
    split
    · rw [fillR_congr ps _ fun p hp => hr _ (by simp only [xlooks, List.mem_map]; exact ⟨p, hp, rfl⟩)]
    · rfl
  | mkm k set => rw [hs rfl]; rfl
  | appW z x y =>
    simp only [xstep, ← hr x (by simp [xlooks]), ← hr y (by simp [xlooks])]
    rw [rowsOf_congr (hid y (by simp [xlooks]))]
    split
    · rename_i b z' len hrow hx
      rw [arrAt_congr (hid x (by simp [xlooks]) b (by rw [hx]; simp [idV]))]
    · rfl
  | appZ e z by_ zero x n =>
    rw [hs rfl]
    simp only [xstep, ← hr x (by simp [xlooks]), ← hr n (by simp [xlooks])]
    split
    · rfl
    · rename_i b z' len k hus hx hk
      rw [hid x (by simp [xlooks]) b (by rw [hx]; simp [idV])]
    · rfl
  | sl3 z x lo hi mx => simp only [xstep, ← hr x (by simp [xlooks]), ← hr lo (by simp [xlooks]), ← hr hi (by simp [xlooks]), ← hr mx (by simp [xlooks])]
  | cpy z x y =>
    simp only [xstep, ← hr x (by simp [xlooks]), ← hr y (by simp [xlooks])]
    rw [srcOf_congr (hid y (by simp [xlooks]))]
    split
    · rename_i b z' off len hrow hx
      rw [hid x (by simp [xlooks]) b (ownAt_id hx)]
    · rfl
  | clr z zero x =>
    simp only [xstep, ← hr x (by simp [xlooks])]
    split
    · rename_i us b z' off len hus hx
      rw [arrAt_congr (hid x (by simp [xlooks]) b (ownAt_id hx))]
    · rfl
  | mks e z by_ zero n => rw [hs rfl]; simp only [xstep, ← hr n (by simp [xlooks])]
  | mup q m k v =>
    simp only [xstep, ← hr m (by simp [xlooks]), ← hr k (by simp [xlooks]), ← hr v (by simp [xlooks])]
    split
    · rename_i b kk i hm hk
      rw [hid m (by simp [xlooks]) b (by rw [hm]; simp [idV])]
    · rfl
  | mlk q ok m k =>
    simp only [xstep, ← hr m (by simp [xlooks]), ← hr k (by simp [xlooks])]
    split
    · rename_i b kk i hm hk
      rw [hid m (by simp [xlooks]) b (by rw [hm]; simp [idV])]
    · rfl
theorem istep_congr {s s' : Nat} (i : In) (hr : ∀ x ∈ opds i, raw x = raw' x) (hH : ∀ b ∈ tcOf raw i, blkAt H b = blkAt H' b) (hs : allocs i = true → s = s') : istep E raw H s i = istep E raw' H' s' i := by
  cases i with
  | xt x =>
    simp only [istep]
    exact xstep_congr x (fun y hy => by rw [hr y hy]) hH hs
  | mv x => simp only [istep, hr x (by simp [opds])]
  | pick c a b => simp only [istep, hr c (by simp [opds]), hr a (by simp [opds]), hr b (by simp [opds])]
  | alloc zero => rw [hs rfl]; rfl
  | box z x => rw [hs rfl]; simp only [istep, hr x (by simp [opds])]
  | build zero ps =>
    simp only [istep]
    rw [fillV_congr (val := fun x => peel (raw x)) (val' := fun x => peel (raw' x)) ps _ fun p hp => by rw [hr _ (by simp only [opds, List.mem_map]; exact ⟨p, hp, rfl⟩)]]
  | bsl e z len zero ps =>
    rw [hs rfl]
    simp only [istep]
    split
    · rw [fillR_congr (val := fun x => peel (raw x)) (val' := fun x => peel (raw' x)) ps _ fun p hp => by rw [hr _ (by simp only [opds, List.mem_map]; exact ⟨p, hp, rfl⟩)]]
    · rfl
  | ld agg z x => simp only [istep, ← hr x (by simp [opds])]; rw [readP_congr hH]
  | st z a x =>
    simp only [istep, ← hr x (by simp [opds]), ← hr a (by simp [opds])]
    simp only [tcOf] at hH
    split
    · split
      · split
        · rename_i b o ha; rw [ha] at hH; rw [hH b (by simp [idV])]
        · rename_i b z' i f ha; rw [ha] at hH; rw [hH b (by simp [idV])]
        · rfl
      · rfl
    · rfl
  | nilck x => simp only [istep, hr x (by simp [opds])]
  | bin op agg q x y => simp only [istep, hr x (by simp [opds]), hr y (by simp [opds])]
  | un op x => simp only [istep, hr x (by simp [opds])]
  | cvI k x => simp only [istep, hr x (by simp [opds])]
  | cvR x => simp only [istep, hr x (by simp [opds])]
  | cvS e x => simp only [istep, hr x (by simp [opds])]
  | cvB x => simp only [istep, ← hr x (by simp [opds])]; rw [rowsOf_congr hH]
  | fad off x => simp only [istep, hr x (by simp [opds])]
  | iadS z x i => simp only [istep, hr x (by simp [opds]), hr i (by simp [opds])]
  | iadA n z x i => simp only [istep, hr x (by simp [opds]), hr i (by simp [opds])]
  | ixA n z agg x i => simp only [istep, hr x (by simp [opds]), hr i (by simp [opds])]
  | ixS x i => simp only [istep, hr x (by simp [opds]), hr i (by simp [opds])]
  | fld agg off z x => simp only [istep, hr x (by simp [opds])]
  | slS x lo hi =>
    simp only [istep, hr x (by simp [opds])]
    split
    · rw [optI_congr (val' := fun y => peel (raw' y)) lo fun y hy => by rw [hr y (by simp only [opds]; exact .tail _ (List.mem_append_left _ hy))], optI_congr (val' := fun y => peel (raw' y)) hi fun y hy => by rw [hr y (by simp only [opds]; exact .tail _ (List.mem_append_right _ hy))]]
    · rfl
  | slL z x lo hi =>
    have h1 : ∀ d, optI d (fun y => peel (raw y)) lo = optI d (fun y => peel (raw' y)) lo := fun d => optI_congr lo fun y hy => by rw [hr y (by simp only [opds]; exact .tail _ (List.mem_append_left _ hy))]
    have h2 : ∀ d, optI d (fun y => peel (raw y)) hi = optI d (fun y => peel (raw' y)) hi := fun d => optI_congr hi fun y hy => by rw [hr y (by simp only [opds]; exact .tail _ (List.mem_append_right _ hy))]
    simp only [istep, ← hr x (by simp [opds]), h1, h2]
    simp only [tcOf] at hH
    split
    · rfl
    · rename_i b z' len hx; rw [hx] at hH; rw [hH b (by simp [idV])]
    · rfl
    · rfl
  | ext x i => simp only [istep, hr x (by simp [opds])]
  | len str x => simp only [istep, hr x (by simp [opds])]
  | app e z by_ x y =>
    rw [hs rfl]
    simp only [istep, ← hr x (by simp [opds]), ← hr y (by simp [opds])]
    simp only [tcOf] at hH
    rw [rowsOf_congr fun b hb => hH b (List.mem_append_right _ hb)]
    split
    · split
      · rfl
      · rename_i b z' len ha
        rw [hH b (by rw [ha]; simp [idV])]
      · rfl
    · rfl
  | appS e by_ x y =>
    rw [hs rfl]
    simp only [istep, ← hr x (by simp [opds]), ← hr y (by simp [opds])]
    simp only [tcOf] at hH
    split
    · split
      · rfl
      · rename_i b z' len ha
        rw [hH b (by rw [ha]; simp [idV])]
      · rfl
    · rfl
  | mkfn fn a b =>
    simp only [istep]
    rw [List.map_congr_left (l := a) fun x hx => by rw [hr x (by simp [opds, hx])], List.map_congr_left (l := b) fun x hx => by rw [hr x (by simp [opds, hx])]]
  | mn x y => simp only [istep, hr x (by simp [opds]), hr y (by simp [opds])]
  | rng x => rw [hs rfl]; simp only [istep, hr x (by simp [opds])]
  | nxt x =>
    simp only [istep, ← hr x (by simp [opds])]
    simp only [tcOf] at hH
    split
    · rename_i b ha; rw [ha] at hH; rw [hH b (by simp [idV])]
    · rfl
theorem alloc_mem {s : Nat} {i : In} {v : V} {d : Delta} {obs : List Prop} (ha : allocs i = true) (h : istep E raw H s i = some (v, d, obs)) : ∃ x, (s, x) ∈ d := by
  cases i <;> simp only [allocs, Bool.false_eq_true] at ha <;> simp only [istep] at h
  · rename_i x
    cases x <;> simp only [xallocs, Bool.false_eq_true] at ha <;> simp only [xstep] at h
    · cases h; exact ⟨_, .head _⟩
    · split at h
      · cases h; exact ⟨_, .head _⟩
      · split at h
        · split at h
          · split at h
            · split at h
              · cases h; exact ⟨_, .head _⟩
              · cases h
            · cases h
          · cases h
        · cases h
      · cases h
    · split at h
      · cases h; exact ⟨_, .head _⟩
      · cases h
    · cases h; exact ⟨_, .head _⟩
  · cases h; exact ⟨_, .head _⟩
  · split at h
    · cases h; exact ⟨_, .head _⟩
    · cases h
  · split at h
    · split at h
      · cases h; exact ⟨_, .head _⟩
      · cases h
    · cases h
  · split at h
    · split at h
      · cases h; exact ⟨_, .head _⟩
      · split at h
        · split at h
          · split at h
            · split at h
              · cases h; exact ⟨_, .head _⟩
              · cases h
            · cases h
          · cases h
        · cases h
      · cases h
    · cases h
  · split at h
    · split at h
      · cases h; exact ⟨_, .head _⟩
      · split at h
        · split at h
          · split at h
            · split at h
              · cases h; exact ⟨_, .head _⟩
              · cases h
            · cases h
          · cases h
        · cases h
      · cases h
    · cases h
  · split at h
    · cases h; exact ⟨_, .head _⟩
    · cases h
theorem looks_opds (i : In) : ∀ x ∈ looks i, x ∈ opds i := by
  intro x hx
  cases i <;> simp only [looks, opds] at hx ⊢ <;> first | exact hx | (simp at hx; done) | (simp at hx; subst hx; simp)
end
end Am
end
section
open Go Go.Lib
set_option linter.unusedVariables false
set_option linter.unusedSimpArgs false
set_option linter.unusedSectionVars false
namespace Am
def memT : Nat → List Nat → Bool
  | _, [] => false
  | n, x :: l => Nat.beq n x || memT n l
def hit (es : List Nat) : Tg → Bool
  | .any => true
  | .old => false
  | .new e => memT e es
def anyL : Nat → List U
  | 0 => []
  | n + 1 => .any :: anyL n
mutual
def fgU (es : List Nat) : U → U
  | .sc v => .sc v
  | .any => .any
  | .sv o z n f => .sv o z n (fun i => if hit es o then anyL z else fgUs es (f i))
def fgUs (es : List Nat) : List U → List U
  | [] => []
  | x :: l => fgU es x :: fgUs es l
end
def likeL : List U → List U
  | [] => []
  | _ :: l => .any :: likeL l
mutual
def fgV (es : List Nat) : V → V
  | .u x => .u (fgU es x)
  | .rp o cs => if hit es o then .rp o (likeL cs) else .rp o (fgUs es cs)
  | .ag cs => .ag (fgVs es cs)
  | .tp cs => .tp (fgVs es cs)
  | .fv fn a b => .fv fn (fgVs es a) (fgVs es b)
  | .iv t x => .iv t (fgV es x)
  | .gd c x => .gd c (fgV es x)
  | .un => .un
  | .sr b z o l => .sr b z o l
  | .so b z o l => .so b z o l
  | .pb b o => .pb b o
  | .pa b z i f => .pa b z i f
  | .mp b => .mp b
  | .nx c i r => .nx c i r
def fgVs (es : List Nat) : List V → List V
  | [] => []
  | x :: l => fgV es x :: fgVs es l
end
def fgE (es : List Nat) : List (Int × U) → List (Int × U)
  | [] => []
  | (i, x) :: l => (i, fgU es x) :: fgE es l
def fgB (es : List Nat) : Blk → Blk
  | .gone => .gone
  | .box cs => .box (fgVs es cs)
  | .arr e z n F => .arr e z n (fun i => fgUs es (F i))
  | .arc e z n F c => .arc e z n (fun i => fgUs es (F i)) c
  | .it s p => .it s p
  | .ms k p => .ms k p
  | .ml k l => .ml k (fgE es l)
def fgH (es : List Nat) : Heap → Heap
  | [] => []
  | x :: l => fgB es x :: fgH es l
theorem memT_spec : ∀ (n : Nat) (l : List Nat), memT n l = true ↔ n ∈ l
  | n, [] => by simp [memT]
  | n, x :: l => by
    have : Nat.beq n x = true ↔ n = x := ⟨Nat.eq_of_beq_eq_true, fun h => by rw [h]; exact Nat.beq_refl x⟩
    simp [memT, memT_spec n l, this]
theorem anyL_length : ∀ n, (anyL n).length = n
  | 0 => rfl
  | n + 1 => by simp [anyL, anyL_length n]
theorem anyL_get : ∀ (n j : Nat) (x : U), (anyL n)[j]? = some x → x = .any ∧ j < n
  | 0, j, x, h => by simp [anyL] at h
  | n + 1, 0, x, h => by simp [anyL] at h; exact ⟨h.symm, by omega⟩
  | n + 1, j + 1, x, h => by obtain ⟨h1, h2⟩ := anyL_get n j x (by simpa [anyL] using h); exact ⟨h1, by omega⟩
theorem likeL_length : ∀ l : List U, (likeL l).length = l.length
  | [] => rfl
  | x :: l => by simp [likeL, likeL_length l]
theorem likeL_get : ∀ (l : List U) (j : Nat) (x : U), (likeL l)[j]? = some x → x = .any ∧ j < l.length
  | [], j, x, h => by simp [likeL] at h
  | y :: l, 0, x, h => by simp [likeL] at h; exact ⟨h.symm, by simp⟩
  | y :: l, j + 1, x, h => by obtain ⟨h1, h2⟩ := likeL_get l j x (by simpa [likeL] using h); exact ⟨h1, by simp; omega⟩
theorem fgUs_length (es : List Nat) : ∀ l : List U, (fgUs es l).length = l.length
  | [] => rfl
  | x :: l => by simp [fgUs, fgUs_length es l]
theorem fgUs_get (es : List Nat) : ∀ (l : List U) (j : Nat) (y : U), (fgUs es l)[j]? = some y → ∃ x, l[j]? = some x ∧ y = fgU es x
  | [], j, y, h => by simp [fgUs] at h
  | x :: l, 0, y, h => by simp [fgUs] at h; exact ⟨x, rfl, h.symm⟩
  | x :: l, j + 1, y, h => by simpa using fgUs_get es l j y (by simpa [fgUs] using h)
theorem fgVs_length (es : List Nat) : ∀ l : List V, (fgVs es l).length = l.length
  | [] => rfl
  | x :: l => by simp [fgVs, fgVs_length es l]
theorem fgVs_get (es : List Nat) : ∀ (l : List V) (j : Nat) (y : V), (fgVs es l)[j]? = some y → ∃ x, l[j]? = some x ∧ y = fgV es x
  | [], j, y, h => by simp [fgVs] at h
  | x :: l, 0, y, h => by simp [fgVs] at h; exact ⟨x, rfl, h.symm⟩
  | x :: l, j + 1, y, h => by simpa using fgVs_get es l j y (by simpa [fgVs] using h)
theorem fgE_get (es : List Nat) : ∀ (l : List (Int × U)) (j : Nat) (i : Int) (y : U), (fgE es l)[j]? = some (i, y) → ∃ x, l[j]? = some (i, x) ∧ y = fgU es x
  | [], j, i, y, h => by simp [fgE] at h
  | (a, x) :: l, 0, i, y, h => by simp [fgE] at h; obtain ⟨rfl, rfl⟩ := h; exact ⟨x, rfl, rfl⟩
  | (a, x) :: l, j + 1, i, y, h => by simpa using fgE_get es l j i y (by simpa [fgE] using h)
theorem fgE_length (es : List Nat) : ∀ l : List (Int × U), (fgE es l).length = l.length
  | [] => rfl
  | (a, x) :: l => by simp [fgE, fgE_length es l]
theorem fgH_length (es : List Nat) : ∀ H : Heap, (fgH es H).length = H.length
  | [] => rfl
  | x :: l => by simp [fgH, fgH_length es l]
theorem fgH_get (es : List Nat) : ∀ (H : Heap) (b : Nat) (y : Blk), (fgH es H)[b]? = some y → ∃ x, H[b]? = some x ∧ y = fgB es x
  | [], b, y, h => by simp [fgH] at h
  | x :: l, 0, y, h => by simp [fgH] at h; exact ⟨x, rfl, h.symm⟩
  | x :: l, b + 1, y, h => by simpa using fgH_get es l b y (by simpa [fgH] using h)
theorem fgB_live (es : List Nat) (x : Blk) : (fgB es x).live ↔ x.live := by cases x <;> simp [fgB, Blk.live]
def Wl (es : List Nat) (O : Own) (w w' : World) (k : Nat) : Prop := ¬ O k ∧ ¬ O.old k ∧ ∃ (cur cur' : Array Value) (e : TypeId), e ∈ es ∧ w.heap[k]? = some (.cells cur e (0, 0)) ∧ w'.heap[k]? = some (.cells cur' e (0, 0)) ∧ cur'.size = cur.size ∧
  ∀ (j : Nat) (v : Value), cur'[j]? = some v → cur[j]? = some v ∨ v.oneCell' = true
structure GoodW (es : List Nat) (w : World) (O : Own) (ρ : Place) (H : Heap) (w' : World) (O' : Own) (ρ' : Place) (H' : Heap) : Prop where
  hok : HOK w' O' ρ' H'
  os : w'.os = w.os
  tape : w'.tape = w.tape
  output : w'.output = w.output
  size : w.heap.size ≤ w'.heap.size
  block : ∀ k, k < w.heap.size → ¬ Img ρ H k → w'.heap[k]? = w.heap[k]? ∨ Wl es O w w' k
  pl : PlLe ρ ρ'
  img : ∀ k, Img ρ' H' k → Img ρ H k ∨ w.heap.size ≤ k
  out : ∀ k, O k → ¬ Img ρ H k → O' k
  inn : ∀ k, O' k → O k ∨ w.heap.size ≤ k
  old : O'.old = O.old
section
variable {w : World} {O : Own} {ρ : Place} {H : Heap}
theorem Good.toW {w' : World} {O' : Own} {ρ' : Place} {H' : Heap} (h : Good w O ρ H w' O' ρ' H') (es : List Nat) : GoodW es w O ρ H w' O' ρ' H' :=
  ⟨h.hok, h.ev.os, h.ev.tape, h.ev.output, h.ev.size, fun k hk hi => .inl (h.ev.block k hk hi), h.pl, h.img, h.out, h.inn, h.old⟩
theorem GoodW.toGood {w' : World} {O' : Own} {ρ' : Place} {H' : Heap} (h : GoodW [] w O ρ H w' O' ρ' H') : Good w O ρ H w' O' ρ' H' :=
  ⟨h.hok, ⟨h.os, h.tape, h.output, h.size, fun k hk hi => (h.block k hk hi).elim (fun h => h) fun ⟨_, _, _, _, _, h, _⟩ => nomatch h⟩, h.pl, h.img, h.out, h.inn, h.old⟩
def May (es0 : List Nat) (w0 : World) (O0 : Own) (es : List Nat) : Prop := ∀ e ∈ es, e ∈ es0 ∨ ∀ k, k < w0.heap.size → ¬ O0 k → O0.old k
theorem GoodW.step {es0 es : List Nat} {w1 w2 w3 : World} {O1 O2 O3 : Own} {ρ1 ρ2 ρ3 : Place} {H1 H2 H3 : Heap} (h0 : HOK w1 O1 ρ1 H1) (hm : May es0 w1 O1 es) (h : GoodW es0 w1 O1 ρ1 H1 w2 O2 ρ2 H2) (k : GoodW es w2 O2 ρ2 H2 w3 O3 ρ3 H3) : GoodW es0 w1 O1 ρ1 H1 w3 O3 ρ3 H3 := by
  refine ⟨k.hok, k.os.trans h.os, k.tape.trans h.tape, k.output.trans h.output, Nat.le_trans h.size k.size, fun i hi hn => ?_, h.pl.trans k.pl, fun i hi => ?_, fun i hi hn => ?_, fun i hi => ?_, k.old.trans h.old⟩
  · have hi2 : ¬ Img ρ2 H2 i := fun hm => by
      rcases h.img i hm with h1 | h1
      · exact hn h1
      · omega
    have a := h.block i hi hn
    rcases k.block i (Nat.lt_of_lt_of_le hi h.size) hi2 with b | ⟨b1, b2, cur, cur', e, b3, b4, b5, b6, b7⟩
    · rcases a with a | ⟨a1, a2, cur, cur', e, a3, a4, a5, a6, a7⟩
      · exact .inl (by rw [b, a])
      · exact .inr ⟨a1, a2, cur, cur', e, a3, a4, by rw [b, a5], a6, a7⟩
    · have n1 : ¬ O1 i := fun ho => b1 (h.out i ho hn)
      have n2 : ¬ O1.old i := by rw [← h.old]; exact b2
      rcases hm e b3 with q | q
      · rcases a with a | ⟨a1, a2, ccur, ccur', e', a3, a4, a5, a6, a7⟩
        · exact .inr ⟨n1, n2, cur, cur', e, q, by rw [← a, b4], b5, b6, b7⟩
        · rw [a5] at b4; cases b4
          refine .inr ⟨a1, a2, ccur, cur', e, a3, a4, b5, by rw [b6, a6], fun j v hv => ?_⟩
          rcases b7 j v hv with c | c
          · exact a7 j v c
          · exact .inr c
      · exact absurd (q i hi n1) n2
  · rcases k.img i hi with h1 | h1
    · exact h.img i h1
    · exact .inr (Nat.le_trans h.size h1)
  · refine k.out i (h.out i hi hn) fun hm => ?_
    rcases h.img i hm with h1 | h1
    · exact hn h1
    · have := h0.lt i hi
      omega
  · rcases k.inn i hi with h1 | h1
    · exact h.inn i h1
    · exact .inr (Nat.le_trans h.size h1)
theorem May.nil {es0 : List Nat} {w0 : World} {O0 : Own} : May es0 w0 O0 [] := fun e h => nomatch h
theorem GoodW.trans {es0 : List Nat} {w1 w2 w3 : World} {O1 O2 O3 : Own} {ρ1 ρ2 ρ3 : Place} {H1 H2 H3 : Heap} (h0 : HOK w1 O1 ρ1 H1) (h : GoodW es0 w1 O1 ρ1 H1 w2 O2 ρ2 H2) (k : Good w2 O2 ρ2 H2 w3 O3 ρ3 H3) : GoodW es0 w1 O1 ρ1 H1 w3 O3 ρ3 H3 := h.step h0 .nil (k.toW [])
structure Wld (es : List Nat) (w : World) (O : Own) (w' : World) (O' : Own) : Prop where
  size : w.heap.size ≤ w'.heap.size
  block : ∀ k, k < w.heap.size → ¬ O k → (w'.heap[k]? = w.heap[k]? ∨ Wl es O w w' k) ∧ ¬ O' k
  old : O'.old = O.old
theorem GoodW.wld {es : List Nat} {w' : World} {O' : Own} {ρ' : Place} {H' : Heap} (h : GoodW es w O ρ H w' O' ρ' H') (h0 : HOK w O ρ H) : Wld es w O w' O' :=
  ⟨h.size, fun k hk ho => ⟨h.block k hk fun hi => ho (img_own h0 hi), fun ho' => by rcases h.inn k ho' with h1 | h1; exact ho h1; omega⟩, h.old⟩
theorem Wld.stab {es : List Nat} {w' : World} {O' : Own} (h : Wld es w O w' O') {o : Tg} {k : Nat} (hk : k < w.heap.size) (hs : Stab w O o k) : Stab w' O' o k := by
  obtain ⟨h1, h2⟩ := h.block k hk hs.1
  refine ⟨h2, ?_⟩
  have := hs.2
  cases o with
  | any => trivial
  | old => show O'.old k; rw [h.old]; exact this
  | new e =>
    obtain ⟨q1, cur, q2⟩ := this
    refine ⟨by rw [h.old]; exact q1, ?_⟩
    rcases h1 with h1 | ⟨_, _, c1, c2, e', _, k1, k2, _⟩
    · exact ⟨cur, by rw [h1, q2]⟩
    · rw [q2] at k1; cases k1; exact ⟨c2, k2⟩
theorem Wld.cells {es : List Nat} {w' : World} {O' : Own} (h : Wld es w O w' O') {o : Tg} {k : Nat} (hk : k < w.heap.size) (hs : Stab w O o k) (hh : hit es o = false) : w'.heap[k]? = w.heap[k]? := by
  obtain ⟨h1, h2⟩ := h.block k hk hs.1
  rcases h1 with h1 | ⟨_, n2, c1, c2, e', q, k1, k2, _⟩
  · exact h1
  · have := hs.2
    cases o with
    | any => cases hh
    | old => exact absurd this n2
    | new e =>
      obtain ⟨_, cur, q2⟩ := this
      rw [q2] at k1; cases k1
      simp only [hit] at hh
      rw [(memT_spec e' es).2 q] at hh
      cases hh
theorem Wld.some_cell {es : List Nat} {w' : World} {O' : Own} (h : Wld es w O w' O') {a : Addr} {v : Value} (ho : ¬ O a.block) (hc : w.cell? a = some v) (h1 : v.oneCell' = true) : ∃ v', w'.cell? a = some v' ∧ v'.oneCell' = true := by
  rcases (h.block a.block (cell_lt hc) ho).1 with q | ⟨_, _, c1, c2, e, _, k1, k2, k3, k4⟩
  · exact ⟨v, by rw [World.cell?_of_block q, hc], h1⟩
  · unfold World.cell? at hc ⊢
    rw [k1] at hc
    rw [k2]
    dsimp only at hc ⊢
    split at hc
    · cases hc
    · rename_i hsp
      rw [if_neg hsp]
      have hlt : a.off < c2.size := by rw [k3]; rcases Nat.lt_or_ge a.off c1.size with h | h; exact h; simp [Array.getElem?_eq_none h] at hc
      refine ⟨c2[a.off], Array.getElem?_eq_getElem hlt, ?_⟩
      rcases k4 a.off _ (Array.getElem?_eq_getElem hlt) with q | q
      · rw [q] at hc; cases hc; exact h1
      · exact q
theorem RU.wild {es : List Nat} {w' : World} {O' : Own} (hk : Wld es w O w' O') {u : U} {v : Value} (h : RU w O u v) : RU w' O' (fgU es u) v := by
  induction h with
  | sc v h1 => simp only [fgU]; exact .sc v h1
  | any v h1 => simp only [fgU]; exact .any v h1
  | sv o z n c f a g hc' ha hl hr ih =>
    simp only [fgU]
    rcases Nat.eq_zero_or_pos (n * z) with h0 | h0
    · refine .sv o z n c _ a g hc' (.inl h0) (fun i hi => ?_) fun i j x hi hx => ?_
      · split
        · exact anyL_length z
        · rw [fgUs_length]; exact hl i hi
      · have hz : z = 0 := by rcases Nat.mul_eq_zero.1 h0 with h | h; omega; exact h
        have : j < z := by
          split at hx
          · exact (anyL_get _ _ _ hx).2
          · have := lt_of_get hx; rwa [fgUs_length, hl i hi] at this
        omega
    · rcases ha with ha | ⟨ad, e, ho, hcell⟩
      · omega
      have hn : 0 < n := Nat.pos_of_mul_pos_right h0
      have hz : 0 < z := Nat.pos_of_mul_pos_left h0
      have hlt : ad.block < w.heap.size := by have := cell_lt (hcell 0 0 hn hz); rwa [add_block] at this
      have one : ∀ i j, i < n → j < z → (g i j).oneCell' = true := fun i j hi hj => by
        obtain ⟨x, hx⟩ := get_of_lt (l := f i) (j := j) (by rw [hl i hi]; exact hj)
        exact (hr i j x hi hx).one
      cases hh : hit es o with
      | true =>
        have hall : ∀ i j, ∃ v', i < n → j < z → w'.cell? (ad.add (i * z + j)) = some v' ∧ v'.oneCell' = true := fun i j => by
          by_cases hij : i < n ∧ j < z
          · obtain ⟨v', h1, h2⟩ := hk.some_cell (by rw [add_block]; exact ho.1) (hcell i j hij.1 hij.2) (one i j hij.1 hij.2)
            exact ⟨v', fun _ _ => ⟨h1, h2⟩⟩
          · exact ⟨undef, fun h1 h2 => absurd ⟨h1, h2⟩ hij⟩
        have hch : ∃ g' : Nat → Nat → Value, ∀ i j, i < n → j < z → w'.cell? (ad.add (i * z + j)) = some (g' i j) ∧ (g' i j).oneCell' = true :=
          ⟨fun i j => Classical.choose (hall i j), fun i j => Classical.choose_spec (hall i j)⟩
        obtain ⟨g', hg'⟩ := hch
        refine .sv o z n c _ a g' hc' (.inr ⟨ad, e, hk.stab hlt ho, fun i j hi hj => (hg' i j hi hj).1⟩) (fun i hi => by simp [anyL_length]) fun i j x hi hx => ?_
        simp only [if_true] at hx
        obtain ⟨rfl, hj⟩ := anyL_get _ _ _ hx
        exact .any _ (hg' i j hi hj).2
      | false =>
        refine .sv o z n c _ a g hc' (.inr ⟨ad, e, hk.stab hlt ho, fun i j hi hj => ?_⟩) (fun i hi => by simp [fgUs_length, hl i hi]) fun i j x hi hx => ?_
        · have hb := hk.cells hlt ho hh
          have hb' : w'.heap[(ad.add (i * z + j)).block]? = w.heap[(ad.add (i * z + j)).block]? := by rw [add_block]; exact hb
          rw [World.cell?_of_block hb']
          exact hcell i j hi hj
        · simp only [Bool.false_eq_true, if_false] at hx
          obtain ⟨y, hy, rfl⟩ := fgUs_get es _ j x hx
          exact ih i j y hi hy
theorem RV.wild {es : List Nat} {w' : World} {O' : Own} {ρ' : Place} (hk : Wld es w O w' O') (hp : PlLe ρ ρ') {x : V} {v : Value} (h : RV w O ρ x v) : RV w' O' ρ' (fgV es x) v := by
  induction h with
  | un v => simp only [fgV]; exact .un v
  | u x v h => simp only [fgV]; exact .u _ v (h.wild hk)
  | srN b z h => simp only [fgV]; exact .srN b z (hp.nil h)
  | srP b z len g cap h hc => simp only [fgV]; exact .srP b z len g cap (hp.at h) hc
  | srO b z off len c g cap a h h0 ha hc => simp only [fgV]; exact .srO b z off len c g cap a (hp.at h) h0 ha hc
  | so b z off len c a hc ha => simp only [fgV]; exact .so b z off len c a hc (ha.imp id fun ⟨g, cap, h, e⟩ => ⟨g, cap, hp.at h, e⟩)
  | mp b g cap h => simp only [fgV]; exact .mp b g cap (hp.at h)
  | pb b off g cap h => simp only [fgV]; exact .pb b off g cap (hp.at h)
  | pa b z i f g cap h => simp only [fgV]; exact .pa b z i f g cap (hp.at h)
  | rp o cs a g ha hc hlt hr =>
    simp only [fgV]
    cases hh : hit es o with
    | true =>
      rw [if_pos rfl]
      have hall : ∀ j, ∃ v', j < cs.length → w'.cell? (a.add j) = some v' ∧ v'.oneCell' = true := fun j => by
        by_cases hj : j < cs.length
        · obtain ⟨x, hx⟩ := get_of_lt hj
          obtain ⟨v', h1, h2⟩ := hk.some_cell (by rw [add_block]; exact ha.1) (hc j hj) (hr j x hx).one
          exact ⟨v', fun _ => ⟨h1, h2⟩⟩
        · exact ⟨undef, fun h => absurd h hj⟩
      have hch : ∃ g' : Nat → Value, ∀ j, j < cs.length → w'.cell? (a.add j) = some (g' j) ∧ (g' j).oneCell' = true := ⟨fun j => Classical.choose (hall j), fun j => Classical.choose_spec (hall j)⟩
      obtain ⟨g', hg'⟩ := hch
      refine .rp o _ a g' (hk.stab hlt ha) (fun j hj => (hg' j (by rwa [likeL_length] at hj)).1) (Nat.lt_of_lt_of_le hlt hk.size) fun j x hx => ?_
      obtain ⟨rfl, hj⟩ := likeL_get _ _ _ hx
      exact .any _ (hg' j hj).2
    | false =>
      rw [if_neg (by simp)]
      refine .rp o _ a g (hk.stab hlt ha) (fun j hj => ?_) (Nat.lt_of_lt_of_le hlt hk.size) fun j x hx => ?_
      · have hb' : w'.heap[(a.add j).block]? = w.heap[(a.add j).block]? := by rw [add_block]; exact hk.cells hlt ha hh
        rw [World.cell?_of_block hb']
        exact hc j (by rwa [fgUs_length] at hj)
      · obtain ⟨y, hy, rfl⟩ := fgUs_get es _ j x hx
        exact (hr j y hy).wild hk
  | ag cs arr g hs ha _ ih =>
    simp only [fgV]
    exact .ag _ arr g (by rw [hs, fgVs_length]) (fun j hj => ha j (by rwa [fgVs_length] at hj)) fun j x hx => by obtain ⟨y, hy, rfl⟩ := fgVs_get es _ j x hx; exact ih j y hy
  | tp cs arr g hs ha _ ih =>
    simp only [fgV]
    exact .tp _ arr g (by rw [hs, fgVs_length]) (fun j hj => ha j (by rwa [fgVs_length] at hj)) fun j x hx => by obtain ⟨y, hy, rfl⟩ := fgVs_get es _ j x hx; exact ih j y hy
  | fv fn cs ds arr brr g k hs ha _ hs' ha' _ ih ih' =>
    simp only [fgV]
    exact .fv fn _ _ arr brr g k (by rw [hs, fgVs_length]) (fun j hj => ha j (by rwa [fgVs_length] at hj)) (fun j x hx => by obtain ⟨y, hy, rfl⟩ := fgVs_get es _ j x hx; exact ih j y hy) (by rw [hs', fgVs_length]) (fun j hj => ha' j (by rwa [fgVs_length] at hj)) (fun j x hx => by obtain ⟨y, hy, rfl⟩ := fgVs_get es _ j x hx; exact ih' j y hy)
  | iv t x v _ ih => simp only [fgV]; exact .iv t _ v ih
  | gd c x v _ h' ih => simp only [fgV]; exact .gd c _ v ih h'
  | nx c i r => simp only [fgV]; exact .nx c i r
theorem BOK.wild {es : List Nat} {w' : World} {O' : Own} {ρ' : Place} (hk : Wld es w O w' O') (hp : PlLe ρ ρ') {b : Nat} {x : Blk} (hown : ∀ g c, ρ b = .at g c → x.live → w'.heap[g]? = w.heap[g]? ∧ O' g) (h : BOK w O ρ b x) : BOK w' O' ρ' b (fgB es x) := by
  cases x with
  | gone => trivial
  | box cells =>
    obtain ⟨g, cap, cur, e, h1, h2, h3, h4, h5⟩ := h
    obtain ⟨k1, k2⟩ := hown g cap h1 trivial
    exact ⟨g, cap, cur, e, hp.at h1, k2, by rw [k1, h3], by rw [h4, fgVs_length], fun j x hx => by obtain ⟨y, hy, rfl⟩ := fgVs_get es _ j x hx; obtain ⟨v, e, r⟩ := h5 j y hy; exact ⟨v, e, r.wild hk hp⟩⟩
  | arr e z n f =>
    rcases h with ⟨h1, h2⟩ | ⟨g, cap, cur, h1, h2, h3, h4, h5, h6, h7, h8⟩
    · exact .inl ⟨hp.nil h1, h2⟩
    · obtain ⟨k1, k2⟩ := hown g cap h1 trivial
      exact .inr ⟨g, cap, cur, hp.at h1, k2, by rw [k1, h3], h4, h5, h6, fun i hi => by rw [fgUs_length]; exact h7 i hi, fun i j x hi hx => by obtain ⟨y, hy, rfl⟩ := fgUs_get es _ j x hx; obtain ⟨v, e, r⟩ := h8 i j y hi hy; exact ⟨v, e, r.wild hk⟩⟩
  | it s p =>
    obtain ⟨g, cap, h1, h2, h3⟩ := h
    obtain ⟨k1, k2⟩ := hown g cap h1 trivial
    exact ⟨g, cap, hp.at h1, k2, by rw [k1, h3]⟩
  | arc e z n f c =>
    rcases h with ⟨h1, h2⟩ | ⟨g, cur, h1, h2, h3, h4, h5, h6, h7, h8⟩
    · exact .inl ⟨hp.nil h1, h2⟩
    · obtain ⟨k1, k2⟩ := hown g c h1 trivial
      exact .inr ⟨g, cur, hp.at h1, k2, by rw [k1, h3], h4, h5, h6, fun i hi => by rw [fgUs_length]; exact h7 i hi, fun i j x hi hx => by obtain ⟨y, hy, rfl⟩ := fgUs_get es _ j x hx; obtain ⟨v, e, r⟩ := h8 i j y hi hy; exact ⟨v, e, r.wild hk⟩⟩
  | ms k p =>
    obtain ⟨g, cap, es', cl, h1, h2, h3, h4⟩ := h
    obtain ⟨k1, k2⟩ := hown g cap h1 trivial
    exact ⟨g, cap, es', cl, hp.at h1, k2, by rw [k1, h3], h4⟩
  | ml k l =>
    obtain ⟨g, cap, es', cl, h1, h2, h3, h4, h5⟩ := h
    obtain ⟨k1, k2⟩ := hown g cap h1 trivial
    exact ⟨g, cap, es', cl, hp.at h1, k2, by rw [k1, h3], by rw [h4, fgE_length], fun j i x hx => by obtain ⟨y, hy, rfl⟩ := fgE_get es _ j i x hx; obtain ⟨e, q1, q2, q3⟩ := h5 j i y hy; exact ⟨e, q1, q2, q3.wild hk⟩⟩
theorem img_fg {es : List Nat} {k : Nat} : Img ρ (fgH es H) k ↔ Img ρ H k := by
  constructor
  · rintro ⟨b, y, c, hy, hl, hg⟩
    obtain ⟨x, hx, rfl⟩ := fgH_get es H b y hy
    exact ⟨b, x, c, hx, (fgB_live es x).1 hl, hg⟩
  · rintro ⟨b, x, c, hx, hl, hg⟩
    obtain ⟨y, hy⟩ := get_of_lt (l := fgH es H) (j := b) (by rw [fgH_length]; exact lt_of_get hx)
    obtain ⟨x', hx', rfl⟩ := fgH_get es H b y hy
    rw [hx] at hx'; cases hx'
    exact ⟨b, _, c, hy, (fgB_live es x).2 hl, hg⟩
theorem wild_store {P : Program} (hH : HOK w O ρ H) {t : TypeId} {ti : TI} (ht : TIOK P t ti) {x : V} {v va : Value} (hx : RV w O ρ x v) {cs : List V} (hc : cells? x = some cs) (hz : lenIs ti.sz cs = true) (hkn : allKnown cs = true) {e : Nat} {us : List U} (ha : RV w O ρ (.rp (.new e) us) va) (hlen : ti.sz ≤ us.length) (hpos : 0 < ti.sz) :
    ∃ w', (Instr.storeAt t va v).run P w = .ok () w' ∧ GoodW [e] w O ρ H w' O ρ (fgH [e] H) := by
  obtain ⟨h1, h2⟩ := cells_ok hx hc
  have hl := lenIs_spec _ _ hz
  cases ha with
  | rp _ _ a g hst hcell hlt hr =>
    obtain ⟨n1, n2, cur, hcur⟩ := hst
    have hc0 := hcell 0 (by omega)
    have hadr : ∃ off, a = ⟨a.block, off, none⟩ := by
      have hc1 : w.cell? a = some (g 0) := by
        have : a.add 0 = a := by unfold Addr.add; simp
        rwa [this] at hc0
      unfold World.cell? at hc1
      rw [hcur] at hc1
      dsimp only at hc1
      split at hc1
      · cases hc1
      · rename_i hsp
        refine ⟨a.off, ?_⟩
        cases a with | mk b o s =>
        cases s with
        | none => rfl
        | some s => simp at hsp
    obtain ⟨off, hadr⟩ := hadr
    generalize hk : a.block = k at *
    subst hadr
    have hfit : off + v.cells.size ≤ cur.size := by
      have := hcell (ti.sz - 1) (by omega)
      rw [add_lit] at this
      unfold World.cell? at this
      rw [hcur] at this
      simp at this
      have : off + (ti.sz - 1) < cur.size := by
        rcases Nat.lt_or_ge (off + (ti.sz - 1)) cur.size with h | h
        · exact h
        · simp [Array.getElem?_eq_none h] at this
      omega
    have hone := cells_are_one h1 h2 hkn
    have hrun := run_storeAt (P := P) ht hcur (by omega) hfit hone
    generalize hcs : (cur.toList.take off ++ v.cells.toList ++ cur.toList.drop (off + v.cells.size)).toArray = new at hrun
    refine ⟨_, hrun, ?_⟩
    have hget : ∀ j, new[j]? = if off ≤ j ∧ j < off + v.cells.size then v.cells[j - off]? else cur[j]? := fun j => by
      have := seg_get (cur := cur.toList) (off := off) (vs := v.cells.toList) (by simpa using hfit) j
      simp only [Array.length_toList] at this
      rw [← hcs, List.getElem?_toArray, this]; simp
    have hsz : new.size = cur.size := by
      rw [← hcs]
      simp only [List.size_toArray, List.length_append, List.length_take, List.length_drop, Array.length_toList]
      omega
    have hwl : Wl [e] O w (w.setRow k new) k := ⟨n1, n2, cur, new, e, .head _, hcur, setRow_heap w k cur new e _ hcur, hsz, fun j u hu => by
      rw [hget] at hu
      split at hu
      · exact .inr (hone u (List.mem_of_getElem? (by rw [Array.getElem?_toList]; exact hu)))
      · exact .inl hu⟩
    have hw : Wld [e] w O (w.setRow k new) O := ⟨by simp, fun i hi ho => ⟨by
      by_cases hik : i = k
      · subst hik; exact .inr hwl
      · exact .inl (setRow_other w k i new hik), ho⟩, rfl⟩
    refine ⟨⟨fun b y hy => ?_, fun b b' y y' g c c' hy hl hy' hl' hg hg' => ?_, fun i hi => by simpa using hH.lt i hi, fun i hi => by simpa using hH.olt i hi⟩, rfl, rfl, rfl, by simp, fun i hi hn => ?_, .refl _, fun i hi => .inl (img_fg.1 hi), fun i hi _ => hi, fun i hi => .inl hi, rfl⟩
    · obtain ⟨x, hx, rfl⟩ := fgH_get _ H b y hy
      exact (hH.blk b x hx).wild hw (.refl _) fun g c hg hl => by
        have := img_own hH ⟨b, x, c, hx, hl, hg⟩
        exact ⟨setRow_other w k g new fun e => n1 (e ▸ this), this⟩
    · obtain ⟨x, hx, rfl⟩ := fgH_get _ H b y hy
      obtain ⟨x', hx', rfl⟩ := fgH_get _ H b' y' hy'
      exact hH.inj b b' x x' g c c' hx ((fgB_live _ x).1 hl) hx' ((fgB_live _ x').1 hl') hg hg'
    · by_cases hik : i = k
      · subst hik; exact .inr hwl
      · exact .inl (setRow_other w k i new hik)
end
end Am
end
section
open Go Go.Lib
set_option linter.unusedVariables false
set_option linter.unusedSimpArgs false
namespace Am
inductive Xq where
  | nilq (ne : Bool) (x : Operand)
  | capq (x : Operand)
  | mlq (q : IntKind) (ok : Bool) (zero : Value) (m k : Operand)
inductive Rc where
  | ins (i : In)
  | call (f : FuncId) (args : List Operand)
  | callw (f : FuncId) (es : List Nat) (args : List Operand)
  | callv (x : Operand) (args : List Operand)
  | callx (f : FuncId) (args : List Operand)
  | xq (q : Xq)
structure Ins where
  dst : Option Nat
  op : Rc
  gd : Option (Nat × Bool)
inductive C where
  | skip
  | seq (a b : C)
  | reg (l : List Ins)
  | draw (l : List (Ins × List Nat))
  | drawL (l : List (Ins × List Nat)) (i : Ins)
  | cond (x : Operand) (a b : C)
  | block (id : Nat) (c : C)
  | loop (c : C)
  | exit (id : Nat)
  | ret
inductive Ex where
  | normal
  | exit (id : Nat)
  | ret
def compXq (tab : Tab) (o : Oper) : Option Xq :=
  match o.op with
  | .binOp .eql t x (.const (.slice none 0 0)) _ => match tab t with
    | some ti => (match ti.kd with | .slice _ => some (.nilq false x) | _ => none)
    | none => none
  | .binOp .neq t x (.const (.slice none 0 0)) _ => match tab t with
    | some ti => (match ti.kd with | .slice _ => some (.nilq true x) | _ => none)
    | none => none
  | .lookup t m k ok => match tab t with
    | some ti => match ti.kd with
      | .map kt e => (match tab kt, tab e with
        | some tk, some te => (match tk.kd, te.zero with | .int q, [z] => (if isA te.kd then none else some (.mlq q ok z m k)) | _, _ => none)
        | _, _ => none)
      | _ => none
    | none => none
  | .call c => match c.callee, c.args.toList, c.argTypes.toList with
    | .builtin .cap, [x], [t] => match tab t with
      | some ti => (match ti.kd with | .slice _ => some (.capq x) | _ => none)
      | none => none
    | _, _, _ => none
  | _ => none
def compRc (tab : Tab) (o : Oper) : Option Rc :=
  match o.op with
  | .call c => match c.callee with
    | .value (.func f) => (match tab.ws f with
      | some es => some (.callw f es c.args.toList)
      | none => if hinted.memH f tab.xs then some (.callx f c.args.toList) else some (.call f c.args.toList))
    | .value (.tmp t) => some (.callv (.tmp t) c.args.toList)
    | _ => match compXq tab o with
      | some q => some (.xq q)
      | none => match compAny tab o with | some i => some (.ins i) | none => none
  | _ => match compXq tab o with
    | some q => some (.xq q)
    | none => match compAny tab o with | some i => some (.ins i) | none => none
def compGd (ops : Array Oper) : Option (Nat × Bool) → Option (Option (Nat × Bool))
  | none => some none
  | some (j, want) => match (ops[j]?).bind (·.dst) with | some t => some (some (t, want)) | none => none
def compIns (tab : Tab) (ops : Array Oper) (o : Oper) : Option Ins :=
  match compRc tab o, compGd ops o.guard with
  | some r, some g => some ⟨o.dst, r, g⟩
  | _, _ => none
def compAll (tab : Tab) (ops : Array Oper) : List Oper → Option (List Ins)
  | [] => some []
  | o :: l => match compIns tab ops o, compAll tab ops l with | some i, some r => some (i :: r) | _, _ => none
def insN (n : Nat) : List Nat → List Nat
  | [] => [n]
  | x :: l => if Nat.blt n x then n :: x :: l else if Nat.beq n x then x :: l else x :: insN n l
def unionN : List Nat → List Nat → List Nat
  | [], m => m
  | x :: l, m => insN x (unionN l m)
def getL : List (List Nat) → Nat → List Nat
  | [], _ => []
  | x :: _, 0 => x
  | _ :: l, n + 1 => getL l n
def bfOf (done : List (List Nat)) : List Edge → List Nat
  | [] => []
  | e :: l => if Region.binds .any e then insN e.on (unionN (getL done e.on) (bfOf done l)) else bfOf done l
def edgesLow (i : Nat) : List Edge → Bool
  | [] => true
  | e :: l => (!Region.binds .any e || Nat.blt e.on i) && edgesLow i l
def lenL {α : Type} : List α → Nat
  | [] => 0
  | _ :: l => lenL l + 1
def compDraw (tab : Tab) (ops : Array Oper) : List (List Nat) → List Oper → Option (List (Ins × List Nat))
  | _, [] => some []
  | done, o :: l => if edgesLow (lenL done) o.after.toList then (match compIns tab ops o, compDraw tab ops (done ++ [bfOf done o.after.toList]) l with
    | some i, some r => some ((i, bfOf done o.after.toList) :: r)
    | _, _ => none) else none
def coversN : Nat → List Nat → Bool
  | 0, _ => true
  | n + 1, l => memT n l && coversN n l
def lastOp (ops : List Oper) : Option (List Oper × Oper) := match ops.getLast? with
  | some o => match o.op with
    | .store _ _ _ => some (ops.dropLast, o)
    | _ => none
  | none => none
def compLast (tab : Tab) (ops : Array Oper) : Option (List (Ins × List Nat) × Ins) := match lastOp ops.toList with
  | some (l, o) => match compDraw tab ops [] l, compIns tab ops o with
    | some r, some i => if edgesLow (lenL r) o.after.toList && coversN (lenL r) (bfOf (r.map fun p => p.2) o.after.toList) then some (r, i) else none
    | _, _ => none
  | none => none
def comp (tab : Tab) : Code → Option C
  | .skip => some .skip
  | .seq a b => match comp tab a, comp tab b with | some x, some y => some (.seq x y) | _, _ => none
  | .region _ ops false => match compAll tab ops ops.toList with | some l => some (.reg l) | none => none
  | .region _ ops true => match compLast tab ops with
    | some (l, i) => some (.drawL l i)
    | none => match compDraw tab ops [] ops.toList with | some l => some (.draw l) | none => none
  | .cond x a b => match comp tab a, comp tab b with | some p, some q => some (.cond x p q) | _, _ => none
  | .block id c => match comp tab c with | some p => some (.block id p) | none => none
  | .loop c => match comp tab c with | some p => some (.loop p) | none => none
  | .scope c => comp tab c
  | .label _ => some .skip
  | .exit id => some (.exit id)
  | .ret => some .ret
  | _ => none
abbrev KH := V → Heap → Prop
abbrev KT := List V → Heap → Prop
abbrev KE := Ex → List V → Heap → Prop
structure Cx where
  call : FuncId → List V → Heap → KH → Prop
  calld : FuncId → List V → Heap → (V → Delta → List Nat → Prop) → Prop
  loop : C → KE → KT
  callw : FuncId → List Nat → List V → Heap → KH → Prop
  callx : FuncId → List V → Heap → KH → Prop
  fok : FuncId → Prop
  may : List Nat → Prop
def hlen : Heap → Nat
  | [] => 0
  | _ :: l => hlen l + 1
def setT : List V → Nat → V → List V
  | [], _, _ => []
  | _ :: l, 0, v => v :: l
  | x :: l, n + 1, v => x :: setT l n v
def setD (T : List V) (d : Option Nat) (v : V) : List V := match d with | none => T | some t => setT T t v
def underAll (c : Bool) : List Prop → List Prop
  | [] => []
  | p :: l => (c = true → p) :: underAll c l
def gdOf (E : Env) (want : Bool) : V → Option Bool
  | .u (.sc (.bool g)) => some (match want with | true => g | false => E.nt g)
  | .gd false .un => some false
  | .gd c x => match gdOf E want x with | some q => some (E.an c q) | none => none
  | _ => none
def gdK (c : Bool) (v : V) (obs : List Prop) (H : Heap) (k : KH) : Delta → Prop
  | [] => allK (underAll c obs) (k (.gd c v) H)
  | x :: l => match c with
    | true => allK obs (k v (putAll H (x :: l)))
    | false => k (.gd false .un) H
def vcIn (E : Env) (cur : Cur) (i : In) (T : List V) (H : Heap) (k : KH) : Prop :=
  owesAll cur (evO T) (looks i) (match istep E (evO T) H (hlen H) i with
    | some (v, d, obs) => (match cur with
      | none => allK obs (k v (putAll H d))
      | some c => gdK c v obs H k d)
    | none => (match cur with | none => False | some c => c = false ∧ k (.gd false .un) H))
def wildE (val : Operand → V) : In → Option Nat
  | .st z a x => match val a with
    | .rp (.new e) us => match cells? (val x) with
      | some cs => (match lenIs z cs, allKnown cs, Nat.ble z (lenL us), Nat.blt 0 z with | true, true, true, true => some e | _, _, _, _ => none)
      | none => none
    | _ => none
  | _ => none
def qlooks : Xq → List Operand
  | .nilq _ x | .capq x => [x]
  | .mlq _ _ _ m k => [m, k]
def lookQ (E : Env) (ok : Bool) (z : Value) (i : Int) (k : V → Prop) : List (Int × U) → Prop
  | [] => k (if ok then .tp [ofCell z, scB false] else ofCell z)
  | (a, x) :: l => match E.ic .eql i a with
    | true => k (if ok then .tp [.u x, scB true] else .u x)
    | false => lookQ E ok z i k l
def vcQ (E : Env) (val : Operand → V) (H : Heap) (k : KH) : Xq → Prop
  | .nilq ne x => match val x with
    | .u (.sv _ z n _) => (match z with | 0 => False | _ + 1 => ∀ c : Bool, (c = true → E.ob (.eqN n 0)) → k (scB (if ne then E.nt c else c)) H)
    | .sr _ _ 0 len => ∀ c : Bool, (c = true → E.ob (.eqN len 0)) → k (scB (if ne then E.nt c else c)) H
    | .u (.sc (.slice none 0 0)) => k (scB (if ne then false else true)) H
    | _ => False
  | .capq x => match val x with
    | .u (.sv _ _ n _) => ∀ c : Nat, E.ob (.leN n c) → k (scI .i64 (E.iN c)) H
    | .sr b z 0 len => match blkAt H b with
      | .arr e z' n F => if z = z' then (∀ c : Nat, E.ob (.leN n c) → E.ob (.leN len c) → E.ob (.leN c 9223372036854775807) → k (scI .i64 (E.iN c)) (putAll H [(b, .arc e z n F c)])) else False
      | _ => False
    | _ => False
  | .mlq q ok z m key => match val m, val key with
    | .mp b, .u (.sc (.int kk i)) => if kindEq q kk then (match blkAt H b with
      | .ml kd l => if kindEq kd q then lookQ E ok z i (fun v => k v H) l else False
      | _ => False) else False
    | _, _ => False
def fnOf : V → List V → Option (FuncId × List V)
  | .fv (.func g) first captured, args => some (g, first ++ (args ++ captured))
  | .u (.sc (.func (.func g) first captured)), args => match first.toList, captured.toList with
    | [], [] => some (g, args)
    | _, _ => none
  | _, _ => none
def vcCall (E : Env) (X : Cx) (c : Rc) (T : List V) (H : Heap) (kw : List Nat → V → Heap → Prop) : Prop := match c with
  | .ins _ => False
  | .call f args => owesAll none (evO T) args (X.call f (args.map fun x => peel (evO T x)) H (kw []))
  | .callw f es args => owesAll none (evO T) args (X.may es ∧ X.callw f es (args.map fun x => peel (evO T x)) H (kw es))
  | .callx f args => owesAll none (evO T) args (X.callx f (args.map fun x => peel (evO T x)) H (kw []))
  | .callv x args => owesAll none (evO T) (x :: args) (match fnOf (peel (evO T x)) (args.map fun x => peel (evO T x)) with
    | some (g, as) => X.fok g ∧ X.call g as H (kw [])
    | none => False)
  | .xq q => owesAll none (evO T) (qlooks q) (vcQ E (fun x => peel (evO T x)) H (kw []) q)
def fgT (es : List Nat) (T : List V) : List V := match es with
  | [] => T
  | e :: l => fgVs (e :: l) T
def vcIns (E : Env) (X : Cx) : List Ins → KT → KT
  | [], K, T, H => K T H
  | i :: l, K, T, H => match i.gd with
    | none => (match i.op with
      | .ins op => (match wildE (fun x => peel (evO T x)) op with
        | some e => owesAll none (evO T) (looks op) (X.may [e] ∧ vcIns E X l K (setD (fgVs [e] T) i.dst .un) (fgH [e] H))
        | none => vcIn E none op T H (fun v => vcIns E X l K (setD T i.dst v)))
      | c => vcCall E X c T H (fun es v => vcIns E X l K (setD (fgT es T) i.dst v)))
    | some (t, want) => (match gdOf E want (getV T t) with
      | some g => (match i.op with
        | .ins op => vcIn E (some g) op T H (fun v => vcIns E X l K (setD T i.dst v))
        | c => (match g with
          | true => vcCall E X c T H (fun es v => vcIns E X l K (setD (fgT es T) i.dst v))
          | false => vcIns E X l K (setD T i.dst (.gd false .un)) H))
      | none => False)
structure Rk where
  dst : Option Nat
  rd : List Nat
  ks : List Nat
  tc : List Nat
  bf : List Nat
def tmpOf : List Operand → List Nat
  | [] => []
  | .tmp t :: l => t :: tmpOf l
  | _ :: l => tmpOf l
def gdT : Option (Nat × Bool) → List Nat → List Nat
  | none, l => l
  | some (t, _), l => t :: l
def rcOpds : Rc → List Operand
  | .ins op => opds op
  | .call _ args => args
  | .callw _ _ args => args
  | .callx _ args => args
  | .callv x args => x :: args
  | .xq q => qlooks q
def rdOf (i : Ins) : List Nat := gdT i.gd (tmpOf (rcOpds i.op))
def keys : Delta → List Nat
  | [] => []
  | (b, _) :: l => b :: keys l
def disj : List Nat → List Nat → Bool
  | [], _ => true
  | x :: l, m => !(memL x m) && disj l m
where memL : Nat → List Nat → Bool
  | _, [] => false
  | n, x :: l => Nat.beq n x || memL n l
def notIn : Option Nat → List Nat → Bool
  | none, _ => true
  | some t, l => !(disj.memL t l)
def dstNe : Option Nat → Option Nat → Bool
  | some x, some y => !(Nat.beq x y)
  | _, _ => true
def apartD (a b : Rk) : Bool := notIn a.dst b.rd && (notIn b.dst a.rd && (dstNe a.dst b.dst && (disj a.ks b.tc && (disj b.ks a.tc && disj a.ks b.ks))))
def checkJ (b : Rk) : Nat → List Rk → Bool
  | _, [] => true
  | i, a :: l => (disj.memL i b.bf || apartD a b) && checkJ b (i + 1) l
def snoc {α : Type} : List α → α → List α
  | [], x => [x]
  | y :: l, x => y :: snoc l x
def gdD (c : Bool) (v : V) (obs : List Prop) (k : V → Delta → Prop) : Delta → Prop
  | [] => allK (underAll c obs) (k (.gd c v) [])
  | x :: l => match c with
    | true => allK obs (k v (x :: l))
    | false => k (.gd false .un) []
def vcInD (E : Env) (cur : Cur) (i : In) (T : List V) (H : Heap) (k : V → Delta → Prop) : Prop :=
  owesAll cur (evO T) (looks i) (match istep E (evO T) H (hlen H) i with
    | some (v, d, obs) => (match cur with
      | none => allK obs (k v d)
      | some c => gdD c v obs k d)
    | none => (match cur with | none => False | some c => c = false ∧ k (.gd false .un) []))
def vcCallD (E : Env) (X : Cx) (c : Rc) (T : List V) (H : Heap) (k : V → Delta → List Nat → Prop) : Prop := match c with
  | .call f args => owesAll none (evO T) args (X.calld f (args.map fun x => peel (evO T x)) H k)
  | .callv x args => owesAll none (evO T) (x :: args) (match fnOf (peel (evO T x)) (args.map fun x => peel (evO T x)) with
    | some (g, as) => X.fok g ∧ X.calld g as H k
    | none => False)
  | _ => False
def vcD (E : Env) (X : Cx) : List (Ins × List Nat) → List Rk → KT → KT
  | [], _, K, T, H => K T H
  | (i, bf) :: l, rs, K, T, H => match i.gd with
    | none => (match i.op with
      | .ins op => vcInD E none op T H (fun v d => match checkJ ⟨i.dst, rdOf i, keys d, tcOf (evO T) op, bf⟩ 0 rs with | true => vcD E X l (snoc rs ⟨i.dst, rdOf i, keys d, tcOf (evO T) op, bf⟩) K (setD T i.dst v) (putAll H d) | false => False)
      | c => vcCallD E X c T H (fun v d tc => match checkJ ⟨i.dst, rdOf i, keys d, tc, bf⟩ 0 rs with | true => vcD E X l (snoc rs ⟨i.dst, rdOf i, keys d, tc, bf⟩) K (setD T i.dst v) (putAll H d) | false => False))
    | some (t, want) => (match gdOf E want (getV T t) with
      | some g => (match i.op with
        | .ins op => vcInD E (some g) op T H (fun v d => match checkJ ⟨i.dst, rdOf i, keys d, tcOf (evO T) op, bf⟩ 0 rs with | true => vcD E X l (snoc rs ⟨i.dst, rdOf i, keys d, tcOf (evO T) op, bf⟩) K (setD T i.dst v) (putAll H d) | false => False)
        | c => (match g with
          | true => vcCallD E X c T H (fun v d tc => match checkJ ⟨i.dst, rdOf i, keys d, tc, bf⟩ 0 rs with | true => vcD E X l (snoc rs ⟨i.dst, rdOf i, keys d, tc, bf⟩) K (setD T i.dst v) (putAll H d) | false => False)
          | false => (match checkJ ⟨i.dst, rdOf i, [], [], bf⟩ 0 rs with | true => vcD E X l (snoc rs ⟨i.dst, rdOf i, [], [], bf⟩) K (setD T i.dst (.gd false .un)) H | false => False)))
      | none => False)
def vc (E : Env) (X : Cx) : C → KE → KT
  | .skip, K, T, H => K .normal T H
  | .seq a b, K, T, H => vc E X a (fun e T' H' => match e with | .normal => vc E X b K T' H' | e => K e T' H') T H
  | .reg l, K, T, H => vcIns E X l (K .normal) T H
  | .draw l, K, T, H => vcD E X l [] (K .normal) T H
  | .drawL l i, K, T, H => vcD E X l [] (vcIns E X [i] (K .normal)) T H
  | .cond x a b, K, T, H => (match peel (evO T x) with
    | .u (.sc (.bool g)) => owes none (evO T x) (match g with | true => vc E X a K T H | false => vc E X b K T H)
    | _ => False)
  | .block id c, K, T, H => vc E X c (fun e T' H' => match e with | .exit id' => (if id' = id then K .normal T' H' else K (.exit id') T' H') | e => K e T' H') T H
  | .loop c, K, T, H => X.loop c K T H
  | .exit id, K, T, H => K (.exit id) T H
  | .ret, K, T, H => K .ret T H
section
variable {P : Program}
structure SRel (es0 : List Nat) (w0 : World) (O0 : Own) (ρ0 : Place) (H0 : Heap) (T : List V) (H : Heap) (a : Act) (w : World) (O : Own) (ρ : Place) : Prop where
  good : GoodW es0 w0 O0 ρ0 H0 w O ρ H
  tm : ∀ t, RV w O ρ (getV T t) (a.tmps.getD t undef)
  len : a.tmps.size = T.length
  fresh : ∀ b, H.length ≤ b → ρ b = .unset
  df : a.defers = []
def RVs (w : World) (O : Own) (ρ : Place) (xs : List V) (vs : Array Value) : Prop := vs.size = xs.length ∧ ∀ (j : Nat) (x : V), xs[j]? = some x → ∃ u, vs[j]? = some u ∧ RV w O ρ x u
def CALL (P : Program) (f : FuncId) (args : List V) (H : Heap) (k : KH) : Prop :=
  ∀ (w : World) (O : Own) (ρ : Place) (vs : Array Value), HOK w O ρ H → (∀ b, H.length ≤ b → ρ b = .unset) → RVs w O ρ args vs →
    Calls P f vs w fun e w' => ∃ v O' ρ' r H', e = .returned v ∧ k r H' ∧ RV w' O' ρ' r v ∧ Good w O ρ H w' O' ρ' H' ∧ ∀ b, H'.length ≤ b → ρ' b = .unset
def CALLD (P : Program) (f : FuncId) (args : List V) (H : Heap) (k : V → Delta → List Nat → Prop) : Prop :=
  ∃ r d tc, k r d tc ∧ ∀ (w : World) (O : Own) (ρ : Place) (vs : Array Value) (H' : Heap), HOK w O ρ H' → RVs w O ρ args vs → (∀ b ∈ tc, blkAt H' b = blkAt H b) → (∀ b x, (b, x) ∈ d → H.length ≤ b → ρ b = .unset) →
    Calls P f vs w fun e w' => ∃ v O' ρ', e = .returned v ∧ RV w' O' ρ' r v ∧ Good w O ρ H' w' O' ρ' (putAll H' d) ∧ ∀ b, (∀ x, (b, x) ∉ d) → ρ' b = ρ b
def CALLW (P : Program) (f : FuncId) (es : List Nat) (args : List V) (H : Heap) (k : KH) : Prop :=
  ∀ (w : World) (O : Own) (ρ : Place) (vs : Array Value), HOK w O ρ H → (∀ b, H.length ≤ b → ρ b = .unset) → RVs w O ρ args vs →
    Calls P f vs w fun e w' => ∃ v O' ρ' r H', e = .returned v ∧ k r H' ∧ RV w' O' ρ' r v ∧ GoodW es w O ρ H w' O' ρ' H' ∧ ∀ b, H'.length ≤ b → ρ' b = .unset
def CALLX (P : Program) (f : FuncId) (args : List V) (H : Heap) (k : KH) : Prop :=
  ∀ (w : World) (O : Own) (ρ : Place) (vs : Array Value), HOK w O ρ H → (∀ b, H.length ≤ b → ρ b = .unset) → RVs w O ρ args vs →
    ∃ v w' O' ρ' r H', (callFunc f vs).run P w = .ok (.value v) w' ∧ k r H' ∧ RV w' O' ρ' r v ∧ Good w O ρ H w' O' ρ' H' ∧ ∀ b, H'.length ≤ b → ρ' b = .unset
def FOK (P : Program) (f : FuncId) : Prop := ∃ fn, P.funcs[f]? = some fn ∧ (fn.name == "runtime.NumGoroutine") = false ∧ fn.body.isNone = false
def Lift (es0 : List Nat) (w0 : World) (O0 : Own) (ρ0 : Place) (H0 : Heap) (K : KE) : Exit → Act → World → Prop
  | .normal, a, w => ∃ T H O ρ, K .normal T H ∧ SRel es0 w0 O0 ρ0 H0 T H a w O ρ
  | .exit id, a, w => ∃ T H O ρ, K (.exit id) T H ∧ SRel es0 w0 O0 ρ0 H0 T H a w O ρ
  | .ret, a, w => ∃ T H O ρ, K .ret T H ∧ SRel es0 w0 O0 ρ0 H0 T H a w O ρ
  | _, _, _ => False
structure Md where
  es : List Nat := []
  cov : Bool := false
def Md.ok (md : Md) (w0 : World) (O0 : Own) : Prop := md.cov = true → ∀ k, k < w0.heap.size → ¬ O0 k → O0.old k
def Md.may (md : Md) (es : List Nat) : Prop := md.cov = true ∨ ∀ e ∈ es, e ∈ md.es
theorem Md.toMay {md : Md} {w0 : World} {O0 : Own} (h : md.ok w0 O0) {es : List Nat} (hm : md.may es) : May md.es w0 O0 es := fun e he => by
  rcases hm with hm | hm
  · exact .inr (h hm)
  · exact .inl (hm e he)
def LOOP (P : Program) (tab : Tab) (n0 : Nat) (md : Md) (c : C) (K : KE) (T : List V) (H : Heap) : Prop :=
  ∀ (code : Code), comp tab code = some c → ∀ (w0 : World) (O0 : Own) (ρ0 : Place) (H0 : Heap), HOK w0 O0 ρ0 H0 → H0.length = n0 → (∀ b, n0 ≤ b → ρ0 b = .unset) → md.ok w0 O0 → ∀ (a : Act) (w : World) (O : Own) (ρ : Place), SRel md.es w0 O0 ρ0 H0 T H a w O ρ →
    (Code.loop code).wp P (Lift md.es w0 O0 ρ0 H0 K) a w
def Cx.std (P : Program) (tab : Tab) (n0 : Nat) (md : Md) : Cx where
  call := CALL P
  calld := CALLD P
  loop := LOOP P tab n0 md
  callw := CALLW P
  callx := CALLX P
  fok := FOK P
  may := md.may
theorem hlen_eq : ∀ H : Heap, hlen H = H.length
  | [] => rfl
  | _ :: l => by simp [hlen, hlen_eq l]
theorem putH_length : ∀ (H : Heap) (s : Nat) (x : Blk), (putH H s x).length = max H.length (s + 1)
  | [], 0, x => rfl
  | [], n + 1, x => by simp [putH, putH_length [] n x]
  | _ :: l, 0, x => by simp [putH]
  | _ :: l, n + 1, x => by simp [putH, putH_length l n x]
theorem setT_length : ∀ (T : List V) (t : Nat) (v : V), (setT T t v).length = T.length
  | [], _, _ => rfl
  | _ :: _, 0, _ => rfl
  | _ :: l, n + 1, v => by simp [setT, setT_length l n v]
theorem setT_get : ∀ (T : List V) (t : Nat) (v : V) (k : Nat), getV (setT T t v) k = if k = t ∧ t < T.length then v else getV T k
  | [], t, v, k => by simp [setT, getV]
  | x :: l, 0, v, k => by cases k <;> simp [setT, getV]
  | x :: l, n + 1, v, k => by
    cases k with
    | zero => simp [setT, getV]
    | succ k => simp [setT, getV, setT_get l n v k]
theorem getV_none : ∀ (T : List V) (t : Nat), T.length ≤ t → getV T t = .un
  | [], _, _ => rfl
  | _ :: l, 0, h => by simp at h
  | _ :: l, n + 1, h => by simpa [getV] using getV_none l n (by simpa using h)
variable {es0 : List Nat} {w0 : World} {O0 : Own} {ρ0 : Place} {H0 : Heap} {T : List V} {H : Heap} {a : Act} {w : World} {O : Own} {ρ : Place}
theorem SRel.eval (h : SRel es0 w0 O0 ρ0 H0 T H a w O ρ) (x : Operand) : RV w O ρ (evO T x) (a.eval x) := by
  cases x with
  | tmp t => exact h.tm t
  | const v => exact ofConst_ok v
  | global g => exact .u _ _ (.sc _ rfl)
  | func f => exact .u _ _ (.sc _ rfl)
theorem SRel.put (h : SRel es0 w0 O0 ρ0 H0 T H a w O ρ) (h0 : HOK w0 O0 ρ0 H0) {w' : World} {O' : Own} {ρ' : Place} {H' : Heap} (g : Good w O ρ H w' O' ρ' H') (hf : ∀ b, H'.length ≤ b → ρ' b = .unset) {v : V} {u : Value} (hv : RV w' O' ρ' v u) (d : Option Nat) :
    SRel es0 w0 O0 ρ0 H0 (setD T d v) H' (a.put d u) w' O' ρ' := by
  refine ⟨h.good.trans h0 g, fun t => ?_, ?_, hf, ?_⟩
  · have old := g.rv h.good.hok (h.tm t)
    cases d with
    | none => exact old
    | some d =>
      simp only [setD, setT_get, Act.put]
      by_cases ht : t = d ∧ d < T.length
      · rw [if_pos ht]
        obtain ⟨rfl, hlt⟩ := ht
        have : (a.tmps.setIfInBounds t u).getD t undef = u := by simp [h.len, hlt]
        rw [this]; exact hv
      · rw [if_neg ht]
        by_cases htd : t = d
        · subst htd
          rw [getV_none T t (by omega)]; exact .un _
        · have : (a.tmps.setIfInBounds d u).getD t undef = a.tmps.getD t undef := by simp [Array.getElem?_setIfInBounds_ne (Ne.symm htd)]
          rw [this]; exact old
  · cases d with
    | none => exact h.len
    | some d => simp [setD, Act.put, setT_length, h.len]
  · cases d <;> exact h.df
theorem allK_spec : ∀ (l : List Prop) (k : Prop), allK l k → (∀ p ∈ l, p) ∧ k
  | [], k, h => ⟨by simp, h⟩
  | p :: l, k, h => by
    obtain ⟨h1, h2⟩ := allK_spec l k h.2
    exact ⟨fun q hq => by rcases List.mem_cons.1 hq with rfl | hq; exact h.1; exact h1 q hq, h2⟩
theorem owes_spec {cur : Cur} (hcur : ∀ c, cur = some c → c = true) : ∀ (x : V) (k : Prop) (v : Value), owes cur x k → RV w O ρ x v → RV w O ρ (peel x) v ∧ k
  | .gd c x, k, v, h, hx => by
    simp only [owes] at h
    have hc : c = true := by
      cases cur with
      | none => exact h.1
      | some c' => exact h.1 (hcur c' rfl)
    exact owes_spec hcur x k v h.2 (rv_gd hx hc)
  | .un, k, v, h, hx | .u _, k, v, h, hx | .sr .., k, v, h, hx | .pb .., k, v, h, hx | .pa .., k, v, h, hx | .rp .., k, v, h, hx | .so .., k, v, h, hx | .mp _, k, v, h, hx | .ag _, k, v, h, hx | .tp _, k, v, h, hx | .fv .., k, v, h, hx | .iv .., k, v, h, hx | .nx .., k, v, h, hx => ⟨hx, h⟩
theorem owesAll_spec {cur : Cur} (hcur : ∀ c, cur = some c → c = true) {raw : Operand → V} {ev : Operand → Value} (hraw : ∀ x, RV w O ρ (raw x) (ev x)) : ∀ (xs : List Operand) (k : Prop), owesAll cur raw xs k → (∀ x ∈ xs, RV w O ρ (peel (raw x)) (ev x)) ∧ k
  | [], k, h => ⟨by simp, h⟩
  | x :: l, k, h => by
    obtain ⟨h1, h2⟩ := owes_spec hcur _ _ _ h (hraw x)
    obtain ⟨h3, h4⟩ := owesAll_spec hcur hraw l k h2
    exact ⟨fun y hy => by rcases List.mem_cons.1 hy with rfl | hy; exact h1; exact h3 y hy, h4⟩
theorem owes_skip : ∀ (x : V) (k : Prop), owes (some false) x k → k
  | .gd c x, k, h => owes_skip x k h.2
  | .un, k, h | .u _, k, h | .sr .., k, h | .pb .., k, h | .pa .., k, h | .rp .., k, h | .so .., k, h | .mp _, k, h | .ag _, k, h | .tp _, k, h | .fv .., k, h | .iv .., k, h | .nx .., k, h => h
theorem owesAll_skip {raw : Operand → V} : ∀ (xs : List Operand) (k : Prop), owesAll (some false) raw xs k → k
  | [], k, h => h
  | x :: l, k, h => owesAll_skip l k (owes_skip _ _ h)
theorem underAll_spec {c : Bool} (hc : c = true) : ∀ (l : List Prop), (∀ p ∈ underAll c l, p) → ∀ p ∈ l, p
  | [], _ => by simp
  | q :: l, h => fun p hp => by
    rcases List.mem_cons.1 hp with rfl | hp
    · exact h _ (.head _) hc
    · exact underAll_spec hc l (fun p hp => h p (.tail _ hp)) p hp
theorem putAll_length : ∀ (d : Delta) (H : Heap), H.length ≤ (putAll H d).length
  | [], H => Nat.le_refl _
  | p :: d, H => by
    have := putAll_length d (putH H p.1 p.2)
    rw [putH_length] at this
    show H.length ≤ (putAll (putH H p.1 p.2) d).length
    omega
theorem putAll_mem : ∀ (d : Delta) (H : Heap) (b : Nat) (x : Blk), (b, x) ∈ d → b < (putAll H d).length
  | p :: d, H, b, x, h => by
    rcases List.mem_cons.1 h with rfl | h
    · have := putAll_length d (putH H b x)
      rw [putH_length] at this
      show b < (putAll (putH H b x) d).length
      omega
    · exact putAll_mem d _ b x h
theorem getV_fg (es : List Nat) : ∀ (T : List V) (t : Nat), getV (fgVs es T) t = fgV es (getV T t)
  | [], t => by simp [fgVs, getV, fgV]
  | x :: l, 0 => by simp [fgVs, getV]
  | x :: l, t + 1 => by simpa [fgVs, getV] using getV_fg es l t
theorem SRel.wild (h : SRel es0 w0 O0 ρ0 H0 T H a w O ρ) (h0 : HOK w0 O0 ρ0 H0) {es : List Nat} (hm : May es0 w0 O0 es) {w' : World} {O' : Own} {ρ' : Place} {H' : Heap} (g : GoodW es w O ρ H w' O' ρ' H') (hf : ∀ b, H'.length ≤ b → ρ' b = .unset) {v : V} {u : Value} (hv : RV w' O' ρ' v u) (d : Option Nat) :
    SRel es0 w0 O0 ρ0 H0 (setD (fgVs es T) d v) H' (a.put d u) w' O' ρ' := by
  refine ⟨h.good.step h0 hm g, fun t => ?_, ?_, hf, ?_⟩
  · have old : RV w' O' ρ' (getV (fgVs es T) t) (a.tmps.getD t undef) := by rw [getV_fg]; exact (h.tm t).wild (g.wld h.good.hok) g.pl
    cases d with
    | none => exact old
    | some d =>
      simp only [setD, setT_get, Act.put]
      by_cases ht : t = d ∧ d < (fgVs es T).length
      · rw [if_pos ht]
        obtain ⟨rfl, hlt⟩ := ht
        rw [fgVs_length] at hlt
        have : (a.tmps.setIfInBounds t u).getD t undef = u := by simp [h.len, hlt]
        rw [this]; exact hv
      · rw [if_neg ht]
        by_cases htd : t = d
        · subst htd
          rw [getV_none _ t (by omega)]; exact .un _
        · have : (a.tmps.setIfInBounds d u).getD t undef = a.tmps.getD t undef := by simp [Array.getElem?_setIfInBounds_ne (Ne.symm htd)]
          rw [this]; exact old
  · cases d with
    | none => simp [setD, Act.put, fgVs_length, h.len]
    | some d => simp [setD, Act.put, setT_length, fgVs_length, h.len]
  · cases d <;> exact h.df
theorem SRel.putW (h : SRel es0 w0 O0 ρ0 H0 T H a w O ρ) (h0 : HOK w0 O0 ρ0 H0) {es : List Nat} (hm : May es0 w0 O0 es) {w' : World} {O' : Own} {ρ' : Place} {H' : Heap} (g : GoodW es w O ρ H w' O' ρ' H') (hf : ∀ b, H'.length ≤ b → ρ' b = .unset) {v : V} {u : Value} (hv : RV w' O' ρ' v u) (d : Option Nat) :
    SRel es0 w0 O0 ρ0 H0 (setD (fgT es T) d v) H' (a.put d u) w' O' ρ' := by
  cases es with
  | nil => exact h.put h0 g.toGood hf hv d
  | cons e es => exact h.wild h0 hm g hf hv d
theorem vcIn_sound {tab : Tab} (hT : TabOK P tab) {o : Oper} {i : In} (hc : compAny tab o = some i) {cur : Cur} (hcur : ∀ c, cur = some c → c = true) (h0 : HOK w0 O0 ρ0 H0) (hs : SRel es0 w0 O0 ρ0 H0 T H a w O ρ) {k : KH} (hv : vcIn Env.std cur i T H k) :
    ∃ r v' w' O' ρ' v H', (execOp a.eval o).run P w = .ok r w' ∧ (r = .value v' ∨ (r = .skip ∧ v' = undef)) ∧ k v H' ∧ RV w' O' ρ' v v' ∧ Good w O ρ H w' O' ρ' H' ∧ ∀ b, H'.length ≤ b → ρ' b = .unset := by
  unfold vcIn at hv
  obtain ⟨hp, hv⟩ := owesAll_spec hcur hs.eval _ _ hv
  have hun : ρ (hlen H) = .unset := hs.fresh _ (by rw [hlen_eq]; exact Nat.le_refl _)
  split at hv
  · rename_i v d obs hi
    have main : (∀ p ∈ obs, p) → ∃ r v' w' O' ρ', (execOp a.eval o).run P w = .ok r w' ∧ (r = .value v' ∨ (r = .skip ∧ v' = undef)) ∧ RV w' O' ρ' v v' ∧ Good w O ρ H w' O' ρ' (putAll H d) ∧ ∀ b, (putAll H d).length ≤ b → ρ' b = .unset := fun hl => by
      obtain ⟨r, v', w', O', ρ', h1, h2, h3, h4, h5⟩ := any_ok hT hc hs.eval hp hs.good.hok hun hi hl (fun _ => rfl)
      refine ⟨r, v', w', O', ρ', h1, h2, h3, h4, fun b hb => ?_⟩
      have hlen := putAll_length d H
      rw [h5 b fun x hx => by have := putAll_mem d H b x hx; omega]
      exact hs.fresh b (by omega)
    split at hv
    · obtain ⟨hl, hk⟩ := allK_spec _ _ hv
      obtain ⟨r, v', w', O', ρ', h1, h2, h3, h4, h5⟩ := main hl
      exact ⟨r, v', w', O', ρ', v, _, h1, h2, hk, h3, h4, h5⟩
    · rename_i c _
      unfold gdK at hv
      split at hv
      · obtain ⟨hl, hk⟩ := allK_spec _ _ hv
        obtain ⟨r, v', w', O', ρ', h1, h2, h3, h4, h5⟩ := main (underAll_spec (hcur c rfl) _ hl)
        exact ⟨r, v', w', O', ρ', _, _, h1, h2, hk, .gd c v v' (fun _ => h3) (fun h => by rw [hcur c rfl] at h; cases h), h4, h5⟩
      · obtain rfl := hcur c rfl
        obtain ⟨hl, hk⟩ := allK_spec _ _ hv
        obtain ⟨r, v', w', O', ρ', h1, h2, h3, h4, h5⟩ := main hl
        exact ⟨r, v', w', O', ρ', v, _, h1, h2, hk, h3, h4, h5⟩
  · split at hv
    · exact hv.elim
    · rename_i c _
      have := hcur c rfl
      rw [hv.1] at this
      cases this
theorem xq_or {tab : Tab} {o : Oper} {rc : Rc} (h : (match compXq tab o with | some q => some (Rc.xq q) | none => match compAny tab o with | some i => some (.ins i) | none => none) = some rc) :
    (∃ q, rc = .xq q ∧ compXq tab o = some q) ∨ ∃ i, rc = .ins i ∧ compAny tab o = some i := by
  split at h
  · rename_i q hq; cases h; exact .inl ⟨q, rfl, hq⟩
  · split at h
    · rename_i i hi; cases h; exact .inr ⟨i, rfl, hi⟩
    · cases h
theorem compRc_spec {tab : Tab} {o : Oper} {rc : Rc} (h : compRc tab o = some rc) : (∃ q, rc = .xq q ∧ compXq tab o = some q) ∨ (∃ i, rc = .ins i ∧ compAny tab o = some i) ∨
    (∃ (c : Call) (f : FuncId), o.op = .call c ∧ c.callee = .value (.func f) ∧ (rc = .call f c.args.toList ∨ rc = .callx f c.args.toList ∨ ∃ es, rc = .callw f es c.args.toList)) ∨ ∃ (c : Call) (t : Nat), o.op = .call c ∧ c.callee = .value (.tmp t) ∧ rc = .callv (.tmp t) c.args.toList := by
  unfold compRc at h
  split at h
  · rename_i c hc
    split at h
    · rename_i f hf
      split at h
      · cases h; exact .inr (.inr (.inl ⟨c, f, hc, hf, .inr (.inr ⟨_, rfl⟩)⟩))
      · split at h
        · cases h; exact .inr (.inr (.inl ⟨c, f, hc, hf, .inr (.inl rfl)⟩))
        · cases h; exact .inr (.inr (.inl ⟨c, f, hc, hf, .inl rfl⟩))
    · rename_i t ht; cases h; exact .inr (.inr (.inr ⟨c, t, hc, ht, rfl⟩))
    · exact (xq_or h).imp (fun h => h) .inl
  · exact (xq_or h).imp (fun h => h) .inl
theorem compRc_ins {tab : Tab} {o : Oper} {i : In} (h : compRc tab o = some (.ins i)) : compAny tab o = some i := by
  rcases compRc_spec h with ⟨q, e, _⟩ | ⟨i', e, hi⟩ | ⟨c, f, _, _, e | e | ⟨es, e⟩⟩ | ⟨c, t, _, _, e⟩ <;> cases e
  exact hi
theorem gdOf_spec' {want : Bool} {y : Value} {ops : Array Oper} {a : Act} {t j : Nat} (e : a.tmps[t]? = some y) (hj : (ops[j]?).bind (·.dst) = some t) : ∀ {x : V} {q : Bool}, gdOf Env.std want x = some q → RV w O ρ x y → (Go.yielded ops a.tmps j == some want) = q
  | .u (.sc v), q, h, hx => by
    cases v <;> simp only [gdOf] at h <;> first | (cases h; done) | skip
    rename_i g
    cases h
    cases hx.scv
    simp only [Go.yielded, hj, Option.bind_some, e]
    cases g <;> cases want <;> rfl
  | .gd c x, q, h, hx => by
    have hf : c = false → (Go.yielded ops a.tmps j == some want) = false := fun hc => by
      have : y = undef := by cases hx with | gd _ _ _ _ h' => exact h' hc
      subst this
      simp only [Go.yielded, hj, Option.bind_some, e]
      cases want <;> rfl
    have recq : ∀ q', gdOf Env.std want x = some q' → q = Env.std.an c q' → (Go.yielded ops a.tmps j == some want) = q := fun q' h1 h2 => by
      subst h2
      cases hc : c with
      | false => rw [hf hc]; rfl
      | true => rw [gdOf_spec' e hj h1 (rv_gd hx hc)]; cases q' <;> rfl
    unfold gdOf at h
    split at h
    · rename_i heq; cases heq
    · rename_i heq; cases heq; cases h; exact hf rfl
    · rename_i heq; cases heq
      split at h
      · rename_i q' hq; cases h; exact recq q' hq rfl
      · cases h
    · cases h
  | .u (.sv ..), q, h, hx => by simp [gdOf] at h
  | .u .any, q, h, hx => by simp [gdOf] at h
  | .un, q, h, hx | .sr .., q, h, hx | .pb .., q, h, hx | .pa .., q, h, hx | .rp .., q, h, hx | .so .., q, h, hx | .mp _, q, h, hx | .ag _, q, h, hx | .tp _, q, h, hx | .fv .., q, h, hx | .iv .., q, h, hx | .nx .., q, h, hx => by simp [gdOf] at h
theorem gdOf_spec {want q : Bool} {x : V} {v : Value} (h : gdOf Env.std want x = some q) (hx : RV w O ρ x v) {ops : Array Oper} {a : Act} {t j : Nat} (hv : a.tmps.getD t undef = v) (ht : t < a.tmps.size) (hj : (ops[j]?).bind (·.dst) = some t) : (Go.yielded ops a.tmps j == some want) = q := by
  refine gdOf_spec' ?_ hj h hx
  rw [Array.getElem?_eq_getElem ht]
  simp only [Array.getD, ht, dif_pos] at hv
  rw [show a.tmps[t] = v from hv]
theorem SRel.yielded (hs : SRel es0 w0 O0 ρ0 H0 T H a w O ρ) {t : Nat} {g : Bool} (hg : RV w O ρ (.u (.sc (.bool g))) (a.tmps.getD t undef)) (ht : t < T.length) {ops : Array Oper} {j : Nat} (hj : (ops[j]?).bind (·.dst) = some t) : Go.yielded ops a.tmps j = some g := by
  have hlt : t < a.tmps.size := by rw [hs.len]; exact ht
  have := hg.scv
  have e : a.tmps[t]? = some (.bool g) := by
    rw [Array.getElem?_eq_getElem hlt]
    simp only [Array.getD, hlt, dif_pos] at this
    rw [show a.tmps[t] = .bool g from this]
  simp [Go.yielded, hj, e]
theorem getV_lt {T : List V} {t : Nat} (h : getV T t ≠ .un) : t < T.length := by
  rcases Nat.lt_or_ge t T.length with h' | h'
  · exact h'
  · exact absurd (getV_none T t h') h
theorem args_of {raw : Operand → V} {ev : Operand → Value} {args : Array Operand} (hp : ∀ x ∈ args.toList, RV w O ρ (peel (raw x)) (ev x)) : RVs w O ρ (args.toList.map fun x => peel (raw x)) (args.map ev) := by
  refine ⟨by simp, fun j x hx => ?_⟩
  have := map_rel (w := w) (O := O) (ρ := ρ) (xs := args.toList) (f := fun x => peel (raw x)) (g := ev) hp j x hx
  simpa using this
theorem exec_call {ev : Operand → Value} {f : FuncId} {fn : Func} (hf : P.funcs[f]? = some fn) (hn : (fn.name == "runtime.NumGoroutine") = false) (hb : fn.body.isNone = false) {o : Oper} {c : Call} (ho : o.op = .call c) (hc : c.callee = .value (.func f)) (hev : ev (.func f) = .func (.func f) #[] #[]) (w : World) :
    (execOp ev o).run P w = .ok (.enter f (c.args.map ev)) w := by
  simp only [beq_eq_false_iff_ne, ne_eq] at hn
  have hb' : ¬ fn.body = none := fun e => by rw [e] at hb; cases hb
  simp [execOp, ho, resolve, hc, Deferred.ofValue, hev, invoke, callFunc, hf, hn, hb']
theorem exec_callv {ev : Operand → Value} {f : FuncId} {fn : Func} (hf : P.funcs[f]? = some fn) (hn : (fn.name == "runtime.NumGoroutine") = false) (hb : fn.body.isNone = false) {o : Oper} {c : Call} (ho : o.op = .call c) {t : Nat} (hc : c.callee = .value (.tmp t)) {first captured : Array Value} (hev : ev (.tmp t) = .func (.func f) first captured) (w : World) :
    (execOp ev o).run P w = .ok (.enter f (first ++ c.args.map ev ++ captured)) w := by
  simp only [beq_eq_false_iff_ne, ne_eq] at hn
  have hb' : ¬ fn.body = none := fun e => by rw [e] at hb; cases hb
  simp [execOp, ho, resolve, hc, Deferred.ofValue, hev, invoke, callFunc, hf, hn, hb']
theorem rvs_append {xs ys : List V} {vs us : Array Value} (h : RVs w O ρ xs vs) (h' : RVs w O ρ ys us) : RVs w O ρ (xs ++ ys) (vs ++ us) := by
  refine ⟨by rw [Array.size_append, h.1, h'.1, List.length_append], fun j x hx => ?_⟩
  rcases Nat.lt_or_ge j xs.length with hj | hj
  · rw [List.getElem?_append_left hj] at hx
    obtain ⟨u, hu, hr⟩ := h.2 j x hx
    exact ⟨u, by rw [Array.getElem?_append_left (by rw [h.1]; exact hj)]; exact hu, hr⟩
  · rw [List.getElem?_append_right hj] at hx
    obtain ⟨u, hu, hr⟩ := h'.2 _ x hx
    exact ⟨u, by rw [Array.getElem?_append_right (by rw [h.1]; exact hj), h.1]; exact hu, hr⟩
theorem fnOf_ok {x : V} {v : Value} (hx : RV w O ρ x v) {args as : List V} {vs : Array Value} (ha : RVs w O ρ args vs) {g : FuncId} (h : fnOf x args = some (g, as)) : ∃ first captured, v = .func (.func g) first captured ∧ RVs w O ρ as (first ++ vs ++ captured) := by
  unfold fnOf at h
  split at h
  · cases h
    cases hx with
    | fv fn cs ds arr brr k1 k2 h1 h2 h3 h4 h5 h6 =>
      refine ⟨arr, brr, rfl, ?_⟩
      rw [Array.append_assoc]
      refine rvs_append ⟨h1, fun j x hx => ⟨_, h2 j (lt_of_get hx), h3 j x hx⟩⟩ (rvs_append ha ⟨h4, fun j x hx => ⟨_, h5 j (lt_of_get hx), h6 j x hx⟩⟩)
  · split at h
    · rename_i h1 h2
      cases h
      refine ⟨_, _, hx.scv, ?_⟩
      rw [nil_of h1, nil_of h2]
      simpa using ha
    · cases h
  · cases h
def FuncsOK (P : Program) (fs : List FuncId) : Prop := ∀ f ∈ fs, FOK P f
def callOf : Rc → List FuncId
  | .call f _ | .callw f _ _ => [f]
  | _ => []
def callsOf : List Ins → List FuncId
  | [] => []
  | i :: l => callOf i.op ++ callsOf l
theorem lookQ_ok {ok : Bool} {z : Value} {i : Int} {kd : IntKind} {k : V → Prop} : ∀ (l : List (Int × U)) (es : List MapEntry) (n : Nat), es.length = l.length → (∀ (j : Nat) (a : Int) (x : U), l[j]? = some (a, x) → ∃ e, es[j]? = some e ∧ e.key = .int kd a ∧ RU w O x e.val) → lookQ Env.std ok z i k l →
    ∃ r : Option (Nat × Value), Instr.findNow (.int kd) (.int kd i) es n = some r ∧ ∃ v, k v ∧ ∀ z', RV w O ρ (ofCell z) z' → RV w O ρ v (match r with | some (_, u) => if ok then .tuple #[u, .bool true] else u | none => if ok then .tuple #[z', .bool false] else z')
  | [], es, n, hl, he, h => by
    have : es = [] := List.eq_nil_of_length_eq_zero (by simpa using hl)
    subst this
    refine ⟨none, rfl, _, h, fun z' hz => ?_⟩
    cases ok with
    | true => exact tp_mk rfl (by
        intro j y hy
        match j, hy with
        | 0, hy => simp at hy; subst hy; exact ⟨_, rfl, hz⟩
        | 1, hy => simp at hy; subst hy; exact ⟨_, rfl, scB_ok _⟩)
    | false => exact hz
  | (a, x) :: l, [], n, hl, he, h => by simp at hl
  | (a, x) :: l, e :: es, n, hl, he, h => by
    obtain ⟨e', h1, h2, h3⟩ := he 0 a x rfl
    simp at h1
    subst h1
    simp only [lookQ] at h
    split at h
    · rename_i hc
      have hia : i = a := by simpa [Env.std] using hc
      refine ⟨some (n, e.val), by simp [Instr.findNow, Instr.sameNow, h2, hia], _, h, fun z' hz => ?_⟩
      cases ok with
      | true => exact tp_mk rfl (by
          intro j y hy
          match j, hy with
          | 0, hy => simp at hy; subst hy; exact ⟨_, rfl, .u _ _ h3⟩
          | 1, hy => simp at hy; subst hy; exact ⟨_, rfl, scB_ok _⟩)
      | false => exact .u _ _ h3
    · rename_i hc
      have hia : i ≠ a := by simpa [Env.std] using hc
      obtain ⟨r, q1, q2⟩ := lookQ_ok l es (n + 1) (by simpa using hl) (fun j a' x' hj => he (j + 1) a' x' (by simpa using hj)) h
      have hs : Instr.sameNow (.int kd) (.int kd i) e.key = some false := by simp [Instr.sameNow, h2, hia]
      exact ⟨r, by simp only [Instr.findNow, hs]; exact q1, q2⟩
theorem xq_ok {tab : Tab} (hT : TabOK P tab) {o : Oper} {q : Xq} (hc : compXq tab o = some q) {raw : Operand → V} {ev : Operand → Value} (hp : ∀ x ∈ qlooks q, RV w O ρ (peel (raw x)) (ev x)) (hconst : ∀ c, ev (.const c) = c) (hH : HOK w O ρ H) (hf : ∀ b, H.length ≤ b → ρ b = .unset) {k : KH}
    (hv : vcQ Env.std (fun x => peel (raw x)) H k q) : ∃ v' v H', (execOp ev o).run P w = .ok (.value v') w ∧ k v H' ∧ RV w O ρ v v' ∧ Good w O ρ H w O ρ H' ∧ ∀ b, H'.length ≤ b → ρ b = .unset := by
  obtain ⟨dst, op, type, pos, after, guard⟩ := o
  have nil : ∀ (ne : Bool) (x : Operand) (t e : TypeId), P.underlying t = some (.slice e) → RV w O ρ (peel (raw x)) (ev x) → vcQ Env.std (fun x => peel (raw x)) H k (.nilq ne x) →
      ∃ (a : Option Addr) (n c : Nat) (v : V) (H' : Heap), ev x = .slice a n c ∧ k v H' ∧ RV w O ρ v (.bool (if ne then !a.isNone else a.isNone)) ∧ Good w O ρ H w O ρ H' ∧ ∀ b, H'.length ≤ b → ρ b = .unset := by
    intro ne x t e ht hx hv
    simp only [vcQ] at hv
    have fin : ∀ c : Bool, RV w O ρ (scB (if ne then Env.std.nt c else c)) (.bool (if ne then !c else c)) := fun c => by cases ne <;> exact scB_ok _
    generalize ev x = vx at hx
    split at hv
    · rename_i o z n f hq
      rw [hq] at hx
      cases hx with | u _ _ hu => cases hu with
      | sv _ _ _ c _ a g hc ha hl hr =>
        split at hv
        · exact hv.elim
        · refine ⟨a, n, c, _, H, rfl, hv a.isNone fun hn => ?_, fin _, .refl hH, hf⟩
          show n = 0
          rcases ha with h0 | ⟨ad, rfl, _⟩
          · rcases Nat.mul_eq_zero.1 h0 with h | h
            · exact h
            · omega
          · simp at hn
    · rename_i b z len hq
      rw [hq] at hx
      cases hx with
      | srN _ _ hn => exact ⟨none, 0, 0, _, H, rfl, hv true fun _ => rfl, fin _, .refl hH, hf⟩
      | srP _ _ _ g cap hg hc => exact ⟨_, len, cap, _, H, rfl, hv false fun h => (nomatch h), fin _, .refl hH, hf⟩
      | srO _ _ _ _ _ _ _ _ _ h0 => omega
    · rename_i hq
      rw [hq] at hx
      rw [hx.scv]
      refine ⟨none, 0, 0, _, H, rfl, hv, ?_, .refl hH, hf⟩
      cases ne <;> exact scB_ok _
    · exact hv.elim
  unfold compXq at hc
  dsimp only at hc
  split at hc
  · rename_i t x pt
    split at hc
    · rename_i ti hti
      have hk := (hT _ _ hti).kd
      split at hc
      · rename_i e q; rw [q] at hk
        cases hc
        obtain ⟨a, n, c, v, H', h1, h2, h3, h4, h5⟩ := nil false x t e hk (hp x (by simp [qlooks])) hv
        have hg : (eqGuard .eql t x (.const (.slice none 0 0)) (.slice a n c) (.slice none 0 0)).run P w = .ok () w := guard_plain _ _ _ _ _ _ (fun cs => by simp) (by simp)
        exact ⟨.bool a.isNone, v, H', by simp only [execOp, h1, hconst, Sem.run_bind, hg, Result.andThen_ok, Lib.run_eql_slice_nil w t e a n c 0 0 hk, Sem.run_pure], h2, h3, h4, h5⟩
      · cases hc
    · cases hc
  · rename_i t x pt
    split at hc
    · rename_i ti hti
      have hk := (hT _ _ hti).kd
      split at hc
      · rename_i e q; rw [q] at hk
        cases hc
        obtain ⟨a, n, c, v, H', h1, h2, h3, h4, h5⟩ := nil true x t e hk (hp x (by simp [qlooks])) hv
        have hg : (eqGuard .neq t x (.const (.slice none 0 0)) (.slice a n c) (.slice none 0 0)).run P w = .ok () w := guard_plain _ _ _ _ _ _ (fun cs => by simp) (by simp)
        have hr : (binOp .neq t (.slice a n c) (.slice none 0 0)).run P w = .ok (.bool (!a.isNone)) w := by
          simp only [binOp]
          simp [Op.equal, Op.maxDepth, Lib.run_equalIn_slice_nil w 9999 t e a n c 0 0 hk]
        exact ⟨.bool (!a.isNone), v, H', by simp only [execOp, h1, hconst, Sem.run_bind, hg, Result.andThen_ok, hr, Sem.run_pure], h2, h3, h4, h5⟩
      · cases hc
    · cases hc
  · rename_i t m key ok
    split at hc
    · rename_i ti hti
      have hk := (hT _ _ hti).kd
      split at hc
      · rename_i kt et q; rw [q] at hk
        split at hc
        · rename_i tk te htk hte
          have hkk := (hT _ _ htk).kd
          split at hc
          · rename_i kq z q2 q3; rw [q2] at hkk
            split at hc
            · cases hc
            · rename_i hna
              cases hc
              have hm := hp m (by simp [qlooks])
              have hko := hp key (by simp [qlooks])
              simp only [vcQ] at hv
              split at hv
              · rename_i b kk i e1 e2
                rw [e1] at hm; rw [e2] at hko
                split at hv
                · rename_i hq
                  have hq := kindEq_spec hq
                  subst hq
                  split at hv
                  · rename_i kd l hblk
                    split at hv
                    · rename_i hkd
                      have hkd := kindEq_spec hkd
                      subst hkd
                      have hb := blkAt_eq hblk trivial
                      obtain ⟨g, cap, es, cl, k1, k2, k3, k4, k5⟩ := hH.blk b _ hb
                      generalize hvm : ev m = vm at hm
                      cases hm with
                      | mp _ g' cap' hg =>
                        rw [hg] at k1; cases k1
                        obtain ⟨r, q1, v, hkv, hrv⟩ := lookQ_ok (w := w) (O := O) (ρ := ρ) (kd := kd) (k := fun v => k v H) l es.toList 0 (by simpa using k4) (fun j a x hj => by obtain ⟨e, h1, h2, h3⟩ := k5 j a x hj; exact ⟨e, by simpa using h1, h2, h3⟩) hv
                        have hfk := findKey_of (w := w) hkk q1
                        have hck := checkKey_int (w := w) hkk es.isEmpty kd i
                        obtain ⟨ie, z', hie, hisz, hiby, hiz, hzc⟩ := (hT _ _ hte).zeroCells
                        rw [q3] at hzc
                        have hz1 : (zeroValue et).run P w = .ok z' w := by simp [zeroValue, typeInfo, hie, hiz]
                        have hz2 : RV w O ρ (ofCell z) z' := by
                          have := ofCell_any (w := w) (O := O) (ρ := ρ) z
                          have hz' : z' = z := by
                            have hna := (hT _ _ hte).na (by simpa using hna)
                            rw [hie] at hna
                            simp [hiz] at hna
                            have := cells_one hna
                            rw [this] at hzc
                            simpa using hzc
                          rw [hz']; exact this
                        have hrv := hrv z' hz2
                        refine ⟨_, v, H, ?_, hkv, hrv, .refl hH, hf⟩
                        cases r with
                        | none =>
                          simp only [execOp, hvm, hko.scv, Instr.lookup, Sem.run_bind, run_underlying hk, Result.andThen_ok, getObj_map k3, hck, hfk, hz1, Sem.run_pure]
                        | some p =>
                          simp only [execOp, hvm, hko.scv, Instr.lookup, Sem.run_bind, run_underlying hk, Result.andThen_ok, getObj_map k3, hck, hfk, Sem.run_pure]
                    · exact hv.elim
                  · exact hv.elim
                · exact hv.elim
              · exact hv.elim
          · cases hc
        · cases hc
      · cases hc
    · cases hc
  · rename_i c
    obtain ⟨callee, args, ats⟩ := c
    dsimp only at hc
    split at hc
    · rename_i x t ha ht
      have ha := one_of ha
      have ht := one_of ht
      subst ha ht
      split at hc
      · rename_i ti hti
        have hk := (hT _ _ hti).kd
        split at hc
        · rename_i e q; rw [q] at hk
          cases hc
          have hx := hp x (by simp [qlooks])
          simp only [vcQ] at hv
          have hexec : ∀ (a : Option Addr) (n c : Nat), ev x = .slice a n c → (execOp ev ⟨dst, .call ⟨.builtin .cap, #[x], #[t]⟩, type, pos, after, guard⟩).run P w = .ok (.value (.int .i64 (c : Int))) w := fun a n c h => by
            simp [execOp, resolve, invoke, builtin, Builtin.cap_, run_underlying hk, h, goInt]
          generalize hvx : ev x = vx at hx
          split at hv
          · rename_i o z n f hq
            rw [hq] at hx
            cases hx with | u _ _ hu => cases hu with
            | sv _ _ _ c _ a g hc' ha hl hr => exact ⟨_, _, H, hexec a n c hvx, hv c hc', scI_ok _ _, .refl hH, hf⟩
          · rename_i b z len hq
            rw [hq] at hx
            split at hv
            · rename_i e0 z' n F hblk
              split at hv
              · rename_i hz
                subst hz
                have hb : H[b]? = some (arrB e0 z n F none) := blkAt_eq hblk trivial
                have hlb : b < H.length := lt_of_get hb
                have fr : ∀ x : Blk, ∀ b', (putAll H [(b, x)]).length ≤ b' → ρ b' = .unset := fun x b' hb' => hf b' (by
                  have : (putAll H [(b, x)]).length = max H.length (b + 1) := putH_length H b x
                  omega)
                cases hx with
                | srO _ _ _ _ _ _ _ _ _ h0 => omega
                | srN _ _ hn =>
                  rcases row_of hH hb with ⟨k1, k2, _⟩ | ⟨g, cap, cur, hr⟩
                  · exact ⟨_, _, _, hexec none 0 0 hvx, hv 0 (by show n ≤ 0; omega) (Nat.le_refl _) (Nat.zero_le _), scI_ok _ _, good_reblk hH hb trivial (.arc e0 z n F 0) (.inl ⟨k1, k2, rfl⟩), fr _⟩
                  · have := hr.pl; rw [hn] at this; cases this
                | srP _ _ _ g cap hg hcap =>
                  rcases row_of hH hb with ⟨k1, _⟩ | ⟨g', cap', cur, hr⟩
                  · rw [hg] at k1; cases k1
                  · have e2 := hr.pl
                    rw [hg] at e2
                    cases e2
                    exact ⟨_, _, _, hexec _ _ cap hvx, hv cap hr.le hcap hr.mx, scI_ok _ _, good_reblk hH hb trivial (.arc e0 z n F cap) (.inr ⟨g, cur, hr.pl, hr.ow, hr.hp, hr.sz, hr.le, hr.mx, hr.ln, hr.rl⟩), fr _⟩
              · exact hv.elim
            · exact hv.elim
          · exact hv.elim
        · cases hc
      · cases hc
    · cases hc
  · cases hc
theorem compOp_st {tab : Tab} {o : Oper} {z : Nat} {x y : Operand} (h : compOp tab o = some (.st z x y)) : ∃ t ti, o.op = .store t x y ∧ tab.ty t = some ti ∧ ti.sz = z := by
  obtain ⟨dst, op, type, pos, after, guard⟩ := o
  cases op with
  | store t a x =>
    simp only [compOp] at h
    split at h
    · rename_i ti hti; cases h; exact ⟨t, ti, rfl, hti, rfl⟩
    · cases h
  | _ =>
    exfalso
    simp only [compOp, compCall] at h
    first
      | (cases h; done)
      | (repeat' split at h) <;> first | (cases h; done) | simp_all
theorem wildE_ok {tab : Tab} (hT : TabOK P tab) {o : Oper} {op : In} (hc : compAny tab o = some op) {e : Nat} (hw : wildE (fun x => peel (evO T x)) op = some e) (h0 : HOK w0 O0 ρ0 H0) (hs : SRel es0 w0 O0 ρ0 H0 T H a w O ρ) (hp : ∀ x ∈ looks op, RV w O ρ (peel (evO T x)) (a.eval x)) :
    ∃ w', (execOp a.eval o).run P w = .ok .skip w' ∧ GoodW [e] w O ρ H w' O ρ (fgH [e] H) := by
  cases op <;> simp only [wildE] at hw <;> first | (cases hw; done) | skip
  rename_i z x y
  split at hw
  · rename_i e' us hq
    split at hw
    · rename_i cs hcs
      split at hw
      · rename_i q1 q2 q3 q4
        cases hw
        have ha := hp x (by simp [looks])
        have hx := hp y (by simp [looks])
        rw [hq] at ha
        have hst : ∃ t ti, o.op = .store t x y ∧ tab.ty t = some ti ∧ ti.sz = z := by
          unfold compAny at hc
          split at hc
          · cases hc
          · exact compOp_st hc
        obtain ⟨t, ti, hop, hti, rfl⟩ := hst
        have z0 : 0 < ti.sz := by have : 0 + 1 ≤ ti.sz := by simpa [Nat.blt] using q4
                                  omega
        have z1 : ti.sz ≤ us.length := by
          have := Nat.le_of_ble_eq_true q3
          have e : ∀ l : List U, lenL l = l.length := fun l => by induction l with
            | nil => rfl
            | cons x l ih => simp [lenL, ih]
          rwa [e] at this
        obtain ⟨w', h1, h2⟩ := wild_store hs.good.hok (hT _ _ hti) hx hcs q1 q2 ha z1 z0
        exact ⟨w', by simp [execOp, hop, h1], h2⟩
      · cases hw
    · cases hw
  · cases hw
theorem vcCall_sound {tab : Tab} {n0 : Nat} {md : Md} (hT : TabOK P tab) (h0 : HOK w0 O0 ρ0 H0) (hmd : md.ok w0 O0) {o : Oper} {rc : Rc} (hrc : compRc tab o = some rc) (hF : FuncsOK P (callOf rc)) (hs : SRel md.es w0 O0 ρ0 H0 T H a w O ρ) {kw : List Nat → V → Heap → Prop} (hv : vcCall Env.std (Cx.std P tab n0 md) rc T H kw)
    {K : Act → World → Prop} {Q : Exit → Act → World → Prop} (hK : ∀ (es : List Nat) (v : V) (H' : Heap) (v' : Value) (w' : World) (O' : Own) (ρ' : Place), kw es v H' → SRel md.es w0 O0 ρ0 H0 (setD (fgT es T) o.dst v) H' (a.put o.dst v') w' O' ρ' → K (a.put o.dst v') w') : o.wp P a w K Q := by
  rcases compRc_spec hrc with ⟨q, rfl, hq⟩ | ⟨i, rfl, hi⟩ | ⟨c, f, hop, hcc, rfl | rfl | ⟨es, rfl⟩⟩ | ⟨c, t, hop, hcc, rfl⟩
  · simp only [vcCall] at hv
    obtain ⟨hp, hv⟩ := owesAll_spec (by simp) hs.eval _ _ hv
    obtain ⟨v', v, H', h1, h2, h3, h4, h5⟩ := xq_ok hT hq hp (fun _ => rfl) hs.good.hok hs.fresh hv
    unfold Oper.wp
    rw [h1]
    exact hK [] v H' v' w O ρ h2 (hs.put h0 h4 h5 h3 o.dst)
  · exact hv.elim
  · simp only [vcCall] at hv
    obtain ⟨hp, hv⟩ := owesAll_spec (by simp) hs.eval _ _ hv
    obtain ⟨fn, k1, k2, k3⟩ := hF f (.head _)
    unfold Oper.wp
    rw [exec_call k1 k2 k3 hop hcc rfl w]
    refine Calls.mono (hv w O ρ _ hs.good.hok hs.fresh (args_of hp)) fun e w' hq => ?_
    obtain ⟨v, O', ρ', r, H', rfl, q1, q2, q3, q4⟩ := hq
    exact hK [] r H' v w' O' ρ' q1 (hs.put h0 q3 q4 q2 o.dst)
  · simp only [vcCall] at hv
    obtain ⟨hp, hv⟩ := owesAll_spec (by simp) hs.eval _ _ hv
    obtain ⟨v, w', O', ρ', r, H', q0, q1, q2, q3, q4⟩ := hv w O ρ _ hs.good.hok hs.fresh (args_of hp)
    have hex : (execOp a.eval o).run P w = (callFunc f (c.args.map a.eval)).run P w := by
      simp [execOp, hop, resolve, hcc, Deferred.ofValue, Act.eval, invoke]
    unfold Oper.wp
    rw [hex, q0]
    exact hK [] r H' v w' O' ρ' q1 (hs.put h0 q3 q4 q2 o.dst)
  · simp only [vcCall] at hv
    obtain ⟨hp, hm, hv⟩ := owesAll_spec (by simp) hs.eval _ _ hv
    obtain ⟨fn, k1, k2, k3⟩ := hF f (.head _)
    unfold Oper.wp
    rw [exec_call k1 k2 k3 hop hcc rfl w]
    refine Calls.mono (hv w O ρ _ hs.good.hok hs.fresh (args_of hp)) fun e w' hq => ?_
    obtain ⟨v, O', ρ', r, H', rfl, q1, q2, q3, q4⟩ := hq
    exact hK es r H' v w' O' ρ' q1 (hs.putW h0 (Md.toMay hmd hm) q3 q4 q2 o.dst)
  · simp only [vcCall] at hv
    obtain ⟨hp, hv⟩ := owesAll_spec (by simp) hs.eval _ _ hv
    split at hv
    · rename_i g as hfn
      obtain ⟨⟨fn, k1, k2, k3⟩, hv⟩ := hv
      obtain ⟨first, captured, hev, hrel⟩ := fnOf_ok (hp _ (.head _)) (args_of fun x hx => hp x (.tail _ hx)) hfn
      unfold Oper.wp
      rw [exec_callv k1 k2 k3 hop hcc hev w]
      refine Calls.mono (hv w O ρ _ hs.good.hok hs.fresh hrel) fun e w' hq => ?_
      obtain ⟨v, O', ρ', r, H', rfl, q1, q2, q3, q4⟩ := hq
      exact hK [] r H' v w' O' ρ' q1 (hs.put h0 q3 q4 q2 o.dst)
    · exact hv.elim
theorem vcIns_sound {tab : Tab} {n0 : Nat} {md : Md} (hT : TabOK P tab) (h0 : HOK w0 O0 ρ0 H0) (hmd : md.ok w0 O0) {ops : Array Oper} {K : KT} {Q : Exit → Act → World → Prop} (hQ : ∀ T H a w O ρ, K T H → SRel md.es w0 O0 ρ0 H0 T H a w O ρ → Q .normal a w) :
    ∀ (l : List Oper) (r : List Ins), compAll tab ops l = some r → FuncsOK P (callsOf r) → ∀ (T : List V) (H : Heap) (a : Act) (w : World) (O : Own) (ρ : Place), vcIns Env.std (Cx.std P tab n0 md) r K T H → SRel md.es w0 O0 ρ0 H0 T H a w O ρ → wpList P ops Q l a w := by
  intro l
  induction l with
  | nil =>
    intro r hr hF T H a w O ρ hv hs
    simp [compAll] at hr
    subst hr
    exact wpList_nil (hQ T H a w O ρ hv hs)
  | cons o l ih =>
    intro r hr hF T H a w O ρ hv hs
    simp only [compAll] at hr
    split at hr
    · rename_i i r' hi hr'
      cases hr
      simp only [compIns] at hi
      split at hi
      · rename_i rc g hrc hg
        cases hi
        have hF' : FuncsOK P (callsOf r') := fun f hf => hF f (List.mem_append_right _ hf)
        have hF1 : FuncsOK P (callOf rc) := fun f hf => hF f (List.mem_append_left _ hf)
        have one : ∀ {cur : Cur} {op : In}, (∀ c, cur = some c → c = true) → compAny tab o = some op → vcIn Env.std cur op T H (fun v => vcIns Env.std (Cx.std P tab n0 md) r' K (setD T o.dst v)) →
            o.wp P a w (wpList P ops Q l) Q := fun hcur hop hv => by
          obtain ⟨r, v', w', O', ρ', v, H', h1, h2, h3, h4, h5, h6⟩ := vcIn_sound hT hop hcur h0 hs hv
          have hs' := hs.put h0 h5 h6 h4 o.dst
          have := ih r' hr' hF' _ H' _ w' O' ρ' h3 hs'
          unfold Oper.wp
          rw [h1]
          rcases h2 with rfl | ⟨rfl, rfl⟩ <;> exact this
        have call : vcCall Env.std (Cx.std P tab n0 md) rc T H (fun es v => vcIns Env.std (Cx.std P tab n0 md) r' K (setD (fgT es T) o.dst v)) → o.wp P a w (wpList P ops Q l) Q := fun hv =>
          vcCall_sound hT h0 hmd hrc hF1 hs hv fun es v H' v' w' O' ρ' hk hs' => ih r' hr' hF' _ H' _ w' O' ρ' hk hs'
        cases g with
        | none =>
          have hgd : o.guard = none := by
            cases hog : o.guard with
            | none => rfl
            | some p => rw [hog] at hg; obtain ⟨j, want⟩ := p; simp only [compGd] at hg; split at hg <;> cases hg
          refine wpList_plain hgd fun K' hK' => ?_
          refine Oper.wp_mono hK' ?_
          simp only [vcIns] at hv
          cases rc with
          | ins op =>
            dsimp only at hv
            split at hv
            · rename_i e hw
              obtain ⟨hp, hm, hv⟩ := owesAll_spec (by simp) hs.eval _ _ hv
              obtain ⟨w', h1, h2⟩ := wildE_ok hT (compRc_ins hrc) hw h0 hs hp
              unfold Oper.wp
              rw [h1]
              exact ih r' hr' hF' _ _ _ w' O ρ hv (hs.wild h0 (Md.toMay hmd hm) h2 (fun b hb => hs.fresh b (by rwa [fgH_length] at hb)) (.un undef) o.dst)
            · exact one (cur := none) (by simp) (compRc_ins hrc) hv
          | _ => exact call hv
        | some p =>
          obtain ⟨t, want⟩ := p
          obtain ⟨j, hog, hj⟩ : ∃ j, o.guard = some (j, want) ∧ (ops[j]?).bind (·.dst) = some t := by
            cases hog : o.guard with
            | none => rw [hog] at hg; simp [compGd] at hg
            | some p =>
              rw [hog] at hg
              obtain ⟨j, want'⟩ := p
              simp only [compGd] at hg
              split at hg
              · rename_i t' ht'; cases hg; exact ⟨j, rfl, ht'⟩
              · cases hg
          simp only [vcIns] at hv
          split at hv
          · rename_i g hgv
            have hlt : t < T.length := getV_lt (fun e => by rw [e] at hgv; cases hgv)
            have hw : Region.wanted o (Go.yielded ops a.tmps) = g := by
              simp only [Region.wanted, hog]
              exact gdOf_spec hgv (hs.tm t) rfl (by rw [hs.len]; exact hlt) hj
            have skip : (vcIns Env.std (Cx.std P tab n0 md) r' K (setD T o.dst (.gd false .un)) H) → wpList P ops Q l (a.put o.dst undef) w := fun hv =>
              ih r' hr' hF' _ H _ w O ρ hv (hs.put h0 (.refl hs.good.hok) hs.fresh (.gd _ _ _ (by simp) fun _ => rfl) o.dst)
            have callS : (match (generalizing := false) g with
                | true => vcCall Env.std (Cx.std P tab n0 md) rc T H (fun es v => vcIns Env.std (Cx.std P tab n0 md) r' K (setD (fgT es T) o.dst v))
                | false => vcIns Env.std (Cx.std P tab n0 md) r' K (setD T o.dst (.gd false .un)) H) → wpList P ops Q (o :: l) a w := fun hv => by
              unfold wpList
              rw [hw]
              cases hgw : g with
              | true => subst hgw; rw [if_pos rfl]; exact .inl (call hv)
              | false => subst hgw; rw [if_neg (by simp)]; exact skip hv
            cases rc with
            | ins op =>
              unfold wpList
              rw [hw]
              cases hgw : g with
              | true =>
                rw [if_pos rfl]
                refine .inl ?_
                subst hgw
                exact one (cur := some true) (fun c e => by cases e; rfl) (compRc_ins hrc) hv
              | false =>
                rw [if_neg (by simp)]
                subst hgw
                have hv' := owesAll_skip _ _ hv
                split at hv'
                · split at hv'
                  · rename_i heq; cases heq
                  · rename_i heq; cases heq
                    unfold gdK at hv'
                    split at hv'
                    · obtain ⟨_, hk⟩ := allK_spec _ _ hv'
                      exact ih r' hr' hF' _ H _ w O ρ hk (hs.put h0 (.refl hs.good.hok) hs.fresh (.gd _ _ _ (by simp) fun _ => rfl) o.dst)
                    · exact skip hv'
                · split at hv'
                  · exact hv'.elim
                  · exact skip hv'.2
            | _ => exact callS hv
          · exact hv.elim
      · cases hi
    · cases hr
def callsC : C → List FuncId
  | .reg l => callsOf l
  | .draw l => callsOf (l.map fun p => p.1)
  | .drawL l i => callsOf (l.map fun p => p.1) ++ callsOf [i]
  | .seq a b | .cond _ a b => callsC a ++ callsC b
  | .block _ c | .loop c => callsC c
  | _ => []
end
end Am
end
section
open Go Go.Lib
set_option linter.unusedVariables false
set_option linter.unusedSimpArgs false
set_option linter.unusedSectionVars false
namespace Am
theorem memL_spec : ∀ (n : Nat) (l : List Nat), disj.memL n l = true ↔ n ∈ l
  | n, [] => by simp [disj.memL]
  | n, x :: l => by
    have : Nat.beq n x = true ↔ n = x := ⟨Nat.eq_of_beq_eq_true, fun h => by rw [h]; exact Nat.beq_refl x⟩
    simp [disj.memL, memL_spec n l, this]
theorem lenL_eq {α : Type} : ∀ l : List α, lenL l = l.length
  | [] => rfl
  | _ :: l => by simp [lenL, lenL_eq l]
theorem getL_get : ∀ (l : List (List Nat)) (n : Nat), getL l n = (l[n]?).getD []
  | [], n => rfl
  | x :: l, 0 => rfl
  | x :: l, n + 1 => by simpa [getL] using getL_get l n
theorem insN_mem {m n : Nat} : ∀ l : List Nat, m ∈ insN n l → m = n ∨ m ∈ l
  | [], h => by simp [insN] at h; exact .inl h
  | x :: l, h => by
    simp only [insN] at h
    split at h
    · rcases List.mem_cons.1 h with h | h
      · exact .inl h
      · exact .inr h
    · split at h
      · exact .inr h
      · rcases List.mem_cons.1 h with h | h
        · exact .inr (h ▸ .head _)
        · exact (insN_mem l h).imp id (.tail _)
theorem unionN_mem {m : Nat} : ∀ l r : List Nat, m ∈ unionN l r → m ∈ l ∨ m ∈ r
  | [], r, h => .inr h
  | x :: l, r, h => by
    rcases insN_mem _ h with h | h
    · exact .inl (h ▸ .head _)
    · exact (unionN_mem l r h).imp (.tail _) id
theorem bfOf_mem {done : List (List Nat)} {m : Nat} : ∀ l : List Edge, m ∈ bfOf done l → ∃ e ∈ l, Region.binds .any e = true ∧ (m = e.on ∨ m ∈ getL done e.on)
  | [], h => by simp [bfOf] at h
  | e :: l, h => by
    simp only [bfOf] at h
    split at h
    · rename_i hb
      rcases insN_mem _ h with h | h
      · exact ⟨e, .head _, hb, .inl h⟩
      · rcases unionN_mem _ _ h with h | h
        · exact ⟨e, .head _, hb, .inr h⟩
        · obtain ⟨e', h1, h2⟩ := bfOf_mem l h; exact ⟨e', .tail _ h1, h2⟩
    · obtain ⟨e', h1, h2⟩ := bfOf_mem l h; exact ⟨e', .tail _ h1, h2⟩
theorem edgesLow_spec {i : Nat} : ∀ l : List Edge, edgesLow i l = true → ∀ e ∈ l, Region.binds .any e = true → e.on < i
  | [], _, e, h, _ => nomatch h
  | x :: l, h, e, he, hb => by
    simp only [edgesLow, Bool.and_eq_true, Bool.or_eq_true] at h
    rcases List.mem_cons.1 he with rfl | he
    · rcases h.1 with h1 | h1
      · rw [hb] at h1; cases h1
      · simpa using h1
    · exact edgesLow_spec l h.2 e he hb
theorem snoc_eq {α : Type} : ∀ (l : List α) (x : α), snoc l x = l ++ [x]
  | [], x => rfl
  | y :: l, x => by simp [snoc, snoc_eq l x]
theorem keys_mem {b : Nat} : ∀ d : Delta, b ∈ keys d ↔ ∃ x, (b, x) ∈ d
  | [] => by simp [keys]
  | (c, y) :: d => by
    simp only [keys, List.mem_cons, keys_mem d, Prod.mk.injEq]
    constructor
    · rintro (rfl | ⟨x, h⟩)
      · exact ⟨y, .inl ⟨rfl, rfl⟩⟩
      · exact ⟨x, .inr h⟩
    · rintro ⟨x, ⟨rfl, rfl⟩ | h⟩
      · exact .inl rfl
      · exact .inr ⟨x, h⟩
theorem disj_spec : ∀ (l m : List Nat), disj l m = true → ∀ x ∈ l, x ∉ m
  | [], m, _, x, h => nomatch h
  | y :: l, m, h, x, hx => by
    simp only [disj, Bool.and_eq_true, Bool.not_eq_true'] at h
    rcases List.mem_cons.1 hx with rfl | hx
    · intro hm; rw [(memL_spec x m).2 hm] at h; exact absurd h.1 (by simp)
    · exact disj_spec l m h.2 x hx
theorem notIn_spec {t : Nat} {d : Option Nat} {l : List Nat} (h : notIn d l = true) (hd : d = some t) : t ∉ l := by
  subst hd
  intro hm
  simp only [notIn, (memL_spec t l).2 hm] at h
  cases h
theorem tmpOf_mem {t : Nat} : ∀ l : List Operand, Operand.tmp t ∈ l → t ∈ tmpOf l
  | [], h => nomatch h
  | x :: l, h => by
    rcases List.mem_cons.1 h with rfl | h'
    · exact .head _
    · clear h
      cases x <;> simp only [tmpOf] <;> first | exact .tail _ (tmpOf_mem l h') | exact tmpOf_mem l h'
theorem checkJ_spec {b : Rk} : ∀ (k : Nat) (l : List Rk), checkJ b k l = true → ∀ (j : Nat) (a : Rk), l[j]? = some a → (k + j) ∈ b.bf ∨ apartD a b = true
  | k, [], _, j, a, h => by simp at h
  | k, x :: l, h, j, a, ha => by
    simp only [checkJ, Bool.and_eq_true, Bool.or_eq_true] at h
    cases j with
    | zero => simp at ha; subst ha; exact h.1.imp (fun h => (memL_spec _ _).1 h) id
    | succ j => have := checkJ_spec (k + 1) l h.2 j a (by simpa using ha); rwa [show k + 1 + j = k + (j + 1) by omega] at this
theorem apartD_spec {a b : Rk} (h : apartD a b = true) :
    (∀ t, a.dst = some t → t ∉ b.rd) ∧ (∀ t, b.dst = some t → t ∉ a.rd) ∧ (∀ t, a.dst = some t → b.dst ≠ some t) ∧ (∀ x ∈ a.ks, x ∉ b.tc) ∧ (∀ x ∈ b.ks, x ∉ a.tc) ∧ ∀ x ∈ a.ks, x ∉ b.ks := by
  simp only [apartD, Bool.and_eq_true] at h
  obtain ⟨h1, h2, h3, h4, h5, h6⟩ := h
  refine ⟨fun t => notIn_spec h1, fun t => notIn_spec h2, fun t ht ht' => ?_, disj_spec _ _ h4, disj_spec _ _ h5, disj_spec _ _ h6⟩
  rw [ht, ht'] at h3
  simp [dstNe] at h3
theorem blkAt_putH : ∀ (H : Heap) (s : Nat) (x : Blk) (b : Nat), blkAt (putH H s x) b = if b = s then x else blkAt H b
  | [], 0, x, b => by cases b <;> simp [putH, blkAt]
  | [], n + 1, x, b => by
    cases b with
    | zero => simp [putH, blkAt]
    | succ b => simp [putH, blkAt, blkAt_putH [] n x b]
  | y :: l, 0, x, b => by cases b <;> simp [putH, blkAt]
  | y :: l, n + 1, x, b => by
    cases b with
    | zero => simp [putH, blkAt]
    | succ b => simp [putH, blkAt, blkAt_putH l n x b]
def dAt : Delta → Nat → Blk → Blk
  | [], _, x => x
  | (c, y) :: d, b, x => dAt d b (if b = c then y else x)
theorem blkAt_putAll : ∀ (d : Delta) (H : Heap) (b : Nat), blkAt (putAll H d) b = dAt d b (blkAt H b)
  | [], H, b => rfl
  | (c, y) :: d, H, b => by simp only [putAll, dAt, blkAt_putAll d, blkAt_putH]
theorem dAt_none : ∀ (d : Delta) (b : Nat) (x : Blk), b ∉ keys d → dAt d b x = x
  | [], b, x, _ => rfl
  | (c, y) :: d, b, x, h => by
    simp only [keys, List.mem_cons, not_or] at h
    simp only [dAt, if_neg h.1]
    exact dAt_none d b x h.2
theorem dAt_some : ∀ (d : Delta) (b : Nat) (x y : Blk), b ∈ keys d → dAt d b x = dAt d b y
  | (c, z) :: d, b, x, y, h => by
    simp only [dAt]
    by_cases hb : b = c
    · rw [if_pos hb, if_pos hb]
    · rw [if_neg hb, if_neg hb]
      simp only [keys, List.mem_cons] at h
      exact dAt_some d b x y (h.resolve_left hb)
structure Rec where
  k : Rk
  v : V
  d : Delta
def tv (N t : Nat) (S : Nat → Bool) : Nat → List Rec → V → V
  | _, [], x => x
  | i, r :: l, x => tv N t S (i + 1) l (if S i = true ∧ r.k.dst = some t ∧ t < N then r.v else x)
def hv (b : Nat) (S : Nat → Bool) : Nat → List Rec → Blk → Blk
  | _, [], x => x
  | i, r :: l, x => hv b S (i + 1) l (if S i = true then dAt r.d b x else x)
theorem tv_congr {N t : Nat} {S S' : Nat → Bool} : ∀ (l : List Rec) (i : Nat) (x : V), (∀ (j : Nat) (r : Rec), l[j]? = some r → r.k.dst = some t → S (i + j) = S' (i + j)) → tv N t S i l x = tv N t S' i l x
  | [], i, x, h => rfl
  | r :: l, i, x, h => by
    simp only [tv]
    have h0 := h 0 r rfl
    have : (if S i = true ∧ r.k.dst = some t ∧ t < N then r.v else x) = (if S' i = true ∧ r.k.dst = some t ∧ t < N then r.v else x) := by
      by_cases hd : r.k.dst = some t
      · rw [show S i = S' i by simpa using h0 hd]
      · simp [hd]
    rw [this]
    exact tv_congr l (i + 1) _ fun j r' hj hd => by have := h (j + 1) r' (by simpa using hj) hd; rwa [show i + (j + 1) = i + 1 + j by omega] at this
theorem hv_congr {b : Nat} {S S' : Nat → Bool} : ∀ (l : List Rec) (i : Nat) (x : Blk), (∀ (j : Nat) (r : Rec), l[j]? = some r → b ∈ keys r.d → S (i + j) = S' (i + j)) → hv b S i l x = hv b S' i l x
  | [], i, x, h => rfl
  | r :: l, i, x, h => by
    simp only [hv]
    have h0 := h 0 r rfl
    have : (if S i = true then dAt r.d b x else x) = (if S' i = true then dAt r.d b x else x) := by
      by_cases hd : b ∈ keys r.d
      · rw [show S i = S' i by simpa using h0 hd]
      · rw [dAt_none _ _ _ hd]; simp
    rw [this]
    exact hv_congr l (i + 1) _ fun j r' hj hd => by have := h (j + 1) r' (by simpa using hj) hd; rwa [show i + (j + 1) = i + 1 + j by omega] at this
theorem tv_snoc {N t : Nat} {S : Nat → Bool} {r : Rec} : ∀ (l : List Rec) (i : Nat) (x : V), tv N t S i (l ++ [r]) x = if S (i + l.length) = true ∧ r.k.dst = some t ∧ t < N then r.v else tv N t S i l x
  | [], i, x => by simp [tv]
  | y :: l, i, x => by
    simp only [List.cons_append, tv, tv_snoc l, List.length_cons]
    rw [show i + 1 + l.length = i + (l.length + 1) by omega]
theorem hv_snoc {b : Nat} {S : Nat → Bool} {r : Rec} : ∀ (l : List Rec) (i : Nat) (x : Blk), hv b S i (l ++ [r]) x = if S (i + l.length) = true then dAt r.d b (hv b S i l x) else hv b S i l x
  | [], i, x => by simp [hv]
  | y :: l, i, x => by
    simp only [List.cons_append, hv, hv_snoc l, List.length_cons]
    rw [show i + 1 + l.length = i + (l.length + 1) by omega]
theorem tv_skip {N t : Nat} {S : Nat → Bool} : ∀ (l : List Rec) (i : Nat) (x : V), (∀ (j : Nat) (r : Rec), l[j]? = some r → r.k.dst = some t → t < N → S (i + j) = false) → tv N t S i l x = x
  | [], i, x, h => rfl
  | r :: l, i, x, h => by
    simp only [tv]
    have h0 := h 0 r rfl
    rw [if_neg fun hh => by rw [show S i = false by simpa using h0 hh.2.1 hh.2.2] at hh; exact absurd hh.1 (by simp)]
    exact tv_skip l (i + 1) _ fun j r' hj hd hn => by have := h (j + 1) r' (by simpa using hj) hd hn; rwa [show i + (j + 1) = i + 1 + j by omega] at this
theorem hv_skip {b : Nat} {S : Nat → Bool} : ∀ (l : List Rec) (i : Nat) (x : Blk), (∀ (j : Nat) (r : Rec), l[j]? = some r → b ∈ keys r.d → S (i + j) = false) → hv b S i l x = x
  | [], i, x, h => rfl
  | r :: l, i, x, h => by
    simp only [hv]
    have h0 := h 0 r rfl
    have : (if S i = true then dAt r.d b x else x) = x := by
      by_cases hd : b ∈ keys r.d
      · rw [show S i = false by simpa using h0 hd]; simp
      · rw [dAt_none _ _ _ hd]; simp
    rw [this]
    exact hv_skip l (i + 1) _ fun j r' hj hd => by have := h (j + 1) r' (by simpa using hj) hd; rwa [show i + (j + 1) = i + 1 + j by omega] at this
theorem tv_at {N t : Nat} {S : Nat → Bool} : ∀ (l : List Rec) (i : Nat) (x : V) (m : Nat) (r : Rec), l[m]? = some r → r.k.dst = some t → t < N → S (i + m) = true → (∀ (j : Nat) (r' : Rec), m < j → l[j]? = some r' → r'.k.dst = some t → S (i + j) = false) → tv N t S i l x = r.v
  | [], i, x, m, r, h, _, _, _, _ => by simp at h
  | y :: l, i, x, 0, r, h, hd, hN, hS, ho => by
    simp at h; subst h
    simp only [tv]
    rw [if_pos ⟨by simpa using hS, hd, hN⟩]
    exact tv_skip l (i + 1) _ fun j r' hj hd _ => by have := ho (j + 1) r' (by omega) (by simpa using hj) hd; rwa [show i + (j + 1) = i + 1 + j by omega] at this
  | y :: l, i, x, m + 1, r, h, hd, hN, hS, ho => by
    simp only [tv]
    exact tv_at l (i + 1) _ m r (by simpa using h) hd hN (by rwa [show i + 1 + m = i + (m + 1) by omega]) fun j r' hj hl hd => by have := ho (j + 1) r' (by omega) (by simpa using hl) hd; rwa [show i + (j + 1) = i + 1 + j by omega] at this
theorem hv_at {b : Nat} {S : Nat → Bool} : ∀ (l : List Rec) (i : Nat) (x y : Blk) (m : Nat) (r : Rec), l[m]? = some r → b ∈ keys r.d → S (i + m) = true → (∀ (j : Nat) (r' : Rec), m < j → l[j]? = some r' → b ∈ keys r'.d → S (i + j) = false) → hv b S i l x = dAt r.d b y
  | [], i, x, y, m, r, h, _, _, _ => by simp at h
  | z :: l, i, x, y, 0, r, h, hd, hS, ho => by
    simp at h; subst h
    simp only [hv]
    rw [if_pos (by simpa using hS), hv_skip l (i + 1) _ fun j r' hj hd => by have := ho (j + 1) r' (by omega) (by simpa using hj) hd; rwa [show i + (j + 1) = i + 1 + j by omega] at this]
    exact dAt_some _ _ _ _ hd
  | z :: l, i, x, y, m + 1, r, h, hd, hS, ho => by
    simp only [hv]
    exact hv_at l (i + 1) _ y m r (by simpa using h) hd (by rwa [show i + 1 + m = i + (m + 1) by omega]) fun j r' hj hl hd => by have := ho (j + 1) r' (by omega) (by simpa using hl) hd; rwa [show i + (j + 1) = i + 1 + j by omega] at this
theorem blkAt_live {H : Heap} {b : Nat} {x : Blk} (h : H[b]? = some x) : blkAt H b = x := by
  induction H generalizing b with
  | nil => simp at h
  | cons y l ih =>
    cases b with
    | zero => simp at h; simpa [blkAt] using h
    | succ b => exact ih (by simpa using h)
theorem get_of_blkAt {H H' : Heap} (he : ∀ b, blkAt H b = blkAt H' b) {b : Nat} {x : Blk} (h : H'[b]? = some x) (hl : x.live) : H[b]? = some x := by
  have h1 := blkAt_live h
  rw [← he] at h1
  exact blkAt_eq h1 hl
section
variable {w0 w : World} {O0 O : Own} {ρ0 ρ : Place} {H0 H H' : Heap}
theorem HOK.congr (he : ∀ b, blkAt H b = blkAt H' b) (h : HOK w O ρ H) : HOK w O ρ H' := by
  refine ⟨fun b x hx => ?_, fun b b' x x' g c c' hx hl hx' hl' hg hg' => h.inj b b' x x' g c c' (get_of_blkAt he hx hl) hl (get_of_blkAt he hx' hl') hl' hg hg', h.lt, h.olt⟩
  cases x with
  | gone => trivial
  | box cs => exact h.blk b _ (get_of_blkAt he hx trivial)
  | arr e z n f => exact h.blk b _ (get_of_blkAt he hx trivial)
  | _ => exact h.blk b _ (get_of_blkAt he hx trivial)
theorem Img.congr (he : ∀ b, blkAt H b = blkAt H' b) {k : Nat} (h : Img ρ H' k) : Img ρ H k := by
  obtain ⟨b, x, c, hb, hl, hg⟩ := h
  exact ⟨b, x, c, get_of_blkAt he hb hl, hl, hg⟩
theorem Good.congr (he : ∀ b, blkAt H b = blkAt H' b) (h : Good w0 O0 ρ0 H0 w O ρ H) : Good w0 O0 ρ0 H0 w O ρ H' :=
  ⟨h.hok.congr he, h.ev, h.pl, fun k hk => h.img k (hk.congr he), h.out, h.inn, h.old⟩
theorem GoodW.congr {es0 : List Nat} (he : ∀ b, blkAt H b = blkAt H' b) (h : GoodW es0 w0 O0 ρ0 H0 w O ρ H) : GoodW es0 w0 O0 ρ0 H0 w O ρ H' :=
  ⟨h.hok.congr he, h.os, h.tape, h.output, h.size, h.block, h.pl, fun k hk => h.img k (hk.congr he), h.out, h.inn, h.old⟩
end
theorem owesAll_and {cur : Cur} {raw : Operand → V} : ∀ (l : List Operand) (k : Prop), owesAll cur raw l k → owesAll cur raw l True ∧ k := by
  have one : ∀ (x : V) (p q : Prop), owes cur x (p ∧ q) → owes cur x p ∧ q → owes cur x p ∧ q := fun _ _ _ _ h => h
  have two : ∀ (x : V) (p q : Prop), (p → q) → owes cur x p → owes cur x q := by
    intro x
    induction x using V.rec (motive_2 := fun _ => True) with
    | gd c x ih => exact fun p q h hx => ⟨hx.1, ih p q h hx.2⟩
    | _ => first | trivial | exact fun p q h hx => h hx
  have three : ∀ (x : V) (p : Prop), owes cur x p → p := by
    intro x
    induction x using V.rec (motive_2 := fun _ => True) with
    | gd c x ih => exact fun p hx => ih p hx.2
    | _ => first | trivial | exact fun p hx => hx
  intro l
  induction l with
  | nil => exact fun k h => ⟨trivial, h⟩
  | cons x l ih =>
    intro k h
    have h1 := three _ _ h
    obtain ⟨h2, h3⟩ := ih k h1
    exact ⟨two _ _ _ (fun _ => h2) h, h3⟩
theorem owesAll_congr {cur : Cur} {raw raw' : Operand → V} : ∀ (l : List Operand) (k : Prop), (∀ x ∈ l, raw x = raw' x) → owesAll cur raw l k → owesAll cur raw' l k
  | [], k, _, h => h
  | x :: l, k, he, h => by
    simp only [owesAll] at h ⊢
    rw [← he x (.head _)]
    have : owesAll cur raw l k = owesAll cur raw' l k := by
      have e : ∀ (l : List Operand), (∀ x ∈ l, raw x = raw' x) → owesAll cur raw l k = owesAll cur raw' l k := by
        intro l
        induction l with
        | nil => exact fun _ => rfl
        | cons y l ih => exact fun hy => by simp only [owesAll]; rw [hy y (.head _), ih fun x hx => hy x (.tail _ hx)]
      exact e l fun x hx => he x (.tail _ hx)
    rw [← this]; exact h
section
variable {P : Program}
theorem vcInD_sem {tab : Tab} (hT : TabOK P tab) {o : Oper} {i : In} (hc : compAny tab o = some i) {cur : Cur} {T : List V} {H : Heap} {k : V → Delta → Prop} (hv : vcInD Env.std cur i T H k) :
    ∃ v d, k v d ∧ (cur = some false → d = []) ∧ (cur = some false → ∀ (w : World) (O : Own) (ρ : Place), RV w O ρ v undef) ∧
      ((∀ c, cur = some c → c = true) → ∀ (raw : Operand → V) (ev : Operand → Value) (w : World) (O : Own) (ρ : Place) (H' : Heap), (∀ c, ev (.const c) = c) → (∀ x, RV w O ρ (raw x) (ev x)) → HOK w O ρ H' → (∀ x ∈ opds i, raw x = evO T x) →
        (∀ b ∈ tcOf (evO T) i, blkAt H' b = blkAt H b) → (∀ b x, (b, x) ∈ d → H.length ≤ b → ρ b = .unset) → (∃ N, ∀ b, N ≤ b → ρ b = .unset) → StepOK P w O ρ H' 0 (execOp ev o) v d) := by
  unfold vcInD at hv
  obtain ⟨hp, hv⟩ := owesAll_and _ _ hv
  split at hv
  · rename_i v d obs hi
    have main : (∀ p ∈ obs, p) → (∀ c, cur = some c → c = true) → ∀ (raw : Operand → V) (ev : Operand → Value) (w : World) (O : Own) (ρ : Place) (H' : Heap), (∀ c, ev (.const c) = c) → (∀ x, RV w O ρ (raw x) (ev x)) → HOK w O ρ H' → (∀ x ∈ opds i, raw x = evO T x) →
        (∀ b ∈ tcOf (evO T) i, blkAt H' b = blkAt H b) → (∀ b x, (b, x) ∈ d → H.length ≤ b → ρ b = .unset) → (∃ N, ∀ b, N ≤ b → ρ b = .unset) → StepOK P w O ρ H' 0 (execOp ev o) v d := by
      intro hl hcur raw ev w O ρ H' hconst hraw hH hr ht hf ⟨N, hN⟩
      obtain ⟨s, hs, hun⟩ : ∃ s, (allocs i = true → s = hlen H) ∧ ρ s = .unset := by
        cases ha : allocs i with
        | true =>
          obtain ⟨x, hx⟩ := alloc_mem ha hi
          exact ⟨hlen H, fun _ => rfl, hf _ x hx (by rw [hlen_eq]; exact Nat.le_refl _)⟩
        | false => exact ⟨N, by simp, hN N (Nat.le_refl _)⟩
      have hi' : istep Env.std raw H' s i = some (v, d, obs) := by
        rw [← hi]
        refine (istep_congr i (fun x hx => (hr x hx).symm) (fun b hb => (ht b hb).symm) fun ha => (hs ha).symm).symm
      have hp' := owesAll_congr _ _ (fun x hx => (hr x (looks_opds i x hx)).symm) hp
      exact any_ok hT hc hraw (owesAll_spec hcur hraw _ _ hp').1 hH hun hi' hl hconst
    split at hv
    · obtain ⟨hl, hk⟩ := allK_spec _ _ hv
      exact ⟨v, d, hk, by simp, by simp, main hl⟩
    · rename_i c _
      unfold gdD at hv
      split at hv
      · obtain ⟨hl, hk⟩ := allK_spec _ _ hv
        refine ⟨.gd c v, [], hk, by simp, fun hc w O ρ => .gd c v _ (fun h => ?_) fun _ => rfl, fun hcur raw ev w O ρ H' h0 h1 h2 h3 h4 h5 h6 => ?_⟩
        · cases hc; cases h
        · obtain ⟨r, v', w', O', ρ', q1, q2, q3, q4, q5⟩ := main (underAll_spec (hcur c rfl) _ hl) hcur raw ev w O ρ H' h0 h1 h2 h3 h4 h5 h6
          exact ⟨r, v', w', O', ρ', q1, q2, .gd c v v' (fun _ => q3) (fun h => by rw [hcur c rfl] at h; cases h), q4, q5⟩
      · split at hv
        · obtain ⟨hl, hk⟩ := allK_spec _ _ hv
          exact ⟨v, _, hk, by simp, by simp, main hl⟩
        · exact ⟨.gd false .un, [], hv, by simp, fun _ _ _ _ => .gd _ _ _ (by simp) fun _ => rfl, fun hcur => by have := hcur false rfl; cases this⟩
  · split at hv
    · exact hv.elim
    · rename_i c _
      exact ⟨.gd false .un, [], hv.2, by simp, fun _ _ _ _ => .gd _ _ _ (by simp) fun _ => rfl, fun hcur => by have := hcur c rfl; rw [hv.1] at this; cases this⟩
end
end Am
end
section
open Go Go.Lib
set_option linter.unusedVariables false
set_option linter.unusedSimpArgs false
set_option linter.unusedSectionVars false
namespace Am
section
variable {P : Program}
def stepD (P : Program) (ops : Array Oper) (Q : Exit → Act → World → Prop) (o : Oper) (K : Act → World → Prop) (a : Act) (w : World) : Prop :=
  if Region.wanted o (Go.yielded ops a.tmps) then o.wp P a w K Q ∨ (o.asks P a w ∧ LetsOut Q) else K (a.put o.dst undef) w
def OpOK (P : Program) (ops : Array Oper) (o : Oper) (Tp : List V) (Hp : Heap) (r : Rec) : Prop :=
  ∀ (Q : Exit → Act → World → Prop) (K : Act → World → Prop) (Tf : Nat → V) (a : Act) (w : World) (O : Own) (ρ : Place) (H : Heap), HOK w O ρ H → (∀ t, RV w O ρ (Tf t) (a.tmps.getD t undef)) → a.tmps.size = Tp.length →
    (∀ t ∈ r.k.rd, Tf t = getV Tp t) → (∀ b ∈ r.k.tc, blkAt H b = blkAt Hp b) → (∀ b x, (b, x) ∈ r.d → Hp.length ≤ b → ρ b = .unset) → (∃ N, ∀ b, N ≤ b → ρ b = .unset) →
    (∀ v' w' O' ρ', RV w' O' ρ' r.v v' → Good w O ρ H w' O' ρ' (putAll H r.d) → (∀ b, (∀ x, (b, x) ∉ r.d) → ρ' b = ρ b) → K (a.put o.dst v') w') → stepD P ops Q o K a w
def evF (f : Nat → V) : Operand → V
  | .tmp t => f t
  | .const v => ofConst v
  | .global g => .u (.sc (.pointer (some ⟨g, 0, none⟩)))
  | .func f => .u (.sc (.func (.func f) #[] #[]))
theorem evF_rel {f : Nat → V} {a : Act} {w : World} {O : Own} {ρ : Place} (h : ∀ t, RV w O ρ (f t) (a.tmps.getD t undef)) (x : Operand) : RV w O ρ (evF f x) (a.eval x) := by
  cases x with
  | tmp t => exact h t
  | const v => exact ofConst_ok v
  | global g => exact .u _ _ (.sc _ rfl)
  | func f => exact .u _ _ (.sc _ rfl)
theorem evF_evO {f : Nat → V} {T : List V} {l : List Operand} (h : ∀ t ∈ tmpOf l, f t = getV T t) : ∀ x ∈ l, evF f x = evO T x := by
  intro x hx
  cases x with
  | tmp t => exact h t (tmpOf_mem l hx)
  | _ => rfl
theorem gdT_mem {g : Option (Nat × Bool)} {l : List Nat} {t : Nat} (h : t ∈ l) : t ∈ gdT g l := by
  cases g with
  | none => exact h
  | some p => exact .tail _ h
theorem callD_sem {tab : Tab} {n0 : Nat} {md : Md} {o : Oper} {rc : Rc} (hrc : compRc tab o = some rc) (hF : FuncsOK P (callOf rc)) {T : List V} {H : Heap} {k : V → Delta → List Nat → Prop} (hv : vcCallD Env.std (Cx.std P tab n0 md) rc T H k) :
    ∃ v d tc, k v d tc ∧ ∀ (Q : Exit → Act → World → Prop) (K : Act → World → Prop) (raw : Operand → V) (a : Act) (w : World) (O : Own) (ρ : Place) (H' : Heap), (∀ x, RV w O ρ (raw x) (a.eval x)) → HOK w O ρ H' → (∀ x ∈ rcOpds rc, raw x = evO T x) →
      (∀ b ∈ tc, blkAt H' b = blkAt H b) → (∀ b x, (b, x) ∈ d → H.length ≤ b → ρ b = .unset) →
      (∀ v' w' O' ρ', RV w' O' ρ' v v' → Good w O ρ H' w' O' ρ' (putAll H' d) → (∀ b, (∀ x, (b, x) ∉ d) → ρ' b = ρ b) → K (a.put o.dst v') w') → o.wp P a w K Q := by
  rcases compRc_spec hrc with ⟨q, rfl, hq⟩ | ⟨i, rfl, hi⟩ | ⟨c, f, hop, hcc, rfl | rfl | ⟨es, rfl⟩⟩ | ⟨c, t, hop, hcc, rfl⟩
  · exact hv.elim
  · exact hv.elim
  · simp only [vcCallD] at hv
    obtain ⟨hp, v, d, tc, hk, hcall⟩ := owesAll_and _ _ hv
    obtain ⟨fn, k1, k2, k3⟩ := hF f (.head _)
    refine ⟨v, d, tc, hk, fun Q K raw a w O ρ H' hraw hH hr ht hf hK => ?_⟩
    have hp' := owesAll_congr _ _ (fun x hx => (hr x hx).symm) hp
    have hpe := (owesAll_spec (by simp) hraw _ _ hp').1
    unfold Oper.wp
    rw [exec_call k1 k2 k3 hop hcc rfl w]
    have hmap : (c.args.toList.map fun x => peel (raw x)) = c.args.toList.map fun x => peel (evO T x) := List.map_congr_left fun y hy => by rw [hr y hy]
    refine Calls.mono (hcall w O ρ _ H' hH (by rw [← hmap]; exact args_of hpe) ht hf) fun e w' hq => ?_
    obtain ⟨v', O', ρ', rfl, q1, q2, q3⟩ := hq
    exact hK v' w' O' ρ' q1 q2 q3
  · exact hv.elim
  · exact hv.elim
  · simp only [vcCallD] at hv
    obtain ⟨hp, hv⟩ := owesAll_and _ _ hv
    split at hv
    · rename_i g as hfn
      obtain ⟨⟨fn, k1, k2, k3⟩, v, d, tc, hk, hcall⟩ := hv
      refine ⟨v, d, tc, hk, fun Q K raw a w O ρ H' hraw hH hr ht hf hK => ?_⟩
      have hp' := owesAll_congr _ _ (fun x hx => (hr x hx).symm) hp
      have hpe := (owesAll_spec (by simp) hraw _ _ hp').1
      have hmap : (c.args.toList.map fun x => peel (raw x)) = c.args.toList.map fun x => peel (evO T x) := List.map_congr_left fun y hy => by rw [hr y (.tail _ hy)]
      obtain ⟨first, captured, hev, hrel⟩ := fnOf_ok (hpe _ (.head _)) (args_of fun x hx => hpe x (.tail _ hx)) (by rw [hmap, hr _ (.head _)]; exact hfn)
      unfold Oper.wp
      rw [exec_callv k1 k2 k3 hop hcc hev w]
      refine Calls.mono (hcall w O ρ _ H' hH hrel ht hf) fun e w' hq => ?_
      obtain ⟨v', O', ρ', rfl, q1, q2, q3⟩ := hq
      exact hK v' w' O' ρ' q1 q2 q3
    · exact hv.elim
theorem guard_of {tab : Tab} {ops : Array Oper} {o : Oper} {i : Ins} (h : compIns tab ops o = some i) : compRc tab o = some i.op ∧ o.dst = i.dst ∧ ((i.gd = none ∧ o.guard = none) ∨ ∃ t want j, i.gd = some (t, want) ∧ o.guard = some (j, want) ∧ (ops[j]?).bind (·.dst) = some t) := by
  simp only [compIns] at h
  split at h
  · rename_i rc g hrc hg
    cases h
    refine ⟨hrc, rfl, ?_⟩
    cases hog : o.guard with
    | none => rw [hog] at hg; simp [compGd] at hg; exact .inl ⟨hg.symm, rfl⟩
    | some p =>
      obtain ⟨j, want⟩ := p
      rw [hog] at hg
      simp only [compGd] at hg
      split at hg
      · rename_i t ht; cases hg; exact .inr ⟨t, want, j, rfl, rfl, ht⟩
      · cases hg
  · cases h
theorem yielded_of {ops : Array Oper} {a : Act} {w : World} {O : Own} {ρ : Place} {t j n : Nat} {g : Bool} (hg : RV w O ρ (.u (.sc (.bool g))) (a.tmps.getD t undef)) (hn : a.tmps.size = n) (ht : t < n) (hj : (ops[j]?).bind (·.dst) = some t) : Go.yielded ops a.tmps j = some g := by
  subst hn
  have := hg.scv
  have e : a.tmps[t]? = some (.bool g) := by
    rw [Array.getElem?_eq_getElem ht]
    simp only [Array.getD, ht, dif_pos] at this
    rw [show a.tmps[t] = .bool g from this]
  simp [Go.yielded, hj, e]
theorem opD_sem {tab : Tab} (hT : TabOK P tab) {n0 : Nat} {md : Md} {ops : Array Oper} {o : Oper} {i : Ins} (hi : compIns tab ops o = some i) (hF : FuncsOK P (callsOf [i])) {bf : List Nat} {l : List (Ins × List Nat)} {rs : List Rk} {K : KT} {T : List V} {H : Heap}
    (hv : vcD Env.std (Cx.std P tab n0 md) ((i, bf) :: l) rs K T H) :
    ∃ r : Rec, r.k.dst = o.dst ∧ r.k.ks = keys r.d ∧ r.k.bf = bf ∧ checkJ r.k 0 rs = true ∧ OpOK P ops o T H r ∧ vcD Env.std (Cx.std P tab n0 md) l (rs ++ [r.k]) K (setD T r.k.dst r.v) (putAll H r.d) := by
  obtain ⟨hrc, hdst, hgd⟩ := guard_of hi
  obtain ⟨idst, iop, igd⟩ := i
  simp only at hrc hdst hgd
  have hF1 : FuncsOK P (callOf iop) := fun f hf => hF f (List.mem_append_left _ hf)
  have cont : ∀ {v : V} {d : Delta} {tc : List Nat}, (match checkJ ⟨idst, rdOf ⟨idst, iop, igd⟩, keys d, tc, bf⟩ 0 rs with | true => vcD Env.std (Cx.std P tab n0 md) l (snoc rs ⟨idst, rdOf ⟨idst, iop, igd⟩, keys d, tc, bf⟩) K (setD T idst v) (putAll H d) | false => False) →
      checkJ ⟨idst, rdOf ⟨idst, iop, igd⟩, keys d, tc, bf⟩ 0 rs = true ∧ vcD Env.std (Cx.std P tab n0 md) l (rs ++ [⟨idst, rdOf ⟨idst, iop, igd⟩, keys d, tc, bf⟩]) K (setD T idst v) (putAll H d) := by
    intro v d tc h
    split at h
    · rename_i hc; rw [snoc_eq] at h; exact ⟨hc, h⟩
    · exact h.elim
  have insOK : ∀ {op : In} {cur : Cur} {k : V → Delta → Prop}, compAny tab o = some op → (∀ x ∈ tmpOf (opds op), x ∈ rdOf ⟨idst, iop, igd⟩) → vcInD Env.std cur op T H k → ∃ v d, k v d ∧ (cur = some false → d = []) ∧ (cur = some false → ∀ (w : World) (O : Own) (ρ : Place), RV w O ρ v undef) ∧
      ((∀ c, cur = some c → c = true) → ∀ (Q : Exit → Act → World → Prop) (K : Act → World → Prop) (Tf : Nat → V) (a : Act) (w : World) (O : Own) (ρ : Place) (H' : Heap), HOK w O ρ H' → (∀ t, RV w O ρ (Tf t) (a.tmps.getD t undef)) →
        (∀ t ∈ rdOf ⟨idst, iop, igd⟩, Tf t = getV T t) → (∀ b ∈ tcOf (evO T) op, blkAt H' b = blkAt H b) → (∀ b x, (b, x) ∈ d → H.length ≤ b → ρ b = .unset) → (∃ N, ∀ b, N ≤ b → ρ b = .unset) →
        (∀ v' w' O' ρ', RV w' O' ρ' v v' → Good w O ρ H' w' O' ρ' (putAll H' d) → (∀ b, (∀ x, (b, x) ∉ d) → ρ' b = ρ b) → K (a.put o.dst v') w') → o.wp P a w K Q) := by
    intro op cur k hop hrd hv
    obtain ⟨v, d, h1, h2, h3, h4⟩ := vcInD_sem hT hop hv
    refine ⟨v, d, h1, h2, h3, fun hcur Q K Tf a w O ρ H' hH hTf hr ht hf hN hK => ?_⟩
    obtain ⟨r, v', w', O', ρ', q1, q2, q3, q4, q5⟩ := h4 hcur (evF Tf) a.eval w O ρ H' (fun _ => rfl) (evF_rel hTf) hH (evF_evO fun t htm => hr t (hrd t htm)) ht hf hN
    unfold Oper.wp
    rw [q1]
    rcases q2 with rfl | ⟨rfl, rfl⟩ <;> exact hK _ _ _ _ q3 q4 q5
  rcases hgd with ⟨hg, hog⟩ | ⟨t, want, j, hg, hog, hj⟩
  · subst hg
    simp only [vcD] at hv
    have wanted : ∀ y, Region.wanted o y = true := fun y => by simp [Region.wanted, hog]
    cases iop with
    | ins op =>
      obtain ⟨v, d, hk, _, _, hsem⟩ := insOK (compRc_ins hrc) (fun x hx => hx) hv
      obtain ⟨hc, hv'⟩ := cont hk
      refine ⟨⟨_, v, d⟩, hdst.symm, rfl, rfl, hc, fun Q K Tf a w O ρ H' hH hTf hsz hr ht hf hN hK => ?_, hv'⟩
      unfold stepD
      rw [if_pos (wanted _)]
      exact .inl (hsem (by simp) Q K Tf a w O ρ H' hH hTf hr ht hf hN hK)
    | _ =>
      obtain ⟨v, d, tc, hk, hsem⟩ := callD_sem hrc hF1 hv
      obtain ⟨hc, hv'⟩ := cont hk
      refine ⟨⟨_, v, d⟩, hdst.symm, rfl, rfl, hc, fun Q K Tf a w O ρ H' hH hTf hsz hr ht hf hN hK => ?_, hv'⟩
      unfold stepD
      rw [if_pos (wanted _)]
      exact .inl (hsem Q K (evF Tf) a w O ρ H' (evF_rel hTf) hH (evF_evO hr) ht hf hK)
  · subst hg
    simp only [vcD] at hv
    split at hv
    · rename_i g hgv
      have hlt : t < T.length := getV_lt (fun e => by rw [e] at hgv; cases hgv)
      have gw : ∀ (Tf : Nat → V) (a : Act) (w : World) (O : Own) (ρ : Place), (∀ t, RV w O ρ (Tf t) (a.tmps.getD t undef)) → a.tmps.size = T.length → (∀ t' ∈ rdOf ⟨idst, iop, some (t, want)⟩, Tf t' = getV T t') → Region.wanted o (Go.yielded ops a.tmps) = g := by
        intro Tf a w O ρ hTf hsz hr
        have h1 := hTf t
        rw [hr t (.head _)] at h1
        simp only [Region.wanted, hog]
        exact gdOf_spec hgv h1 rfl (by rw [hsz]; exact hlt) hj
      cases iop with
      | ins op =>
        obtain ⟨v, d, hk, hd, hfalse, hsem⟩ := insOK (compRc_ins hrc) (fun x hx => gdT_mem hx) hv
        obtain ⟨hc, hv'⟩ := cont hk
        refine ⟨⟨_, v, d⟩, hdst.symm, rfl, rfl, hc, fun Q K Tf a w O ρ H' hH hTf hsz hr ht hf hN hK => ?_, hv'⟩
        unfold stepD
        rw [gw Tf a w O ρ hTf hsz hr]
        cases hgw : g with
        | true => rw [if_pos rfl]; exact .inl (hsem (fun c hc => by cases hc; exact hgw) Q K Tf a w O ρ H' hH hTf hr ht hf hN hK)
        | false =>
          rw [if_neg (by simp)]
          have hd0 := hd (by rw [hgw])
          simp only at hd0 hK
          subst hd0
          exact hK _ _ _ _ (hfalse (by rw [hgw]) w O ρ) (.refl hH) (fun _ _ => rfl)
      | _ =>
        dsimp only at hv
        cases hgw : g with
        | true =>
          subst hgw
          dsimp only at hv
          obtain ⟨v, d, tc, hk, hsem⟩ := callD_sem hrc hF1 hv
          obtain ⟨hc, hv'⟩ := cont hk
          refine ⟨⟨_, v, d⟩, hdst.symm, rfl, rfl, hc, fun Q K Tf a w O ρ H' hH hTf hsz hr ht hf hN hK => ?_, hv'⟩
          unfold stepD
          rw [gw Tf a w O ρ hTf hsz hr, if_pos rfl]
          exact .inl (hsem Q K (evF Tf) a w O ρ H' (evF_rel hTf) hH (evF_evO fun t ht => hr t (.tail _ ht)) ht hf hK)
        | false =>
          subst hgw
          dsimp only at hv
          obtain ⟨hc, hv'⟩ := cont (v := .gd false .un) (d := []) (tc := []) hv
          refine ⟨⟨_, .gd false .un, []⟩, hdst.symm, rfl, rfl, hc, fun Q K Tf a w O ρ H' hH hTf hsz hr ht hf hN hK => ?_, hv'⟩
          unfold stepD
          rw [gw Tf a w O ρ hTf hsz hr, if_neg (by simp)]
          exact hK _ _ _ _ (.gd _ _ _ (by simp) fun _ => rfl) (.refl hH) (fun _ _ => rfl)
    · exact hv.elim
structure Run (P : Program) (ops : Array Oper) (T0 : List V) (H0 : Heap) (rs : List Rec) (T : List V) (H : Heap) : Prop where
  ok : ∀ (m : Nat) (r : Rec), rs[m]? = some r → ∃ o Tp Hp, ops[m]? = some o ∧ r.k.dst = o.dst ∧ Tp.length = T0.length ∧ OpOK P ops o Tp Hp r ∧ (∀ t, getV Tp t = tv T0.length t (fun j => decide (j < m)) 0 rs (getV T0 t)) ∧
    (∀ b, blkAt Hp b = hv b (fun j => decide (j < m)) 0 rs (blkAt H0 b)) ∧ H0.length ≤ Hp.length ∧ ∀ (j : Nat) (r' : Rec), j < m → rs[j]? = some r' → ∀ b ∈ keys r'.d, b < Hp.length
  ap : ∀ (m : Nat) (r : Rec), rs[m]? = some r → ∀ (j : Nat) (r' : Rec), rs[j]? = some r' → j < m → j ∈ r.k.bf ∨ apartD r'.k r.k = true
  kk : ∀ (m : Nat) (r : Rec), rs[m]? = some r → r.k.ks = keys r.d
  tl : ∀ t, getV T t = tv T0.length t (fun _ => true) 0 rs (getV T0 t)
  hl : ∀ b, blkAt H b = hv b (fun _ => true) 0 rs (blkAt H0 b)
  len : T.length = T0.length
  low : H0.length ≤ H.length
  kl : ∀ (m : Nat) (r : Rec), rs[m]? = some r → ∀ b ∈ keys r.d, b < H.length
theorem Run.start {P : Program} {ops : Array Oper} {T : List V} {H : Heap} : Run P ops T H [] T H :=
  ⟨fun m r h => by simp at h, fun m r h => by simp at h, fun m r h => by simp at h, fun t => rfl, fun b => rfl, rfl, Nat.le_refl _, fun m r h => by simp at h⟩
theorem tv_pref {N t m : Nat} {x : V} {rs : List Rec} {r : Rec} (hm : m ≤ rs.length) : tv N t (fun j => decide (j < m)) 0 (rs ++ [r]) x = tv N t (fun j => decide (j < m)) 0 rs x := by
  rw [tv_snoc, if_neg]; simp; omega
theorem hv_pref {b m : Nat} {x : Blk} {rs : List Rec} {r : Rec} (hm : m ≤ rs.length) : hv b (fun j => decide (j < m)) 0 (rs ++ [r]) x = hv b (fun j => decide (j < m)) 0 rs x := by
  rw [hv_snoc, if_neg]; simp; omega
theorem get_snoc {α : Type} {l : List α} {x y : α} {m : Nat} (h : (l ++ [x])[m]? = some y) : (m < l.length ∧ l[m]? = some y) ∨ (m = l.length ∧ y = x) := by
  rcases Nat.lt_or_ge m l.length with hm | hm
  · rw [List.getElem?_append_left hm] at h; exact .inl ⟨hm, h⟩
  · rw [List.getElem?_append_right hm] at h
    rcases Nat.eq_zero_or_pos (m - l.length) with h0 | h0
    · rw [h0] at h; simp at h; exact .inr ⟨by omega, h.symm⟩
    · rw [show m - l.length = (m - l.length - 1) + 1 by omega] at h; simp at h
theorem Run.step {P : Program} {ops : Array Oper} {T0 : List V} {H0 : Heap} {rs : List Rec} {T : List V} {H : Heap} (h : Run P ops T0 H0 rs T H) {o : Oper} (ho : ops[rs.length]? = some o) {r : Rec} (hd : r.k.dst = o.dst) (hk : r.k.ks = keys r.d)
    (hop : OpOK P ops o T H r) (hc : checkJ r.k 0 (rs.map fun r => r.k) = true) : Run P ops T0 H0 (rs ++ [r]) (setD T r.k.dst r.v) (putAll H r.d) := by
  refine ⟨fun m r' hm => ?_, fun m r' hm j r'' hj hjm => ?_, fun m r' hm => ?_, fun t => ?_, fun b => ?_, ?_, Nat.le_trans h.low (putAll_length _ _), fun m r' hm b hb => ?_⟩
  · rcases get_snoc hm with ⟨hlt, hm⟩ | ⟨rfl, rfl⟩
    · obtain ⟨o', Tp, Hp, h1, h2, h3, h4, h5, h6, h7, h8⟩ := h.ok m r' hm
      refine ⟨o', Tp, Hp, h1, h2, h3, h4, fun t => by rw [tv_pref (Nat.le_of_lt hlt)]; exact h5 t, fun b => by rw [hv_pref (Nat.le_of_lt hlt)]; exact h6 b, h7, fun j r'' hj hjr => ?_⟩
      rcases get_snoc hjr with ⟨_, hjr⟩ | ⟨rfl, _⟩
      · exact h8 j r'' hj hjr
      · omega
    · refine ⟨o, T, H, ho, hd, h.len, hop, fun t => ?_, fun b => ?_, h.low, fun j r'' hj hjr => ?_⟩
      · rw [tv_pref (Nat.le_refl _), h.tl t]
        exact tv_congr _ _ _ fun j r hj _ => by simp [lt_of_get hj]
      · rw [hv_pref (Nat.le_refl _), h.hl b]
        exact hv_congr _ _ _ fun j r hj _ => by simp [lt_of_get hj]
      · rcases get_snoc hjr with ⟨_, hjr⟩ | ⟨rfl, _⟩
        · exact h.kl j r'' hjr
        · omega
  · rcases get_snoc hm with ⟨hlt, hm⟩ | ⟨rfl, rfl⟩
    · rcases get_snoc hj with ⟨_, hj⟩ | ⟨rfl, _⟩
      · exact h.ap m r' hm j r'' hj hjm
      · omega
    · rcases get_snoc hj with ⟨_, hj⟩ | ⟨rfl, _⟩
      · have := checkJ_spec 0 _ hc j r''.k (by simp [hj])
        rwa [Nat.zero_add] at this
      · omega
  · rcases get_snoc hm with ⟨_, hm⟩ | ⟨_, rfl⟩
    · exact h.kk m r' hm
    · exact hk
  · rw [tv_snoc, ← h.tl t]
    cases hd : r.k.dst with
    | none => simp [setD]
    | some t' =>
      simp only [setD, setT_get, h.len, Option.some.injEq, true_and]
      by_cases ht : t' = t
      · subst ht; rfl
      · rw [if_neg (fun hh => ht hh.1.symm), if_neg (fun hh => ht hh.1)]
  · rw [hv_snoc, ← h.hl b, if_pos rfl, blkAt_putAll]
  · cases r.k.dst <;> simp [setD, setT_length, h.len]
  · rcases get_snoc hm with ⟨_, hm⟩ | ⟨_, rfl⟩
    · exact Nat.lt_of_lt_of_le (h.kl m r' hm b hb) (putAll_length _ _)
    · obtain ⟨x, hx⟩ := (keys_mem _).1 hb
      exact putAll_mem _ _ _ _ hx
theorem compDraw_spec {tab : Tab} {ops : Array Oper} : ∀ (l : List Oper) (done : List (List Nat)) (r : List (Ins × List Nat)), compDraw tab ops done l = some r →
    r.length = l.length ∧ ∀ (j : Nat) (o : Oper), l[j]? = some o → ∃ i bf, r[j]? = some (i, bf) ∧ compIns tab ops o = some i ∧ (∀ e ∈ o.after.toList, Region.binds .any e = true → e.on < done.length + j) ∧
      ∀ m ∈ bf, ∃ e ∈ o.after.toList, Region.binds .any e = true ∧ (m = e.on ∨ m ∈ getL (done ++ r.map fun p => p.2) e.on)
  | [], done, r, h => by simp [compDraw] at h; subst h; simp
  | o :: l, done, r, h => by
    simp only [compDraw] at h
    split at h
    · rename_i hlow
      split at h
      · rename_i i r' hi hr'
        cases h
        obtain ⟨h1, h2⟩ := compDraw_spec l _ r' hr'
        refine ⟨by simp [h1], fun j o' hj => ?_⟩
        cases j with
        | zero =>
          simp at hj; subst hj
          refine ⟨i, _, rfl, hi, fun e he hb => by have := edgesLow_spec _ hlow e he hb; rw [lenL_eq] at this; simpa using this, fun m hm => ?_⟩
          obtain ⟨e, he, hb, hor⟩ := bfOf_mem _ hm
          refine ⟨e, he, hb, hor.imp id fun hmm => ?_⟩
          have hlt := edgesLow_spec _ hlow e he hb
          rw [lenL_eq] at hlt
          rw [getL_get, List.getElem?_append_left hlt, ← getL_get]
          exact hmm
        | succ j =>
          obtain ⟨i', bf, q1, q2, q3, q4⟩ := h2 j o' (by simpa using hj)
          refine ⟨i', bf, by simpa using q1, q2, fun e he hb => by have := q3 e he hb; simp at this; omega, fun m hm => ?_⟩
          obtain ⟨e, he, hb, hor⟩ := q4 m hm
          exact ⟨e, he, hb, hor.imp id fun hmm => by simpa using hmm⟩
      · cases h
    · cases h
theorem vcD_run {P : Program} {tab : Tab} (hT : TabOK P tab) {n0 : Nat} {md : Md} {ops : Array Oper} {T0 : List V} {H0 : Heap} {K : KT} : ∀ (l : List (Ins × List Nat)) (ol : List Oper), l.length = ol.length → (∀ (j : Nat) (o : Oper), ol[j]? = some o → ∃ i bf, l[j]? = some (i, bf) ∧ compIns tab ops o = some i) →
    FuncsOK P (callsOf (l.map fun p => p.1)) → ∀ (rs : List Rec) (T : List V) (H : Heap), (∀ (j : Nat) (o : Oper), ol[j]? = some o → ops[rs.length + j]? = some o) → Run P ops T0 H0 rs T H → vcD Env.std (Cx.std P tab n0 md) l (rs.map fun r => r.k) K T H →
    ∃ rs' T' H', Run P ops T0 H0 rs' T' H' ∧ rs'.length = rs.length + l.length ∧ K T' H' ∧ (∀ j, j < rs.length → rs'[j]? = rs[j]?) ∧ ∀ (j : Nat) (i : Ins) (bf : List Nat), l[j]? = some (i, bf) → ∃ r, rs'[rs.length + j]? = some r ∧ r.k.bf = bf
  | [], ol, hl, hi, hF, rs, T, H, ho, hr, hv => ⟨rs, T, H, hr, by simp, hv, fun _ _ => rfl, fun j i bf h => by simp at h⟩
  | (i, bf) :: l, [], hl, hi, hF, rs, T, H, ho, hr, hv => by simp at hl
  | (i, bf) :: l, o :: ol, hl, hi, hF, rs, T, H, ho, hr, hv => by
    obtain ⟨i', bf', h1, h2⟩ := hi 0 o rfl
    simp at h1
    obtain ⟨rfl, rfl⟩ := h1
    have hF1 : FuncsOK P (callsOf [i]) := fun f hf => hF f (by
      simp only [List.map_cons, callsOf, List.append_nil] at hf ⊢
      exact List.mem_append_left _ hf)
    have hF2 : FuncsOK P (callsOf (l.map fun p => p.1)) := fun f hf => hF f (by
      simp only [List.map_cons, callsOf]
      exact List.mem_append_right _ hf)
    obtain ⟨r, q1, q2, q3, q4, q5, q6⟩ := opD_sem hT h2 hF1 hv
    have hr' := hr.step (by have := ho 0 o rfl; simpa using this) q1 q2 q5 q4
    obtain ⟨rs', T', H', k1, k2, k3, k4, k5⟩ := vcD_run hT l ol (by simpa using hl) (fun j o' hj => by obtain ⟨a, b, c, d⟩ := hi (j + 1) o' (by simpa using hj); exact ⟨a, b, by simpa using c, d⟩) hF2 (rs ++ [r]) _ _ (fun j o' hj => by
      have := ho (j + 1) o' (by simpa using hj)
      rw [List.length_append, List.length_singleton, ← this]
      congr 1; omega) hr' (by simpa using q6)
    refine ⟨rs', T', H', k1, by simp at k2 ⊢; omega, k3, fun j hj => ?_, fun j i' bf' hj => ?_⟩
    · rw [k4 j (by simp; omega), List.getElem?_append_left hj]
    · cases j with
      | zero =>
        simp at hj
        obtain ⟨rfl, rfl⟩ := hj
        exact ⟨r, by rw [Nat.add_zero, k4 rs.length (by simp)]; simp, q3⟩
      | succ j =>
        obtain ⟨r', e1, e2⟩ := k5 j i' bf' (by simpa using hj)
        exact ⟨r', by rw [← e1]; congr 1; simp; omega, e2⟩
end
end Am
end
section
open Go Go.Lib
set_option linter.unusedVariables false
set_option linter.unusedSimpArgs false
set_option linter.unusedSectionVars false
namespace Am
def left : Nat → (Nat → Bool) → Nat
  | 0, _ => 0
  | n + 1, S => left n S + (if S n = true then 0 else 1)
theorem left_zero {S : Nat → Bool} : ∀ n, left n S = 0 → ∀ i, i < n → S i = true
  | 0, _, i, h => by omega
  | n + 1, h, i, hi => by
    simp only [left] at h
    by_cases hn : S n = true
    · rcases Nat.lt_or_ge i n with h' | h'
      · exact left_zero n (by omega) i h'
      · rw [show i = n by omega]; exact hn
    · rw [if_neg hn] at h; omega
theorem left_same {S S' : Nat → Bool} : ∀ n, (∀ i, i < n → S i = S' i) → left n S = left n S'
  | 0, _ => rfl
  | n + 1, h => by simp only [left, left_same n fun i hi => h i (by omega), h n (by omega)]
theorem left_add {S S' : Nat → Bool} {i : Nat} : ∀ n, i < n → S i = false → S' i = true → (∀ j, j ≠ i → S' j = S j) → left n S = left n S' + 1
  | 0, h, _, _, _ => by omega
  | n + 1, h, h1, h2, h3 => by
    simp only [left]
    rcases Nat.lt_or_ge i n with hi | hi
    · rw [left_add n hi h1 h2 h3, h3 n (by omega)]; omega
    · have : i = n := by omega
      subst this
      rw [left_same i fun j hj => (h3 j (by omega)).symm]
      simp [h1, h2]
section
variable {P : Program} {es0 : List Nat} {w0 : World} {O0 : Own} {ρ0 : Place} {H0 : Heap} {T : List V} {H : Heap} {a : Act} {w : World} {O : Own} {ρ : Place}
theorem draw_any {ops : Array Oper} {rs : List Rec} {T' : List V} {H' : Heap} (h0 : HOK w0 O0 ρ0 H0) (hr : Run P ops T H rs T' H') {Q : Exit → Act → World → Prop}
    (hn : rs.length = ops.size ∨ ∃ o, rs.length + 1 = ops.size ∧ ops[rs.length]? = some o ∧ (∀ m, m < rs.length → ∃ e ∈ o.after.toList, Region.binds .any e = true ∧ (m = e.on ∨ ∃ r', rs[e.on]? = some r' ∧ m ∈ r'.k.bf)) ∧
      ∀ (K : Act → World → Prop) (a : Act) (w : World) (O : Own) (ρ : Place), (∀ a' w', Q .normal a' w' → K a' w') → SRel es0 w0 O0 ρ0 H0 T' H' a w O ρ → stepD P ops Q o K a w)
    (hlow : ∀ (i : Nat) (o : Oper), ops[i]? = some o → ∀ e ∈ o.after.toList, Region.binds .any e = true → e.on < i)
    (hbf : ∀ (i : Nat) (o : Oper) (r : Rec), ops[i]? = some o → rs[i]? = some r → ∀ m ∈ r.k.bf, ∃ e ∈ o.after.toList, Region.binds .any e = true ∧ (m = e.on ∨ ∃ r', rs[e.on]? = some r' ∧ m ∈ r'.k.bf))
    (hQ : rs.length = ops.size → ∀ (a : Act) (w : World) (O : Own) (ρ : Place), SRel es0 w0 O0 ρ0 H0 T' H' a w O ρ → Q .normal a w) :
    ∀ (fuel : Nat) (listed : Array Bool) (a : Act) (w : World) (O : Own) (ρ : Place) (Hx : Heap), listed.size = ops.size → left ops.size (fun j => listed.getD j false) ≤ fuel → GoodW es0 w0 O0 ρ0 H0 w O ρ Hx →
      (∀ b, blkAt Hx b = hv b (fun j => listed.getD j false) 0 rs (blkAt H b)) → (∀ t, RV w O ρ (tv T.length t (fun j => listed.getD j false) 0 rs (getV T t)) (a.tmps.getD t undef)) → a.tmps.size = T.length → a.defers = [] →
      (∀ b, H.length ≤ b → (∀ (m : Nat) (r : Rec), rs[m]? = some r → listed.getD m false = true → b ∉ keys r.d) → ρ b = .unset) →
      (∀ (m : Nat) (r : Rec), rs[m]? = some r → listed.getD m false = true → ∀ j ∈ r.k.bf, listed.getD j false = true) → (rs.length < ops.size → listed.getD rs.length false = false) → wpAny P .any ops Q fuel listed a w := by
  intro fuel
  have hle : rs.length ≤ ops.size := by rcases hn with h | ⟨_, h, _⟩ <;> omega
  have done : ∀ (fuel : Nat) (listed : Array Bool) (a : Act) (w : World), listed.size = ops.size → (∀ i, i < ops.size → listed.getD i false = true) → Q .normal a w → wpAny P .any ops Q fuel listed a w := by
    intro fuel listed a w hls hall hq
    have hrd : Region.ready .any ops listed = [] := by
      simp only [Region.ready, List.filter_eq_nil_iff, List.mem_range]
      intro i hi
      have := hall i hi
      have e : listed.getD i true = true := by
        have hlt : i < listed.size := by omega
        simp only [Array.getD, hlt, dif_pos] at this ⊢; exact this
      simp [-Array.getD_eq_getD_getElem?, e]
    cases fuel with
    | zero => exact ⟨hrd, hq⟩
    | succ n => exact ⟨fun _ => hq, fun i hi => by rw [hrd] at hi; cases hi⟩
  have fin : ∀ (listed : Array Bool) (a : Act) (w : World) (O : Own) (ρ : Place) (Hx : Heap), (∀ i, i < rs.length → listed.getD i false = true) → GoodW es0 w0 O0 ρ0 H0 w O ρ Hx →
      (∀ b, blkAt Hx b = hv b (fun j => listed.getD j false) 0 rs (blkAt H b)) → (∀ t, RV w O ρ (tv T.length t (fun j => listed.getD j false) 0 rs (getV T t)) (a.tmps.getD t undef)) → a.tmps.size = T.length → a.defers = [] →
      (∀ b, H.length ≤ b → (∀ (m : Nat) (r : Rec), rs[m]? = some r → listed.getD m false = true → b ∉ keys r.d) → ρ b = .unset) → SRel es0 w0 O0 ρ0 H0 T' H' a w O ρ := by
    intro listed a w O ρ Hx hall hg hb ht hsz hdf hfr
    have all : ∀ (j : Nat) (r : Rec), rs[j]? = some r → listed.getD j false = true := fun j r hj => hall j (lt_of_get hj)
    refine ⟨hg.congr fun b => ?_, fun t => ?_, by rw [hsz, hr.len], fun b hb => hfr b (Nat.le_trans hr.low hb) fun m r hm _ hk => by have := hr.kl m r hm b hk; omega, hdf⟩
    · rw [hb, hr.hl b]
      exact hv_congr _ _ _ fun j r hj _ => by rw [Nat.zero_add]; exact all j r hj
    · have : getV T' t = tv T.length t (fun j => listed.getD j false) 0 rs (getV T t) := by
        rw [hr.tl t]
        exact tv_congr _ _ _ fun j r hj _ => by rw [Nat.zero_add]; exact (all j r hj).symm
      rw [this]; exact ht t
  induction fuel with
  | zero =>
    intro listed a w O ρ Hx hls hlf hg hb ht hsz hdf hfr hdc hla
    have hall := left_zero ops.size (Nat.le_zero.1 hlf)
    have heq : rs.length = ops.size := by
      rcases Nat.lt_or_ge rs.length ops.size with h | h
      · have h1 := hla h
        have h2 := hall rs.length h
        rw [h1] at h2; cases h2
      · omega
    refine ⟨?_, hQ heq a w O ρ (fin listed a w O ρ Hx (fun i hi => hall i (by omega)) hg hb ht hsz hdf hfr)⟩
    simp only [Region.ready, List.filter_eq_nil_iff, List.mem_range]
    intro i hi
    have := hall i hi
    have e : listed.getD i true = true := by
      have hlt : i < listed.size := by omega
      simp only [Array.getD, hlt, dif_pos] at this ⊢; exact this
    simp [-Array.getD_eq_getD_getElem?, e]
  | succ fuel ih =>
    intro listed a w O ρ Hx hls hlf hg hb ht hsz hdf hfr hdc hla
    have getD_eq : ∀ i, i < ops.size → listed.getD i true = listed.getD i false := fun i hi => by
      have hlt : i < listed.size := by omega
      simp only [Array.getD, hlt, dif_pos]
    refine ⟨fun hready => ?_, fun i hi => ?_⟩
    · have hall : ∀ i, i < ops.size → listed.getD i false = true := by
       intro i
       induction i using Nat.strongRecOn with
       | _ i ihi =>
         intro hi
         cases hS : listed.getD i false with
         | true => rfl
         | false =>
           exfalso
           have hmem : i ∈ Region.ready .any ops listed := by
             simp only [Region.ready, List.mem_filter, List.mem_range]
             refine ⟨hi, ?_⟩
             rw [getD_eq i hi, hS]
             have ho : ops[i]? = some ops[i] := Array.getElem?_eq_getElem hi
             rw [ho]
             simp only [Bool.not_false, Bool.true_and, Option.map_some, Option.getD_some]
             rw [Array.all_eq_true]
             intro k hk
             simp only [Bool.or_eq_true, Bool.not_eq_true']
             cases hbd : Region.binds .any ops[i].after[k] with
             | false => exact .inl rfl
             | true =>
               have := hlow i _ ho ops[i].after[k] (by simp) hbd
               exact .inr (ihi _ this (by omega))
           rw [hready] at hmem
           cases hmem
      have heq : rs.length = ops.size := by
        rcases Nat.lt_or_ge rs.length ops.size with h | h
        · have h1 := hla h
          have h2 := hall rs.length h
          rw [h1] at h2; cases h2
        · omega
      exact hQ heq a w O ρ (fin listed a w O ρ Hx (fun i hi => hall i (by omega)) hg hb ht hsz hdf hfr)
    · simp only [Region.ready, List.mem_filter, List.mem_range] at hi
      obtain ⟨hi, hrdy⟩ := hi
      have ho : ops[i]? = some ops[i] := Array.getElem?_eq_getElem hi
      generalize ops[i] = o at ho
      rw [getD_eq i hi, ho] at hrdy
      simp only [Bool.and_eq_true, Bool.not_eq_true', Option.map_some, Option.getD_some] at hrdy
      obtain ⟨hSi, hall⟩ := hrdy
      have hpre : ∀ e ∈ o.after.toList, Region.binds .any e = true → listed.getD e.on false = true := by
        intro e he hbd
        rw [Array.all_eq_true] at hall
        obtain ⟨k, hk, rfl⟩ := List.mem_iff_getElem.1 he
        have := hall k (by simpa using hk)
        simp only [Bool.or_eq_true, Bool.not_eq_true'] at this
        rcases this with h | h
        · rw [show o.after.toList[k] = o.after[k]'(by simpa using hk) by simp] at hbd
          rw [hbd] at h; cases h
        · simpa using h
      by_cases hil : i = rs.length
      ·
        subst hil
        rcases hn with hn | ⟨o', h1, h2, h3, h4⟩
        · omega
        rw [ho] at h2; cases h2
        have hall : ∀ m, m < rs.length → listed.getD m false = true := fun m hm => by
          obtain ⟨e, he, hbd, hor⟩ := h3 m hm
          rcases hor with rfl | ⟨r', hr', hm'⟩
          · exact hpre e he hbd
          · exact hdc _ r' hr' (hpre e he hbd) m hm'
        unfold wpOp
        simp only [ho]
        refine h4 _ a w O ρ (fun a' w' hq => done fuel _ a' w' (by simp [hls]) (fun i hi => ?_) hq) (fin listed a w O ρ Hx hall hg hb ht hsz hdf hfr)
        have hi' : rs.length < listed.size := by omega
        by_cases hir : i = rs.length
        · subst hir; simp [hi']
        · have := hall i (by omega)
          simpa [Array.getElem?_setIfInBounds_ne (Ne.symm hir)] using this
      have hiN : i < rs.length := by rcases hn with h | ⟨_, h, _⟩ <;> omega
      obtain ⟨r, hri⟩ : ∃ r, rs[i]? = some r := ⟨rs[i]'hiN, List.getElem?_eq_getElem _⟩
      obtain ⟨o', Tp, Hp, e1, hdst, hTp, hop, htp, hhp, hlp, hkp⟩ := hr.ok i r hri
      rw [ho] at e1; cases e1
      have hbfS : ∀ m ∈ r.k.bf, listed.getD m false = true := fun m hm => by
        obtain ⟨e, he, hbd, hor⟩ := hbf i o r ho hri m hm
        rcases hor with rfl | ⟨r', hr', hm'⟩
        · exact hpre e he hbd
        · exact hdc _ r' hr' (hpre e he hbd) m hm'
      have after : ∀ (m : Nat) (rm : Rec), rs[m]? = some rm → i < m → listed.getD m false = true → apartD r.k rm.k = true := fun m rm hm him hS => by
        rcases hr.ap m rm hm i r hri him with h | h
        · rw [hdc m rm hm hS i h] at hSi; cases hSi
        · exact h
      have kk := hr.kk
      unfold wpOp
      simp only [ho]
      obtain ⟨o2, _⟩ : ∃ x : Nat, True := ⟨0, trivial⟩
      have main := hop Q (wpAny P .any ops Q fuel (listed.setIfInBounds i true)) (fun t => tv T.length t (fun j => listed.getD j false) 0 rs (getV T t)) a w O ρ Hx hg.hok ht (by rw [hsz, hTp]) (fun t htr => ?_) (fun b hbt => ?_) (fun b x hbx hbl => ?_) ?_ (fun v' w' O' ρ' hv' hg' hρ' => ?_)
      · exact main
      · rw [htp t]
        refine tv_congr _ _ _ fun j rj hj hd => ?_
        rw [Nat.zero_add]
        rcases Nat.lt_trichotomy j i with hji | rfl | hji
        · rw [decide_eq_true hji]
          rcases hr.ap i r hri j rj hj hji with h | h
          · exact hbfS j h
          · exact absurd htr ((apartD_spec h).1 t hd)
        · rw [hSi]; simp
        · rw [decide_eq_false (by omega)]
          cases hS : listed.getD j false with
          | false => rfl
          | true => exact absurd htr ((apartD_spec (after j rj hj hji hS)).2.1 t hd)
      · rw [hb b, hhp b]
        refine hv_congr _ _ _ fun j rj hj hd => ?_
        rw [Nat.zero_add]
        rcases Nat.lt_trichotomy j i with hji | rfl | hji
        · rw [decide_eq_true hji]
          rcases hr.ap i r hri j rj hj hji with h | h
          · exact hbfS j h
          · exact absurd hbt ((apartD_spec h).2.2.2.1 b (by rw [kk j rj hj]; exact hd))
        · rw [hSi]; simp
        · rw [decide_eq_false (by omega)]
          cases hS : listed.getD j false with
          | false => rfl
          | true => exact absurd hbt ((apartD_spec (after j rj hj hji hS)).2.2.2.2.1 b (by rw [kk j rj hj]; exact hd))
      · refine hfr b (Nat.le_trans hlp hbl) fun m rm hm hS hkm => ?_
        rcases Nat.lt_trichotomy m i with hji | rfl | hji
        · have := hkp m rm hji hm b hkm; omega
        · rw [hSi] at hS; cases hS
        · exact (apartD_spec (after m rm hm hji hS)).2.2.2.2.2 b (by rw [kk i r hri]; exact (keys_mem _).2 ⟨x, hbx⟩) (by rw [kk m rm hm]; exact hkm)
      · exact ⟨max H.length H'.length, fun b hb => hfr b (by omega) fun m rm hm _ hkm => by have := hr.kl m rm hm b hkm; omega⟩
      · have hi' : i < listed.size := by omega
        have S'i : (listed.setIfInBounds i true).getD i false = true := by simp [hi']
        have S'o : ∀ j, j ≠ i → (listed.setIfInBounds i true).getD j false = listed.getD j false := fun j hj => by
          simp [Array.getElem?_setIfInBounds_ne (Ne.symm hj)]
        have off : ∀ (j : Nat) (rj : Rec), i < j → rs[j]? = some rj → (apartD r.k rj.k = true → False) → (listed.setIfInBounds i true).getD j false = false := fun j rj hij hj hne => by
          rw [S'o j (by omega)]
          cases hS : listed.getD j false with
          | false => rfl
          | true => exact (hne (after j rj hj hij hS)).elim
        refine ih _ (a.put o.dst v') w' O' ρ' (putAll Hx r.d) (by simp [hls]) ?_ (hg.trans h0 hg') (fun b => ?_) (fun t => ?_) ?_ ?_ (fun b hbl hkb => ?_) (fun m rm hm hS j hj => ?_) (fun hlt => by rw [S'o _ (fun e => hil e.symm)]; exact hla hlt)
        · have := left_add (S := fun j => listed.getD j false) (S' := fun j => (listed.setIfInBounds i true).getD j false) ops.size hi hSi S'i S'o
          omega
        · rw [blkAt_putAll, hb b]
          by_cases hk : b ∈ keys r.d
          · rw [hv_at (S := fun j => (listed.setIfInBounds i true).getD j false) rs 0 (blkAt H b) (hv b (fun j => listed.getD j false) 0 rs (blkAt H b)) i r hri hk (by rw [Nat.zero_add]; exact S'i) fun j rj hij hj hkj => by
              rw [Nat.zero_add]
              exact off j rj hij hj fun hap => (apartD_spec hap).2.2.2.2.2 b (by rw [kk i r hri]; exact hk) (by rw [kk j rj hj]; exact hkj)]
          · rw [dAt_none _ _ _ hk]
            refine hv_congr _ _ _ fun j rj hj hkj => ?_
            rw [Nat.zero_add]
            have : j ≠ i := fun e => by subst e; rw [hri] at hj; cases hj; exact hk hkj
            exact (S'o j this).symm
        · have old := hg'.rv hg.hok (ht t)
          by_cases htd : r.k.dst = some t ∧ t < T.length
          · obtain ⟨hd, hlt⟩ := htd
            rw [tv_at (S := fun j => (listed.setIfInBounds i true).getD j false) rs 0 (getV T t) i r hri hd hlt (by rw [Nat.zero_add]; exact S'i) fun j rj hij hj hdj => by
              rw [Nat.zero_add]
              exact off j rj hij hj fun hap => (apartD_spec hap).2.2.1 t hd hdj]
            have : (a.put o.dst v').tmps.getD t undef = v' := by
              rw [← hdst, hd]
              simp [Act.put, hsz, hlt]
            rw [this]; exact hv'
          · have e1 : tv T.length t (fun j => (listed.setIfInBounds i true).getD j false) 0 rs (getV T t) = tv T.length t (fun j => listed.getD j false) 0 rs (getV T t) := by
              by_cases hlt : t < T.length
              · refine tv_congr _ _ _ fun j rj hj hdj => ?_
                rw [Nat.zero_add]
                exact S'o j fun e => by subst e; rw [hri] at hj; cases hj; exact htd ⟨hdj, hlt⟩
              · rw [tv_skip _ _ _ fun j r _ _ h => absurd h hlt, tv_skip _ _ _ fun j r _ _ h => absurd h hlt]
            rw [e1]
            have e2 : (a.put o.dst v').tmps.getD t undef = a.tmps.getD t undef ∨ T.length ≤ t := by
              rcases Nat.lt_or_ge t T.length with hlt | hge
              · left
                rw [← hdst]
                cases hd : r.k.dst with
                | none => rfl
                | some t' =>
                  have : t' ≠ t := fun e => htd ⟨by rw [hd, e], hlt⟩
                  simp [Act.put, Array.getElem?_setIfInBounds_ne this]
              · exact .inr hge
            rcases e2 with e2 | e2
            · rw [e2]; exact old
            · rw [tv_skip _ _ _ fun j r _ _ h => absurd h (by omega), getV_none T t e2]; exact .un _
        · cases o.dst <;> simp [Act.put, hsz]
        · cases o.dst <;> exact hdf
        · have hkr : b ∉ keys r.d := hkb i r hri S'i
          rw [hρ' b fun x hx => hkr ((keys_mem _).2 ⟨x, hx⟩)]
          refine hfr b hbl fun m rm hm hS => hkb m rm hm ?_
          by_cases hmi : m = i
          · subst hmi; exact S'i
          · rw [S'o m hmi]; exact hS
        · have base : listed.getD j false = true → (listed.setIfInBounds i true).getD j false = true := fun h => by
            by_cases hji : j = i
            · subst hji; exact S'i
            · rw [S'o j hji]; exact h
          by_cases hmi : m = i
          · subst hmi
            rw [hri] at hm; cases hm
            exact base (hbfS j hj)
          · rw [S'o m hmi] at hS
            exact base (hdc m rm hm hS j hj)
theorem left_le : ∀ n S, left n S ≤ n := by
  intro n S
  induction n with
  | zero => exact Nat.le_refl _
  | succ n ih => simp only [left]; split <;> omega
theorem bf_of {tab : Tab} {ops : Array Oper} {ol : List Oper} {l : List (Ins × List Nat)} {rs : List Rec} (hol : ∀ (i : Nat) (o : Oper), ol[i]? = some o → ops[i]? = some o) (hll : l.length = ol.length)
    (h2 : ∀ (j : Nat) (o : Oper), ol[j]? = some o → ∃ i bf, l[j]? = some (i, bf) ∧ compIns tab ops o = some i ∧ (∀ e ∈ o.after.toList, Region.binds .any e = true → e.on < j) ∧ ∀ m ∈ bf, ∃ e ∈ o.after.toList, Region.binds .any e = true ∧ (m = e.on ∨ m ∈ getL (l.map fun p => p.2) e.on))
    (hbf : ∀ (j : Nat) (i : Ins) (bf : List Nat), l[j]? = some (i, bf) → ∃ r, rs[j]? = some r ∧ r.k.bf = bf) :
    ∀ (i : Nat) (o : Oper) (r : Rec), ol[i]? = some o → rs[i]? = some r → ∀ m ∈ r.k.bf, ∃ e ∈ o.after.toList, Region.binds .any e = true ∧ (m = e.on ∨ ∃ r', rs[e.on]? = some r' ∧ m ∈ r'.k.bf) := by
  intro i o r ho hri m hm
  obtain ⟨ins, bf, q1, q2, q3, q4⟩ := h2 i o ho
  obtain ⟨r', e1, e2⟩ := hbf i ins bf q1
  rw [hri] at e1; cases e1
  rw [e2] at hm
  obtain ⟨e, he, hb, hor⟩ := q4 m hm
  refine ⟨e, he, hb, hor.imp (fun h => h) fun hmm => ?_⟩
  have hlt := q3 e he hb
  have hi := lt_of_get ho
  have hlt2 : e.on < l.length := by omega
  obtain ⟨r'', k1, k2⟩ := hbf e.on l[e.on].1 l[e.on].2 (by simp [List.getElem?_eq_getElem hlt2])
  refine ⟨r'', k1, ?_⟩
  rw [k2]
  rw [getL_get] at hmm
  simpa [List.getElem?_eq_getElem hlt2] using hmm
theorem vcD_sound {tab : Tab} {n0 : Nat} {md : Md} (hT : TabOK P tab) (hmix : P.follows .mixedOrders = true) (h0 : HOK w0 O0 ρ0 H0) {id : Nat} {ops : Array Oper} {l : List (Ins × List Nat)} (hl : compDraw tab ops [] ops.toList = some l) (hF : FuncsOK P (callsOf (l.map fun p => p.1))) {K : KT} {Q : Exit → Act → World → Prop}
    (hQ : ∀ (T : List V) (H : Heap) (a : Act) (w : World) (O : Own) (ρ : Place), K T H → SRel es0 w0 O0 ρ0 H0 T H a w O ρ → Q .normal a w) (hv : vcD Env.std (Cx.std P tab n0 md) l [] K T H) (hs : SRel es0 w0 O0 ρ0 H0 T H a w O ρ) : (Code.region id ops true).wp P Q a w := by
  obtain ⟨h1, h2⟩ := compDraw_spec _ _ _ hl
  obtain ⟨rs, T', H', hr, hlen, hK, _, hbf⟩ := vcD_run hT (n0 := n0) l ops.toList h1 (fun j o hj => by obtain ⟨i, bf, q1, q2, _⟩ := h2 j o hj; exact ⟨i, bf, q1, q2⟩) hF [] T H (fun j o h => by simpa using h) .start hv
  simp only [List.length_nil, Nat.zero_add] at hlen hbf
  have hn : rs.length = ops.size := by rw [hlen, h1]; simp
  have hd := good_drew hs.good.hok
  have hbf' := bf_of (tab := tab) (ops := ops) (ol := ops.toList) (rs := rs) (fun i o h => by simpa using h) h1 (fun j o hj => by obtain ⟨i, bf, q1, q2, q3, q4⟩ := h2 j o hj; exact ⟨i, bf, q1, q2, by simpa using q3, by simpa using q4⟩) hbf
  refine wp_region_any hmix (draw_any h0 hr (.inl hn) (fun i o ho => ?_) (fun i o r ho hri m hm => hbf' i o r (by simpa using ho) hri m hm) (fun _ a w O ρ hs' => hQ T' H' a w O ρ hK hs') ops.size _ a w.drew O ρ H (by simp) (left_le _ _) (hs.good.trans h0 hd) (fun b => ?_) (fun t => ?_) hs.len hs.df (fun b hb _ => hs.fresh b hb) (fun m r hm hS => ?_) (fun h => by omega))
  · obtain ⟨_, _, _, _, q, _⟩ := h2 i o (by simpa using ho); simpa using q
  · rw [hv_skip]
    intro j r hj _
    simp [Array.getElem?_replicate]
    split <;> rfl
  · rw [tv_skip]
    · exact hd.rv hs.good.hok (hs.tm t)
    · intro j r hj _ _
      simp [Array.getElem?_replicate]
      split <;> rfl
  · simp [Array.getElem?_replicate] at hS
    split at hS <;> cases hS
theorem coversN_spec : ∀ (n : Nat) (l : List Nat), coversN n l = true → ∀ m, m < n → m ∈ l
  | 0, l, _, m, h => by omega
  | n + 1, l, h, m, hm => by
    simp only [coversN, Bool.and_eq_true] at h
    by_cases hmn : m = n
    · subst hmn; exact (memT_spec _ _).1 h.1
    · exact coversN_spec n l h.2 m (by omega)
theorem compDraw_take {tab : Tab} {ops : Array Oper} : ∀ (l : List Oper) (done : List (List Nat)) (r : List (Ins × List Nat)), compDraw tab ops done l = some r → r.length = l.length := fun l done r h => (compDraw_spec l done r h).1
theorem vcDL_sound {tab : Tab} {md : Md} (hT : TabOK P tab) (hmix : P.follows .mixedOrders = true) {n0 : Nat} (h0 : HOK w0 O0 ρ0 H0) (hmd : md.ok w0 O0) {id : Nat} {ops : Array Oper} {l : List (Ins × List Nat)} {i : Ins} (hl : compLast tab ops = some (l, i)) (hF : FuncsOK P (callsOf (l.map fun p => p.1) ++ callsOf [i])) {K : KT} {Q : Exit → Act → World → Prop}
    (hQ : ∀ (T : List V) (H : Heap) (a : Act) (w : World) (O : Own) (ρ : Place), K T H → SRel md.es w0 O0 ρ0 H0 T H a w O ρ → Q .normal a w) (hv : vcD Env.std (Cx.std P tab n0 md) l [] (fun T' H' => vcIns Env.std (Cx.std P tab n0 md) [i] K T' H') T H) (hs : SRel md.es w0 O0 ρ0 H0 T H a w O ρ) : (Code.region id ops true).wp P Q a w := by
  unfold compLast at hl
  split at hl
  · rename_i ol o hlo
    split at hl
    · rename_i r i' hr hi
      split at hl
      · rename_i hcond
        cases hl
        simp only [Bool.and_eq_true] at hcond
        obtain ⟨hlow, hcov⟩ := hcond
        unfold lastOp at hlo
        split at hlo
        · rename_i o' hlast
          have hops : ops.toList = ol ++ [o] := by
            split at hlo
            · cases hlo
              have hne : ops.toList ≠ [] := fun e => by rw [e] at hlast; simp at hlast
              have h := List.dropLast_concat_getLast hne
              rw [List.getLast?_eq_some_getLast hne] at hlast
              simp only [Option.some.injEq] at hlast
              rw [hlast] at h
              exact h.symm
            · cases hlo
          obtain ⟨h1, h2⟩ := compDraw_spec _ _ _ hr
          have hol : ∀ (i : Nat) (o : Oper), ol[i]? = some o → ops[i]? = some o := fun i o h => by
            rw [← Array.getElem?_toList, hops, List.getElem?_append_left (lt_of_get h)]; exact h
          obtain ⟨rs, T', H', hrun, hlen, hK, _, hbf⟩ := vcD_run hT (n0 := n0) l ol h1 (fun j o hj => by obtain ⟨i, bf, q1, q2, _⟩ := h2 j o hj; exact ⟨i, bf, q1, q2⟩) (fun f hf => hF f (List.mem_append_left _ hf)) [] T H (fun j o h => by simpa using hol j o h) .start hv
          simp only [List.length_nil, Nat.zero_add] at hlen hbf
          have hsz : ops.size = ol.length + 1 := by rw [← Array.length_toList, hops]; simp
          have hlast' : ops[rs.length]? = some o := by
            rw [← Array.getElem?_toList, hops, hlen, h1]; simp
          have hd := good_drew hs.good.hok
          have hbf' := bf_of (tab := tab) (ops := ops) (ol := ol) (rs := rs) hol h1 (fun j o hj => by obtain ⟨i, bf, q1, q2, q3, q4⟩ := h2 j o hj; exact ⟨i, bf, q1, q2, by simpa using q3, by simpa using q4⟩) hbf
          have hlow' := edgesLow_spec _ hlow
          rw [lenL_eq] at hlow'
          have hcov' := coversN_spec _ _ hcov
          rw [lenL_eq] at hcov'
          refine wp_region_any hmix (draw_any h0 hrun (.inr ⟨o, by omega, hlast', fun m hm => ?_, fun K' a w O ρ hK' hs' => ?_⟩) (fun i o' ho => ?_) (fun i o' r ho hri m hm => hbf' i o' r ?_ hri m hm) (fun h => by omega) ops.size _ a w.drew O ρ H (by simp) (left_le _ _) (hs.good.trans h0 hd) (fun b => ?_) (fun t => ?_) hs.len hs.df (fun b hb _ => hs.fresh b hb) (fun m r hm hS => ?_) (fun h => ?_))
          · obtain ⟨e, he, hb, hor⟩ := bfOf_mem _ (hcov' m (by omega))
            refine ⟨e, he, hb, hor.imp (fun h => h) fun hmm => ?_⟩
            have hlt := hlow' e he hb
            obtain ⟨r'', k1, k2⟩ := hbf e.on l[e.on].1 l[e.on].2 (by simp [List.getElem?_eq_getElem hlt])
            refine ⟨r'', k1, ?_⟩
            rw [k2]
            rw [getL_get] at hmm
            simpa [List.getElem?_eq_getElem hlt] using hmm
          · have := vcIns_sound hT (n0 := n0) h0 hmd (ops := ops) (K := K) (Q := Q) hQ [o] [i] (by simp [compAll, hi]) (fun f hf => hF f (List.mem_append_right _ hf)) T' H' a w O ρ hK hs'
            unfold wpList at this
            unfold stepD
            split at this
            · rename_i hw
              rw [if_pos hw]
              rcases this with h | h
              · exact .inl (Oper.wp_mono (fun a' w' hq => hK' a' w' (by simpa [wpList] using hq)) h)
              · exact .inr h
            · rename_i hw
              rw [if_neg hw]
              exact hK' _ _ (by simpa [wpList] using this)
          · rcases Nat.lt_or_ge i ol.length with hi' | hi'
            · obtain ⟨x, hx⟩ := get_of_lt hi'
              have := hol i x hx
              rw [ho] at this; cases this
              obtain ⟨_, _, _, _, q, _⟩ := h2 i o' hx; simpa using q
            · have : i = ol.length := by have := (Array.getElem?_eq_some_iff.1 ho).1; omega
              subst this
              rw [← h1, ← hlen, hlast'] at ho; cases ho
              intro e he hb
              have := hlow' e he hb
              omega
          · have hi' : i < ol.length := by have := lt_of_get hri; omega
            obtain ⟨x, hx⟩ := get_of_lt hi'
            have := hol i x hx
            rw [ho] at this; cases this
            exact hx
          · rw [hv_skip]
            intro j r hj _
            simp [Array.getElem?_replicate]
            split <;> rfl
          · rw [tv_skip]
            · exact hd.rv hs.good.hok (hs.tm t)
            · intro j r hj _ _
              simp [Array.getElem?_replicate]
              split <;> rfl
          · simp [Array.getElem?_replicate] at hS
            split at hS <;> cases hS
          · simp [Array.getElem?_replicate]
            split <;> rfl
        · cases hlo
      · cases hl
    · cases hl
  · cases hl
end
end Am
end
section
open Go Go.Lib
set_option linter.unusedVariables false
set_option linter.unusedSimpArgs false
namespace Am
section
variable {P : Program} {w0 : World} {O0 : Own} {ρ0 : Place} {H0 : Heap} {T : List V} {H : Heap} {a : Act} {w : World} {O : Own} {ρ : Place}
theorem FuncsOK.left {a b : List FuncId} (h : FuncsOK P (a ++ b)) : FuncsOK P a := fun f hf => h f (by simp [hf])
theorem FuncsOK.right {a b : List FuncId} (h : FuncsOK P (a ++ b)) : FuncsOK P b := fun f hf => h f (by simp [hf])
theorem vc_sound {tab : Tab} {n0 : Nat} {md : Md} (hT : TabOK P tab) (hmix : P.follows .mixedOrders = true) (h0 : HOK w0 O0 ρ0 H0) (hn : H0.length = n0) (hf0 : ∀ b, n0 ≤ b → ρ0 b = .unset) (hmd : md.ok w0 O0) : ∀ (code : Code) (c : C), comp tab code = some c → FuncsOK P (callsC c) → ∀ (K : KE) (T : List V) (H : Heap) (a : Act) (w : World) (O : Own) (ρ : Place),
    vc Env.std (Cx.std P tab n0 md) c K T H → SRel md.es w0 O0 ρ0 H0 T H a w O ρ → code.wp P (Lift md.es w0 O0 ρ0 H0 K) a w := by
  intro code
  induction code with
  | skip =>
    intro c hc hF K T H a w O ρ hv hs
    simp only [comp] at hc; cases hc
    exact wp_skip ⟨T, H, O, ρ, hv, hs⟩
  | ret =>
    intro c hc hF K T H a w O ρ hv hs
    simp only [comp] at hc; cases hc
    exact wp_ret ⟨T, H, O, ρ, hv, hs⟩
  | exit id =>
    intro c hc hF K T H a w O ρ hv hs
    simp only [comp] at hc; cases hc
    exact wp_exit ⟨T, H, O, ρ, hv, hs⟩
  | seq x y ihx ihy =>
    intro c hc hF K T H a w O ρ hv hs
    simp only [comp] at hc
    split at hc
    · rename_i p q hp hq
      cases hc
      refine wp_seq (Code.wp_mono (fun e a' w' hq' => ?_) (ihx p hp hF.left _ T H a w O ρ hv hs))
      cases e with
      | normal => obtain ⟨T', H', O', ρ', hk, hs'⟩ := hq'; exact ihy q hq hF.right K T' H' a' w' O' ρ' hk hs'
      | exit id => exact hq'
      | ret => exact hq'
      | _ => exact hq'
    · cases hc
  | region id ops draw =>
    intro c hc hF K T H a w O ρ hv hs
    cases draw with
    | true =>
      simp only [comp] at hc
      split at hc
      · rename_i l i hl
        cases hc
        exact vcDL_sound hT hmix h0 hmd hl hF (K := fun T' H' => K .normal T' H') (fun T' H' a' w' O' ρ' hk hs' => ⟨T', H', O', ρ', hk, hs'⟩) hv hs
      · split at hc
        · rename_i l hl
          cases hc
          exact vcD_sound hT hmix h0 hl hF (fun T' H' a' w' O' ρ' hk hs' => ⟨T', H', O', ρ', hk, hs'⟩) hv hs
        · cases hc
    | false =>
      simp only [comp] at hc
      split at hc
      · rename_i l hl
        cases hc
        refine wp_region_list ?_
        exact vcIns_sound hT h0 hmd (fun T' H' a' w' O' ρ' hk hs' => ⟨T', H', O', ρ', hk, hs'⟩) ops.toList l hl hF T H a w O ρ hv hs
      · cases hc
  | cond x p q ihp ihq =>
    intro c hc hF K T H a w O ρ hv hs
    simp only [comp] at hc
    split at hc
    · rename_i p' q' hp hq
      cases hc
      simp only [vc] at hv
      split at hv
      · rename_i g hg
        obtain ⟨hr, hv⟩ := owes_spec (by simp) _ _ _ hv (hs.eval x)
        rw [hg] at hr
        refine wp_cond hr.scv ?_
        cases g with
        | true => exact ihp p' hp hF.left K T H a w O ρ hv hs
        | false => exact ihq q' hq hF.right K T H a w O ρ hv hs
      · exact hv.elim
    · cases hc
  | block id x ih =>
    intro c hc hF K T H a w O ρ hv hs
    simp only [comp] at hc
    split at hc
    · rename_i p hp
      cases hc
      refine wp_block (Code.wp_mono (fun e a' w' hq' => ?_) (ih p hp hF _ T H a w O ρ hv hs))
      cases e with
      | exit id' =>
        obtain ⟨T', H', O', ρ', hk, hs'⟩ := hq'
        simp only [Exit.inBlock]
        dsimp only at hk
        by_cases hid : id' = id
        · rw [if_pos hid] at hk ⊢; exact ⟨T', H', O', ρ', hk, hs'⟩
        · rw [if_neg hid] at hk ⊢; exact ⟨T', H', O', ρ', hk, hs'⟩
      | normal => exact hq'
      | ret => exact hq'
      | _ => exact hq'
    · cases hc
  | loop x ih =>
    intro c hc hF K T H a w O ρ hv hs
    simp only [comp] at hc
    split at hc
    · rename_i p hp
      cases hc
      exact hv x hp w0 O0 ρ0 H0 h0 hn hf0 hmd a w O ρ hs
    · cases hc
  | scope x ih =>
    intro c hc hF K T H a w O ρ hv hs
    simp only [comp] at hc
    refine wp_scope_straight (Code.wp_mono (fun e a' w' hq' => ?_) (ih c hc hF K T H a w O ρ hv hs))
    cases e with
    | goto l => exact hq'
    | _ => exact hq'
  | label l =>
    intro c hc hF K T H a w O ρ hv hs
    simp only [comp] at hc; cases hc
    exact wp_label ⟨T, H, O, ρ, hv, hs⟩
  | _ => intro c hc; simp [comp] at hc
end
end Am
end
section
open Go Go.Lib
set_option linter.unusedVariables false
set_option linter.unusedSimpArgs false
set_option linter.unusedSectionVars false
namespace Am
abbrev IdMap := List (Option Nat)
def idAt : IdMap → Nat → Option (Option Nat)
  | [], _ => none
  | x :: _, 0 => some x
  | _ :: l, n + 1 => idAt l n
def memN : Nat → List Nat → Bool
  | _, [] => false
  | n, x :: l => Nat.beq n x || memN n l
def tgLe (o o' : Tg) : Prop := o' = .any ∨ o = o'
theorem tgLe_refl (o : Tg) : tgLe o o := .inr rfl
def tgOk (e : Nat) : Tg → Bool
  | .any => true
  | .old => false
  | .new e' => Nat.beq e e'
def fitU : U → U → Prop
  | _, .any => True
  | .sc (.slice none 0 0), .sv _ _ n _ => n = 0
  | .sc v, .sc v' => v = v'
  | .sv o z n f, .sv o' z' n' f' => tgLe o o' ∧ z = z' ∧ n = n' ∧ ∀ i, i < n → f i = f' i
  | _, _ => False
mutual
def fitV (H : Heap) (m : IdMap) (fz : List Nat) : V → V → Prop
  | _, .un => True
  | .gd c x, y => c = true ∧ fitV H m fz x y
  | .u x, .u y => fitU x y
  | .sr b z off len, .sr j z' off' len' => idAt m j = some (some b) ∧ z = z' ∧ off = off' ∧ len = len'
  | .u (.sc (.slice none 0 0)), .sr j _ off len => idAt m j = some none ∧ off = 0 ∧ len = 0
  | .sr b z off len, .u (.sv o z' n f) => memN b fz = true ∧ (match arrAt H b with
      | some (e, z'', N, F, _) => tgOk e o = true ∧ z = z' ∧ z = z'' ∧ len = n ∧ off + len ≤ N ∧ ∀ i, i < n → F (off + i) = f i
      | none => False)
  | .so b z off len, .u (.sv o z' n f) => memN b fz = true ∧ (match arrAt H b with
      | some (e, z'', N, F, _) => tgOk e o = true ∧ z = z' ∧ z = z'' ∧ len = n ∧ off + len ≤ N ∧ ∀ i, i < n → F (off + i) = f i
      | none => False)
  | .so b z off len, .so j z' off' len' => idAt m j = some (some b) ∧ z = z' ∧ off = off' ∧ len = len'
  | .mp b, .mp j => idAt m j = some (some b)
  | .pb b o, .pb j o' => idAt m j = some (some b) ∧ o = o'
  | .pa b z i f, .pa j z' i' f' => idAt m j = some (some b) ∧ z = z' ∧ i = i' ∧ f = f'
  | .rp o cs, .rp o' ds => tgLe o o' ∧ cs = ds
  | .ag cs, .ag ds => fitVs H m fz cs ds
  | .tp cs, .tp ds => fitVs H m fz cs ds
  | .fv fn a b, .fv fn' a' b' => fn = fn' ∧ fitVs H m fz a a' ∧ fitVs H m fz b b'
  | .iv t x, .iv t' y => t = t' ∧ fitV H m fz x y
  | .nx c i r, .nx c' i' r' => c = c' ∧ i = i' ∧ r = r'
  | _, _ => False
def fitVs (H : Heap) (m : IdMap) (fz : List Nat) : List V → List V → Prop
  | [], [] => True
  | x :: l, y :: r => fitV H m fz x y ∧ fitVs H m fz l r
  | _, _ => False
end
def fitB (H : Heap) (m : IdMap) (fz : List Nat) (j : Nat) : Blk → Prop
  | .gone => True
  | .box ds => (match idAt m j with
    | some (some b) => memN b fz = false ∧ (match blkAt H b with | .box cs => fitVs H m fz cs ds | _ => False)
    | _ => False)
  | .arr e z n F => (match idAt m j with
    | some (some b) => memN b fz = false ∧ (match arrAt H b with | some (e', z', n', F', _) => e' = e ∧ z' = z ∧ n' = n ∧ ∀ i, i < n → F' i = F i | none => False)
    | some none => n = 0
    | none => False)
  | .it t p => (match idAt m j with
    | some (some b) => memN b fz = false ∧ (match blkAt H b with | .it t' p' => t' = t ∧ p' = p | _ => False)
    | _ => False)
  | .arc e z n F c => (match idAt m j with
    | some (some b) => memN b fz = false ∧ (match blkAt H b with | .arc e' z' n' F' c' => c' = c ∧ e' = e ∧ z' = z ∧ n' = n ∧ ∀ i, i < n → F' i = F i | _ => False)
    | _ => False)
  | .ms k p => (match idAt m j with
    | some (some b) => memN b fz = false ∧ (match blkAt H b with | .ms k' p' => k' = k ∧ ∀ i, p' i = p i | _ => False)
    | _ => False)
  | .ml k l => (match idAt m j with
    | some (some b) => memN b fz = false ∧ (match blkAt H b with | .ml k' l' => k' = k ∧ l' = l | _ => False)
    | _ => False)
def fitBs (H : Heap) (m : IdMap) (fz : List Nat) : Nat → Heap → Prop
  | _, [] => True
  | j, x :: l => fitB H m fz j x ∧ fitBs H m fz (j + 1) l
def distinct : IdMap → Bool
  | [] => true
  | none :: l => distinct l
  | some b :: l => !(hasId b l) && distinct l
where hasId (b : Nat) : IdMap → Bool
  | [] => false
  | none :: l => hasId b l
  | some c :: l => Nat.beq b c || hasId b l
def allLive (H : Heap) : List Nat → Bool
  | [] => true
  | b :: l => (match blkAt H b with | .gone => false | _ => true) && allLive H l
def sameIds : Nat → Nat → IdMap → Bool
  | 0, _, _ => true
  | n + 1, k, some b :: m => Nat.beq b k && sameIds n (k + 1) m
  | _ + 1, _, _ => false
theorem beqN {a b : Nat} : Nat.beq a b = true ↔ a = b := by
  constructor
  · exact Nat.eq_of_beq_eq_true
  · rintro rfl; exact Nat.beq_refl a
theorem memN_spec : ∀ (n : Nat) (l : List Nat), memN n l = true ↔ n ∈ l
  | n, [] => by simp [memN]
  | n, x :: l => by simp [memN, memN_spec n l, beqN]
theorem idAt_get : ∀ (m : IdMap) (j : Nat), idAt m j = m[j]?
  | [], j => rfl
  | x :: l, 0 => rfl
  | x :: l, j + 1 => by simpa [idAt] using idAt_get l j
theorem hasId_spec (b : Nat) : ∀ m : IdMap, distinct.hasId b m = true ↔ some b ∈ m
  | [] => by simp [distinct.hasId]
  | none :: l => by simp [distinct.hasId, hasId_spec b l]
  | some c :: l => by simp [distinct.hasId, hasId_spec b l, beqN]
theorem distinct_spec : ∀ (m : IdMap), distinct m = true → ∀ (j j' b : Nat), m[j]? = some (some b) → m[j']? = some (some b) → j = j'
  | [], _, j, j', b, h, _ => by simp at h
  | x :: l, hd, 0, 0, b, _, _ => rfl
  | x :: l, hd, 0, j' + 1, b, h, h' => by
    simp at h h'
    subst h
    simp [distinct] at hd
    have := (hasId_spec b l).2 (List.mem_of_getElem? h')
    rw [this] at hd
    simp at hd
  | x :: l, hd, j + 1, 0, b, h, h' => by
    simp at h h'
    subst h'
    simp [distinct] at hd
    have := (hasId_spec b l).2 (List.mem_of_getElem? h)
    rw [this] at hd
    simp at hd
  | x :: l, hd, j + 1, j' + 1, b, h, h' => by
    have hd' : distinct l = true := by cases x <;> simp [distinct] at hd; exact hd; exact hd.2
    rw [distinct_spec l hd' j j' b (by simpa using h) (by simpa using h')]
theorem allLive_spec (H : Heap) : ∀ (l : List Nat), allLive H l = true → ∀ b ∈ l, (blkAt H b).live
  | [], _ => by simp
  | b :: l, h => fun c hc => by
    simp only [allLive, Bool.and_eq_true] at h
    rcases List.mem_cons.1 hc with rfl | hc
    · cases hb : blkAt H c <;> simp [hb] at h <;> trivial
    · exact allLive_spec H l h.2 c hc
theorem fitBs_spec {H : Heap} {m : IdMap} {fz : List Nat} : ∀ (l : Heap) (k : Nat), fitBs H m fz k l → ∀ (j : Nat) (x : Blk), l[j]? = some x → fitB H m fz (k + j) x
  | [], k, _, j, x, h => by simp at h
  | y :: l, k, hf, 0, x, h => by simp at h; subst h; exact hf.1
  | y :: l, k, hf, j + 1, x, h => by
    have := fitBs_spec l (k + 1) hf.2 j x (by simpa using h)
    rwa [show k + 1 + j = k + (j + 1) by omega] at this
theorem sameIds_spec : ∀ (n k : Nat) (m : IdMap), sameIds n k m = true → ∀ j, j < n → m[j]? = some (some (k + j))
  | 0, _, _, _, j, h => by omega
  | n + 1, k, m, h, j, hj => by
    match m, h with
    | some b :: m, h =>
      simp only [sameIds, Bool.and_eq_true, beqN] at h
      cases j with
      | zero => simp [h.1]
      | succ j =>
        have := sameIds_spec n (k + 1) m h.2 j (by omega)
        simp only [List.getElem?_cons_succ, this]
        congr 2; omega
section
variable {w : World} {O : Own} {ρ : Place} {H : Heap} {m : IdMap} {fz : List Nat}
def wkO (ρ : Place) (fz : List Nat) (O : Own) : Own := ⟨fun k => O k ∧ ∀ b ∈ fz, ∀ c, ρ b ≠ .at k c, O.old⟩
def wkP (ρ : Place) (m : IdMap) (n : Nat) (j : Nat) : Pl := if j < n then (match m[j]? with | some (some b) => ρ b | some none => .nil | none => .unset) else .unset
theorem wk_keeps : Keeps w O w (wkO ρ fz O) := ⟨Nat.le_refl _, fun k _ h => ⟨rfl, fun h' => h h'.1⟩, rfl⟩
theorem tg_stab {o o' : Tg} {k : Nat} (h : tgLe o o') (hs : Stab w O o k) : Stab w O o' k := by
  rcases h with rfl | rfl
  · exact ⟨hs.1, trivial⟩
  · exact hs
theorem fitU_ok {x y : U} {v : Value} (h : fitU x y) (hx : RU w O x v) : RU w (wkO ρ fz O) y v := by
  have hx := hx.mono (wk_keeps (ρ := ρ) (fz := fz))
  cases y with
  | any => exact .any v hx.one
  | sc v' =>
    cases hx with
    | sc v h1 =>
      have : v = v' := by
        have e : fitU (.sc v) (.sc v') = (v = v') := by cases v <;> first | rfl | (rename_i a b c; cases a <;> cases b <;> cases c <;> rfl)
        rw [← e]; exact h
      subst this
      exact .sc v h1
    | sv => exact (show False from h).elim
    | any => exact (show False from h).elim
  | sv o' z' n' f' =>
    cases hx with
    | sc v h1 =>
      unfold fitU at h
      split at h
      · rename_i heq; cases heq
      · rename_i h2 h3
        cases h2; cases h3
        subst h
        exact .sv o' z' 0 0 f' none (fun _ _ => undef) (Nat.le_refl _) (.inl (by simp)) (fun i hi => by omega) fun i j x hi => by omega
      · rename_i heq; cases heq
      · rename_i heq _; cases heq
      · exact h.elim
    | any => exact h.elim
    | sv o z n c f a g hc ha hl hr =>
      have : tgLe o o' ∧ z = z' ∧ n = n' ∧ ∀ i, i < n → f i = f' i := h
      obtain ⟨ho, rfl, rfl, hf⟩ := this
      exact .sv o' z n c f' a g hc (ha.imp id fun ⟨ad, e, hs, hcell⟩ => ⟨ad, e, tg_stab ho hs, hcell⟩) (fun i hi => by rw [← hf i hi]; exact hl i hi) fun i j x hi hx => hr i j x hi (by rw [hf i hi]; exact hx)
variable (hH : HOK w O ρ H) (hfr : ∀ b, H.length ≤ b → ρ b = .unset)
theorem wkP_at {n j b : Nat} (hm : m.length = n) (h : m[j]? = some (some b)) : wkP ρ m n j = ρ b := by
  have : j < n := by rw [← hm]; exact lt_of_get h
  simp [wkP, this, h]
theorem wkP_nil {n j : Nat} (hm : m.length = n) (h : m[j]? = some none) : wkP ρ m n j = .nil := by
  have : j < n := by rw [← hm]; exact lt_of_get h
  simp [wkP, this, h]
include hH in
theorem fz_not {hlive : allLive H fz = true} {b c g : Nat} {x : Blk} (hb : H[b]? = some x) (hl : x.live) (hg : ρ b = .at g c) (hn : memN b fz = false) : wkO ρ fz O g := by
  refine ⟨img_own hH ⟨b, x, c, hb, hl, hg⟩, fun b' hb' c' hg' => ?_⟩
  have hl' := allLive_spec H fz hlive b' hb'
  have := hH.inj b b' x _ g c c' hb hl (blkAt_spec H b' hl') hl' hg hg'
  subst this
  rw [(memN_spec b fz).2 hb'] at hn
  cases hn
include hH in
theorem frz {b e z N len off : Nat} {F f : Nat → List U} {c : Option Nat} {o : Tg} (h1 : memN b fz = true) (harr : arrAt H b = some (e, z, N, F, c)) (ht : tgOk e o = true) (hle : off + len ≤ N) (hf : ∀ i, i < len → F (off + i) = f i) {x : V} {v : Value} {n : Nat}
    (hv : ∃ (a : Option Addr) (c : Nat), v = .slice a len c ∧ len ≤ c ∧ (len = 0 ∨ ∃ g cap, ρ b = .at g cap ∧ a = some ⟨g, off * z, none⟩)) : RV w (wkO ρ fz O) (wkP ρ m n) (.u (.sv o z len f)) v := by
  obtain ⟨a, c', rfl, hc, ha⟩ := hv
  have hmem := (memN_spec b fz).1 h1
  obtain ⟨hb', hlive⟩ := arrAt_blk harr
  have zero : len = 0 → RV w (wkO ρ fz O) (wkP ρ m n) (.u (.sv o z len f)) (.slice a len c') := fun h0 => by
    subst h0
    exact .u _ _ (.sv o z 0 c' f a (fun _ _ => undef) hc (.inl (by simp)) (fun i hi => by omega) fun i j x hi => by omega)
  rcases ha with h0 | ⟨g, cap, hg, rfl⟩
  · exact zero h0
  rcases row_of hH hb' with ⟨k1, _⟩ | ⟨g', cap', cur, hr⟩
  · rw [hg] at k1; cases k1
  have e2 := hr.pl
  rw [hg] at e2
  cases e2
  refine .u _ _ (.sv o z len c' f (some ⟨g, off * z, none⟩) (fun i j => cur.getD ((off + i) * z + j) undef) hc (.inr ⟨_, rfl, ⟨fun h => h.2 b hmem cap hg, ?_⟩, fun i j hi hj => ?_⟩) (fun i hi => by rw [← hf i hi]; exact hr.ln _ (by omega)) fun i j x hi hx => ?_)
  · cases o with
    | any => trivial
    | old => cases ht
    | new e' =>
      have : e = e' := Nat.eq_of_beq_eq_true ht
      subst this
      exact ⟨fun ho => (hH.olt _ ho).2 hr.ow, cur, hr.hp⟩
  · have : (off + i) * z + j < cur.size := by rw [hr.sz]; exact lt_flat (by have := hr.le; omega) hj
    rw [add_lit, cell_of_row w g _ cur e _ hr.hp, show off * z + (i * z + j) = (off + i) * z + j by rw [Nat.add_mul]; omega]
    simp [this]
  · rw [← hf i hi] at hx
    obtain ⟨u, hu, hru⟩ := hr.rl _ j x (by omega) hx
    show RU w _ x (cur.getD ((off + i) * z + j) undef)
    rw [show cur.getD ((off + i) * z + j) undef = u by simp only [Array.getD_eq_getD_getElem?, hu, Option.getD_some]]
    exact hru.mono wk_keeps
include hH in
mutual
theorem fitV_ok {n : Nat} (hm : m.length = n) (hlive : allLive H fz = true) : ∀ (x y : V) (v : Value), fitV H m fz x y → RV w O ρ x v → RV w (wkO ρ fz O) (wkP ρ m n) y v
  | x, .un, v, h, hx => .un v
  | .gd c x, y, v, h, hx => by
    have h' : c = true ∧ fitV H m fz x y ∨ y = .un := by cases y <;> first | exact .inr rfl | exact .inl h
    rcases h' with ⟨h1, h2⟩ | rfl
    · exact fitV_ok hm hlive x y v h2 (rv_gd hx h1)
    · exact .un v
  | .u x, .u y, v, h, hx => .u _ _ (fitU_ok h hx.toRU)
  | .sr b z off len, .sr j z' off' len', v, h, hx => by
    obtain ⟨h1, rfl, rfl, rfl⟩ := h
    rw [idAt_get] at h1
    have hp := wkP_at (ρ := ρ) hm h1
    cases hx with
    | srN _ _ hn => exact .srN j z (by rw [hp]; exact hn)
    | srP _ _ _ g cap hg hc => exact .srP j z _ g cap (by rw [hp]; exact hg) hc
    | srO _ _ _ _ c g cap a hg h0 ha hc => exact .srO j z _ _ c g cap a (by rw [hp]; exact hg) h0 ha hc
  | .sr b z off len, .u (.sv o z' n' f), v, h, hx => by
    obtain ⟨h1, h2⟩ := h
    split at h2
    · rename_i e z'' N F c harr
      obtain ⟨ht, rfl, rfl, rfl, hle, hf⟩ := h2
      refine frz hH h1 harr ht hle hf (x := .sr b z off len) ?_
      cases hx with
      | srN => exact ⟨_, _, rfl, Nat.le_refl _, .inl rfl⟩
      | srP _ _ _ g cap hg hc => exact ⟨_, _, rfl, hc, .inr ⟨g, cap, hg, by simp⟩⟩
      | srO _ _ _ _ c g cap a hg h0 ha hc => exact ⟨_, _, rfl, hc, ha.imp (fun h => h) fun e => ⟨g, cap, hg, by rw [e]⟩⟩
    · exact h2.elim
  | .so b z off len, .u (.sv o z' n' f), v, h, hx => by
    obtain ⟨h1, h2⟩ := h
    split at h2
    · rename_i e z'' N F c harr
      obtain ⟨ht, rfl, rfl, rfl, hle, hf⟩ := h2
      refine frz hH h1 harr ht hle hf (x := .so b z off len) ?_
      cases hx with
      | so _ _ _ _ c a hc ha => exact ⟨_, _, rfl, hc, ha⟩
    · exact h2.elim
  | .so b z off len, .so j z' off' len', v, h, hx => by
    obtain ⟨h1, rfl, rfl, rfl⟩ := h
    rw [idAt_get] at h1
    have hp := wkP_at (ρ := ρ) hm h1
    cases hx with
    | so _ _ _ _ c a hc ha => exact .so j z _ _ c a hc (ha.imp id fun ⟨g, cap, hg, e⟩ => ⟨g, cap, by rw [hp]; exact hg, e⟩)
  | .mp b, .mp j, v, h, hx => by
    have h1 : idAt m j = some (some b) := h
    rw [idAt_get] at h1
    cases hx with | mp _ g cap hg => exact .mp j g cap (by rw [wkP_at hm h1]; exact hg)
  | .u (.sc v0), .sr j z off len, v, h, hx => by
    unfold fitV at h
    split at h
    all_goals first | (rename_i heq; cases heq; done) | (rename_i heq _; cases heq; done) | (rename_i _ heq; cases heq; done) | (exact h.elim) | skip
    rename_i h1 h2
    cases h1; cases h2
    obtain ⟨h1, rfl, rfl⟩ := h
    rw [idAt_get] at h1
    rw [hx.scv]
    exact .srN j z (wkP_nil hm h1)
  | .pb b o, .pb j o', v, h, hx => by
    obtain ⟨h1, rfl⟩ := h
    rw [idAt_get] at h1
    cases hx with | pb _ _ g cap hg => exact .pb j o g cap (by rw [wkP_at hm h1]; exact hg)
  | .pa b z i f, .pa j z' i' f', v, h, hx => by
    obtain ⟨h1, rfl, rfl, rfl⟩ := h
    rw [idAt_get] at h1
    cases hx with | pa _ _ _ _ g cap hg => exact .pa j z i f g cap (by rw [wkP_at hm h1]; exact hg)
  | .rp o cs, .rp o' ds, v, h, hx => by
    obtain ⟨ht, rfl⟩ : tgLe o o' ∧ cs = ds := h
    cases hx with | rp _ _ a g ha hc hlt hr => exact .rp o' cs a g (tg_stab ht (wk_keeps.stab hlt ha)) hc hlt fun j x hx => (hr j x hx).mono wk_keeps
  | .ag cs, .ag ds, v, h, hx => by
    obtain ⟨arr, rfl, hs, hr⟩ := hx.ag_rel
    obtain ⟨h1, h2⟩ := fitVs_ok hm hlive cs ds arr.toList h (by simp [hs]) (by simpa using hr)
    exact ag_mk (by rw [hs]; exact h1) (by simpa using h2)
  | .tp cs, .tp ds, v, h, hx => by
    cases hx with
    | tp _ arr g hs ha hr =>
      obtain ⟨h1, h2⟩ := fitVs_ok hm hlive cs ds arr.toList h (by simp [hs]) (fun j y hy => ⟨g j, by simpa using ha j (lt_of_get hy), hr j y hy⟩)
      exact tp_mk (by rw [hs]; exact h1) (by simpa using h2)
  | .fv fn a b, .fv fn' a' b', v, h, hx => by
    obtain ⟨rfl, q1, q2⟩ := h
    cases hx with
    | fv _ _ _ arr brr g k hs ha hr hs' ha' hr' =>
      obtain ⟨h1, h2⟩ := fitVs_ok hm hlive a a' arr.toList q1 (by simp [hs]) (fun j y hy => ⟨g j, by simpa using ha j (lt_of_get hy), hr j y hy⟩)
      obtain ⟨h3, h4⟩ := fitVs_ok hm hlive b b' brr.toList q2 (by simp [hs']) (fun j y hy => ⟨k j, by simpa using ha' j (lt_of_get hy), hr' j y hy⟩)
      refine .fv fn a' b' arr brr (fun j => arr.getD j undef) (fun j => brr.getD j undef) (by rw [hs]; exact h1) (fun j hj => ?_) (fun j x hx => ?_) (by rw [hs']; exact h3) (fun j hj => ?_) (fun j x hx => ?_)
      · simp [show j < arr.size by omega]
      · obtain ⟨u, hu, hr⟩ := h2 j x hx
        rw [show arr.getD j undef = u by simp at hu; simp [hu]]; exact hr
      · simp [show j < brr.size by omega]
      · obtain ⟨u, hu, hr⟩ := h4 j x hx
        rw [show brr.getD j undef = u by simp at hu; simp [hu]]; exact hr
  | .iv t x, .iv t' y, v, h, hx => by
    obtain ⟨rfl, h⟩ := h
    cases hx with | iv _ _ v hx => exact .iv t y v (fitV_ok hm hlive x y v h hx)
  | .nx c i r, .nx c' i' r', v, h, hx => by
    obtain ⟨rfl, rfl, rfl⟩ := h
    cases hx with | nx => exact .nx c i r
theorem fitVs_ok {n : Nat} (hm : m.length = n) (hlive : allLive H fz = true) : ∀ (cs ds : List V) (l : List Value), fitVs H m fz cs ds → l.length = cs.length → (∀ (j : Nat) (y : V), cs[j]? = some y → ∃ u, l[j]? = some u ∧ RV w O ρ y u) →
    cs.length = ds.length ∧ ∀ (j : Nat) (y : V), ds[j]? = some y → ∃ u, l[j]? = some u ∧ RV w (wkO ρ fz O) (wkP ρ m n) y u
  | [], [], l, h, hl, hr => ⟨rfl, by simp⟩
  | x :: cs, y :: ds, l, h, hl, hr => by
    match l, hl with
    | v :: l, hl =>
      obtain ⟨u, hu, hx⟩ := hr 0 x rfl
      simp at hu
      subst hu
      have h1 := fitV_ok hm hlive x y v h.1 hx
      obtain ⟨h2, h3⟩ := fitVs_ok hm hlive cs ds l h.2 (by simpa using hl) (fun j y hy => by simpa using hr (j + 1) y (by simpa using hy))
      refine ⟨by simp [h2], fun j z hz => ?_⟩
      cases j with
      | zero => simp at hz; subst hz; exact ⟨v, rfl, h1⟩
      | succ j => simpa using h3 j z (by simpa using hz)
end
def Wk (n0 : Nat) (m : IdMap) (fz : List Nat) (H H' : Heap) : Prop :=
  m.length = H'.length ∧ sameIds n0 0 m = true ∧ distinct m = true ∧ allLive H fz = true ∧ fitBs H m fz 0 H'
theorem weak_ok {n0 : Nat} {H' : Heap} (hH : HOK w O ρ H) (hW : Wk n0 m fz H H') :
    (∀ (x y : V) (v : Value), fitV H m fz x y → RV w O ρ x v → RV w (wkO ρ fz O) (wkP ρ m H'.length) y v) ∧ HOK w (wkO ρ fz O) (wkP ρ m H'.length) H' ∧
    (∀ k, Img (wkP ρ m H'.length) H' k → Img ρ H k) ∧ (∀ k, O k → ¬ Img ρ H k → wkO ρ fz O k) ∧ (∀ k, wkO ρ fz O k → O k) ∧ (∀ b, b < n0 → wkP ρ m H'.length b = ρ b) ∧ (∀ b, H'.length ≤ b → wkP ρ m H'.length b = .unset) := by
  obtain ⟨hm, hs, hd, hl, hf⟩ := hW
  have live : ∀ (j : Nat) (x : Blk) (g c : Nat), H'[j]? = some x → x.live → wkP ρ m H'.length j = .at g c → ∃ b y, m[j]? = some (some b) ∧ H[b]? = some y ∧ y.live ∧ ρ b = .at g c ∧ memN b fz = false := by
    intro j x g c hj hx hg
    have hfj := fitBs_spec H' 0 hf j x hj
    rw [Nat.zero_add] at hfj
    cases x with
    | gone => exact hx.elim
    | box ds =>
      simp only [fitB, idAt_get] at hfj
      split at hfj
      · rename_i b hb
        rw [wkP_at hm hb] at hg
        obtain ⟨h1, h2⟩ := hfj
        split at h2
        · rename_i cs hcs; exact ⟨b, _, hb, blkAt_eq hcs trivial, trivial, hg, h1⟩
        · exact h2.elim
      · exact hfj.elim
    | arr e z n F =>
      simp only [fitB, idAt_get] at hfj
      split at hfj
      · rename_i b hb
        rw [wkP_at hm hb] at hg
        obtain ⟨h1, h2⟩ := hfj
        split at h2
        · rename_i e' z' n' F' c' hcs; exact ⟨b, _, hb, (arrAt_blk hcs).1, (arrAt_blk hcs).2, hg, h1⟩
        · exact h2.elim
      · rename_i hb; rw [wkP_nil hm hb] at hg; cases hg
      · exact hfj.elim
    | arc e z n F c0 =>
      simp only [fitB, idAt_get] at hfj
      split at hfj
      · rename_i b hb
        rw [wkP_at hm hb] at hg
        obtain ⟨h1, h2⟩ := hfj
        split at h2
        · rename_i hcs; exact ⟨b, _, hb, blkAt_eq hcs trivial, trivial, hg, h1⟩
        · exact h2.elim
      · exact hfj.elim
    | ms k p =>
      simp only [fitB, idAt_get] at hfj
      split at hfj
      · rename_i b hb
        rw [wkP_at hm hb] at hg
        obtain ⟨h1, h2⟩ := hfj
        split at h2
        · rename_i hcs; exact ⟨b, _, hb, blkAt_eq hcs trivial, trivial, hg, h1⟩
        · exact h2.elim
      · exact hfj.elim
    | ml k l =>
      simp only [fitB, idAt_get] at hfj
      split at hfj
      · rename_i b hb
        rw [wkP_at hm hb] at hg
        obtain ⟨h1, h2⟩ := hfj
        split at h2
        · rename_i hcs; exact ⟨b, _, hb, blkAt_eq hcs trivial, trivial, hg, h1⟩
        · exact h2.elim
      · exact hfj.elim
    | it t p =>
      simp only [fitB, idAt_get] at hfj
      split at hfj
      · rename_i b hb
        rw [wkP_at hm hb] at hg
        obtain ⟨h1, h2⟩ := hfj
        split at h2
        · rename_i t' p' hcs; exact ⟨b, _, hb, blkAt_eq hcs trivial, trivial, hg, h1⟩
        · exact h2.elim
      · exact hfj.elim
  refine ⟨fun x y v => fitV_ok hH hm hl x y v, ⟨fun j x hj => ?_, fun j j' x x' g c c' hj hx hj' hx' hg hg' => ?_, fun k hk => hH.lt k hk.1, fun k hk => ⟨(hH.olt k hk).1, fun h => (hH.olt k hk).2 h.1⟩⟩, fun k ⟨j, x, c, hj, hx, hg⟩ => ?_, fun k hk hn => ⟨hk, fun b hb c hg => hn ⟨b, _, c, blkAt_spec H b (allLive_spec H fz hl b hb), allLive_spec H fz hl b hb, hg⟩⟩, fun k hk => hk.1, fun b hb => ?_, fun b hb => ?_⟩
  · have hfj := fitBs_spec H' 0 hf j x hj
    rw [Nat.zero_add] at hfj
    cases x with
    | gone => trivial
    | box ds =>
      simp only [fitB, idAt_get] at hfj
      split at hfj
      · rename_i b hb
        obtain ⟨h1, h2⟩ := hfj
        split at h2
        · rename_i cs hcs
          have hb' := blkAt_eq hcs trivial
          obtain ⟨g, cap, cur, e, k1, k2, k3, k4, k5⟩ := hH.blk b _ hb'
          obtain ⟨q1, q2⟩ := fitVs_ok hH hm hl cs ds cur.toList h2 (by simp [k4]) (by simpa using k5)
          exact ⟨g, cap, cur, e, by rw [wkP_at hm hb]; exact k1, fz_not hH (hlive := hl) hb' trivial k1 h1, k3, by rw [k4]; exact q1, by simpa using q2⟩
        · exact h2.elim
      · exact hfj.elim
    | arr e z n F =>
      simp only [fitB, idAt_get] at hfj
      split at hfj
      · rename_i b hb
        obtain ⟨h1, h2⟩ := hfj
        split at h2
        · rename_i e' z' n' F' c' hcs
          obtain ⟨rfl, rfl, rfl, hF⟩ := h2
          obtain ⟨hb', hlv⟩ := arrAt_blk hcs
          rcases row_of hH hb' with ⟨k1, hN, _⟩ | ⟨g, cap, cur, hr⟩
          · exact .inl ⟨by rw [wkP_at hm hb]; exact k1, hN⟩
          · exact .inr ⟨g, cap, cur, by rw [wkP_at hm hb]; exact hr.pl, fz_not hH (hlive := hl) hb' hlv hr.pl h1, hr.hp, hr.sz, hr.le, hr.mx, fun i hi => by rw [← hF i hi]; exact hr.ln i hi, fun i j x hi hx => by
              obtain ⟨v, hv, hr⟩ := hr.rl i j x hi (by rw [hF i hi]; exact hx)
              exact ⟨v, hv, hr.mono wk_keeps⟩⟩
        · exact h2.elim
      · rename_i hb; exact .inl ⟨wkP_nil hm hb, hfj⟩
      · exact hfj.elim
    | it t p =>
      simp only [fitB, idAt_get] at hfj
      split at hfj
      · rename_i b hb
        obtain ⟨h1, h2⟩ := hfj
        split at h2
        · rename_i t' p' hcs
          obtain ⟨rfl, rfl⟩ := h2
          have hb' := blkAt_eq hcs trivial
          obtain ⟨g, cap, k1, k2, k3⟩ := hH.blk b _ hb'
          exact ⟨g, cap, by rw [wkP_at hm hb]; exact k1, fz_not hH (hlive := hl) hb' trivial k1 h1, k3⟩
        · exact h2.elim
      · exact hfj.elim
    | arc e z n F c0 =>
      simp only [fitB, idAt_get] at hfj
      split at hfj
      · rename_i b hb
        obtain ⟨h1, h2⟩ := hfj
        split at h2
        · rename_i e' z' n' F' c' hcs
          obtain ⟨rfl, rfl, rfl, rfl, hF⟩ := h2
          have hb' := blkAt_eq hcs trivial
          rcases hH.blk b _ hb' with ⟨k1, hN⟩ | ⟨g, cur, k1, k2, k3, k4, k5, k6, k7, k8⟩
          · exact .inl ⟨by rw [wkP_at hm hb]; exact k1, hN⟩
          · exact .inr ⟨g, cur, by rw [wkP_at hm hb]; exact k1, fz_not hH (hlive := hl) hb' trivial k1 h1, k3, k4, k5, k6, fun i hi => by rw [← hF i hi]; exact k7 i hi, fun i j x hi hx => by
              obtain ⟨v, hv, hr⟩ := k8 i j x hi (by rw [hF i hi]; exact hx)
              exact ⟨v, hv, hr.mono wk_keeps⟩⟩
        · exact h2.elim
      · exact hfj.elim
    | ms k p =>
      simp only [fitB, idAt_get] at hfj
      split at hfj
      · rename_i b hb
        obtain ⟨h1, h2⟩ := hfj
        split at h2
        · rename_i k' p' hcs
          obtain ⟨rfl, hp⟩ := h2
          have hb' := blkAt_eq hcs trivial
          obtain ⟨g, cap, es, cl, k1, k2, k3, k4, k5⟩ := hH.blk b _ hb'
          exact ⟨g, cap, es, cl, by rw [wkP_at hm hb]; exact k1, fz_not hH (hlive := hl) hb' trivial k1 h1, k3, k4, fun i => by rw [← hp i]; exact k5 i⟩
        · exact h2.elim
      · exact hfj.elim
    | ml k l =>
      simp only [fitB, idAt_get] at hfj
      split at hfj
      · rename_i b hb
        obtain ⟨h1, h2⟩ := hfj
        split at h2
        · rename_i k' l' hcs
          obtain ⟨rfl, rfl⟩ := h2
          have hb' := blkAt_eq hcs trivial
          obtain ⟨g, cap, es, cl, k1, k2, k3, k4, k5⟩ := hH.blk b _ hb'
          exact ⟨g, cap, es, cl, by rw [wkP_at hm hb]; exact k1, fz_not hH (hlive := hl) hb' trivial k1 h1, k3, k4, fun j i x hj => by obtain ⟨e, q1, q2, q3⟩ := k5 j i x hj; exact ⟨e, q1, q2, q3.mono wk_keeps⟩⟩
        · exact h2.elim
      · exact hfj.elim
  · obtain ⟨b, y, e1, e2, e3, e4, _⟩ := live j x g c hj hx hg
    obtain ⟨b', y', f1, f2, f3, f4, _⟩ := live j' x' g c' hj' hx' hg'
    have := hH.inj b b' y y' g c c' e2 e3 f2 f3 e4 f4
    subst this
    exact distinct_spec m hd j j' b e1 f1
  · obtain ⟨b, y, e1, e2, e3, e4, _⟩ := live j x k c hj hx hg
    exact ⟨b, y, c, e2, e3, e4⟩
  · have := sameIds_spec n0 0 m hs b hb
    rw [wkP_at hm this, Nat.zero_add]
  · simp [wkP, show ¬ b < H'.length by omega]
theorem Good.weak {w0 : World} {O0 : Own} {ρ0 : Place} {H0 H' : Heap} (g : Good w0 O0 ρ0 H0 w O ρ H) (h0 : HOK w0 O0 ρ0 H0) (hf0 : ∀ b, H0.length ≤ b → ρ0 b = .unset) (hW : Wk H0.length m fz H H') : Good w0 O0 ρ0 H0 w (wkO ρ fz O) (wkP ρ m H'.length) H' := by
  obtain ⟨h1, h2, h3, h4, h5, h6, h7⟩ := weak_ok g.hok hW
  refine ⟨h2, g.ev, fun b hb => ?_, fun k hk => g.img k (h3 k hk), fun k hk hn => ?_, fun k hk => g.inn k (h5 k hk), g.old⟩
  · have : b < H0.length := by
      rcases Nat.lt_or_ge b H0.length with h | h
      · exact h
      · exact absurd (hf0 b h) hb
    rw [h6 b this, g.pl b hb]
  · refine h4 k (g.out k hk hn) fun hi => ?_
    rcases g.img k hi with h | h
    · exact hn h
    · have := h0.lt k hk; omega
theorem GoodW.weak {es0 : List Nat} {w0 : World} {O0 : Own} {ρ0 : Place} {H0 H' : Heap} (g : GoodW es0 w0 O0 ρ0 H0 w O ρ H) (h0 : HOK w0 O0 ρ0 H0) (hf0 : ∀ b, H0.length ≤ b → ρ0 b = .unset) (hW : Wk H0.length m fz H H') : GoodW es0 w0 O0 ρ0 H0 w (wkO ρ fz O) (wkP ρ m H'.length) H' := by
  obtain ⟨h1, h2, h3, h4, h5, h6, h7⟩ := weak_ok g.hok hW
  refine ⟨h2, g.os, g.tape, g.output, g.size, g.block, fun b hb => ?_, fun k hk => g.img k (h3 k hk), fun k hk hn => ?_, fun k hk => g.inn k (h5 k hk), g.old⟩
  · have : b < H0.length := by
      rcases Nat.lt_or_ge b H0.length with h | h
      · exact h
      · exact absurd (hf0 b h) hb
    rw [h6 b this, g.pl b hb]
  · refine h4 k (g.out k hk hn) fun hi => ?_
    rcases g.img k hi with h | h
    · exact hn h
    · have := h0.lt k hk; omega
end
section
variable {P : Program} {w0 : World} {O0 : Own} {ρ0 : Place} {H0 : Heap} {T : List V} {H : Heap} {a : Act} {w : World} {O : Own} {ρ : Place}
theorem getVs_fit {H : Heap} {m : IdMap} {fz : List Nat} : ∀ (T T' : List V), fitVs H m fz T T' → T.length = T'.length ∧ ∀ t, getV T' t = .un ∨ fitV H m fz (getV T t) (getV T' t)
  | [], [], _ => ⟨rfl, fun t => .inl rfl⟩
  | x :: l, y :: r, h => by
    obtain ⟨h1, h2⟩ := getVs_fit l r h.2
    refine ⟨by simp [h1], fun t => ?_⟩
    cases t with
    | zero => exact .inr h.1
    | succ t => exact h2 t
theorem SRel.weak {T' : List V} {H' : Heap} {m : IdMap} {fz : List Nat} {es0 : List Nat} (h : SRel es0 w0 O0 ρ0 H0 T H a w O ρ) (h0 : HOK w0 O0 ρ0 H0) (hf0 : ∀ b, H0.length ≤ b → ρ0 b = .unset) (hW : Wk H0.length m fz H H') (hT : fitVs H m fz T T') :
    SRel es0 w0 O0 ρ0 H0 T' H' a w (wkO ρ fz O) (wkP ρ m H'.length) := by
  obtain ⟨h1, h2, h3, h4, h5, h6, h7⟩ := weak_ok h.good.hok hW
  obtain ⟨q1, q2⟩ := getVs_fit T T' hT
  refine ⟨h.good.weak h0 hf0 hW, fun t => ?_, by rw [h.len, q1], h7, h.df⟩
  rcases q2 t with e | e
  · rw [e]; exact .un _
  · exact h1 _ _ _ e (h.tm t)
end
end Am
end
section
open Go Go.Lib
set_option linter.unusedVariables false
set_option linter.unusedSimpArgs false
set_option linter.unusedSectionVars false
namespace Am
def Into (n0 : Nat) (T : List V) (H : Heap) (S : List V × Heap) : Prop := ∃ m fz, Wk n0 m fz H S.2 ∧ fitVs H m fz T S.1
def onRound (n : KT) (K : KE) : KE := fun e T H => match e with
  | .normal => n T H
  | e => K e T H
theorem loop_rule {P : Program} {tab : Tab} {n0 : Nat} {md : Md} (hT : TabOK P tab) (hmix : P.follows .mixedOrders = true) {c : C} (hF : FuncsOK P (callsC c)) {K : KE} {T : List V} {H : Heap} {α : Type} (st : α → List V × Heap) (pre : α → Prop) (μ : α → Nat)
    (a0 : α) (hp0 : pre a0) (hin : Into n0 T H (st a0))
    (round : ∀ a, pre a → vc Env.std (Cx.std P tab n0 md) c (onRound (fun T' H' => ∃ a', pre a' ∧ μ a' < μ a ∧ Into n0 T' H' (st a')) K) (st a).1 (st a).2) :
    LOOP P tab n0 md c K T H := by
  intro code hc w0 O0 ρ0 H0 h0 hn hf0 hmd a w O ρ hs
  subst hn
  have key : ∀ (n : Nat) (x : α) (a : Act) (w : World) (O : Own) (ρ : Place), μ x < n → pre x → SRel md.es w0 O0 ρ0 H0 (st x).1 (st x).2 a w O ρ → Code.rounds P code (Lift md.es w0 O0 ρ0 H0 K) n a w := by
    intro n
    induction n with
    | zero => intro x a w O ρ h; omega
    | succ n ih =>
      intro x a w O ρ hx hp hs
      rw [rounds_succ]
      refine Code.wp_mono (fun e a' w' hq => ?_) (vc_sound hT hmix h0 rfl hf0 hmd code c hc hF _ _ _ a w O ρ (round x hp) hs)
      cases e with
      | normal =>
        obtain ⟨T', H', O', ρ', ⟨x', hp', hlt, m, fz, hW, hfit⟩, hs'⟩ := hq
        exact ih x' a' w' _ _ (by omega) hp' (hs'.weak h0 hf0 hW hfit)
      | exit id => exact hq
      | ret => exact hq
      | _ => exact hq
  obtain ⟨m, fz, hW, hfit⟩ := hin
  exact wp_loop_rounds _ (key (μ a0 + 1) a0 a w _ _ (by omega) hp0 (hs.weak h0 hf0 hW hfit))
inductive RVar where
  | tmp (t : Nat)
  | cell (t : Nat) (agg : Bool) (z : Nat)
def compRes (tab : Tab) : List ResultVar → Option (List RVar)
  | [] => some []
  | .tmp t :: l => match compRes tab l with | some r => some (.tmp t :: r) | none => none
  | .cell a t :: l => match tab t, compRes tab l with | some ti, some r => some (.cell a (isA ti.kd) ti.sz :: r) | _, _ => none
def resVs (E : Env) (T : List V) (H : Heap) : List RVar → Option (List V × List Prop)
  | [] => some ([], [])
  | .tmp t :: l => match resVs E T H l with | some (r, obs) => some (getV T t :: r, obs) | none => none
  | .cell a agg z :: l => match readP E H z (getV T a) with
    | some (cs, ob) => match oneOr agg cs, resVs E T H l with | some v, some (r, obs) => some (v :: r, ob :: obs) | _, _ => none
    | none => none
def pack : List V → V
  | [x] => x
  | l => .tp l
def RetK (E : Env) (rs : List RVar) (K : KH) : KE := fun e T H => match e with
  | .exit _ => False
  | _ => (match resVs E T H rs with | some (vs, obs) => allK obs (K (pack vs) H) | none => False)
def IntoR (n0 : Nat) (v : V) (H : Heap) (r : V) (H' : Heap) : Prop := ∃ m fz, Wk n0 m fz H H' ∧ fitV H m fz v r
def pad : Nat → List V
  | 0 => []
  | n + 1 => .un :: pad n
def frame (args : List V) (n : Nat) : List V := match args, n with
  | [], n => pad n
  | x :: l, 0 => x :: l
  | x :: l, n + 1 => x :: frame l n
theorem pad_length : ∀ n, (pad n).length = n
  | 0 => rfl
  | n + 1 => by simp [pad, pad_length n]
theorem pad_get : ∀ n t, getV (pad n) t = .un
  | 0, t => rfl
  | n + 1, 0 => rfl
  | n + 1, t + 1 => by simpa [pad, getV] using pad_get n t
theorem frame_length : ∀ (args : List V) (n : Nat), args.length ≤ n → (frame args n).length = n
  | [], n, _ => by cases n <;> simp [frame, pad_length]
  | x :: l, 0, h => by simp at h
  | x :: l, n + 1, h => by simp [frame, frame_length l n (by simpa using h)]
theorem frame_get : ∀ (args : List V) (n t : Nat), getV (frame args n) t = getV args t
  | [], n, t => by cases n <;> simp [frame, pad_get, getV]
  | x :: l, 0, t => rfl
  | x :: l, n + 1, 0 => rfl
  | x :: l, n + 1, t + 1 => by simpa [frame, getV] using frame_get l n t
theorem getV_some : ∀ (T : List V) (t : Nat), getV T t = .un ∨ T[t]? = some (getV T t)
  | [], t => .inl rfl
  | x :: l, 0 => .inr rfl
  | x :: l, t + 1 => by simpa [getV] using getV_some l t
section
variable {P : Program} {w0 : World} {O0 : Own} {ρ0 : Place} {H0 : Heap} {T : List V} {H : Heap} {a : Act} {w : World} {O : Own} {ρ : Place}
theorem SRel.start {es0 : List Nat} (h0 : HOK w O ρ H) (hf : ∀ b, H.length ≤ b → ρ b = .unset) {args : List V} {vs : Array Value} (hr : RVs w O ρ args vs) {n : Nat} (hn : args.length ≤ n) :
    SRel es0 w O ρ H (frame args n) H { tmps := vs ++ Array.replicate (n - vs.size) undef, defers := [] } w O ρ := by
  obtain ⟨h1, h2⟩ := hr
  refine ⟨(Good.refl h0).toW _, fun t => ?_, by simp [frame_length args n hn]; omega, hf, rfl⟩
  rw [frame_get]
  rcases getV_some args t with e | e
  · rw [e]; exact .un _
  · obtain ⟨u, hu, hru⟩ := h2 t _ e
    have hlt : t < vs.size := by
      rcases Nat.lt_or_ge t vs.size with h | h
      · exact h
      · simp [Array.getElem?_eq_none h] at hu
    have : (vs ++ Array.replicate (n - vs.size) undef).getD t undef = u := by
      simp only [Array.getD_eq_getD_getElem?, Array.getElem?_append_left hlt, hu, Option.getD_some]
    rw [this]; exact hru
theorem loadVar_ok {t : TypeId} {ti : TI} (ht : TIOK P t ti) (hH : HOK w O ρ H) {x : V} {v : Value} (hx : RV w O ρ x v) {cs : List V} {ob : Prop} {r : V} (hr : readP Env.std H ti.sz x = some (cs, ob)) (ho : ob)
    (hone : oneOr (isA ti.kd) cs = some r) : ∃ ad u, v = .pointer (some ad) ∧ (loadVar t ad).run P w = .ok u w ∧ RV w O ρ r u := by
  obtain ⟨ad, vs, rfl, hl, hlc, hc, hv⟩ := readP_ok hH hr ho hx
  obtain ⟨k1, k2⟩ := oneOr_ok hone (by rw [hlc, hl]) hv
  obtain ⟨r1, r2⟩ := run_loadVar (ht.run_agg w) (ht.run_size w) hl hc
  cases ha : isA ti.kd with
  | true => exact ⟨ad, _, rfl, r1 ha, k1 ha⟩
  | false => obtain ⟨u, hu, hru⟩ := k2 ha; exact ⟨ad, _, rfl, r2 ha u hu, hru⟩
def resF (tmps : Array Value) : ResultVar → Sem Value
  | .tmp t => pure (tmps.getD t undef)
  | .cell a t => do loadVar t (← asAddr (tmps.getD a undef))
theorem resF_tmp (tmps : Array Value) (t : Nat) : resF tmps (.tmp t) = pure (tmps.getD t undef) := rfl
theorem resF_cell (tmps : Array Value) (a : Nat) (t : TypeId) : resF tmps (.cell a t) = (do loadVar t (← asAddr (tmps.getD a undef))) := rfl
theorem resVs_ok {es0 : List Nat} {tab : Tab} (hT : TabOK P tab) (hs : SRel es0 w0 O0 ρ0 H0 T H a w O ρ) : ∀ (l : List ResultVar) (rs : List RVar) (vs : List V) (obs : List Prop), compRes tab l = some rs → resVs Env.std T H rs = some (vs, obs) → (∀ p ∈ obs, p) →
    ∃ us : List Value, (l.mapM (resF a.tmps)).run P w = .ok us w ∧ us.length = vs.length ∧ ∀ (j : Nat) (x : V), vs[j]? = some x → ∃ u, us[j]? = some u ∧ RV w O ρ x u
  | [], rs, vs, obs, hc, hr, ho => by
    simp [compRes] at hc; subst hc
    simp [resVs] at hr
    obtain ⟨rfl, rfl⟩ := hr
    exact ⟨[], by simp, rfl, by simp⟩
  | .tmp t :: l, rs, vs, obs, hc, hr, ho => by
    simp only [compRes] at hc
    split at hc
    · rename_i rs' hc'
      cases hc
      simp only [resVs] at hr
      split at hr
      · rename_i vs' obs' hr'
        cases hr
        obtain ⟨us, h1, h2, h3⟩ := resVs_ok hT hs l rs' vs' obs hc' hr' ho
        refine ⟨a.tmps.getD t undef :: us, by rw [List.mapM_cons, resF_tmp]; simp [-Array.getD_eq_getD_getElem?, h1], by simp [h2], fun j x hx => ?_⟩
        cases j with
        | zero => simp at hx; subst hx; exact ⟨_, rfl, hs.tm t⟩
        | succ j => simpa using h3 j x (by simpa using hx)
      · cases hr
    · cases hc
  | .cell p t :: l, rs, vs, obs, hc, hr, ho => by
    simp only [compRes] at hc
    split at hc
    · rename_i ti rs' hti hc'
      cases hc
      simp only [resVs] at hr
      split at hr
      · rename_i cs ob hrd
        split at hr
        · rename_i v vs' obs' hone hr'
          cases hr
          obtain ⟨us, h1, h2, h3⟩ := resVs_ok hT hs l rs' _ _ hc' hr' fun p hp => ho p (.tail _ hp)
          obtain ⟨ad, u, hu, hload, hru⟩ := loadVar_ok (hT _ _ hti) hs.good.hok (hs.tm p) hrd (ho _ (.head _)) hone
          refine ⟨u :: us, by rw [List.mapM_cons, resF_cell, hu]; simp [asAddr, h1, hload], by simp [h2], fun j x hx => ?_⟩
          cases j with
          | zero => simp at hx; subst hx; exact ⟨_, rfl, hru⟩
          | succ j => simpa using h3 j x (by simpa using hx)
        · cases hr
      · cases hr
    · cases hc
theorem pack_ok {vs : List V} {us : List Value} (hl : us.length = vs.length) (hr : ∀ (j : Nat) (x : V), vs[j]? = some x → ∃ u, us[j]? = some u ∧ RV w O ρ x u) : RV w O ρ (pack vs) (if h : us.toArray.size = 1 then us.toArray[0] else .tuple us.toArray) := by
  unfold pack
  split
  · rename_i x
    match us, hl with
    | [u], _ =>
      obtain ⟨u', hu, h⟩ := hr 0 x rfl
      simp at hu; subst hu
      simpa using h
  · rename_i h
    have : ¬ us.toArray.size = 1 := fun e => by
      simp at e
      match vs, hl.symm.trans e, h with
      | [x], _, h => exact h x rfl
    rw [dif_neg this]
    exact tp_mk (by simp [hl]) (by simpa using hr)
end
theorem body_gen {P : Program} {tab : Tab} (hT : TabOK P tab) (hmix : P.follows .mixedOrders = true) {f : FuncId} {fn : Func} {code : Code} (hf : P.funcs[f]? = some fn) (hb : fn.body = some code) {c : C} (hc : comp tab code = some c) (hF : FuncsOK P (callsC c)) {rs : List RVar}
    (hr : compRes tab fn.results.toList = some rs) {args : List V} {nt : Nat} (hnt : fn.ntmps = nt) (hle : args.length ≤ nt) {H0 : Heap} {n0 : Nat} (hn0 : H0.length = n0) {md : Md} {k : KH}
    (h : vc Env.std (Cx.std P tab n0 md) c (RetK Env.std rs fun v H => ∃ r H', k r H' ∧ IntoR n0 v H r H') (frame args nt) H0) {w : World} {O : Own} {ρ : Place} {vs : Array Value} (hH : HOK w O ρ H0) (hfr : ∀ b, H0.length ≤ b → ρ b = .unset) (hrel : RVs w O ρ args vs) (hmd : md.ok w O) :
    Calls P f vs w fun e w' => ∃ v O' ρ' r H', e = .returned v ∧ k r H' ∧ RV w' O' ρ' r v ∧ GoodW md.es w O ρ H0 w' O' ρ' H' ∧ ∀ b, H'.length ≤ b → ρ' b = .unset := by
  subst hn0 hnt
  refine calls_of_wp hf hb (Code.wp_mono (fun e a' w' hq => ?_) (vc_sound hT hmix hH rfl hfr hmd code c hc hF _ _ _ _ w O ρ h (SRel.start hH hfr hrel hle)))
  have fin : ∀ {T : List V} {H : Heap} {O' : Own} {ρ' : Place}, (match resVs Env.std T H rs with | some (vs, obs) => allK obs (∃ r H', k r H' ∧ IntoR H0.length (pack vs) H r H') | none => False) → SRel md.es w O ρ H0 T H a' w' O' ρ' →
      a'.defers = [] ∧ ∃ v, (results fn a'.tmps).run P w' = .ok v w' ∧ ∃ u O' ρ' r H', Ending.returned v = .returned u ∧ k r H' ∧ RV w' O' ρ' r u ∧ GoodW md.es w O ρ H0 w' O' ρ' H' ∧ ∀ b, H'.length ≤ b → ρ' b = .unset := by
    intro T H O' ρ' hk hs
    refine ⟨hs.df, ?_⟩
    split at hk
    · rename_i vs obs hvs
      obtain ⟨hobs, r, H', hkr, m, fz, hW, hfit⟩ := allK_spec _ _ hk
      obtain ⟨us, h1, h2, h3⟩ := resVs_ok hT hs _ _ _ _ hr hvs hobs
      obtain ⟨q1, q2, q3, q4, q5, q6, q7⟩ := weak_ok hs.good.hok hW
      refine ⟨_, ?_, _, _, _, r, H', rfl, hkr, q1 _ _ _ hfit (pack_ok h2 h3), hs.good.weak hH hfr hW, q7⟩
      show (do let vs ← fn.results.mapM (resF a'.tmps); pure (if h : vs.size = 1 then vs[0] else .tuple vs) : Sem Value).run P w' = _
      rw [Array.mapM_eq_mapM_toList]
      simp only [map_eq_pure_bind, bind_assoc, pure_bind]
      simp [h1]
    · exact hk.elim
  cases e with
  | normal => obtain ⟨T, H, O', ρ', hk, hs⟩ := hq; exact fin hk hs
  | ret => obtain ⟨T, H, O', ρ', hk, hs⟩ := hq; exact fin hk hs
  | exit id => obtain ⟨T, H, O', ρ', hk, hs⟩ := hq; exact hk.elim
  | _ => exact hq.elim
theorem Md.ok_nil {w : World} {O : Own} {es : List Nat} : Md.ok ⟨es, false⟩ w O := fun h => nomatch h
mutual
def oldU : U → U
  | .sc v => .sc v
  | .any => .any
  | .sv _ z n f => .sv .old z n (fun i => oldUs (f i))
def oldUs : List U → List U
  | [] => []
  | x :: l => oldU x :: oldUs l
end
mutual
def oldV : V → V
  | .u x => .u (oldU x)
  | .rp _ cs => .rp .old (oldUs cs)
  | .ag cs => .ag (oldVs cs)
  | .tp cs => .tp (oldVs cs)
  | .fv fn a b => .fv fn (oldVs a) (oldVs b)
  | .iv t x => .iv t (oldV x)
  | .gd c x => .gd c (oldV x)
  | .un => .un
  | .sr b z o l => .sr b z o l
  | .so b z o l => .so b z o l
  | .pb b o => .pb b o
  | .pa b z i f => .pa b z i f
  | .mp b => .mp b
  | .nx c i r => .nx c i r
def oldVs : List V → List V
  | [] => []
  | x :: l => oldV x :: oldVs l
end
theorem oldUs_length : ∀ l : List U, (oldUs l).length = l.length
  | [] => rfl
  | x :: l => by simp [oldUs, oldUs_length l]
theorem oldUs_get : ∀ (l : List U) (j : Nat) (y : U), (oldUs l)[j]? = some y → ∃ x, l[j]? = some x ∧ y = oldU x
  | [], j, y, h => by simp [oldUs] at h
  | x :: l, 0, y, h => by simp [oldUs] at h; exact ⟨x, rfl, h.symm⟩
  | x :: l, j + 1, y, h => by simpa using oldUs_get l j y (by simpa [oldUs] using h)
theorem oldVs_length : ∀ l : List V, (oldVs l).length = l.length
  | [] => rfl
  | x :: l => by simp [oldVs, oldVs_length l]
theorem oldVs_get : ∀ (l : List V) (j : Nat) (y : V), (oldVs l)[j]? = some y → ∃ x, l[j]? = some x ∧ y = oldV x
  | [], j, y, h => by simp [oldVs] at h
  | x :: l, 0, y, h => by simp [oldVs] at h; exact ⟨x, rfl, h.symm⟩
  | x :: l, j + 1, y, h => by simpa using oldVs_get l j y (by simpa [oldVs] using h)
def allOld (w : World) (O : Own) : Own := ⟨O.p, fun k => k < w.heap.size ∧ ¬ O k⟩
theorem RU.allOld {w : World} {O : Own} {u : U} {v : Value} (h : RU w O u v) : RU w (allOld w O) (oldU u) v := by
  induction h with
  | sc v h1 => simp only [oldU]; exact .sc v h1
  | any v h1 => simp only [oldU]; exact .any v h1
  | sv o z n c f a g hc ha hl hr ih =>
    simp only [oldU]
    refine .sv .old z n c _ a g hc ?_ (fun i hi => by rw [oldUs_length]; exact hl i hi) fun i j x hi hx => ?_
    · rcases Nat.eq_zero_or_pos (n * z) with h0 | h0
      · exact .inl h0
      · rcases ha with ha | ⟨ad, e, ho, hcell⟩
        · omega
        · have hn : 0 < n := Nat.pos_of_mul_pos_right h0
          have hz : 0 < z := Nat.pos_of_mul_pos_left h0
          have hlt : ad.block < w.heap.size := by have := cell_lt (hcell 0 0 hn hz); rwa [add_block] at this
          exact .inr ⟨ad, e, ⟨ho.1, hlt, ho.1⟩, hcell⟩
    · obtain ⟨y, hy, rfl⟩ := oldUs_get _ j x hx
      exact ih i j y hi hy
theorem RV.allOld {w : World} {O : Own} {ρ : Place} {x : V} {v : Value} (h : RV w O ρ x v) : RV w (allOld w O) ρ (oldV x) v := by
  induction h with
  | un v => simp only [oldV]; exact .un v
  | u x v h => simp only [oldV]; exact .u _ v h.allOld
  | srN b z h => simp only [oldV]; exact .srN b z h
  | srP b z len g cap h hc => simp only [oldV]; exact .srP b z len g cap h hc
  | srO b z off len c g cap a h h0 ha hc => simp only [oldV]; exact .srO b z off len c g cap a h h0 ha hc
  | so b z off len c a hc ha => simp only [oldV]; exact .so b z off len c a hc ha
  | mp b g cap h => simp only [oldV]; exact .mp b g cap h
  | pb b off g cap h => simp only [oldV]; exact .pb b off g cap h
  | pa b z i f g cap h => simp only [oldV]; exact .pa b z i f g cap h
  | rp o cs a g ha hc hlt hr =>
    simp only [oldV]
    exact .rp .old _ a g ⟨ha.1, hlt, ha.1⟩ (fun j hj => hc j (by rwa [oldUs_length] at hj)) hlt fun j x hx => by obtain ⟨y, hy, rfl⟩ := oldUs_get _ j x hx; exact (hr j y hy).allOld
  | ag cs arr g hs ha _ ih =>
    simp only [oldV]
    exact .ag _ arr g (by rw [hs, oldVs_length]) (fun j hj => ha j (by rwa [oldVs_length] at hj)) fun j x hx => by obtain ⟨y, hy, rfl⟩ := oldVs_get _ j x hx; exact ih j y hy
  | tp cs arr g hs ha _ ih =>
    simp only [oldV]
    exact .tp _ arr g (by rw [hs, oldVs_length]) (fun j hj => ha j (by rwa [oldVs_length] at hj)) fun j x hx => by obtain ⟨y, hy, rfl⟩ := oldVs_get _ j x hx; exact ih j y hy
  | fv fn cs ds arr brr g k hs ha _ hs' ha' _ ih ih' =>
    simp only [oldV]
    exact .fv fn _ _ arr brr g k (by rw [hs, oldVs_length]) (fun j hj => ha j (by rwa [oldVs_length] at hj)) (fun j x hx => by obtain ⟨y, hy, rfl⟩ := oldVs_get _ j x hx; exact ih j y hy) (by rw [hs', oldVs_length]) (fun j hj => ha' j (by rwa [oldVs_length] at hj)) (fun j x hx => by obtain ⟨y, hy, rfl⟩ := oldVs_get _ j x hx; exact ih' j y hy)
  | iv t x v _ ih => simp only [oldV]; exact .iv t _ v ih
  | gd c x v _ h' ih => simp only [oldV]; exact .gd c _ v ih h'
  | nx c i r => simp only [oldV]; exact .nx c i r
theorem call_body {P : Program} {tab : Tab} (hT : TabOK P tab) (hmix : P.follows .mixedOrders = true) {f : FuncId} {fn : Func} {code : Code} (hf : P.funcs[f]? = some fn) (hb : fn.body = some code) {c : C} (hc : comp tab code = some c) (hF : FuncsOK P (callsC c)) {rs : List RVar}
    (hr : compRes tab fn.results.toList = some rs) {args : List V} {nt : Nat} (hnt : fn.ntmps = nt) (hle : args.length ≤ nt) {H0 : Heap} {n0 : Nat} (hn0 : H0.length = n0) {k : KH}
    (h : vc Env.std (Cx.std P tab n0 {}) c (RetK Env.std rs fun v H => ∃ r H', k r H' ∧ IntoR n0 v H r H') (frame args nt) H0) : CALL P f args H0 k := by
  intro w O ρ vs hH hfr hrel
  refine Calls.mono (body_gen hT hmix hf hb hc hF hr hnt hle hn0 h hH hfr hrel Md.ok_nil) fun e w' hq => ?_
  obtain ⟨v, O', ρ', r, H', q1, q2, q3, q4, q5⟩ := hq
  exact ⟨v, O', ρ', r, H', q1, q2, q3, q4.toGood, q5⟩
theorem call_bodyW {P : Program} {tab : Tab} (hT : TabOK P tab) (hmix : P.follows .mixedOrders = true) {f : FuncId} {fn : Func} {code : Code} (hf : P.funcs[f]? = some fn) (hb : fn.body = some code) {c : C} (hc : comp tab code = some c) (hF : FuncsOK P (callsC c)) {rs : List RVar}
    (hr : compRes tab fn.results.toList = some rs) {args : List V} {nt : Nat} (hnt : fn.ntmps = nt) (hle : args.length ≤ nt) {H0 : Heap} {n0 : Nat} (hn0 : H0.length = n0) {es : List Nat} {k : KH}
    (h : vc Env.std (Cx.std P tab n0 ⟨es, false⟩) c (RetK Env.std rs fun v H => ∃ r H', k r H' ∧ IntoR n0 v H r H') (frame args nt) H0) : CALLW P f es args H0 k := by
  intro w O ρ vs hH hfr hrel
  exact body_gen hT hmix hf hb hc hF hr hnt hle hn0 h hH hfr hrel Md.ok_nil
theorem call_bodyC {P : Program} {tab : Tab} (hT : TabOK P tab) (hmix : P.follows .mixedOrders = true) {f : FuncId} {fn : Func} {code : Code} (hf : P.funcs[f]? = some fn) (hb : fn.body = some code) {c : C} (hc : comp tab code = some c) (hF : FuncsOK P (callsC c)) {rs : List RVar}
    (hr : compRes tab fn.results.toList = some rs) {args : List V} {nt : Nat} (hnt : fn.ntmps = nt) (hle : args.length ≤ nt) {v0 : Value}
    (h : vc Env.std (Cx.std P tab 0 ⟨[], true⟩) c (RetK Env.std rs fun v H => ∃ r H', (r = .u (.sc v0) ∧ H' = []) ∧ IntoR 0 v H r H') (frame (oldVs args) nt) []) : CALL P f args [] (fun r H' => r = .u (.sc v0) ∧ H' = []) := by
  intro w O ρ vs hH hfr hrel
  have hH' : HOK w (allOld w O) ρ [] := ⟨fun b x hx => by simp at hx, fun b b' x x' g c c' hx => by simp at hx, hH.lt, fun k hk => hk⟩
  have hrel' : RVs w (allOld w O) ρ (oldVs args) vs := ⟨by rw [hrel.1, oldVs_length], fun j x hx => by
    obtain ⟨y, hy, rfl⟩ := oldVs_get _ j x hx
    obtain ⟨u, hu, hr⟩ := hrel.2 j y hy
    exact ⟨u, hu, hr.allOld⟩⟩
  refine Calls.mono (body_gen (H0 := []) (n0 := 0) (k := fun r H' => r = .u (.sc v0) ∧ H' = []) (md := ⟨[], true⟩) hT hmix hf hb hc hF hr hnt (by rw [oldVs_length]; exact hle) rfl h hH' hfr hrel' fun _ k hk hno => ⟨hk, hno⟩) fun e w' hq => ?_
  obtain ⟨v, O', ρ', r, H', q1, ⟨rfl, rfl⟩, q3, q4, q5⟩ := hq
  have g := q4.toGood
  refine ⟨v, ⟨O'.p, O.old⟩, ρ', _, [], q1, ⟨rfl, rfl⟩, ?_, ⟨⟨fun b x hx => by simp at hx, fun b b' x x' g c c' hx => by simp at hx, g.hok.lt, fun k hk => ⟨Nat.lt_of_lt_of_le (hH.olt k hk).1 g.ev.size, fun ho => ?_⟩⟩, g.ev, g.pl, g.img, g.out, g.inn, rfl⟩, q5⟩
  · cases q3 with | u _ _ hu => cases hu with | sc _ h1 => exact .u _ _ (.sc _ h1)
  · rcases g.inn k ho with h1 | h1
    · exact (hH.olt k hk).2 h1
    · have := (hH.olt k hk).1; omega
end Am
end
section
open Go Go.Lib
set_option linter.unusedVariables false
set_option linter.unusedSimpArgs false
set_option linter.unusedSectionVars false
namespace Am
def lookT : List (Nat × TI) → Nat → Option TI
  | [], _ => none
  | (k, ti) :: l, t => if Nat.beq k t then some ti else lookT l t
def lookW : List (Nat × List Nat) → Nat → Option (List Nat)
  | [], _ => none
  | (k, es) :: l, t => if Nat.beq k t then some es else lookW l t
def RowsOK (P : Program) (l : List (Nat × TI)) : Prop := ∀ p ∈ l, TIOK P p.1 p.2
theorem RowsOK.nil {P : Program} : RowsOK P [] := fun p h => nomatch h
theorem RowsOK.cons {P : Program} {k : Nat} {ti : TI} {l : List (Nat × TI)} (h : TIOK P k ti) (h' : RowsOK P l) : RowsOK P ((k, ti) :: l) := fun p hp => by
  rcases List.mem_cons.1 hp with rfl | hp
  · exact h
  · exact h' p hp
theorem TabOK.rows {P : Program} : ∀ {l : List (Nat × TI)}, RowsOK P l → ∀ t ti, lookT l t = some ti → TIOK P t ti
  | [], h, t, ti, e => by simp [lookT] at e
  | (k, x) :: l, h, t, ti, e => by
    simp only [lookT] at e
    split at e
    · rename_i hk
      cases e
      rw [← beqN.1 hk]
      exact h _ (.head _)
    · exact TabOK.rows (fun p hp => h p (.tail _ hp)) t ti e
theorem TabOK.of_rows {P : Program} {l : List (Nat × TI)} {hs : List Nat} {ws : Nat → Option (List Nat)} {xs : List Nat} (h : RowsOK P l) : TabOK P ⟨lookT l, hs, ws, xs⟩ := TabOK.rows h
theorem FuncsOK.nil {P : Program} : FuncsOK P [] := fun f h => nomatch h
theorem FuncsOK.cons {P : Program} {f : FuncId} {fn : Func} {l : List FuncId} (h1 : P.funcs[f]? = some fn) (h2 : (fn.name == "runtime.NumGoroutine") = false) (h3 : fn.body.isNone = false) (h : FuncsOK P l) : FuncsOK P (f :: l) := fun g hg => by
  rcases List.mem_cons.1 hg with rfl | hg
  · exact ⟨fn, h1, h2, h3⟩
  · exact h g hg
def allIn (fs : List Nat) : List Nat → Bool
  | [] => true
  | x :: l => memN x fs && allIn fs l
theorem FuncsOK.sub {P : Program} {fs : List FuncId} (h : FuncsOK P fs) : ∀ {l : List FuncId}, allIn fs l = true → FuncsOK P l
  | [], _ => .nil
  | x :: l, e => fun f hf => by
    simp only [allIn, Bool.and_eq_true] at e
    rcases List.mem_cons.1 hf with rfl | hf
    · exact h f ((memN_spec f fs).1 e.1)
    · exact FuncsOK.sub h e.2 f hf
structure Ax (ob : Ob → Prop) (ib : BinOp → IntKind → Int → Int → Int) (ic : BinOp → Int → Int → Bool) (sb : BinOp → ByteArray → ByteArray → Bool) (cat : ByteArray → ByteArray → ByteArray) (iu : UnOp → IntKind → Int → Int) (nt : Bool → Bool) (an : Bool → Bool → Bool) (be : Bool → Bool → Bool) (pk : Bool → Bool → Bool → Bool) (wr : IntKind → Int → Int) (tn : Int → Nat) (iN : Nat → Int) (aN : Nat → Nat → Nat) (sN : Nat → Nat → Nat) (lN : Nat → Nat → Bool) (eN : Nat → Nat → Bool) (bt : ByteArray → Int → Int) (sub : ByteArray → Int → Int → ByteArray) (sl : ByteArray → Int) (rn : Int → ByteArray) (ofB : Nat → (Nat → List U) → ByteArray) (mn : Int → Int → Int) (dc : ByteArray → Nat → Int) (dn : ByteArray → Nat → Nat) (sI : Int → Int → Int) : Prop where
  h_ob : Env.std.ob = ob
  h_ib : Env.std.ib = ib
  h_ic : Env.std.ic = ic
  h_sb : Env.std.sb = sb
  h_cat : Env.std.cat = cat
  h_iu : Env.std.iu = iu
  h_nt : Env.std.nt = nt
  h_an : Env.std.an = an
  h_be : Env.std.be = be
  h_pk : Env.std.pk = pk
  h_wr : Env.std.wr = wr
  h_tn : Env.std.tn = tn
  h_iN : Env.std.iN = iN
  h_aN : Env.std.aN = aN
  h_sN : Env.std.sN = sN
  h_lN : Env.std.lN = lN
  h_eN : Env.std.eN = eN
  h_bt : Env.std.bt = bt
  h_sub : Env.std.sub = sub
  h_sl : Env.std.sl = sl
  h_rn : Env.std.rn = rn
  h_ofB : Env.std.ofB = ofB
  h_mn : Env.std.mn = mn
  h_dc : Env.std.dc = dc
  h_dn : Env.std.dn = dn
  h_sI : Env.std.sI = sI
theorem Ax.std : Ax Env.std.ob Env.std.ib Env.std.ic Env.std.sb Env.std.cat Env.std.iu Env.std.nt Env.std.an Env.std.be Env.std.pk Env.std.wr Env.std.tn Env.std.iN Env.std.aN Env.std.sN Env.std.lN Env.std.eN Env.std.bt Env.std.sub Env.std.sl Env.std.rn Env.std.ofB Env.std.mn Env.std.dc Env.std.dn Env.std.sI := ⟨rfl, rfl, rfl, rfl, rfl, rfl, rfl, rfl, rfl, rfl, rfl, rfl, rfl, rfl, rfl, rfl, rfl, rfl, rfl, rfl, rfl, rfl, rfl, rfl, rfl, rfl⟩
theorem Ax.eq {ob} {ib} {ic} {sb} {cat} {iu} {nt} {an} {be} {pk} {wr} {tn} {iN} {aN} {sN} {lN} {eN} {bt} {sub} {sl} {rn} {ofB} {mn} {dc} {dn} {sI} (h : Ax ob ib ic sb cat iu nt an be pk wr tn iN aN sN lN eN bt sub sl rn ofB mn dc dn sI) : Env.std = ⟨ob, ib, ic, sb, cat, iu, nt, an, be, pk, wr, tn, iN, aN, sN, lN, eN, bt, sub, sl, rn, ofB, mn, dc, dn, sI⟩ := by
  obtain ⟨rfl, rfl, rfl, rfl, rfl, rfl, rfl, rfl, rfl, rfl, rfl, rfl, rfl, rfl, rfl, rfl, rfl, rfl, rfl, rfl, rfl, rfl, rfl, rfl, rfl, rfl⟩ := h
  rfl
theorem enter {P : Program} {tab : Tab} (hT : TabOK P tab) (hmix : P.follows .mixedOrders = true) {f : FuncId} {fn : Func} {code : Code} (hf : P.funcs[f]? = some fn) (hb : fn.body = some code) {c : C} (hc : comp tab code = some c) (hF : FuncsOK P (callsC c)) {rs : List RVar}
    (hr : compRes tab fn.results.toList = some rs) {nt_ : Nat} (hnt : fn.ntmps = nt_) {args : List V} {H0 : Heap} {n0 : Nat} {k : KH} (hn0 : H0.length = n0) (hle : Nat.ble args.length nt_ = true)
    (h : ∀ ob ib ic sb cat iu nt an be pk wr tn iN aN sN lN eN bt sub sl rn ofB mn dc dn sI X, Ax ob ib ic sb cat iu nt an be pk wr tn iN aN sN lN eN bt sub sl rn ofB mn dc dn sI → Cx.std P tab n0 {} = X → vc ⟨ob, ib, ic, sb, cat, iu, nt, an, be, pk, wr, tn, iN, aN, sN, lN, eN, bt, sub, sl, rn, ofB, mn, dc, dn, sI⟩ X c (RetK ⟨ob, ib, ic, sb, cat, iu, nt, an, be, pk, wr, tn, iN, aN, sN, lN, eN, bt, sub, sl, rn, ofB, mn, dc, dn, sI⟩ rs fun v H => ∃ r H', k r H' ∧ IntoR n0 v H r H') (frame args nt_) H0) : CALL P f args H0 k :=
  call_body hT hmix hf hb hc hF hr hnt (Nat.le_of_ble_eq_true hle) hn0 (h _ _ _ _ _ _ _ _ _ _ _ _ _ _ _ _ _ _ _ _ _ _ _ _ _ _ _ .std rfl)
theorem enterW {P : Program} {tab : Tab} (hT : TabOK P tab) (hmix : P.follows .mixedOrders = true) {f : FuncId} {fn : Func} {code : Code} (hf : P.funcs[f]? = some fn) (hb : fn.body = some code) {c : C} (hc : comp tab code = some c) (hF : FuncsOK P (callsC c)) {rs : List RVar}
    (hr : compRes tab fn.results.toList = some rs) {nt_ : Nat} (hnt : fn.ntmps = nt_) {args : List V} {H0 : Heap} {n0 : Nat} {es : List Nat} {k : KH} (hn0 : H0.length = n0) (hle : Nat.ble args.length nt_ = true)
    (h : ∀ ob ib ic sb cat iu nt an be pk wr tn iN aN sN lN eN bt sub sl rn ofB mn dc dn sI X, Ax ob ib ic sb cat iu nt an be pk wr tn iN aN sN lN eN bt sub sl rn ofB mn dc dn sI → Cx.std P tab n0 ⟨es, false⟩ = X → vc ⟨ob, ib, ic, sb, cat, iu, nt, an, be, pk, wr, tn, iN, aN, sN, lN, eN, bt, sub, sl, rn, ofB, mn, dc, dn, sI⟩ X c (RetK ⟨ob, ib, ic, sb, cat, iu, nt, an, be, pk, wr, tn, iN, aN, sN, lN, eN, bt, sub, sl, rn, ofB, mn, dc, dn, sI⟩ rs fun v H => ∃ r H', k r H' ∧ IntoR n0 v H r H') (frame args nt_) H0) : CALLW P f es args H0 k :=
  call_bodyW hT hmix hf hb hc hF hr hnt (Nat.le_of_ble_eq_true hle) hn0 (h _ _ _ _ _ _ _ _ _ _ _ _ _ _ _ _ _ _ _ _ _ _ _ _ _ _ _ .std rfl)
theorem enterC {P : Program} {tab : Tab} (hT : TabOK P tab) (hmix : P.follows .mixedOrders = true) {f : FuncId} {fn : Func} {code : Code} (hf : P.funcs[f]? = some fn) (hb : fn.body = some code) {c : C} (hc : comp tab code = some c) (hF : FuncsOK P (callsC c)) {rs : List RVar}
    (hr : compRes tab fn.results.toList = some rs) {nt_ : Nat} (hnt : fn.ntmps = nt_) {args : List V} {v0 : Value} (hle : Nat.ble args.length nt_ = true)
    (h : ∀ ob ib ic sb cat iu nt an be pk wr tn iN aN sN lN eN bt sub sl rn ofB mn dc dn sI X, Ax ob ib ic sb cat iu nt an be pk wr tn iN aN sN lN eN bt sub sl rn ofB mn dc dn sI → Cx.std P tab 0 ⟨[], true⟩ = X → vc ⟨ob, ib, ic, sb, cat, iu, nt, an, be, pk, wr, tn, iN, aN, sN, lN, eN, bt, sub, sl, rn, ofB, mn, dc, dn, sI⟩ X c (RetK ⟨ob, ib, ic, sb, cat, iu, nt, an, be, pk, wr, tn, iN, aN, sN, lN, eN, bt, sub, sl, rn, ofB, mn, dc, dn, sI⟩ rs fun v H => ∃ r H', (r = .u (.sc v0) ∧ H' = []) ∧ IntoR 0 v H r H') (frame (oldVs args) nt_) []) : CALL P f args [] (fun r H' => r = .u (.sc v0) ∧ H' = []) :=
  call_bodyC hT hmix hf hb hc hF hr hnt (Nat.le_of_ble_eq_true hle) (h _ _ _ _ _ _ _ _ _ _ _ _ _ _ _ _ _ _ _ _ _ _ _ _ _ _ _ .std rfl)
theorem Cx.fok_of {P : Program} {tab : Tab} {n0 : Nat} {md : Md} {X : Cx} (hX : Cx.std P tab n0 md = X) {f : FuncId} {fs : List FuncId} (h : FuncsOK P fs) (hf : memN f fs = true) : X.fok f := by
  subst hX
  exact h f ((memN_spec f fs).1 hf)
theorem Cx.may_cov {P : Program} {tab : Tab} {n0 : Nat} {es0 : List Nat} {X : Cx} (hX : Cx.std P tab n0 ⟨es0, true⟩ = X) {es : List Nat} : X.may es := by
  subst hX
  exact .inl rfl
theorem Cx.may_of {P : Program} {tab : Tab} {n0 : Nat} {es0 : List Nat} {cov : Bool} {X : Cx} (hX : Cx.std P tab n0 ⟨es0, cov⟩ = X) {es : List Nat} (h : es.all (fun e => memN e es0) = true) : X.may es := by
  subst hX
  exact .inr fun e he => (memN_spec e es0).1 (List.all_eq_true.1 h e he)
theorem IntoR.same {n0 : Nat} {v : V} {H : Heap} (m : IdMap) (h : Wk n0 m [] H H) (hv : fitV H m [] v v) : IntoR n0 v H v H := ⟨m, [], h, hv⟩
end Am
end
