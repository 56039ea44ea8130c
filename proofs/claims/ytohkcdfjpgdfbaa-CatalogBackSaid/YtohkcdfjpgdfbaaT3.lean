/- Part 3 of the proof of CatalogBackSaid: K25, K26, K27, K28, K29, K30, K31, K32, K33, K34, KR, K36. -/
import Derived.Test.YtohkcdfjpgdfbaaT2
section
open Go Am
set_option maxRecDepth 100000
set_option maxHeartbeats 4000000
set_option linter.unusedVariables false
set_option linter.unusedSimpArgs false
namespace Ytohkcdfjpgdfbaa
theorem ct48 (o : Tg) (n : Nat) (nm : Nat → ByteArray) (id : Nat → Int) (hn : n ≤ 100000) (x : Int) (t : Bool) (ht : t = true ↔ ∃ i, i < n ∧ id i = x) :
    CT Go.Proofs.Try.prog 48 [catS o n nm id, .fv (.func 49) [] [.pb 0 0]] [.box [scI .u64 x]] (scB t) [.box [scI .u64 x]] := by
  refine enter48 rfl rfl ?_
  intro ob ib ic sb cat iu nt an be pk wr tn iN aN sN lN eN bt sub sl rn ofB mn dc dn sI X hE hX
  cbv
  obtain ⟨q, hq, h1, h2⟩ : ∃ q, q ≤ n ∧ (∀ i, i < q → id i ≠ x) ∧ (q < n → id q = x) := by
    clear ht hE hX
    induction n with
    | zero => exact ⟨0, by omega, fun i hi => by omega, fun h => by omega⟩
    | succ n ih =>
      obtain ⟨q, hq, h1, h2⟩ := ih (by omega)
      rcases Nat.eq_or_lt_of_le hq with h3 | h3
      · by_cases h4 : id n = x
        · exact ⟨n, by omega, fun i hi => h1 i (by omega), fun _ => h4⟩
        · exact ⟨n + 1, by omega, fun i hi => by
            rcases Nat.lt_or_ge i n with h5 | h5
            · exact h1 i (by omega)
            · rwa [show i = n by omega], fun h => by omega⟩
      · exact ⟨q, by omega, h1, fun _ => h2 h3⟩
  obtain ⟨z, hz⟩ : ∃ z : Int, z = if q < n then (q : Int) else -1 := ⟨_, rfl⟩
  refine call_ct hX [some 0] [] (ct72 o n nm id hn x q hq h1 h2 z hz) ⟨⟨rfl, rfl, rfl, rfl, by (cbv <;> (repeat' first | exact True.intro | exact ⟨.inr trivial, fun _ _ => rfl⟩ | exact rfl | exact fun _ _ => rfl | refine And.intro ?_ ?_ | rw [hE.iN0] | rw [hE.e_aN]))⟩, ⟨fitU_refl _, ⟨rfl, trivial, ⟨⟨rfl, rfl⟩, trivial⟩⟩, trivial⟩, rfl⟩ rfl trivial ?_
  have hc : ic .geq z 0 = t := by
    rw [hE.geq, hz]
    by_cases h3 : q < n
    · rw [if_pos h3, ht.2 ⟨q, h3, h2 h3⟩]; exact decide_eq_true (by omega)
    · rw [if_neg h3]
      cases t
      · rfl
      · obtain ⟨i, hi, he⟩ := ht.1 rfl
        exact absurd he (h1 i (by omega))
  cbv; (repeat ((first | rewrite [hc] | rewrite [hE.ntT] | rewrite [hE.ntF] | rewrite [hE.pkT] | rewrite [hE.pkF] | rewrite [hE.anT] | rewrite [hE.anF] | rewrite [hE.anT'] | rewrite [hE.anF']); (repeat (first | rewrite [hc] | rewrite [hE.ntT] | rewrite [hE.ntF] | rewrite [hE.pkT] | rewrite [hE.pkF] | rewrite [hE.anT] | rewrite [hE.anF] | rewrite [hE.anT'] | rewrite [hE.anF'])); cbv)); (repeat first | refine ⟨(fun h => absurd h Bool.false_ne_true), ?_⟩ | refine ⟨(hE.o (by simp only [Ob.den, hE.e_iN, hE.e_tn, hE.e_aN, hE.e_sN, hE.e_sI, hE.e_mn] <;> omega)), ?_⟩ | refine ⟨fun _ => (hE.o (by simp only [Ob.den, hE.e_iN, hE.e_tn, hE.e_aN, hE.e_sN, hE.e_sI, hE.e_mn] <;> omega)), ?_⟩ | refine ⟨fun h => h, ?_⟩ | refine ⟨fun _ => rfl, ?_⟩ | refine ⟨fun _ h => h, ?_⟩ | refine ⟨fun _ _ => True.intro, ?_⟩ | refine ⟨fun _ h => absurd h Bool.false_ne_true, ?_⟩ | refine ⟨fun _ => True.intro, ?_⟩ | refine ⟨fun _ _ => rfl, ?_⟩ | refine ⟨(fun h => Bool.noConfusion h), ?_⟩ | refine ⟨True.intro, ?_⟩)
  exact ct_end ⟨[some 0], [], ⟨rfl, rfl, rfl, rfl, by (cbv <;> (repeat' first | exact True.intro | exact ⟨.inr trivial, fun _ _ => rfl⟩ | exact rfl | exact fun _ _ => rfl | refine And.intro ?_ ?_ | rw [hE.iN0] | rw [hE.e_aN]))⟩, fitU_refl _⟩
theorem ct50 (n : Nat) (f g h : Nat → List U) (hn : n ≤ 100000) (p : Nat) (hp : p ≤ n) (z : Int) (hz : IsN z p) (hh : ∀ i, i < n + 1 → h i = if i < p then f i else if i = p then g 0 else f (i - 1)) :
    CT Go.Proofs.Try.prog 50 [.sr 0 2 0 n, scI .i64 z, .sr 1 2 0 1] [.arr 75 2 n f, .arr 75 2 1 g] (.u (.sv (.new 75) 2 (n + 1) h)) [.gone, .gone] := by
  refine enter50 rfl rfl ?_
  intro ob ib ic sb cat iu nt an be pk wr tn iN aN sN lN eN bt sub sl rn ofB mn dc dn sI X hE hX
  cbv
  have hz2 : z = iN p := by rw [hE.e_iN, hz.e]
  have hc1 : ic .eql (iN 1) 0 = false := by rw [hE.eql, hE.e_iN]; rfl
  subst hz2
  have ha1 : ib .add .i64 (iN n) (iN 1) = iN (n + 1) := hE.addN (by omega)
  have ha2 : ib .sub .i64 (iN (n + 1)) (iN p) = iN (n + 1 - p) := hE.subN (by omega) (by omega)
  have ha3 : ib .add .i64 (iN p) (iN 1) = iN (p + 1) := hE.addN (by omega)
  by_cases h1 : p = n
  · subst h1
    have hc2 : ic .eql (iN p) (iN p) = true := by rw [hE.eqN]; simp
    cbv; (repeat ((first | rewrite [hc1] | rewrite [hc2] | rewrite [hE.ntT] | rewrite [hE.ntF] | rewrite [hE.pkT] | rewrite [hE.pkF] | rewrite [hE.anT] | rewrite [hE.anF] | rewrite [hE.anT'] | rewrite [hE.anF']); (repeat (first | rewrite [hc1] | rewrite [hc2] | rewrite [hE.ntT] | rewrite [hE.ntF] | rewrite [hE.pkT] | rewrite [hE.pkF] | rewrite [hE.anT] | rewrite [hE.anF] | rewrite [hE.anT'] | rewrite [hE.anF'])); cbv)); (repeat first | refine ⟨(fun h => absurd h Bool.false_ne_true), ?_⟩ | refine ⟨(hE.o (by simp only [Ob.den, hE.e_iN, hE.e_tn, hE.e_aN, hE.e_sN, hE.e_sI, hE.e_mn] <;> omega)), ?_⟩ | refine ⟨fun _ => (hE.o (by simp only [Ob.den, hE.e_iN, hE.e_tn, hE.e_aN, hE.e_sN, hE.e_sI, hE.e_mn] <;> omega)), ?_⟩ | refine ⟨fun h => h, ?_⟩ | refine ⟨fun _ => rfl, ?_⟩ | refine ⟨fun _ h => h, ?_⟩ | refine ⟨fun _ _ => True.intro, ?_⟩ | refine ⟨fun _ h => absurd h Bool.false_ne_true, ?_⟩ | refine ⟨fun _ => True.intro, ?_⟩ | refine ⟨fun _ _ => rfl, ?_⟩ | refine ⟨(fun h => Bool.noConfusion h), ?_⟩ | refine ⟨True.intro, ?_⟩)
    refine ct_end ⟨[some 0, some 1], [2], ⟨rfl, rfl, rfl, rfl, trivial, trivial, trivial⟩, ⟨rfl, rfl, rfl, rfl, hE.e_aN, by rw [hE.e_aN]; omega, fun i hi => ?_⟩⟩
    rw [Nat.zero_add, hh i hi]
    show (if lN i p = true then f i else g (sN i p)) = _
    rw [hE.e_lN, hE.e_sN]
    rcases Nat.lt_or_ge i p with h3 | h3
    · rw [if_pos (decide_eq_true h3), if_pos h3]
    · obtain rfl : i = p := by omega
      simp
  · have hc2 : ic .eql (iN p) (iN n) = false := by rw [hE.eqN]; exact decide_eq_false h1
    cbv; (repeat ((first | rewrite [hc1] | rewrite [hc2] | rewrite [ha1] | rewrite [ha2] | rewrite [ha3] | rewrite [hE.ntT] | rewrite [hE.ntF] | rewrite [hE.pkT] | rewrite [hE.pkF] | rewrite [hE.anT] | rewrite [hE.anF] | rewrite [hE.anT'] | rewrite [hE.anF']); (repeat (first | rewrite [hc1] | rewrite [hc2] | rewrite [ha1] | rewrite [ha2] | rewrite [ha3] | rewrite [hE.ntT] | rewrite [hE.ntF] | rewrite [hE.pkT] | rewrite [hE.pkF] | rewrite [hE.anT] | rewrite [hE.anF] | rewrite [hE.anT'] | rewrite [hE.anF'])); cbv)); (repeat first | refine ⟨(fun h => absurd h Bool.false_ne_true), ?_⟩ | refine ⟨(hE.o (by simp only [Ob.den, hE.e_iN, hE.e_tn, hE.e_aN, hE.e_sN, hE.e_sI, hE.e_mn] <;> omega)), ?_⟩ | refine ⟨fun _ => (hE.o (by simp only [Ob.den, hE.e_iN, hE.e_tn, hE.e_aN, hE.e_sN, hE.e_sI, hE.e_mn] <;> omega)), ?_⟩ | refine ⟨fun h => h, ?_⟩ | refine ⟨fun _ => rfl, ?_⟩ | refine ⟨fun _ h => h, ?_⟩ | refine ⟨fun _ _ => True.intro, ?_⟩ | refine ⟨fun _ h => absurd h Bool.false_ne_true, ?_⟩ | refine ⟨fun _ => True.intro, ?_⟩ | refine ⟨fun _ _ => rfl, ?_⟩ | refine ⟨(fun h => Bool.noConfusion h), ?_⟩ | refine ⟨True.intro, ?_⟩)
    intro c hl _ hm
    have hl := hE.od hl
    simp only [Ob.den] at hl
    by_cases h2 : c < n + 1
    · have hc3 : ic .gtr (iN (n + 1)) (iN c) = true := by rw [hE.gtN]; exact decide_eq_true h2
      cbv; (repeat ((first | rewrite [hc3] | rewrite [ha1] | rewrite [ha2] | rewrite [ha3] | rewrite [hE.tnN] | rewrite [hE.ntT] | rewrite [hE.ntF] | rewrite [hE.pkT] | rewrite [hE.pkF] | rewrite [hE.anT] | rewrite [hE.anF] | rewrite [hE.anT'] | rewrite [hE.anF']); (repeat (first | rewrite [hc3] | rewrite [ha1] | rewrite [ha2] | rewrite [ha3] | rewrite [hE.tnN] | rewrite [hE.ntT] | rewrite [hE.ntF] | rewrite [hE.pkT] | rewrite [hE.pkF] | rewrite [hE.anT] | rewrite [hE.anF] | rewrite [hE.anT'] | rewrite [hE.anF'])); cbv)); (repeat first | refine ⟨(fun h => absurd h Bool.false_ne_true), ?_⟩ | refine ⟨(hE.o (by simp only [Ob.den, hE.e_iN, hE.e_tn, hE.e_aN, hE.e_sN, hE.e_sI, hE.e_mn] <;> omega)), ?_⟩ | refine ⟨fun _ => (hE.o (by simp only [Ob.den, hE.e_iN, hE.e_tn, hE.e_aN, hE.e_sN, hE.e_sI, hE.e_mn] <;> omega)), ?_⟩ | refine ⟨fun h => h, ?_⟩ | refine ⟨fun _ => rfl, ?_⟩ | refine ⟨fun _ h => h, ?_⟩ | refine ⟨fun _ _ => True.intro, ?_⟩ | refine ⟨fun _ h => absurd h Bool.false_ne_true, ?_⟩ | refine ⟨fun _ => True.intro, ?_⟩ | refine ⟨fun _ _ => rfl, ?_⟩ | refine ⟨(fun h => Bool.noConfusion h), ?_⟩ | refine ⟨True.intro, ?_⟩)
      have hm1 : tn (mn (iN 1) (iN (tn (sI (iN (aN p (n + 1 - p))) (iN p))))) = 1 := by
        simp only [hE.e_aN, hE.e_sI, hE.e_mn, hE.e_tn, hE.e_iN]; split <;> omega
      have hm2 : tn (mn (iN (tn (sI (iN n) (iN p)))) (iN (tn (sI (iN (aN p (n + 1 - p))) (iN (p + 1)))))) = n - p := by
        simp only [hE.e_aN, hE.e_sI, hE.e_mn, hE.e_tn, hE.e_iN]; split <;> omega
      rw [hm1, hm2]
      refine ct_end ⟨[some 0, some 1], [2], ⟨rfl, rfl, rfl, rfl, trivial, trivial, trivial⟩, ⟨rfl, rfl, rfl, rfl, by rw [hE.e_aN]; omega, by rw [hE.e_aN]; omega, fun i hi => ?_⟩⟩
      rw [Nat.zero_add, hh i hi]
      simp only [rowsPut, hE.e_lN, hE.e_sN, hE.e_aN, decide_eq_true_eq]
      rcases Nat.lt_trichotomy i p with h3 | h3 | h3
      · simp only [h3, show i < p + 1 by omega, if_true]
      · simp only [h3, show p < p + 1 by omega, Nat.lt_irrefl, if_true, if_false, Nat.sub_self, show 0 < 1 by omega]
      · simp only [show ¬ i < p + 1 by omega, show ¬ i < p by omega, show i - (p + 1) < n - p by omega, show ¬ i = p by omega, if_true, if_false]
        congr 1; omega
    · have hc3 : ic .gtr (iN (n + 1)) (iN c) = false := by rw [hE.gtN]; exact decide_eq_false h2
      cbv; (repeat ((first | rewrite [hc3] | rewrite [ha1] | rewrite [ha2] | rewrite [ha3] | rewrite [hE.tnN] | rewrite [hE.ntT] | rewrite [hE.ntF] | rewrite [hE.pkT] | rewrite [hE.pkF] | rewrite [hE.anT] | rewrite [hE.anF] | rewrite [hE.anT'] | rewrite [hE.anF']); (repeat (first | rewrite [hc3] | rewrite [ha1] | rewrite [ha2] | rewrite [ha3] | rewrite [hE.tnN] | rewrite [hE.ntT] | rewrite [hE.ntF] | rewrite [hE.pkT] | rewrite [hE.pkF] | rewrite [hE.anT] | rewrite [hE.anF] | rewrite [hE.anT'] | rewrite [hE.anF'])); cbv)); (repeat first | refine ⟨(fun h => absurd h Bool.false_ne_true), ?_⟩ | refine ⟨(hE.o (by simp only [Ob.den, hE.e_iN, hE.e_tn, hE.e_aN, hE.e_sN, hE.e_sI, hE.e_mn] <;> omega)), ?_⟩ | refine ⟨fun _ => (hE.o (by simp only [Ob.den, hE.e_iN, hE.e_tn, hE.e_aN, hE.e_sN, hE.e_sI, hE.e_mn] <;> omega)), ?_⟩ | refine ⟨fun h => h, ?_⟩ | refine ⟨fun _ => rfl, ?_⟩ | refine ⟨fun _ h => h, ?_⟩ | refine ⟨fun _ _ => True.intro, ?_⟩ | refine ⟨fun _ h => absurd h Bool.false_ne_true, ?_⟩ | refine ⟨fun _ => True.intro, ?_⟩ | refine ⟨fun _ _ => rfl, ?_⟩ | refine ⟨(fun h => Bool.noConfusion h), ?_⟩ | refine ⟨True.intro, ?_⟩)
      refine callx_overlaps hX (tS := 48) (tR := 4) (e := 75) (size := 2) Go.Proofs.Try.func73 (by kernel_rfl) (by kernel_rfl) (by kernel_rfl) (by kernel_rfl) (by kernel_rfl) (fun w => by rfl) (by omega) (by omega) (by rw [hE.e_sI, hE.e_tn, hE.e_iN, hE.e_iN]; omega) ?_
      cbv; (repeat ((first | rewrite [ha1] | rewrite [ha2] | rewrite [ha3] | rewrite [hE.tnN] | rewrite [hE.ntT] | rewrite [hE.ntF] | rewrite [hE.pkT] | rewrite [hE.pkF] | rewrite [hE.anT] | rewrite [hE.anF] | rewrite [hE.anT'] | rewrite [hE.anF']); (repeat (first | rewrite [ha1] | rewrite [ha2] | rewrite [ha3] | rewrite [hE.tnN] | rewrite [hE.ntT] | rewrite [hE.ntF] | rewrite [hE.pkT] | rewrite [hE.pkF] | rewrite [hE.anT] | rewrite [hE.anF] | rewrite [hE.anT'] | rewrite [hE.anF'])); cbv)); (repeat first | refine ⟨(fun h => absurd h Bool.false_ne_true), ?_⟩ | refine ⟨(hE.o (by simp only [Ob.den, hE.e_iN, hE.e_tn, hE.e_aN, hE.e_sN, hE.e_sI, hE.e_mn] <;> omega)), ?_⟩ | refine ⟨fun _ => (hE.o (by simp only [Ob.den, hE.e_iN, hE.e_tn, hE.e_aN, hE.e_sN, hE.e_sI, hE.e_mn] <;> omega)), ?_⟩ | refine ⟨fun h => h, ?_⟩ | refine ⟨fun _ => rfl, ?_⟩ | refine ⟨fun _ h => h, ?_⟩ | refine ⟨fun _ _ => True.intro, ?_⟩ | refine ⟨fun _ h => absurd h Bool.false_ne_true, ?_⟩ | refine ⟨fun _ => True.intro, ?_⟩ | refine ⟨fun _ _ => rfl, ?_⟩ | refine ⟨(fun h => Bool.noConfusion h), ?_⟩ | refine ⟨True.intro, ?_⟩)
      have hm1 : tn (mn (iN 1) (iN (tn (sI (iN n.succ) (iN p))))) = 1 := by
        simp only [hE.e_aN, hE.e_sI, hE.e_mn, hE.e_tn, hE.e_iN]; split <;> omega
      have hm2 : tn (mn (iN (tn (sI (iN n.succ) (iN p)))) (iN (tn (sI (iN n.succ) (iN (p + 1)))))) = n - p := by
        simp only [hE.e_aN, hE.e_sI, hE.e_mn, hE.e_tn, hE.e_iN]; split <;> omega
      rw [hm1, hm2]
      refine ct_end ⟨[some 0, some 1], [0], ⟨rfl, rfl, rfl, rfl, trivial, trivial, trivial⟩, ⟨rfl, rfl, rfl, rfl, rfl, by simp only [hE.e_aN, hE.e_sN]; omega, fun i hi => ?_⟩⟩
      rw [Nat.zero_add, hh i hi]
      simp only [rowsPut, hE.e_lN, hE.e_sN, hE.e_aN, decide_eq_true_eq]
      rcases Nat.lt_trichotomy i p with h3 | h3 | h3
      · simp only [h3, show i < p + 1 by omega, if_true]
      · simp only [h3, show p < p + 1 by omega, Nat.lt_irrefl, if_true, if_false, Nat.sub_self, show 0 < 1 by omega]
      · simp only [show ¬ i < p + 1 by omega, show ¬ i < p by omega, show i - (p + 1) < n - p by omega, show ¬ i = p by omega, show ¬ i - p < 1 by omega, if_true, if_false]
        congr 1; omega
end Ytohkcdfjpgdfbaa
end
section
open Go Am
set_option maxRecDepth 100000
set_option maxHeartbeats 4000000
set_option linter.unusedVariables false
set_option linter.unusedSimpArgs false
namespace Ytohkcdfjpgdfbaa
def insF {α : Type} (p : Nat) (f : Nat → α) (a : α) (i : Nat) : α := if i < p then f i else if i = p then a else f (i - 1)
inductive BindR (n : Nat) (nm : Nat → ByteArray) (id : Nat → Int) (s : ByteArray) (x : Int) : Int → Nat → (Nat → ByteArray) → (Nat → Int) → Prop
  | wrong (a b) (h : ¬ Rt n nm id) : BindR n nm id s x 2 0 a b
  | name (a b) (h : Rt n nm id) (hn : nmB s = false) : BindR n nm id s x 170 0 a b
  | exist (a b) (h : Rt n nm id) (hn : nmB s = true) (p : Nat) (hp : p < n) (e : nm p = s) : BindR n nm id s x 81 0 a b
  | arg (a b) (h : Rt n nm id) (hn : nmB s = true) (hne : ∀ p, p < n → nm p ≠ s) (hx : x = 0 ∨ ∃ i, i < n ∧ id i = x) : BindR n nm id s x 2 0 a b
  | ok (a b) (h : Rt n nm id) (hn : nmB s = true) (hne : ∀ p, p < n → nm p ≠ s) (hx : x ≠ 0) (hxn : ∀ i, i < n → id i ≠ x) (p : Nat) (hp : p ≤ n) (hs : ∀ i, i < n → bL (nm i) s = decide (i < p)) (ha : ∀ i, a i = insF p nm s i) (hb : ∀ i, b i = insF p id x i) : BindR n nm id s x 0 (n + 1) a b
theorem bindR_ex (n : Nat) (nm : Nat → ByteArray) (id : Nat → Int) (s : ByteArray) (x : Int) : ∃ e m a b, BindR n nm id s x e m a b := by
  by_cases h : Rt n nm id
  · cases hn : nmB s
    · exact ⟨_, _, nm, id, .name _ _ h hn⟩
    · by_cases hp : ∃ p, p < n ∧ nm p = s
      · obtain ⟨p, h1, h2⟩ := hp
        exact ⟨_, _, nm, id, .exist _ _ h hn p h1 h2⟩
      · have hne : ∀ p, p < n → nm p ≠ s := fun p h1 h2 => hp ⟨p, h1, h2⟩
        by_cases hx : x = 0 ∨ ∃ i, i < n ∧ id i = x
        · exact ⟨_, _, nm, id, .arg _ _ h hn hne hx⟩
        · obtain ⟨p, h1, h2⟩ := h.place s
          exact ⟨_, _, _, _, .ok _ _ h hn hne (fun e => hx (.inl e)) (fun i hi e => hx (.inr ⟨i, hi, e⟩)) p h1 h2 (fun _ => rfl) fun _ => rfl⟩
  · exact ⟨_, _, nm, id, .wrong _ _ h⟩
theorem ct21 (o : Tg) (n : Nat) (nm : Nat → ByteArray) (id : Nat → Int) (hn : n ≤ 100000) (s : ByteArray) (x : Int) (e : Int) (m : Nat) (nm' : Nat → ByteArray) (id' : Nat → Int) (hr : BindR n nm id s x e m nm' id') :
    CT Go.Proofs.Try.prog 21 [catS o n nm id, strV s, scI .u64 x] [] (.tp [catS (.new 75) m nm' id', scI .i64 e]) [] := by
  refine enter21 rfl rfl ?_
  intro ob ib ic sb cat iu nt an be pk wr tn iN aN sN lN eN bt sub sl rn ofB mn dc dn sI X hE hX
  cbv
  obtain ⟨b, hb⟩ : ∃ b : Bool, b = true ↔ Rt n nm id := by by_cases h : Rt n nm id; exact ⟨true, by simp [h]⟩; exact ⟨false, by simp [h]⟩
  refine call_ct hX [] [1] (ct46 o (.new 9) n nm id hn 1 (fun _ => s) (by omega) b hb (nmB s) all1) (fits_fz rfl ⟨fitU_refl _, ⟨rfl, rfl, rfl, rfl, rfl, by omega, fun i hi => by obtain rfl : i = 0 := (by omega); rfl⟩, trivial⟩) rfl ⟨trivial, trivial⟩ ?_
  have e1 : ic .neq 2 0 = true := by rw [hE.neq]; rfl
  have e2 : ic .neq 170 0 = true := by rw [hE.neq]; rfl
  have e3 : ic .neq 0 0 = false := by rw [hE.neq]; rfl
  cases hr with
  | wrong _ _ h =>
    rw [bfalse fun e => h (hb.1 e), show mayE false (nmB s) = 2 by rfl]
    cbv; (repeat ((first | rewrite [e1] | rewrite [hE.ntT] | rewrite [hE.ntF] | rewrite [hE.pkT] | rewrite [hE.pkF] | rewrite [hE.anT] | rewrite [hE.anF] | rewrite [hE.anT'] | rewrite [hE.anF']); (repeat (first | rewrite [e1] | rewrite [hE.ntT] | rewrite [hE.ntF] | rewrite [hE.pkT] | rewrite [hE.pkF] | rewrite [hE.anT] | rewrite [hE.anF] | rewrite [hE.anT'] | rewrite [hE.anF'])); cbv)); (repeat first | refine ⟨(fun h => absurd h Bool.false_ne_true), ?_⟩ | refine ⟨(hE.o (by simp only [Ob.den, hE.e_iN, hE.e_tn, hE.e_aN, hE.e_sN, hE.e_sI, hE.e_mn] <;> omega)), ?_⟩ | refine ⟨fun _ => (hE.o (by simp only [Ob.den, hE.e_iN, hE.e_tn, hE.e_aN, hE.e_sN, hE.e_sI, hE.e_mn] <;> omega)), ?_⟩ | refine ⟨fun h => h, ?_⟩ | refine ⟨fun _ => rfl, ?_⟩ | refine ⟨fun _ h => h, ?_⟩ | refine ⟨fun _ _ => True.intro, ?_⟩ | refine ⟨fun _ h => absurd h Bool.false_ne_true, ?_⟩ | refine ⟨fun _ => True.intro, ?_⟩ | refine ⟨fun _ _ => rfl, ?_⟩ | refine ⟨(fun h => Bool.noConfusion h), ?_⟩ | refine ⟨True.intro, ?_⟩)
    exact ct_flat [] rfl ⟨rfl, fitU_refl _, trivial⟩
  | name _ _ h h1 =>
    rw [hb.2 h, h1, show mayE true false = 170 by rfl]
    cbv; (repeat ((first | rewrite [e2] | rewrite [hE.ntT] | rewrite [hE.ntF] | rewrite [hE.pkT] | rewrite [hE.pkF] | rewrite [hE.anT] | rewrite [hE.anF] | rewrite [hE.anT'] | rewrite [hE.anF']); (repeat (first | rewrite [e2] | rewrite [hE.ntT] | rewrite [hE.ntF] | rewrite [hE.pkT] | rewrite [hE.pkF] | rewrite [hE.anT] | rewrite [hE.anF] | rewrite [hE.anT'] | rewrite [hE.anF'])); cbv)); (repeat first | refine ⟨(fun h => absurd h Bool.false_ne_true), ?_⟩ | refine ⟨(hE.o (by simp only [Ob.den, hE.e_iN, hE.e_tn, hE.e_aN, hE.e_sN, hE.e_sI, hE.e_mn] <;> omega)), ?_⟩ | refine ⟨fun _ => (hE.o (by simp only [Ob.den, hE.e_iN, hE.e_tn, hE.e_aN, hE.e_sN, hE.e_sI, hE.e_mn] <;> omega)), ?_⟩ | refine ⟨fun h => h, ?_⟩ | refine ⟨fun _ => rfl, ?_⟩ | refine ⟨fun _ h => h, ?_⟩ | refine ⟨fun _ _ => True.intro, ?_⟩ | refine ⟨fun _ h => absurd h Bool.false_ne_true, ?_⟩ | refine ⟨fun _ => True.intro, ?_⟩ | refine ⟨fun _ _ => rfl, ?_⟩ | refine ⟨(fun h => Bool.noConfusion h), ?_⟩ | refine ⟨True.intro, ?_⟩)
    exact ct_flat [] rfl ⟨rfl, fitU_refl _, trivial⟩
  | exist _ _ h h1 q hq he =>
    rw [hb.2 h, h1, show mayE true true = 0 by rfl]
    cbv; (repeat ((first | rewrite [e3] | rewrite [hE.ntT] | rewrite [hE.ntF] | rewrite [hE.pkT] | rewrite [hE.pkF] | rewrite [hE.anT] | rewrite [hE.anF] | rewrite [hE.anT'] | rewrite [hE.anF']); (repeat (first | rewrite [e3] | rewrite [hE.ntT] | rewrite [hE.ntF] | rewrite [hE.pkT] | rewrite [hE.pkF] | rewrite [hE.anT] | rewrite [hE.anF] | rewrite [hE.anT'] | rewrite [hE.anF'])); cbv)); (repeat first | refine ⟨(fun h => absurd h Bool.false_ne_true), ?_⟩ | refine ⟨(hE.o (by simp only [Ob.den, hE.e_iN, hE.e_tn, hE.e_aN, hE.e_sN, hE.e_sI, hE.e_mn] <;> omega)), ?_⟩ | refine ⟨fun _ => (hE.o (by simp only [Ob.den, hE.e_iN, hE.e_tn, hE.e_aN, hE.e_sN, hE.e_sI, hE.e_mn] <;> omega)), ?_⟩ | refine ⟨fun h => h, ?_⟩ | refine ⟨fun _ => rfl, ?_⟩ | refine ⟨fun _ h => h, ?_⟩ | refine ⟨fun _ _ => True.intro, ?_⟩ | refine ⟨fun _ h => absurd h Bool.false_ne_true, ?_⟩ | refine ⟨fun _ => True.intro, ?_⟩ | refine ⟨fun _ _ => rfl, ?_⟩ | refine ⟨(fun h => Bool.noConfusion h), ?_⟩ | refine ⟨True.intro, ?_⟩)
    obtain ⟨p, hp, hs⟩ := h.place s
    obtain rfl := h.at hp hs hq he
    obtain ⟨z, hz⟩ : ∃ z : Int, IsN z q := ⟨_, ⟨rfl⟩⟩
    refine call_ct hX [] [] (ct47 o n nm id hn s q hp hs z hz true ⟨fun _ => ⟨hq, he⟩, fun _ => rfl⟩) (fits_nil ⟨fitU_refl _, fitU_refl _, trivial⟩) rfl trivial ?_
    cbv
    exact ct_flat [] rfl ⟨rfl, fitU_refl _, trivial⟩
  | arg _ _ h h1 hne hx =>
    rw [hb.2 h, h1, show mayE true true = 0 by rfl]
    cbv; (repeat ((first | rewrite [e3] | rewrite [hE.ntT] | rewrite [hE.ntF] | rewrite [hE.pkT] | rewrite [hE.pkF] | rewrite [hE.anT] | rewrite [hE.anF] | rewrite [hE.anT'] | rewrite [hE.anF']); (repeat (first | rewrite [e3] | rewrite [hE.ntT] | rewrite [hE.ntF] | rewrite [hE.pkT] | rewrite [hE.pkF] | rewrite [hE.anT] | rewrite [hE.anF] | rewrite [hE.anT'] | rewrite [hE.anF'])); cbv)); (repeat first | refine ⟨(fun h => absurd h Bool.false_ne_true), ?_⟩ | refine ⟨(hE.o (by simp only [Ob.den, hE.e_iN, hE.e_tn, hE.e_aN, hE.e_sN, hE.e_sI, hE.e_mn] <;> omega)), ?_⟩ | refine ⟨fun _ => (hE.o (by simp only [Ob.den, hE.e_iN, hE.e_tn, hE.e_aN, hE.e_sN, hE.e_sI, hE.e_mn] <;> omega)), ?_⟩ | refine ⟨fun h => h, ?_⟩ | refine ⟨fun _ => rfl, ?_⟩ | refine ⟨fun _ h => h, ?_⟩ | refine ⟨fun _ _ => True.intro, ?_⟩ | refine ⟨fun _ h => absurd h Bool.false_ne_true, ?_⟩ | refine ⟨fun _ => True.intro, ?_⟩ | refine ⟨fun _ _ => rfl, ?_⟩ | refine ⟨(fun h => Bool.noConfusion h), ?_⟩ | refine ⟨True.intro, ?_⟩)
    obtain ⟨p, hp, hs⟩ := h.place s
    obtain ⟨z, hz⟩ : ∃ z : Int, IsN z p := ⟨_, ⟨rfl⟩⟩
    refine call_ct hX [] [] (ct47 o n nm id hn s p hp hs z hz false ⟨fun e => (by cases e), fun e => absurd e.2 (hne p e.1)⟩) (fits_nil ⟨fitU_refl _, fitU_refl _, trivial⟩) rfl trivial ?_
    by_cases h0 : x = 0
    · have e4 : ic .eql x 0 = true := by rw [hE.eql]; exact decide_eq_true h0
      cbv; (repeat ((first | rewrite [e4] | rewrite [hE.ntT] | rewrite [hE.ntF] | rewrite [hE.pkT] | rewrite [hE.pkF] | rewrite [hE.anT] | rewrite [hE.anF] | rewrite [hE.anT'] | rewrite [hE.anF']); (repeat (first | rewrite [e4] | rewrite [hE.ntT] | rewrite [hE.ntF] | rewrite [hE.pkT] | rewrite [hE.pkF] | rewrite [hE.anT] | rewrite [hE.anF] | rewrite [hE.anT'] | rewrite [hE.anF'])); cbv)); (repeat first | refine ⟨(fun h => absurd h Bool.false_ne_true), ?_⟩ | refine ⟨(hE.o (by simp only [Ob.den, hE.e_iN, hE.e_tn, hE.e_aN, hE.e_sN, hE.e_sI, hE.e_mn] <;> omega)), ?_⟩ | refine ⟨fun _ => (hE.o (by simp only [Ob.den, hE.e_iN, hE.e_tn, hE.e_aN, hE.e_sN, hE.e_sI, hE.e_mn] <;> omega)), ?_⟩ | refine ⟨fun h => h, ?_⟩ | refine ⟨fun _ => rfl, ?_⟩ | refine ⟨fun _ h => h, ?_⟩ | refine ⟨fun _ _ => True.intro, ?_⟩ | refine ⟨fun _ h => absurd h Bool.false_ne_true, ?_⟩ | refine ⟨fun _ => True.intro, ?_⟩ | refine ⟨fun _ _ => rfl, ?_⟩ | refine ⟨(fun h => Bool.noConfusion h), ?_⟩ | refine ⟨True.intro, ?_⟩)
      exact ct_flat [] rfl ⟨rfl, fitU_refl _, trivial⟩
    · have e4 : ic .eql x 0 = false := by rw [hE.eql]; exact decide_eq_false h0
      cbv; (repeat ((first | rewrite [e4] | rewrite [hE.ntT] | rewrite [hE.ntF] | rewrite [hE.pkT] | rewrite [hE.pkF] | rewrite [hE.anT] | rewrite [hE.anF] | rewrite [hE.anT'] | rewrite [hE.anF']); (repeat (first | rewrite [e4] | rewrite [hE.ntT] | rewrite [hE.ntF] | rewrite [hE.pkT] | rewrite [hE.pkF] | rewrite [hE.anT] | rewrite [hE.anF] | rewrite [hE.anT'] | rewrite [hE.anF'])); cbv)); (repeat first | refine ⟨(fun h => absurd h Bool.false_ne_true), ?_⟩ | refine ⟨(hE.o (by simp only [Ob.den, hE.e_iN, hE.e_tn, hE.e_aN, hE.e_sN, hE.e_sI, hE.e_mn] <;> omega)), ?_⟩ | refine ⟨fun _ => (hE.o (by simp only [Ob.den, hE.e_iN, hE.e_tn, hE.e_aN, hE.e_sN, hE.e_sI, hE.e_mn] <;> omega)), ?_⟩ | refine ⟨fun h => h, ?_⟩ | refine ⟨fun _ => rfl, ?_⟩ | refine ⟨fun _ h => h, ?_⟩ | refine ⟨fun _ _ => True.intro, ?_⟩ | refine ⟨fun _ h => absurd h Bool.false_ne_true, ?_⟩ | refine ⟨fun _ => True.intro, ?_⟩ | refine ⟨fun _ _ => rfl, ?_⟩ | refine ⟨(fun h => Bool.noConfusion h), ?_⟩ | refine ⟨True.intro, ?_⟩)
      refine call_ct hX [some 0] [] (ct48 o n nm id hn x true ⟨fun _ => hx.resolve_left h0, fun _ => rfl⟩) ⟨⟨rfl, rfl, rfl, rfl, by (cbv <;> (repeat' first | exact True.intro | exact ⟨.inr trivial, fun _ _ => rfl⟩ | exact rfl | exact fun _ _ => rfl | refine And.intro ?_ ?_ | rw [hE.iN0] | rw [hE.e_aN]))⟩, ⟨fitU_refl _, ⟨rfl, trivial, ⟨⟨rfl, rfl⟩, trivial⟩⟩, trivial⟩, rfl⟩ rfl trivial ?_
      cbv; (repeat ((first | rewrite [hE.ntT] | rewrite [hE.ntF] | rewrite [hE.pkT] | rewrite [hE.pkF] | rewrite [hE.anT] | rewrite [hE.anF] | rewrite [hE.anT'] | rewrite [hE.anF']); (repeat (first | rewrite [hE.ntT] | rewrite [hE.ntF] | rewrite [hE.pkT] | rewrite [hE.pkF] | rewrite [hE.anT] | rewrite [hE.anF] | rewrite [hE.anT'] | rewrite [hE.anF'])); cbv)); (repeat first | refine ⟨(fun h => absurd h Bool.false_ne_true), ?_⟩ | refine ⟨(hE.o (by simp only [Ob.den, hE.e_iN, hE.e_tn, hE.e_aN, hE.e_sN, hE.e_sI, hE.e_mn] <;> omega)), ?_⟩ | refine ⟨fun _ => (hE.o (by simp only [Ob.den, hE.e_iN, hE.e_tn, hE.e_aN, hE.e_sN, hE.e_sI, hE.e_mn] <;> omega)), ?_⟩ | refine ⟨fun h => h, ?_⟩ | refine ⟨fun _ => rfl, ?_⟩ | refine ⟨fun _ h => h, ?_⟩ | refine ⟨fun _ _ => True.intro, ?_⟩ | refine ⟨fun _ h => absurd h Bool.false_ne_true, ?_⟩ | refine ⟨fun _ => True.intro, ?_⟩ | refine ⟨fun _ _ => rfl, ?_⟩ | refine ⟨(fun h => Bool.noConfusion h), ?_⟩ | refine ⟨True.intro, ?_⟩)
      exact ct_flat [] rfl ⟨rfl, fitU_refl _, trivial⟩
  | ok _ _ h h1 hne hx hxn p hp hs ha hb' =>
    rw [hb.2 h, h1, show mayE true true = 0 by rfl]
    cbv; (repeat ((first | rewrite [e3] | rewrite [hE.ntT] | rewrite [hE.ntF] | rewrite [hE.pkT] | rewrite [hE.pkF] | rewrite [hE.anT] | rewrite [hE.anF] | rewrite [hE.anT'] | rewrite [hE.anF']); (repeat (first | rewrite [e3] | rewrite [hE.ntT] | rewrite [hE.ntF] | rewrite [hE.pkT] | rewrite [hE.pkF] | rewrite [hE.anT] | rewrite [hE.anF] | rewrite [hE.anT'] | rewrite [hE.anF'])); cbv)); (repeat first | refine ⟨(fun h => absurd h Bool.false_ne_true), ?_⟩ | refine ⟨(hE.o (by simp only [Ob.den, hE.e_iN, hE.e_tn, hE.e_aN, hE.e_sN, hE.e_sI, hE.e_mn] <;> omega)), ?_⟩ | refine ⟨fun _ => (hE.o (by simp only [Ob.den, hE.e_iN, hE.e_tn, hE.e_aN, hE.e_sN, hE.e_sI, hE.e_mn] <;> omega)), ?_⟩ | refine ⟨fun h => h, ?_⟩ | refine ⟨fun _ => rfl, ?_⟩ | refine ⟨fun _ h => h, ?_⟩ | refine ⟨fun _ _ => True.intro, ?_⟩ | refine ⟨fun _ h => absurd h Bool.false_ne_true, ?_⟩ | refine ⟨fun _ => True.intro, ?_⟩ | refine ⟨fun _ _ => rfl, ?_⟩ | refine ⟨(fun h => Bool.noConfusion h), ?_⟩ | refine ⟨True.intro, ?_⟩)
    obtain ⟨z, hz⟩ : ∃ z : Int, IsN z p := ⟨_, ⟨rfl⟩⟩
    refine call_ct hX [] [] (ct47 o n nm id hn s p hp hs z hz false ⟨fun e => (by cases e), fun e => absurd e.2 (hne p e.1)⟩) (fits_nil ⟨fitU_refl _, fitU_refl _, trivial⟩) rfl trivial ?_
    have e4 : ic .eql x 0 = false := by rw [hE.eql]; exact decide_eq_false hx
    cbv; (repeat ((first | rewrite [e4] | rewrite [hE.ntT] | rewrite [hE.ntF] | rewrite [hE.pkT] | rewrite [hE.pkF] | rewrite [hE.anT] | rewrite [hE.anF] | rewrite [hE.anT'] | rewrite [hE.anF']); (repeat (first | rewrite [e4] | rewrite [hE.ntT] | rewrite [hE.ntF] | rewrite [hE.pkT] | rewrite [hE.pkF] | rewrite [hE.anT] | rewrite [hE.anF] | rewrite [hE.anT'] | rewrite [hE.anF'])); cbv)); (repeat first | refine ⟨(fun h => absurd h Bool.false_ne_true), ?_⟩ | refine ⟨(hE.o (by simp only [Ob.den, hE.e_iN, hE.e_tn, hE.e_aN, hE.e_sN, hE.e_sI, hE.e_mn] <;> omega)), ?_⟩ | refine ⟨fun _ => (hE.o (by simp only [Ob.den, hE.e_iN, hE.e_tn, hE.e_aN, hE.e_sN, hE.e_sI, hE.e_mn] <;> omega)), ?_⟩ | refine ⟨fun h => h, ?_⟩ | refine ⟨fun _ => rfl, ?_⟩ | refine ⟨fun _ h => h, ?_⟩ | refine ⟨fun _ _ => True.intro, ?_⟩ | refine ⟨fun _ h => absurd h Bool.false_ne_true, ?_⟩ | refine ⟨fun _ => True.intro, ?_⟩ | refine ⟨fun _ _ => rfl, ?_⟩ | refine ⟨(fun h => Bool.noConfusion h), ?_⟩ | refine ⟨True.intro, ?_⟩)
    refine call_ct hX [some 0] [] (ct48 o n nm id hn x false ⟨fun e => (by cases e), fun ⟨i, hi, he⟩ => absurd he (hxn i hi)⟩) ⟨⟨rfl, rfl, rfl, rfl, by (cbv <;> (repeat' first | exact True.intro | exact ⟨.inr trivial, fun _ _ => rfl⟩ | exact rfl | exact fun _ _ => rfl | refine And.intro ?_ ?_ | rw [hE.iN0] | rw [hE.e_aN]))⟩, ⟨fitU_refl _, ⟨rfl, trivial, ⟨⟨rfl, rfl⟩, trivial⟩⟩, trivial⟩, rfl⟩ rfl trivial ?_
    cbv; (repeat ((first | rewrite [hE.ntT] | rewrite [hE.ntF] | rewrite [hE.pkT] | rewrite [hE.pkF] | rewrite [hE.anT] | rewrite [hE.anF] | rewrite [hE.anT'] | rewrite [hE.anF']); (repeat (first | rewrite [hE.ntT] | rewrite [hE.ntF] | rewrite [hE.pkT] | rewrite [hE.pkF] | rewrite [hE.anT] | rewrite [hE.anF] | rewrite [hE.anT'] | rewrite [hE.anF'])); cbv)); (repeat first | refine ⟨(fun h => absurd h Bool.false_ne_true), ?_⟩ | refine ⟨(hE.o (by simp only [Ob.den, hE.e_iN, hE.e_tn, hE.e_aN, hE.e_sN, hE.e_sI, hE.e_mn] <;> omega)), ?_⟩ | refine ⟨fun _ => (hE.o (by simp only [Ob.den, hE.e_iN, hE.e_tn, hE.e_aN, hE.e_sN, hE.e_sI, hE.e_mn] <;> omega)), ?_⟩ | refine ⟨fun h => h, ?_⟩ | refine ⟨fun _ => rfl, ?_⟩ | refine ⟨fun _ h => h, ?_⟩ | refine ⟨fun _ _ => True.intro, ?_⟩ | refine ⟨fun _ h => absurd h Bool.false_ne_true, ?_⟩ | refine ⟨fun _ => True.intro, ?_⟩ | refine ⟨fun _ _ => rfl, ?_⟩ | refine ⟨(fun h => Bool.noConfusion h), ?_⟩ | refine ⟨True.intro, ?_⟩)
    refine calld_ct hX [] [] (ct51 o n (fun i => [.sc (.string (nm i)), .sc (.int .u64 (id i))]) hn) (fits_nil ⟨fitU_refl _, trivial⟩) rfl trivial ?_
    cbv; (repeat ((first | rewrite [hE.ntT] | rewrite [hE.ntF] | rewrite [hE.pkT] | rewrite [hE.pkF] | rewrite [hE.anT] | rewrite [hE.anF] | rewrite [hE.anT'] | rewrite [hE.anF']); (repeat (first | rewrite [hE.ntT] | rewrite [hE.ntF] | rewrite [hE.pkT] | rewrite [hE.pkF] | rewrite [hE.anT] | rewrite [hE.anF] | rewrite [hE.anT'] | rewrite [hE.anF'])); cbv)); (repeat first | refine ⟨(fun h => absurd h Bool.false_ne_true), ?_⟩ | refine ⟨(hE.o (by simp only [Ob.den, hE.e_iN, hE.e_tn, hE.e_aN, hE.e_sN, hE.e_sI, hE.e_mn] <;> omega)), ?_⟩ | refine ⟨fun _ => (hE.o (by simp only [Ob.den, hE.e_iN, hE.e_tn, hE.e_aN, hE.e_sN, hE.e_sI, hE.e_mn] <;> omega)), ?_⟩ | refine ⟨fun h => h, ?_⟩ | refine ⟨fun _ => rfl, ?_⟩ | refine ⟨fun _ h => h, ?_⟩ | refine ⟨fun _ _ => True.intro, ?_⟩ | refine ⟨fun _ h => absurd h Bool.false_ne_true, ?_⟩ | refine ⟨fun _ => True.intro, ?_⟩ | refine ⟨fun _ _ => rfl, ?_⟩ | refine ⟨(fun h => Bool.noConfusion h), ?_⟩ | refine ⟨True.intro, ?_⟩)
    refine calld_ct hX [some 2, some 3] [] (ct50 n (fun i => [.sc (.string (nm i)), .sc (.int .u64 (id i))]) (fun _ => [.sc (.string s), .sc (.int .u64 x)]) (fun i => [.sc (.string (nm' i)), .sc (.int .u64 (id' i))]) hn p hp z hz fun i hi => ?_) ⟨⟨rfl, rfl, rfl, rfl, ?_⟩, ⟨⟨rfl, rfl, rfl, rfl⟩, fitU_refl _, ⟨rfl, rfl, rfl, rfl⟩, trivial⟩, rfl⟩ rfl trivial ?_
    · show [U.sc (.string (nm' i)), U.sc (.int .u64 (id' i))] = _
      rw [ha, hb']
      unfold insF
      split
      · rfl
      · split <;> rfl
    · exact ⟨⟨rfl, rfl, rfl, rfl, fun _ _ => rfl⟩, ⟨rfl, rfl, rfl, rfl, fun i hi => by obtain rfl : i = 0 := (by omega); rfl⟩, trivial⟩
    · cbv; (repeat ((first | rewrite [hE.ntT] | rewrite [hE.ntF] | rewrite [hE.pkT] | rewrite [hE.pkF] | rewrite [hE.anT] | rewrite [hE.anF] | rewrite [hE.anT'] | rewrite [hE.anF']); (repeat (first | rewrite [hE.ntT] | rewrite [hE.ntF] | rewrite [hE.pkT] | rewrite [hE.pkF] | rewrite [hE.anT] | rewrite [hE.anF] | rewrite [hE.anT'] | rewrite [hE.anF'])); cbv)); (repeat first | refine ⟨(fun h => absurd h Bool.false_ne_true), ?_⟩ | refine ⟨(hE.o (by simp only [Ob.den, hE.e_iN, hE.e_tn, hE.e_aN, hE.e_sN, hE.e_sI, hE.e_mn] <;> omega)), ?_⟩ | refine ⟨fun _ => (hE.o (by simp only [Ob.den, hE.e_iN, hE.e_tn, hE.e_aN, hE.e_sN, hE.e_sI, hE.e_mn] <;> omega)), ?_⟩ | refine ⟨fun h => h, ?_⟩ | refine ⟨fun _ => rfl, ?_⟩ | refine ⟨fun _ h => h, ?_⟩ | refine ⟨fun _ _ => True.intro, ?_⟩ | refine ⟨fun _ h => absurd h Bool.false_ne_true, ?_⟩ | refine ⟨fun _ => True.intro, ?_⟩ | refine ⟨fun _ _ => rfl, ?_⟩ | refine ⟨(fun h => Bool.noConfusion h), ?_⟩ | refine ⟨True.intro, ?_⟩)
      exact ct_flat [] rfl ⟨fitU_refl _, fitU_refl _, trivial⟩
end Ytohkcdfjpgdfbaa
end
section
open Go Am
set_option maxRecDepth 100000
set_option maxHeartbeats 4000000
set_option linter.unusedVariables false
set_option linter.unusedSimpArgs false
namespace Ytohkcdfjpgdfbaa
theorem _root_.Am.Ax.app2 {ob : Ob → Prop} {ib : BinOp → IntKind → Int → Int → Int} {ic : BinOp → Int → Int → Bool} {sb : BinOp → ByteArray → ByteArray → Bool} {cat : ByteArray → ByteArray → ByteArray} {iu : UnOp → IntKind → Int → Int} {nt : Bool → Bool} {an : Bool → Bool → Bool} {be : Bool → Bool → Bool} {pk : Bool → Bool → Bool → Bool} {wr : IntKind → Int → Int} {tn : Int → Nat} {iN : Nat → Int} {aN : Nat → Nat → Nat} {sN : Nat → Nat → Nat} {lN : Nat → Nat → Bool} {eN : Nat → Nat → Bool} {bt : ByteArray → Int → Int} {sub : ByteArray → Int → Int → ByteArray} {sl : ByteArray → Int} {rn : Int → ByteArray} {ofB : Nat → (Nat → List U) → ByteArray} {mn : Int → Int → Int} {dc : ByteArray → Nat → Int} {dn : ByteArray → Nat → Nat} {sI : Int → Int → Int} (hE : Ax ob ib ic sb cat iu nt an be pk wr tn iN aN sN lN eN bt sub sl rn ofB mn dc dn sI) {G : Nat → List U} {k : Nat} {x y : List U} (h : G k = x) (h' : G (k + 1) = y) : ∀ i, i < k + 2 → (if lN i (aN k 1) = true then (if lN i k = true then G i else listRow [x] (sN i k)) else listRow [y] (sN i (aN k 1))) = G i := by
  intro i hi
  rw [hE.e_aN, hE.e_lN (b := k + 1)]
  by_cases hk : i < k + 1
  · rw [if_pos (decide_eq_true hk)]
    exact hE.app1 h i hk
  · rw [if_neg (by simpa using hk), hE.e_sN, show i - (k + 1) = 0 by omega, show i = k + 1 by omega]
    exact h'.symm
theorem ct52 (o : Tg) (n : Nat) (nm : Nat → ByteArray) (id : Nat → Int) (hn : n ≤ 100000) (s : ByteArray) (x : Int) (p : Nat) (hp : p ≤ n) (hs : ∀ i, i < n → bL s (nm i) = decide (p ≤ i)) (nm' : Nat → ByteArray) (id' : Nat → Int) (ha : ∀ i, nm' i = insF p nm s i) (hb : ∀ i, id' i = insF p id x i) :
    CT Go.Proofs.Try.prog 52 [catS o n nm id, .ag [strV s, scI .u64 x]] [] (catS (.new 100) (n + 1) nm' id') [] := by
  have hlo : ∀ i, i < p → [U.sc (.string (nm' i)), U.sc (.int .u64 (id' i))] = [U.sc (.string (nm i)), U.sc (.int .u64 (id i))] := fun i hi => by rw [ha, hb]; unfold insF; rw [if_pos hi, if_pos hi]
  have hat : [U.sc (.string (nm' p)), U.sc (.int .u64 (id' p))] = [U.sc (.string s), U.sc (.int .u64 x)] := by rw [ha, hb]; unfold insF; simp
  have hhi : ∀ i, p ≤ i → [U.sc (.string (nm' (i + 1))), U.sc (.int .u64 (id' (i + 1)))] = [U.sc (.string (nm i)), U.sc (.int .u64 (id i))] := fun i hi => by rw [ha, hb]; unfold insF; simp only [show ¬ i + 1 < p by omega, show ¬ i + 1 = p by omega, if_false, Nat.add_sub_cancel]
  obtain ⟨h, hh⟩ : ∃ h : Nat → List U, h = fun i => [U.sc (.string (nm' i)), U.sc (.int .u64 (id' i))] := ⟨_, rfl⟩
  refine enter52 rfl rfl ?_
  intro ob ib ic sb cat iu nt an be pk wr tn iN aN sN lN eN bt sub sl rn ofB mn dc dn sI X hE hX
  cbv
  refine loop_at hE hX tabOK (by kernel_rfl) funcsOK rfl (α := Nat × Nat × Bool) (fun ⟨k, m, d⟩ => (sets (pad 44) [(0, catS o n nm id), (3, .pb 0 0), (5, .sr 1 2 0 m), (6, scB d), (7, scI .i64 (iN k))], [.box [strV s, scI .u64 x], .arr 100 2 m h])) (fun a => a.1 ≤ n ∧ ((a.2.2 = false ∧ a.1 ≤ p ∧ a.2.1 = a.1) ∨ (a.2.2 = true ∧ p < a.1 ∧ a.2.1 = a.1 + 1))) (fun a => n - a.1) (0, 0, false) ⟨by omega, .inl ⟨rfl, by omega, rfl⟩⟩ ?_ ?_
  · exact ⟨[some 0, none], [], ⟨rfl, rfl, rfl, rfl, by (cbv <;> (repeat' first | exact True.intro | exact ⟨.inr trivial, fun _ _ => rfl⟩ | exact rfl | exact fun _ _ => rfl | refine And.intro ?_ ?_ | rw [hE.iN0] | rw [hE.e_aN]))⟩, by (cbv <;> (repeat' first | exact True.intro | exact ⟨.inr trivial, fun _ _ => rfl⟩ | exact rfl | exact fun _ _ => rfl | refine And.intro ?_ ?_ | rw [hE.iN0] | rw [hE.e_aN]))⟩
  · rintro ⟨k, m, d⟩ ⟨hk, hd⟩
    dsimp only at hk hd
    by_cases hkn : k < n
    · have hc : ic .lss (iN k) (iN n) = true := by rw [hE.ltN]; exact decide_eq_true hkn
      have hi := hE.incN (a := k) (by omega)
      rcases hd with ⟨rfl, hd, rfl⟩ | ⟨rfl, hd, rfl⟩
      · have hg : sb .gtr (nm m) s = decide (p ≤ m) := by rw [hE.sgtr, hs m hkn]
        by_cases hpm : p ≤ m
        · rw [decide_eq_true hpm] at hg
          obtain rfl : m = p := by omega
          cbv; (repeat ((first | rewrite [hc] | rewrite [hg] | rewrite [hi] | rewrite [hE.tnN] | rewrite [hE.ntT] | rewrite [hE.ntF] | rewrite [hE.pkT] | rewrite [hE.pkF] | rewrite [hE.anT] | rewrite [hE.anF] | rewrite [hE.anT'] | rewrite [hE.anF']); (repeat (first | rewrite [hc] | rewrite [hg] | rewrite [hi] | rewrite [hE.tnN] | rewrite [hE.ntT] | rewrite [hE.ntF] | rewrite [hE.pkT] | rewrite [hE.pkF] | rewrite [hE.anT] | rewrite [hE.anF] | rewrite [hE.anT'] | rewrite [hE.anF'])); cbv)); (repeat first | refine ⟨(fun h => absurd h Bool.false_ne_true), ?_⟩ | refine ⟨(hE.o (by simp only [Ob.den, hE.e_iN, hE.e_tn, hE.e_aN, hE.e_sN, hE.e_sI, hE.e_mn] <;> omega)), ?_⟩ | refine ⟨fun _ => (hE.o (by simp only [Ob.den, hE.e_iN, hE.e_tn, hE.e_aN, hE.e_sN, hE.e_sI, hE.e_mn] <;> omega)), ?_⟩ | refine ⟨fun h => h, ?_⟩ | refine ⟨fun _ => rfl, ?_⟩ | refine ⟨fun _ h => h, ?_⟩ | refine ⟨fun _ _ => True.intro, ?_⟩ | refine ⟨fun _ h => absurd h Bool.false_ne_true, ?_⟩ | refine ⟨fun _ => True.intro, ?_⟩ | refine ⟨fun _ _ => rfl, ?_⟩ | refine ⟨(fun h => Bool.noConfusion h), ?_⟩ | refine ⟨True.intro, ?_⟩)
          exact ⟨(m + 1, m + 2, true), ⟨by dsimp only; omega, .inr ⟨rfl, by dsimp only; omega, rfl⟩⟩, by dsimp only; omega, [some 0, some 5], [], ⟨rfl, rfl, rfl, rfl, ⟨rfl, fitU_refl _, fitU_refl _, trivial⟩, ⟨rfl, rfl, rfl, by rw [hE.e_aN, hE.e_aN], hE.app2 (by rw [hh]; exact hat) (by rw [hh]; exact hhi m (by omega))⟩, trivial⟩, by (cbv <;> (repeat' first | exact True.intro | exact ⟨.inr trivial, fun _ _ => rfl⟩ | exact rfl | exact fun _ _ => rfl | refine And.intro ?_ ?_ | rw [hE.iN0] | rw [hE.e_aN]))⟩
        · rw [decide_eq_false hpm] at hg
          cbv; (repeat ((first | rewrite [hc] | rewrite [hg] | rewrite [hi] | rewrite [hE.tnN] | rewrite [hE.ntT] | rewrite [hE.ntF] | rewrite [hE.pkT] | rewrite [hE.pkF] | rewrite [hE.anT] | rewrite [hE.anF] | rewrite [hE.anT'] | rewrite [hE.anF']); (repeat (first | rewrite [hc] | rewrite [hg] | rewrite [hi] | rewrite [hE.tnN] | rewrite [hE.ntT] | rewrite [hE.ntF] | rewrite [hE.pkT] | rewrite [hE.pkF] | rewrite [hE.anT] | rewrite [hE.anF] | rewrite [hE.anT'] | rewrite [hE.anF'])); cbv)); (repeat first | refine ⟨(fun h => absurd h Bool.false_ne_true), ?_⟩ | refine ⟨(hE.o (by simp only [Ob.den, hE.e_iN, hE.e_tn, hE.e_aN, hE.e_sN, hE.e_sI, hE.e_mn] <;> omega)), ?_⟩ | refine ⟨fun _ => (hE.o (by simp only [Ob.den, hE.e_iN, hE.e_tn, hE.e_aN, hE.e_sN, hE.e_sI, hE.e_mn] <;> omega)), ?_⟩ | refine ⟨fun h => h, ?_⟩ | refine ⟨fun _ => rfl, ?_⟩ | refine ⟨fun _ h => h, ?_⟩ | refine ⟨fun _ _ => True.intro, ?_⟩ | refine ⟨fun _ h => absurd h Bool.false_ne_true, ?_⟩ | refine ⟨fun _ => True.intro, ?_⟩ | refine ⟨fun _ _ => rfl, ?_⟩ | refine ⟨(fun h => Bool.noConfusion h), ?_⟩ | refine ⟨True.intro, ?_⟩)
          exact ⟨(m + 1, m + 1, false), ⟨by dsimp only; omega, .inl ⟨rfl, by dsimp only; omega, rfl⟩⟩, by dsimp only; omega, [some 0, some 3], [], ⟨rfl, rfl, rfl, rfl, ⟨rfl, fitU_refl _, fitU_refl _, trivial⟩, ⟨rfl, rfl, rfl, by rw [hE.e_aN], hE.app1 (by rw [hh]; exact hlo m (by omega))⟩, trivial⟩, by (cbv <;> (repeat' first | exact True.intro | exact ⟨.inr trivial, fun _ _ => rfl⟩ | exact rfl | exact fun _ _ => rfl | refine And.intro ?_ ?_ | rw [hE.iN0] | rw [hE.e_aN]))⟩
      · cbv; (repeat ((first | rewrite [hc] | rewrite [hi] | rewrite [hE.tnN] | rewrite [hE.ntT] | rewrite [hE.ntF] | rewrite [hE.pkT] | rewrite [hE.pkF] | rewrite [hE.anT] | rewrite [hE.anF] | rewrite [hE.anT'] | rewrite [hE.anF']); (repeat (first | rewrite [hc] | rewrite [hi] | rewrite [hE.tnN] | rewrite [hE.ntT] | rewrite [hE.ntF] | rewrite [hE.pkT] | rewrite [hE.pkF] | rewrite [hE.anT] | rewrite [hE.anF] | rewrite [hE.anT'] | rewrite [hE.anF'])); cbv)); (repeat first | refine ⟨(fun h => absurd h Bool.false_ne_true), ?_⟩ | refine ⟨(hE.o (by simp only [Ob.den, hE.e_iN, hE.e_tn, hE.e_aN, hE.e_sN, hE.e_sI, hE.e_mn] <;> omega)), ?_⟩ | refine ⟨fun _ => (hE.o (by simp only [Ob.den, hE.e_iN, hE.e_tn, hE.e_aN, hE.e_sN, hE.e_sI, hE.e_mn] <;> omega)), ?_⟩ | refine ⟨fun h => h, ?_⟩ | refine ⟨fun _ => rfl, ?_⟩ | refine ⟨fun _ h => h, ?_⟩ | refine ⟨fun _ _ => True.intro, ?_⟩ | refine ⟨fun _ h => absurd h Bool.false_ne_true, ?_⟩ | refine ⟨fun _ => True.intro, ?_⟩ | refine ⟨fun _ _ => rfl, ?_⟩ | refine ⟨(fun h => Bool.noConfusion h), ?_⟩ | refine ⟨True.intro, ?_⟩)
        exact ⟨(k + 1, k + 2, true), ⟨by dsimp only; omega, .inr ⟨rfl, by dsimp only; omega, rfl⟩⟩, by dsimp only; omega, [some 0, some 3], [], ⟨rfl, rfl, rfl, rfl, ⟨rfl, fitU_refl _, fitU_refl _, trivial⟩, ⟨rfl, rfl, rfl, by rw [hE.e_aN], hE.app1 (by rw [hh]; exact hhi k (by omega))⟩, trivial⟩, by (cbv <;> (repeat' first | exact True.intro | exact ⟨.inr trivial, fun _ _ => rfl⟩ | exact rfl | exact fun _ _ => rfl | refine And.intro ?_ ?_ | rw [hE.iN0] | rw [hE.e_aN]))⟩
    · have hc : ic .lss (iN k) (iN n) = false := by rw [hE.ltN]; exact decide_eq_false hkn
      obtain rfl : k = n := by omega
      rcases hd with ⟨rfl, hd, rfl⟩ | ⟨rfl, hd, rfl⟩
      · obtain rfl : m = p := by omega
        cbv; (repeat ((first | rewrite [hc] | rewrite [hE.ntT] | rewrite [hE.ntF] | rewrite [hE.pkT] | rewrite [hE.pkF] | rewrite [hE.anT] | rewrite [hE.anF] | rewrite [hE.anT'] | rewrite [hE.anF']); (repeat (first | rewrite [hc] | rewrite [hE.ntT] | rewrite [hE.ntF] | rewrite [hE.pkT] | rewrite [hE.pkF] | rewrite [hE.anT] | rewrite [hE.anF] | rewrite [hE.anT'] | rewrite [hE.anF'])); cbv)); (repeat first | refine ⟨(fun h => absurd h Bool.false_ne_true), ?_⟩ | refine ⟨(hE.o (by simp only [Ob.den, hE.e_iN, hE.e_tn, hE.e_aN, hE.e_sN, hE.e_sI, hE.e_mn] <;> omega)), ?_⟩ | refine ⟨fun _ => (hE.o (by simp only [Ob.den, hE.e_iN, hE.e_tn, hE.e_aN, hE.e_sN, hE.e_sI, hE.e_mn] <;> omega)), ?_⟩ | refine ⟨fun h => h, ?_⟩ | refine ⟨fun _ => rfl, ?_⟩ | refine ⟨fun _ h => h, ?_⟩ | refine ⟨fun _ _ => True.intro, ?_⟩ | refine ⟨fun _ h => absurd h Bool.false_ne_true, ?_⟩ | refine ⟨fun _ => True.intro, ?_⟩ | refine ⟨fun _ _ => rfl, ?_⟩ | refine ⟨(fun h => Bool.noConfusion h), ?_⟩ | refine ⟨True.intro, ?_⟩)
        exact ct_flat [3] rfl ⟨rfl, rfl, rfl, rfl, by rw [hE.e_aN], by rw [hE.e_aN]; try omega, fun i hi => by
          rw [Nat.zero_add]
          have := hE.app1 (G := h) (k := m) (x := [U.sc (.string s), U.sc (.int .u64 x)]) (by rw [hh]; exact hat) i hi
          exact this.trans (by rw [hh])⟩
      · cbv; (repeat ((first | rewrite [hc] | rewrite [hE.ntT] | rewrite [hE.ntF] | rewrite [hE.pkT] | rewrite [hE.pkF] | rewrite [hE.anT] | rewrite [hE.anF] | rewrite [hE.anT'] | rewrite [hE.anF']); (repeat (first | rewrite [hc] | rewrite [hE.ntT] | rewrite [hE.ntF] | rewrite [hE.pkT] | rewrite [hE.pkF] | rewrite [hE.anT] | rewrite [hE.anF] | rewrite [hE.anT'] | rewrite [hE.anF'])); cbv)); (repeat first | refine ⟨(fun h => absurd h Bool.false_ne_true), ?_⟩ | refine ⟨(hE.o (by simp only [Ob.den, hE.e_iN, hE.e_tn, hE.e_aN, hE.e_sN, hE.e_sI, hE.e_mn] <;> omega)), ?_⟩ | refine ⟨fun _ => (hE.o (by simp only [Ob.den, hE.e_iN, hE.e_tn, hE.e_aN, hE.e_sN, hE.e_sI, hE.e_mn] <;> omega)), ?_⟩ | refine ⟨fun h => h, ?_⟩ | refine ⟨fun _ => rfl, ?_⟩ | refine ⟨fun _ h => h, ?_⟩ | refine ⟨fun _ _ => True.intro, ?_⟩ | refine ⟨fun _ h => absurd h Bool.false_ne_true, ?_⟩ | refine ⟨fun _ => True.intro, ?_⟩ | refine ⟨fun _ _ => rfl, ?_⟩ | refine ⟨(fun h => Bool.noConfusion h), ?_⟩ | refine ⟨True.intro, ?_⟩)
        exact ct_flat [1] rfl ⟨rfl, rfl, rfl, rfl, rfl, by omega, fun i _ => by rw [Nat.zero_add, hh]⟩
end Ytohkcdfjpgdfbaa
end
section
open Go Am
set_option maxRecDepth 100000
set_option maxHeartbeats 4000000
set_option linter.unusedVariables false
set_option linter.unusedSimpArgs false
namespace Ytohkcdfjpgdfbaa
theorem ct20 (o : Tg) (n : Nat) (nm : Nat → ByteArray) (id : Nat → Int) (hn : n ≤ 100000) (s : ByteArray) (v e : Int) (hg : GetR n nm id s v e) :
    CT Go.Proofs.Try.prog 20 [catS o n nm id, strV s] [] (.tp [scI .u64 v, scI .i64 e]) [] := by
  refine enter20 rfl rfl ?_
  intro ob ib ic sb cat iu nt an be pk wr tn iN aN sN lN eN bt sub sl rn ofB mn dc dn sI X hE hX
  cbv
  obtain ⟨b, hb⟩ : ∃ b : Bool, b = true ↔ Rt n nm id := by by_cases h : Rt n nm id; exact ⟨true, by simp [h]⟩; exact ⟨false, by simp [h]⟩
  refine call_ct hX [] [] (ct29 o n nm id hn b hb) (fits_nil ⟨fitU_refl _, trivial⟩) rfl trivial ?_
  by_cases h0 : Rt n nm id
  · rw [hb.2 h0]
    cbv; (repeat ((first | rewrite [hE.ntT] | rewrite [hE.ntF] | rewrite [hE.pkT] | rewrite [hE.pkF] | rewrite [hE.anT] | rewrite [hE.anF] | rewrite [hE.anT'] | rewrite [hE.anF']); (repeat (first | rewrite [hE.ntT] | rewrite [hE.ntF] | rewrite [hE.pkT] | rewrite [hE.pkF] | rewrite [hE.anT] | rewrite [hE.anF] | rewrite [hE.anT'] | rewrite [hE.anF'])); cbv)); (repeat first | refine ⟨(fun h => absurd h Bool.false_ne_true), ?_⟩ | refine ⟨(hE.o (by simp only [Ob.den, hE.e_iN, hE.e_tn, hE.e_aN, hE.e_sN, hE.e_sI, hE.e_mn] <;> omega)), ?_⟩ | refine ⟨fun _ => (hE.o (by simp only [Ob.den, hE.e_iN, hE.e_tn, hE.e_aN, hE.e_sN, hE.e_sI, hE.e_mn] <;> omega)), ?_⟩ | refine ⟨fun h => h, ?_⟩ | refine ⟨fun _ => rfl, ?_⟩ | refine ⟨fun _ h => h, ?_⟩ | refine ⟨fun _ _ => True.intro, ?_⟩ | refine ⟨fun _ h => absurd h Bool.false_ne_true, ?_⟩ | refine ⟨fun _ => True.intro, ?_⟩ | refine ⟨fun _ _ => rfl, ?_⟩ | refine ⟨(fun h => Bool.noConfusion h), ?_⟩ | refine ⟨True.intro, ?_⟩)
    refine call_ct hX [] [] (ct34 s) (fits_nil ⟨fitU_refl _, trivial⟩) rfl trivial ?_
    cases h1 : nmB s
    · cases hg with
      | wrong h => exact absurd h0 h
      | name h hn =>
        cbv; (repeat ((first | rewrite [hE.ntT] | rewrite [hE.ntF] | rewrite [hE.pkT] | rewrite [hE.pkF] | rewrite [hE.anT] | rewrite [hE.anF] | rewrite [hE.anT'] | rewrite [hE.anF']); (repeat (first | rewrite [hE.ntT] | rewrite [hE.ntF] | rewrite [hE.pkT] | rewrite [hE.pkF] | rewrite [hE.anT] | rewrite [hE.anF] | rewrite [hE.anT'] | rewrite [hE.anF'])); cbv)); (repeat first | refine ⟨(fun h => absurd h Bool.false_ne_true), ?_⟩ | refine ⟨(hE.o (by simp only [Ob.den, hE.e_iN, hE.e_tn, hE.e_aN, hE.e_sN, hE.e_sI, hE.e_mn] <;> omega)), ?_⟩ | refine ⟨fun _ => (hE.o (by simp only [Ob.den, hE.e_iN, hE.e_tn, hE.e_aN, hE.e_sN, hE.e_sI, hE.e_mn] <;> omega)), ?_⟩ | refine ⟨fun h => h, ?_⟩ | refine ⟨fun _ => rfl, ?_⟩ | refine ⟨fun _ h => h, ?_⟩ | refine ⟨fun _ _ => True.intro, ?_⟩ | refine ⟨fun _ h => absurd h Bool.false_ne_true, ?_⟩ | refine ⟨fun _ => True.intro, ?_⟩ | refine ⟨fun _ _ => rfl, ?_⟩ | refine ⟨(fun h => Bool.noConfusion h), ?_⟩ | refine ⟨True.intro, ?_⟩)
        exact ct_flat [] rfl ⟨fitU_refl _, fitU_refl _, trivial⟩
      | there h hn p hp e => rw [h1] at hn; cases hn
      | none h hn hne => rw [h1] at hn; cases hn
    · cbv; (repeat ((first | rewrite [hE.ntT] | rewrite [hE.ntF] | rewrite [hE.pkT] | rewrite [hE.pkF] | rewrite [hE.anT] | rewrite [hE.anF] | rewrite [hE.anT'] | rewrite [hE.anF']); (repeat (first | rewrite [hE.ntT] | rewrite [hE.ntF] | rewrite [hE.pkT] | rewrite [hE.pkF] | rewrite [hE.anT] | rewrite [hE.anF] | rewrite [hE.anT'] | rewrite [hE.anF'])); cbv)); (repeat first | refine ⟨(fun h => absurd h Bool.false_ne_true), ?_⟩ | refine ⟨(hE.o (by simp only [Ob.den, hE.e_iN, hE.e_tn, hE.e_aN, hE.e_sN, hE.e_sI, hE.e_mn] <;> omega)), ?_⟩ | refine ⟨fun _ => (hE.o (by simp only [Ob.den, hE.e_iN, hE.e_tn, hE.e_aN, hE.e_sN, hE.e_sI, hE.e_mn] <;> omega)), ?_⟩ | refine ⟨fun h => h, ?_⟩ | refine ⟨fun _ => rfl, ?_⟩ | refine ⟨fun _ h => h, ?_⟩ | refine ⟨fun _ _ => True.intro, ?_⟩ | refine ⟨fun _ h => absurd h Bool.false_ne_true, ?_⟩ | refine ⟨fun _ => True.intro, ?_⟩ | refine ⟨fun _ _ => rfl, ?_⟩ | refine ⟨(fun h => Bool.noConfusion h), ?_⟩ | refine ⟨True.intro, ?_⟩)
      have hgo : ∀ i, i < n → nm i = s → v = id i ∧ e = 0 := fun i hi he => by
        cases hg with
        | wrong h => exact absurd h0 h
        | name h hn => rw [h1] at hn; cases hn
        | there h hn p hp e =>
          obtain ⟨q, hq, hs⟩ := h.place s
          rw [h.at hq hs hi he, h.at hq hs hp e]
          exact ⟨rfl, rfl⟩
        | none h hn hne => exact absurd he (hne i hi)
      have hno : (∀ i, i < n → nm i ≠ s) → v = 0 ∧ e = 80 := fun hx => by
        cases hg with
        | wrong h => exact absurd h0 h
        | name h hn => rw [h1] at hn; cases hn
        | there h hn p hp e => exact absurd e (hx p hp)
        | none h hn hne => exact ⟨rfl, rfl⟩
      refine loop_at hE hX tabOK (by kernel_rfl) funcsOK rfl (α := Nat) (fun k => (sets (pad 31) [(0, catS o n nm id), (1, strV s), (6, scI .i64 (iN k))], [])) (fun k => k ≤ n ∧ ∀ i, i < k → nm i ≠ s) (fun k => n - k) 0 ⟨by omega, fun i hi => by omega⟩ ?_ ?_
      · exact ⟨[], [], ⟨rfl, rfl, rfl, rfl, trivial⟩, by (cbv <;> (repeat' first | exact True.intro | exact ⟨.inr trivial, fun _ _ => rfl⟩ | exact rfl | exact fun _ _ => rfl | refine And.intro ?_ ?_ | rw [hE.iN0] | rw [hE.e_aN]))⟩
      · rintro k ⟨hk, hs⟩
        by_cases hkn : k < n
        · have hc : ic .lss (iN k) (iN n) = true := by rw [hE.ltN]; exact decide_eq_true hkn
          have hi := hE.incN (a := k) (by omega)
          by_cases h3 : nm k = s
          · have h4 : sb .eql (nm k) s = true := by rw [hE.seql]; exact decide_eq_true h3
            cbv; (repeat ((first | rewrite [hc] | rewrite [h4] | rewrite [hE.tnN] | rewrite [hE.ntT] | rewrite [hE.ntF] | rewrite [hE.pkT] | rewrite [hE.pkF] | rewrite [hE.anT] | rewrite [hE.anF] | rewrite [hE.anT'] | rewrite [hE.anF']); (repeat (first | rewrite [hc] | rewrite [h4] | rewrite [hE.tnN] | rewrite [hE.ntT] | rewrite [hE.ntF] | rewrite [hE.pkT] | rewrite [hE.pkF] | rewrite [hE.anT] | rewrite [hE.anF] | rewrite [hE.anT'] | rewrite [hE.anF'])); cbv)); (repeat first | refine ⟨(fun h => absurd h Bool.false_ne_true), ?_⟩ | refine ⟨(hE.o (by simp only [Ob.den, hE.e_iN, hE.e_tn, hE.e_aN, hE.e_sN, hE.e_sI, hE.e_mn] <;> omega)), ?_⟩ | refine ⟨fun _ => (hE.o (by simp only [Ob.den, hE.e_iN, hE.e_tn, hE.e_aN, hE.e_sN, hE.e_sI, hE.e_mn] <;> omega)), ?_⟩ | refine ⟨fun h => h, ?_⟩ | refine ⟨fun _ => rfl, ?_⟩ | refine ⟨fun _ h => h, ?_⟩ | refine ⟨fun _ _ => True.intro, ?_⟩ | refine ⟨fun _ h => absurd h Bool.false_ne_true, ?_⟩ | refine ⟨fun _ => True.intro, ?_⟩ | refine ⟨fun _ _ => rfl, ?_⟩ | refine ⟨(fun h => Bool.noConfusion h), ?_⟩ | refine ⟨True.intro, ?_⟩)
            obtain ⟨rfl, rfl⟩ := hgo k hkn h3
            exact ct_flat [] rfl ⟨fitU_refl _, fitU_refl _, trivial⟩
          · have h4 : sb .eql (nm k) s = false := by rw [hE.seql]; exact decide_eq_false h3
            cbv; (repeat ((first | rewrite [hc] | rewrite [h4] | rewrite [hi] | rewrite [hE.tnN] | rewrite [hE.ntT] | rewrite [hE.ntF] | rewrite [hE.pkT] | rewrite [hE.pkF] | rewrite [hE.anT] | rewrite [hE.anF] | rewrite [hE.anT'] | rewrite [hE.anF']); (repeat (first | rewrite [hc] | rewrite [h4] | rewrite [hi] | rewrite [hE.tnN] | rewrite [hE.ntT] | rewrite [hE.ntF] | rewrite [hE.pkT] | rewrite [hE.pkF] | rewrite [hE.anT] | rewrite [hE.anF] | rewrite [hE.anT'] | rewrite [hE.anF'])); cbv)); (repeat first | refine ⟨(fun h => absurd h Bool.false_ne_true), ?_⟩ | refine ⟨(hE.o (by simp only [Ob.den, hE.e_iN, hE.e_tn, hE.e_aN, hE.e_sN, hE.e_sI, hE.e_mn] <;> omega)), ?_⟩ | refine ⟨fun _ => (hE.o (by simp only [Ob.den, hE.e_iN, hE.e_tn, hE.e_aN, hE.e_sN, hE.e_sI, hE.e_mn] <;> omega)), ?_⟩ | refine ⟨fun h => h, ?_⟩ | refine ⟨fun _ => rfl, ?_⟩ | refine ⟨fun _ h => h, ?_⟩ | refine ⟨fun _ _ => True.intro, ?_⟩ | refine ⟨fun _ h => absurd h Bool.false_ne_true, ?_⟩ | refine ⟨fun _ => True.intro, ?_⟩ | refine ⟨fun _ _ => rfl, ?_⟩ | refine ⟨(fun h => Bool.noConfusion h), ?_⟩ | refine ⟨True.intro, ?_⟩)
            exact ⟨k + 1, ⟨by omega, snoc hs h3⟩, by omega, [], [], ⟨rfl, rfl, rfl, rfl, trivial⟩, by (cbv <;> (repeat' first | exact True.intro | exact ⟨.inr trivial, fun _ _ => rfl⟩ | exact rfl | exact fun _ _ => rfl | refine And.intro ?_ ?_ | rw [hE.iN0] | rw [hE.e_aN]))⟩
        · have hc : ic .lss (iN k) (iN n) = false := by rw [hE.ltN]; exact decide_eq_false hkn
          cbv; (repeat ((first | rewrite [hc] | rewrite [hE.ntT] | rewrite [hE.ntF] | rewrite [hE.pkT] | rewrite [hE.pkF] | rewrite [hE.anT] | rewrite [hE.anF] | rewrite [hE.anT'] | rewrite [hE.anF']); (repeat (first | rewrite [hc] | rewrite [hE.ntT] | rewrite [hE.ntF] | rewrite [hE.pkT] | rewrite [hE.pkF] | rewrite [hE.anT] | rewrite [hE.anF] | rewrite [hE.anT'] | rewrite [hE.anF'])); cbv)); (repeat first | refine ⟨(fun h => absurd h Bool.false_ne_true), ?_⟩ | refine ⟨(hE.o (by simp only [Ob.den, hE.e_iN, hE.e_tn, hE.e_aN, hE.e_sN, hE.e_sI, hE.e_mn] <;> omega)), ?_⟩ | refine ⟨fun _ => (hE.o (by simp only [Ob.den, hE.e_iN, hE.e_tn, hE.e_aN, hE.e_sN, hE.e_sI, hE.e_mn] <;> omega)), ?_⟩ | refine ⟨fun h => h, ?_⟩ | refine ⟨fun _ => rfl, ?_⟩ | refine ⟨fun _ h => h, ?_⟩ | refine ⟨fun _ _ => True.intro, ?_⟩ | refine ⟨fun _ h => absurd h Bool.false_ne_true, ?_⟩ | refine ⟨fun _ => True.intro, ?_⟩ | refine ⟨fun _ _ => rfl, ?_⟩ | refine ⟨(fun h => Bool.noConfusion h), ?_⟩ | refine ⟨True.intro, ?_⟩)
          obtain ⟨rfl, rfl⟩ := hno fun i hi => hs i (by omega)
          exact ct_flat [] rfl ⟨fitU_refl _, fitU_refl _, trivial⟩
  · rw [bfalse fun e => h0 (hb.1 e)]
    cbv; (repeat ((first | rewrite [hE.ntT] | rewrite [hE.ntF] | rewrite [hE.pkT] | rewrite [hE.pkF] | rewrite [hE.anT] | rewrite [hE.anF] | rewrite [hE.anT'] | rewrite [hE.anF']); (repeat (first | rewrite [hE.ntT] | rewrite [hE.ntF] | rewrite [hE.pkT] | rewrite [hE.pkF] | rewrite [hE.anT] | rewrite [hE.anF] | rewrite [hE.anT'] | rewrite [hE.anF'])); cbv)); (repeat first | refine ⟨(fun h => absurd h Bool.false_ne_true), ?_⟩ | refine ⟨(hE.o (by simp only [Ob.den, hE.e_iN, hE.e_tn, hE.e_aN, hE.e_sN, hE.e_sI, hE.e_mn] <;> omega)), ?_⟩ | refine ⟨fun _ => (hE.o (by simp only [Ob.den, hE.e_iN, hE.e_tn, hE.e_aN, hE.e_sN, hE.e_sI, hE.e_mn] <;> omega)), ?_⟩ | refine ⟨fun h => h, ?_⟩ | refine ⟨fun _ => rfl, ?_⟩ | refine ⟨fun _ h => h, ?_⟩ | refine ⟨fun _ _ => True.intro, ?_⟩ | refine ⟨fun _ h => absurd h Bool.false_ne_true, ?_⟩ | refine ⟨fun _ => True.intro, ?_⟩ | refine ⟨fun _ _ => rfl, ?_⟩ | refine ⟨(fun h => Bool.noConfusion h), ?_⟩ | refine ⟨True.intro, ?_⟩)
    cases hg with
    | wrong h => exact ct_flat [] rfl ⟨fitU_refl _, fitU_refl _, trivial⟩
    | name h => exact absurd h h0
    | there h => exact absurd h h0
    | none h => exact absurd h h0
def delF {α : Type} (p : Nat) (f : Nat → α) (i : Nat) : α := if i < p then f i else f (i + 1)
theorem ct54 (o : Tg) (n : Nat) (nm : Nat → ByteArray) (id : Nat → Int) (hn : n ≤ 100000) (s : ByteArray) (p : Nat) (hp : p < n) (hs : ∀ i, i < n → (nm i = s ↔ i = p)) (nm' : Nat → ByteArray) (id' : Nat → Int) (ha : ∀ i, nm' i = delF p nm i) (hb : ∀ i, id' i = delF p id i) :
    CT Go.Proofs.Try.prog 54 [catS o n nm id, strV s] [] (catS (.new 100) (n - 1) nm' id') [] := by
  have hlo : ∀ i, i < p → [U.sc (.string (nm' i)), U.sc (.int .u64 (id' i))] = [U.sc (.string (nm i)), U.sc (.int .u64 (id i))] := fun i hi => by rw [ha, hb]; unfold delF; rw [if_pos hi, if_pos hi]
  have hhi : ∀ i, p ≤ i → [U.sc (.string (nm' i)), U.sc (.int .u64 (id' i))] = [U.sc (.string (nm (i + 1))), U.sc (.int .u64 (id (i + 1)))] := fun i hi => by rw [ha, hb]; unfold delF; simp only [show ¬ i < p by omega, if_false]
  obtain ⟨h, hh⟩ : ∃ h : Nat → List U, h = fun i => [U.sc (.string (nm' i)), U.sc (.int .u64 (id' i))] := ⟨_, rfl⟩
  refine enter54 rfl rfl ?_
  intro ob ib ic sb cat iu nt an be pk wr tn iN aN sN lN eN bt sub sl rn ofB mn dc dn sI X hE hX
  cbv
  refine loop_at hE hX tabOK (by kernel_rfl) funcsOK rfl (α := Nat × Nat) (fun ⟨k, m⟩ => (sets (pad 28) [(0, catS o n nm id), (1, strV s), (5, .sr 0 2 0 m), (6, scI .i64 (iN k))], [.arr 100 2 m h])) (fun a => a.1 ≤ n ∧ ((a.1 ≤ p ∧ a.2 = a.1) ∨ (p < a.1 ∧ a.2 + 1 = a.1))) (fun a => n - a.1) (0, 0) ⟨by omega, .inl ⟨by omega, rfl⟩⟩ ?_ ?_
  · exact ⟨[none], [], ⟨rfl, rfl, rfl, rfl, by (cbv <;> (repeat' first | exact True.intro | exact ⟨.inr trivial, fun _ _ => rfl⟩ | exact rfl | exact fun _ _ => rfl | refine And.intro ?_ ?_ | rw [hE.iN0] | rw [hE.e_aN]))⟩, by (cbv <;> (repeat' first | exact True.intro | exact ⟨.inr trivial, fun _ _ => rfl⟩ | exact rfl | exact fun _ _ => rfl | refine And.intro ?_ ?_ | rw [hE.iN0] | rw [hE.e_aN]))⟩
  · rintro ⟨k, m⟩ ⟨hk, hd⟩
    dsimp only at hk hd
    by_cases hkn : k < n
    · have hc : ic .lss (iN k) (iN n) = true := by rw [hE.ltN]; exact decide_eq_true hkn
      have hi := hE.incN (a := k) (by omega)
      by_cases h3 : k = p
      · have h4 : sb .neq (nm k) s = false := by rw [hE.sneq]; exact decide_eq_false (by rw [(hs k hkn).2 h3]; simp)
        cbv; (repeat ((first | rewrite [hc] | rewrite [h4] | rewrite [hi] | rewrite [hE.tnN] | rewrite [hE.ntT] | rewrite [hE.ntF] | rewrite [hE.pkT] | rewrite [hE.pkF] | rewrite [hE.anT] | rewrite [hE.anF] | rewrite [hE.anT'] | rewrite [hE.anF']); (repeat (first | rewrite [hc] | rewrite [h4] | rewrite [hi] | rewrite [hE.tnN] | rewrite [hE.ntT] | rewrite [hE.ntF] | rewrite [hE.pkT] | rewrite [hE.pkF] | rewrite [hE.anT] | rewrite [hE.anF] | rewrite [hE.anT'] | rewrite [hE.anF'])); cbv)); (repeat first | refine ⟨(fun h => absurd h Bool.false_ne_true), ?_⟩ | refine ⟨(hE.o (by simp only [Ob.den, hE.e_iN, hE.e_tn, hE.e_aN, hE.e_sN, hE.e_sI, hE.e_mn] <;> omega)), ?_⟩ | refine ⟨fun _ => (hE.o (by simp only [Ob.den, hE.e_iN, hE.e_tn, hE.e_aN, hE.e_sN, hE.e_sI, hE.e_mn] <;> omega)), ?_⟩ | refine ⟨fun h => h, ?_⟩ | refine ⟨fun _ => rfl, ?_⟩ | refine ⟨fun _ h => h, ?_⟩ | refine ⟨fun _ _ => True.intro, ?_⟩ | refine ⟨fun _ h => absurd h Bool.false_ne_true, ?_⟩ | refine ⟨fun _ => True.intro, ?_⟩ | refine ⟨fun _ _ => rfl, ?_⟩ | refine ⟨(fun h => Bool.noConfusion h), ?_⟩ | refine ⟨True.intro, ?_⟩)
        exact ⟨(k + 1, m), ⟨by dsimp only; omega, .inr ⟨by dsimp only; omega, by dsimp only; omega⟩⟩, by dsimp only; omega, [some 0], [], ⟨rfl, rfl, rfl, rfl, by (cbv <;> (repeat' first | exact True.intro | exact ⟨.inr trivial, fun _ _ => rfl⟩ | exact rfl | exact fun _ _ => rfl | refine And.intro ?_ ?_ | rw [hE.iN0] | rw [hE.e_aN]))⟩, by (cbv <;> (repeat' first | exact True.intro | exact ⟨.inr trivial, fun _ _ => rfl⟩ | exact rfl | exact fun _ _ => rfl | refine And.intro ?_ ?_ | rw [hE.iN0] | rw [hE.e_aN]))⟩
      · have h4 : sb .neq (nm k) s = true := by rw [hE.sneq]; exact decide_eq_true fun e => h3 ((hs k hkn).1 e)
        cbv; (repeat ((first | rewrite [hc] | rewrite [h4] | rewrite [hi] | rewrite [hE.tnN] | rewrite [hE.ntT] | rewrite [hE.ntF] | rewrite [hE.pkT] | rewrite [hE.pkF] | rewrite [hE.anT] | rewrite [hE.anF] | rewrite [hE.anT'] | rewrite [hE.anF']); (repeat (first | rewrite [hc] | rewrite [h4] | rewrite [hi] | rewrite [hE.tnN] | rewrite [hE.ntT] | rewrite [hE.ntF] | rewrite [hE.pkT] | rewrite [hE.pkF] | rewrite [hE.anT] | rewrite [hE.anF] | rewrite [hE.anT'] | rewrite [hE.anF'])); cbv)); (repeat first | refine ⟨(fun h => absurd h Bool.false_ne_true), ?_⟩ | refine ⟨(hE.o (by simp only [Ob.den, hE.e_iN, hE.e_tn, hE.e_aN, hE.e_sN, hE.e_sI, hE.e_mn] <;> omega)), ?_⟩ | refine ⟨fun _ => (hE.o (by simp only [Ob.den, hE.e_iN, hE.e_tn, hE.e_aN, hE.e_sN, hE.e_sI, hE.e_mn] <;> omega)), ?_⟩ | refine ⟨fun h => h, ?_⟩ | refine ⟨fun _ => rfl, ?_⟩ | refine ⟨fun _ h => h, ?_⟩ | refine ⟨fun _ _ => True.intro, ?_⟩ | refine ⟨fun _ h => absurd h Bool.false_ne_true, ?_⟩ | refine ⟨fun _ => True.intro, ?_⟩ | refine ⟨fun _ _ => rfl, ?_⟩ | refine ⟨(fun h => Bool.noConfusion h), ?_⟩ | refine ⟨True.intro, ?_⟩)
        have hrow : h m = [U.sc (.string (nm k)), U.sc (.int .u64 (id k))] := by
          rw [hh]
          rcases hd with ⟨h5, rfl⟩ | ⟨h5, h6⟩
          · exact hlo m (by omega)
          · subst h6; exact hhi m (by omega)
        exact ⟨(k + 1, m + 1), ⟨by dsimp only; omega, by dsimp only; omega⟩, by dsimp only; omega, [some 2], [], ⟨rfl, rfl, rfl, rfl, ⟨rfl, rfl, rfl, by rw [hE.e_aN], hE.app1 hrow⟩, trivial⟩, by (cbv <;> (repeat' first | exact True.intro | exact ⟨.inr trivial, fun _ _ => rfl⟩ | exact rfl | exact fun _ _ => rfl | refine And.intro ?_ ?_ | rw [hE.iN0] | rw [hE.e_aN]))⟩
    · have hc : ic .lss (iN k) (iN n) = false := by rw [hE.ltN]; exact decide_eq_false hkn
      obtain rfl : k = n := by omega
      obtain rfl : m = k - 1 := by omega
      cbv; (repeat ((first | rewrite [hc] | rewrite [hE.ntT] | rewrite [hE.ntF] | rewrite [hE.pkT] | rewrite [hE.pkF] | rewrite [hE.anT] | rewrite [hE.anF] | rewrite [hE.anT'] | rewrite [hE.anF']); (repeat (first | rewrite [hc] | rewrite [hE.ntT] | rewrite [hE.ntF] | rewrite [hE.pkT] | rewrite [hE.pkF] | rewrite [hE.anT] | rewrite [hE.anF] | rewrite [hE.anT'] | rewrite [hE.anF'])); cbv)); (repeat first | refine ⟨(fun h => absurd h Bool.false_ne_true), ?_⟩ | refine ⟨(hE.o (by simp only [Ob.den, hE.e_iN, hE.e_tn, hE.e_aN, hE.e_sN, hE.e_sI, hE.e_mn] <;> omega)), ?_⟩ | refine ⟨fun _ => (hE.o (by simp only [Ob.den, hE.e_iN, hE.e_tn, hE.e_aN, hE.e_sN, hE.e_sI, hE.e_mn] <;> omega)), ?_⟩ | refine ⟨fun h => h, ?_⟩ | refine ⟨fun _ => rfl, ?_⟩ | refine ⟨fun _ h => h, ?_⟩ | refine ⟨fun _ _ => True.intro, ?_⟩ | refine ⟨fun _ h => absurd h Bool.false_ne_true, ?_⟩ | refine ⟨fun _ => True.intro, ?_⟩ | refine ⟨fun _ _ => rfl, ?_⟩ | refine ⟨(fun h => Bool.noConfusion h), ?_⟩ | refine ⟨True.intro, ?_⟩)
      exact ct_flat [0] rfl ⟨rfl, rfl, rfl, rfl, rfl, by omega, fun i _ => by rw [Nat.zero_add, hh]⟩
end Ytohkcdfjpgdfbaa
end
section
open Go Am
set_option maxRecDepth 100000
set_option maxHeartbeats 4000000
set_option linter.unusedVariables false
set_option linter.unusedSimpArgs false
namespace Ytohkcdfjpgdfbaa
theorem ct22 (o : Tg) (n : Nat) (nm : Nat → ByteArray) (id : Nat → Int) (hn : n ≤ 100000) (s : ByteArray) (x : Int) (e : Int) (m : Nat) (nm' : Nat → ByteArray) (id' : Nat → Int) (hr : BindR n nm id s x e m nm' id') :
    CT Go.Proofs.Try.prog 22 [catS o n nm id, strV s, scI .u64 x] [] (.tp [catS (.new 100) m nm' id', scI .i64 e]) [] := by
  refine enter22 rfl rfl ?_
  intro ob ib ic sb cat iu nt an be pk wr tn iN aN sN lN eN bt sub sl rn ofB mn dc dn sI X hE hX
  cbv
  have e1 : ic .eql 2 0 = false := by rw [hE.eql]; rfl
  have e2 : ic .neq 2 80 = true := by rw [hE.neq]; rfl
  have e3 : ic .eql 170 0 = false := by rw [hE.eql]; rfl
  have e4 : ic .neq 170 80 = true := by rw [hE.neq]; rfl
  have e5 : ic .eql 0 0 = true := by rw [hE.eql]; rfl
  have e6 : ic .eql 80 0 = false := by rw [hE.eql]; rfl
  have e7 : ic .neq 80 80 = false := by rw [hE.neq]; rfl
  cases hr with
  | wrong _ _ h =>
    refine call_ct hX [] [] (ct20 o n nm id hn s _ _ (.wrong h)) (fits_nil ⟨fitU_refl _, fitU_refl _, trivial⟩) rfl trivial ?_
    cbv; (repeat ((first | rewrite [e1] | rewrite [e2] | rewrite [hE.ntT] | rewrite [hE.ntF] | rewrite [hE.pkT] | rewrite [hE.pkF] | rewrite [hE.anT] | rewrite [hE.anF] | rewrite [hE.anT'] | rewrite [hE.anF']); (repeat (first | rewrite [e1] | rewrite [e2] | rewrite [hE.ntT] | rewrite [hE.ntF] | rewrite [hE.pkT] | rewrite [hE.pkF] | rewrite [hE.anT] | rewrite [hE.anF] | rewrite [hE.anT'] | rewrite [hE.anF'])); cbv)); (repeat first | refine ⟨(fun h => absurd h Bool.false_ne_true), ?_⟩ | refine ⟨(hE.o (by simp only [Ob.den, hE.e_iN, hE.e_tn, hE.e_aN, hE.e_sN, hE.e_sI, hE.e_mn] <;> omega)), ?_⟩ | refine ⟨fun _ => (hE.o (by simp only [Ob.den, hE.e_iN, hE.e_tn, hE.e_aN, hE.e_sN, hE.e_sI, hE.e_mn] <;> omega)), ?_⟩ | refine ⟨fun h => h, ?_⟩ | refine ⟨fun _ => rfl, ?_⟩ | refine ⟨fun _ h => h, ?_⟩ | refine ⟨fun _ _ => True.intro, ?_⟩ | refine ⟨fun _ h => absurd h Bool.false_ne_true, ?_⟩ | refine ⟨fun _ => True.intro, ?_⟩ | refine ⟨fun _ _ => rfl, ?_⟩ | refine ⟨(fun h => Bool.noConfusion h), ?_⟩ | refine ⟨True.intro, ?_⟩)
    exact ct_flat [] rfl ⟨rfl, fitU_refl _, trivial⟩
  | name _ _ h h1 =>
    refine call_ct hX [] [] (ct20 o n nm id hn s _ _ (.name h h1)) (fits_nil ⟨fitU_refl _, fitU_refl _, trivial⟩) rfl trivial ?_
    cbv; (repeat ((first | rewrite [e3] | rewrite [e4] | rewrite [hE.ntT] | rewrite [hE.ntF] | rewrite [hE.pkT] | rewrite [hE.pkF] | rewrite [hE.anT] | rewrite [hE.anF] | rewrite [hE.anT'] | rewrite [hE.anF']); (repeat (first | rewrite [e3] | rewrite [e4] | rewrite [hE.ntT] | rewrite [hE.ntF] | rewrite [hE.pkT] | rewrite [hE.pkF] | rewrite [hE.anT] | rewrite [hE.anF] | rewrite [hE.anT'] | rewrite [hE.anF'])); cbv)); (repeat first | refine ⟨(fun h => absurd h Bool.false_ne_true), ?_⟩ | refine ⟨(hE.o (by simp only [Ob.den, hE.e_iN, hE.e_tn, hE.e_aN, hE.e_sN, hE.e_sI, hE.e_mn] <;> omega)), ?_⟩ | refine ⟨fun _ => (hE.o (by simp only [Ob.den, hE.e_iN, hE.e_tn, hE.e_aN, hE.e_sN, hE.e_sI, hE.e_mn] <;> omega)), ?_⟩ | refine ⟨fun h => h, ?_⟩ | refine ⟨fun _ => rfl, ?_⟩ | refine ⟨fun _ h => h, ?_⟩ | refine ⟨fun _ _ => True.intro, ?_⟩ | refine ⟨fun _ h => absurd h Bool.false_ne_true, ?_⟩ | refine ⟨fun _ => True.intro, ?_⟩ | refine ⟨fun _ _ => rfl, ?_⟩ | refine ⟨(fun h => Bool.noConfusion h), ?_⟩ | refine ⟨True.intro, ?_⟩)
    exact ct_flat [] rfl ⟨rfl, fitU_refl _, trivial⟩
  | exist _ _ h h1 q hq he =>
    refine call_ct hX [] [] (ct20 o n nm id hn s _ _ (.there h h1 q hq he)) (fits_nil ⟨fitU_refl _, fitU_refl _, trivial⟩) rfl trivial ?_
    cbv; (repeat ((first | rewrite [e5] | rewrite [hE.ntT] | rewrite [hE.ntF] | rewrite [hE.pkT] | rewrite [hE.pkF] | rewrite [hE.anT] | rewrite [hE.anF] | rewrite [hE.anT'] | rewrite [hE.anF']); (repeat (first | rewrite [e5] | rewrite [hE.ntT] | rewrite [hE.ntF] | rewrite [hE.pkT] | rewrite [hE.pkF] | rewrite [hE.anT] | rewrite [hE.anF] | rewrite [hE.anT'] | rewrite [hE.anF'])); cbv)); (repeat first | refine ⟨(fun h => absurd h Bool.false_ne_true), ?_⟩ | refine ⟨(hE.o (by simp only [Ob.den, hE.e_iN, hE.e_tn, hE.e_aN, hE.e_sN, hE.e_sI, hE.e_mn] <;> omega)), ?_⟩ | refine ⟨fun _ => (hE.o (by simp only [Ob.den, hE.e_iN, hE.e_tn, hE.e_aN, hE.e_sN, hE.e_sI, hE.e_mn] <;> omega)), ?_⟩ | refine ⟨fun h => h, ?_⟩ | refine ⟨fun _ => rfl, ?_⟩ | refine ⟨fun _ h => h, ?_⟩ | refine ⟨fun _ _ => True.intro, ?_⟩ | refine ⟨fun _ h => absurd h Bool.false_ne_true, ?_⟩ | refine ⟨fun _ => True.intro, ?_⟩ | refine ⟨fun _ _ => rfl, ?_⟩ | refine ⟨(fun h => Bool.noConfusion h), ?_⟩ | refine ⟨True.intro, ?_⟩)
    exact ct_flat [] rfl ⟨rfl, fitU_refl _, trivial⟩
  | arg _ _ h h1 hne hx =>
    refine call_ct hX [] [] (ct20 o n nm id hn s _ _ (.none h h1 hne)) (fits_nil ⟨fitU_refl _, fitU_refl _, trivial⟩) rfl trivial ?_
    cbv; (repeat ((first | rewrite [e6] | rewrite [e7] | rewrite [hE.ntT] | rewrite [hE.ntF] | rewrite [hE.pkT] | rewrite [hE.pkF] | rewrite [hE.anT] | rewrite [hE.anF] | rewrite [hE.anT'] | rewrite [hE.anF']); (repeat (first | rewrite [e6] | rewrite [e7] | rewrite [hE.ntT] | rewrite [hE.ntF] | rewrite [hE.pkT] | rewrite [hE.pkF] | rewrite [hE.anT] | rewrite [hE.anF] | rewrite [hE.anT'] | rewrite [hE.anF'])); cbv)); (repeat first | refine ⟨(fun h => absurd h Bool.false_ne_true), ?_⟩ | refine ⟨(hE.o (by simp only [Ob.den, hE.e_iN, hE.e_tn, hE.e_aN, hE.e_sN, hE.e_sI, hE.e_mn] <;> omega)), ?_⟩ | refine ⟨fun _ => (hE.o (by simp only [Ob.den, hE.e_iN, hE.e_tn, hE.e_aN, hE.e_sN, hE.e_sI, hE.e_mn] <;> omega)), ?_⟩ | refine ⟨fun h => h, ?_⟩ | refine ⟨fun _ => rfl, ?_⟩ | refine ⟨fun _ h => h, ?_⟩ | refine ⟨fun _ _ => True.intro, ?_⟩ | refine ⟨fun _ h => absurd h Bool.false_ne_true, ?_⟩ | refine ⟨fun _ => True.intro, ?_⟩ | refine ⟨fun _ _ => rfl, ?_⟩ | refine ⟨(fun h => Bool.noConfusion h), ?_⟩ | refine ⟨True.intro, ?_⟩)
    refine loop_at hE hX tabOK (by kernel_rfl) funcsOK rfl (α := Nat) (fun k => (sets (pad 42) [(0, catS o n nm id), (1, strV s), (2, scI .u64 x), (10, scI .i64 (iN k))], [])) (fun k => k ≤ n ∧ ∀ i, i < k → id i ≠ x) (fun k => n - k) 0 ⟨by omega, fun i hi => by omega⟩ ?_ ?_
    · exact ⟨[], [], ⟨rfl, rfl, rfl, rfl, trivial⟩, by (cbv <;> (repeat' first | exact True.intro | exact ⟨.inr trivial, fun _ _ => rfl⟩ | exact rfl | exact fun _ _ => rfl | refine And.intro ?_ ?_ | rw [hE.iN0] | rw [hE.e_aN]))⟩
    · rintro k ⟨hk, hs⟩
      by_cases hkn : k < n
      · have hc : ic .lss (iN k) (iN n) = true := by rw [hE.ltN]; exact decide_eq_true hkn
        have hi := hE.incN (a := k) (by omega)
        by_cases h3 : id k = x
        · have h4 : ic .eql (id k) x = true := by rw [hE.eql]; exact decide_eq_true h3
          cbv; (repeat ((first | rewrite [hc] | rewrite [h4] | rewrite [hE.tnN] | rewrite [hE.ntT] | rewrite [hE.ntF] | rewrite [hE.pkT] | rewrite [hE.pkF] | rewrite [hE.anT] | rewrite [hE.anF] | rewrite [hE.anT'] | rewrite [hE.anF']); (repeat (first | rewrite [hc] | rewrite [h4] | rewrite [hE.tnN] | rewrite [hE.ntT] | rewrite [hE.ntF] | rewrite [hE.pkT] | rewrite [hE.pkF] | rewrite [hE.anT] | rewrite [hE.anF] | rewrite [hE.anT'] | rewrite [hE.anF'])); cbv)); (repeat first | refine ⟨(fun h => absurd h Bool.false_ne_true), ?_⟩ | refine ⟨(hE.o (by simp only [Ob.den, hE.e_iN, hE.e_tn, hE.e_aN, hE.e_sN, hE.e_sI, hE.e_mn] <;> omega)), ?_⟩ | refine ⟨fun _ => (hE.o (by simp only [Ob.den, hE.e_iN, hE.e_tn, hE.e_aN, hE.e_sN, hE.e_sI, hE.e_mn] <;> omega)), ?_⟩ | refine ⟨fun h => h, ?_⟩ | refine ⟨fun _ => rfl, ?_⟩ | refine ⟨fun _ h => h, ?_⟩ | refine ⟨fun _ _ => True.intro, ?_⟩ | refine ⟨fun _ h => absurd h Bool.false_ne_true, ?_⟩ | refine ⟨fun _ => True.intro, ?_⟩ | refine ⟨fun _ _ => rfl, ?_⟩ | refine ⟨(fun h => Bool.noConfusion h), ?_⟩ | refine ⟨True.intro, ?_⟩)
          exact ct_flat [] rfl ⟨rfl, fitU_refl _, trivial⟩
        · have h4 : ic .eql (id k) x = false := by rw [hE.eql]; exact decide_eq_false h3
          cbv; (repeat ((first | rewrite [hc] | rewrite [h4] | rewrite [hi] | rewrite [hE.tnN] | rewrite [hE.ntT] | rewrite [hE.ntF] | rewrite [hE.pkT] | rewrite [hE.pkF] | rewrite [hE.anT] | rewrite [hE.anF] | rewrite [hE.anT'] | rewrite [hE.anF']); (repeat (first | rewrite [hc] | rewrite [h4] | rewrite [hi] | rewrite [hE.tnN] | rewrite [hE.ntT] | rewrite [hE.ntF] | rewrite [hE.pkT] | rewrite [hE.pkF] | rewrite [hE.anT] | rewrite [hE.anF] | rewrite [hE.anT'] | rewrite [hE.anF'])); cbv)); (repeat first | refine ⟨(fun h => absurd h Bool.false_ne_true), ?_⟩ | refine ⟨(hE.o (by simp only [Ob.den, hE.e_iN, hE.e_tn, hE.e_aN, hE.e_sN, hE.e_sI, hE.e_mn] <;> omega)), ?_⟩ | refine ⟨fun _ => (hE.o (by simp only [Ob.den, hE.e_iN, hE.e_tn, hE.e_aN, hE.e_sN, hE.e_sI, hE.e_mn] <;> omega)), ?_⟩ | refine ⟨fun h => h, ?_⟩ | refine ⟨fun _ => rfl, ?_⟩ | refine ⟨fun _ h => h, ?_⟩ | refine ⟨fun _ _ => True.intro, ?_⟩ | refine ⟨fun _ h => absurd h Bool.false_ne_true, ?_⟩ | refine ⟨fun _ => True.intro, ?_⟩ | refine ⟨fun _ _ => rfl, ?_⟩ | refine ⟨(fun h => Bool.noConfusion h), ?_⟩ | refine ⟨True.intro, ?_⟩)
          exact ⟨k + 1, ⟨by omega, snoc hs h3⟩, by omega, [], [], ⟨rfl, rfl, rfl, rfl, trivial⟩, by (cbv <;> (repeat' first | exact True.intro | exact ⟨.inr trivial, fun _ _ => rfl⟩ | exact rfl | exact fun _ _ => rfl | refine And.intro ?_ ?_ | rw [hE.iN0] | rw [hE.e_aN]))⟩
      · have hc : ic .lss (iN k) (iN n) = false := by rw [hE.ltN]; exact decide_eq_false hkn
        have h5 : ic .eql x 0 = true := by rw [hE.eql]; exact decide_eq_true (hx.resolve_right fun ⟨i, hi, he⟩ => hs i (by omega) he)
        cbv; (repeat ((first | rewrite [hc] | rewrite [h5] | rewrite [hE.ntT] | rewrite [hE.ntF] | rewrite [hE.pkT] | rewrite [hE.pkF] | rewrite [hE.anT] | rewrite [hE.anF] | rewrite [hE.anT'] | rewrite [hE.anF']); (repeat (first | rewrite [hc] | rewrite [h5] | rewrite [hE.ntT] | rewrite [hE.ntF] | rewrite [hE.pkT] | rewrite [hE.pkF] | rewrite [hE.anT] | rewrite [hE.anF] | rewrite [hE.anT'] | rewrite [hE.anF'])); cbv)); (repeat first | refine ⟨(fun h => absurd h Bool.false_ne_true), ?_⟩ | refine ⟨(hE.o (by simp only [Ob.den, hE.e_iN, hE.e_tn, hE.e_aN, hE.e_sN, hE.e_sI, hE.e_mn] <;> omega)), ?_⟩ | refine ⟨fun _ => (hE.o (by simp only [Ob.den, hE.e_iN, hE.e_tn, hE.e_aN, hE.e_sN, hE.e_sI, hE.e_mn] <;> omega)), ?_⟩ | refine ⟨fun h => h, ?_⟩ | refine ⟨fun _ => rfl, ?_⟩ | refine ⟨fun _ h => h, ?_⟩ | refine ⟨fun _ _ => True.intro, ?_⟩ | refine ⟨fun _ h => absurd h Bool.false_ne_true, ?_⟩ | refine ⟨fun _ => True.intro, ?_⟩ | refine ⟨fun _ _ => rfl, ?_⟩ | refine ⟨(fun h => Bool.noConfusion h), ?_⟩ | refine ⟨True.intro, ?_⟩)
        exact ct_flat [] rfl ⟨rfl, fitU_refl _, trivial⟩
  | ok _ _ h h1 hne hx hxn p hp hs ha hb' =>
    refine call_ct hX [] [] (ct20 o n nm id hn s _ _ (.none h h1 hne)) (fits_nil ⟨fitU_refl _, fitU_refl _, trivial⟩) rfl trivial ?_
    cbv; (repeat ((first | rewrite [e6] | rewrite [e7] | rewrite [hE.ntT] | rewrite [hE.ntF] | rewrite [hE.pkT] | rewrite [hE.pkF] | rewrite [hE.anT] | rewrite [hE.anF] | rewrite [hE.anT'] | rewrite [hE.anF']); (repeat (first | rewrite [e6] | rewrite [e7] | rewrite [hE.ntT] | rewrite [hE.ntF] | rewrite [hE.pkT] | rewrite [hE.pkF] | rewrite [hE.anT] | rewrite [hE.anF] | rewrite [hE.anT'] | rewrite [hE.anF'])); cbv)); (repeat first | refine ⟨(fun h => absurd h Bool.false_ne_true), ?_⟩ | refine ⟨(hE.o (by simp only [Ob.den, hE.e_iN, hE.e_tn, hE.e_aN, hE.e_sN, hE.e_sI, hE.e_mn] <;> omega)), ?_⟩ | refine ⟨fun _ => (hE.o (by simp only [Ob.den, hE.e_iN, hE.e_tn, hE.e_aN, hE.e_sN, hE.e_sI, hE.e_mn] <;> omega)), ?_⟩ | refine ⟨fun h => h, ?_⟩ | refine ⟨fun _ => rfl, ?_⟩ | refine ⟨fun _ h => h, ?_⟩ | refine ⟨fun _ _ => True.intro, ?_⟩ | refine ⟨fun _ h => absurd h Bool.false_ne_true, ?_⟩ | refine ⟨fun _ => True.intro, ?_⟩ | refine ⟨fun _ _ => rfl, ?_⟩ | refine ⟨(fun h => Bool.noConfusion h), ?_⟩ | refine ⟨True.intro, ?_⟩)
    refine loop_at hE hX tabOK (by kernel_rfl) funcsOK rfl (α := Nat) (fun k => (sets (pad 42) [(0, catS o n nm id), (1, strV s), (2, scI .u64 x), (10, scI .i64 (iN k))], [])) (fun k => k ≤ n) (fun k => n - k) 0 (by omega) ?_ ?_
    · exact ⟨[], [], ⟨rfl, rfl, rfl, rfl, trivial⟩, by (cbv <;> (repeat' first | exact True.intro | exact ⟨.inr trivial, fun _ _ => rfl⟩ | exact rfl | exact fun _ _ => rfl | refine And.intro ?_ ?_ | rw [hE.iN0] | rw [hE.e_aN]))⟩
    · rintro k hk
      by_cases hkn : k < n
      · have hc : ic .lss (iN k) (iN n) = true := by rw [hE.ltN]; exact decide_eq_true hkn
        have hi := hE.incN (a := k) (by omega)
        have h4 : ic .eql (id k) x = false := by rw [hE.eql]; exact decide_eq_false (hxn k hkn)
        cbv; (repeat ((first | rewrite [hc] | rewrite [h4] | rewrite [hi] | rewrite [hE.tnN] | rewrite [hE.ntT] | rewrite [hE.ntF] | rewrite [hE.pkT] | rewrite [hE.pkF] | rewrite [hE.anT] | rewrite [hE.anF] | rewrite [hE.anT'] | rewrite [hE.anF']); (repeat (first | rewrite [hc] | rewrite [h4] | rewrite [hi] | rewrite [hE.tnN] | rewrite [hE.ntT] | rewrite [hE.ntF] | rewrite [hE.pkT] | rewrite [hE.pkF] | rewrite [hE.anT] | rewrite [hE.anF] | rewrite [hE.anT'] | rewrite [hE.anF'])); cbv)); (repeat first | refine ⟨(fun h => absurd h Bool.false_ne_true), ?_⟩ | refine ⟨(hE.o (by simp only [Ob.den, hE.e_iN, hE.e_tn, hE.e_aN, hE.e_sN, hE.e_sI, hE.e_mn] <;> omega)), ?_⟩ | refine ⟨fun _ => (hE.o (by simp only [Ob.den, hE.e_iN, hE.e_tn, hE.e_aN, hE.e_sN, hE.e_sI, hE.e_mn] <;> omega)), ?_⟩ | refine ⟨fun h => h, ?_⟩ | refine ⟨fun _ => rfl, ?_⟩ | refine ⟨fun _ h => h, ?_⟩ | refine ⟨fun _ _ => True.intro, ?_⟩ | refine ⟨fun _ h => absurd h Bool.false_ne_true, ?_⟩ | refine ⟨fun _ => True.intro, ?_⟩ | refine ⟨fun _ _ => rfl, ?_⟩ | refine ⟨(fun h => Bool.noConfusion h), ?_⟩ | refine ⟨True.intro, ?_⟩)
        exact ⟨k + 1, by omega, by omega, [], [], ⟨rfl, rfl, rfl, rfl, trivial⟩, by (cbv <;> (repeat' first | exact True.intro | exact ⟨.inr trivial, fun _ _ => rfl⟩ | exact rfl | exact fun _ _ => rfl | refine And.intro ?_ ?_ | rw [hE.iN0] | rw [hE.e_aN]))⟩
      · have hc : ic .lss (iN k) (iN n) = false := by rw [hE.ltN]; exact decide_eq_false hkn
        have h5 : ic .eql x 0 = false := by rw [hE.eql]; exact decide_eq_false hx
        cbv; (repeat ((first | rewrite [hc] | rewrite [h5] | rewrite [hE.ntT] | rewrite [hE.ntF] | rewrite [hE.pkT] | rewrite [hE.pkF] | rewrite [hE.anT] | rewrite [hE.anF] | rewrite [hE.anT'] | rewrite [hE.anF']); (repeat (first | rewrite [hc] | rewrite [h5] | rewrite [hE.ntT] | rewrite [hE.ntF] | rewrite [hE.pkT] | rewrite [hE.pkF] | rewrite [hE.anT] | rewrite [hE.anF] | rewrite [hE.anT'] | rewrite [hE.anF'])); cbv)); (repeat first | refine ⟨(fun h => absurd h Bool.false_ne_true), ?_⟩ | refine ⟨(hE.o (by simp only [Ob.den, hE.e_iN, hE.e_tn, hE.e_aN, hE.e_sN, hE.e_sI, hE.e_mn] <;> omega)), ?_⟩ | refine ⟨fun _ => (hE.o (by simp only [Ob.den, hE.e_iN, hE.e_tn, hE.e_aN, hE.e_sN, hE.e_sI, hE.e_mn] <;> omega)), ?_⟩ | refine ⟨fun h => h, ?_⟩ | refine ⟨fun _ => rfl, ?_⟩ | refine ⟨fun _ h => h, ?_⟩ | refine ⟨fun _ _ => True.intro, ?_⟩ | refine ⟨fun _ h => absurd h Bool.false_ne_true, ?_⟩ | refine ⟨fun _ => True.intro, ?_⟩ | refine ⟨fun _ _ => rfl, ?_⟩ | refine ⟨(fun h => Bool.noConfusion h), ?_⟩ | refine ⟨True.intro, ?_⟩)
        refine call_ct hX [] [] (ct52 o n nm id hn s x p hp (fun i hi => by
          have h6 := hs i hi
          by_cases h7 : i < p
          · rw [decide_eq_true h7] at h6
            rw [bL_asymm h6]; exact (decide_eq_false (by omega)).symm
          · rw [decide_eq_false h7] at h6
            rw [decide_eq_true (show p ≤ i by omega)]
            rcases bL_tri (nm i) s with h8 | h8 | h8
            · rw [h8] at h6; cases h6
            · exact absurd h8 (hne i hi)
            · exact h8) nm' id' ha hb') (fits_nil ⟨fitU_refl _, ⟨fitU_refl _, fitU_refl _, trivial⟩, trivial⟩) rfl trivial ?_
        cbv; (repeat ((first | rewrite [hE.ntT] | rewrite [hE.ntF] | rewrite [hE.pkT] | rewrite [hE.pkF] | rewrite [hE.anT] | rewrite [hE.anF] | rewrite [hE.anT'] | rewrite [hE.anF']); (repeat (first | rewrite [hE.ntT] | rewrite [hE.ntF] | rewrite [hE.pkT] | rewrite [hE.pkF] | rewrite [hE.anT] | rewrite [hE.anF] | rewrite [hE.anT'] | rewrite [hE.anF'])); cbv)); (repeat first | refine ⟨(fun h => absurd h Bool.false_ne_true), ?_⟩ | refine ⟨(hE.o (by simp only [Ob.den, hE.e_iN, hE.e_tn, hE.e_aN, hE.e_sN, hE.e_sI, hE.e_mn] <;> omega)), ?_⟩ | refine ⟨fun _ => (hE.o (by simp only [Ob.den, hE.e_iN, hE.e_tn, hE.e_aN, hE.e_sN, hE.e_sI, hE.e_mn] <;> omega)), ?_⟩ | refine ⟨fun h => h, ?_⟩ | refine ⟨fun _ => rfl, ?_⟩ | refine ⟨fun _ h => h, ?_⟩ | refine ⟨fun _ _ => True.intro, ?_⟩ | refine ⟨fun _ h => absurd h Bool.false_ne_true, ?_⟩ | refine ⟨fun _ => True.intro, ?_⟩ | refine ⟨fun _ _ => rfl, ?_⟩ | refine ⟨(fun h => Bool.noConfusion h), ?_⟩ | refine ⟨True.intro, ?_⟩)
        exact ct_flat [] rfl ⟨fitU_refl _, fitU_refl _, trivial⟩
end Ytohkcdfjpgdfbaa
end
section
open Go Am
set_option maxRecDepth 100000
set_option maxHeartbeats 4000000
set_option linter.unusedVariables false
set_option linter.unusedSimpArgs false
namespace Ytohkcdfjpgdfbaa
inductive UnbR (n : Nat) (nm : Nat → ByteArray) (id : Nat → Int) (s : ByteArray) : Int → Nat → (Nat → ByteArray) → (Nat → Int) → Prop
  | fail (v e a b) (hg : GetR n nm id s v e) (he : e ≠ 0) : UnbR n nm id s e 0 a b
  | ok (a b) (h : Rt n nm id) (hn : nmB s = true) (p : Nat) (hp : p < n) (e : nm p = s) (ha : ∀ i, a i = delF p nm i) (hb : ∀ i, b i = delF p id i) : UnbR n nm id s 0 (n - 1) a b
theorem unbR_ex (n : Nat) (nm : Nat → ByteArray) (id : Nat → Int) (s : ByteArray) : ∃ e m a b, UnbR n nm id s e m a b := by
  obtain ⟨v, e, hg⟩ := getR_ex n nm id s
  cases hg with
  | wrong h => exact ⟨_, _, nm, id, .fail _ _ _ _ (.wrong h) (by decide)⟩
  | name h hn => exact ⟨_, _, nm, id, .fail _ _ _ _ (.name h hn) (by decide)⟩
  | none h hn hne => exact ⟨_, _, nm, id, .fail _ _ _ _ (.none h hn hne) (by decide)⟩
  | there h hn p hp e => exact ⟨_, _, _, _, .ok _ _ h hn p hp e (fun _ => rfl) fun _ => rfl⟩
theorem Rt.same {n : Nat} {nm : Nat → ByteArray} {id : Nat → Int} (h : Rt n nm id) {s : ByteArray} {p q : Nat} (hp : p < n) (hq : q < n) (e : nm p = s) (e' : nm q = s) : q = p := by
  obtain ⟨r, hr, hs⟩ := h.place s
  rw [h.at hr hs hp e, h.at hr hs hq e']
theorem ct24 (o : Tg) (n : Nat) (nm : Nat → ByteArray) (id : Nat → Int) (hn : n ≤ 100000) (s : ByteArray) (e : Int) (m : Nat) (nm' : Nat → ByteArray) (id' : Nat → Int) (hr : UnbR n nm id s e m nm' id') :
    CT Go.Proofs.Try.prog 24 [catS o n nm id, strV s] [] (.tp [catS (.new 100) m nm' id', scI .i64 e]) [] := by
  refine enter24 rfl rfl ?_
  intro ob ib ic sb cat iu nt an be pk wr tn iN aN sN lN eN bt sub sl rn ofB mn dc dn sI X hE hX
  cbv
  cases hr with
  | fail v _ _ _ hg he =>
    refine call_ct hX [] [] (ct20 o n nm id hn s _ _ hg) (fits_nil ⟨fitU_refl _, fitU_refl _, trivial⟩) rfl trivial ?_
    have e1 : ic .neq e 0 = true := by rw [hE.neq]; exact decide_eq_true he
    cbv; (repeat ((first | rewrite [e1] | rewrite [hE.ntT] | rewrite [hE.ntF] | rewrite [hE.pkT] | rewrite [hE.pkF] | rewrite [hE.anT] | rewrite [hE.anF] | rewrite [hE.anT'] | rewrite [hE.anF']); (repeat (first | rewrite [e1] | rewrite [hE.ntT] | rewrite [hE.ntF] | rewrite [hE.pkT] | rewrite [hE.pkF] | rewrite [hE.anT] | rewrite [hE.anF] | rewrite [hE.anT'] | rewrite [hE.anF'])); cbv)); (repeat first | refine ⟨(fun h => absurd h Bool.false_ne_true), ?_⟩ | refine ⟨(hE.o (by simp only [Ob.den, hE.e_iN, hE.e_tn, hE.e_aN, hE.e_sN, hE.e_sI, hE.e_mn] <;> omega)), ?_⟩ | refine ⟨fun _ => (hE.o (by simp only [Ob.den, hE.e_iN, hE.e_tn, hE.e_aN, hE.e_sN, hE.e_sI, hE.e_mn] <;> omega)), ?_⟩ | refine ⟨fun h => h, ?_⟩ | refine ⟨fun _ => rfl, ?_⟩ | refine ⟨fun _ h => h, ?_⟩ | refine ⟨fun _ _ => True.intro, ?_⟩ | refine ⟨fun _ h => absurd h Bool.false_ne_true, ?_⟩ | refine ⟨fun _ => True.intro, ?_⟩ | refine ⟨fun _ _ => rfl, ?_⟩ | refine ⟨(fun h => Bool.noConfusion h), ?_⟩ | refine ⟨True.intro, ?_⟩)
    exact ct_flat [] rfl ⟨rfl, fitU_refl _, trivial⟩
  | ok _ _ h h1 p hp he ha hb =>
    refine call_ct hX [] [] (ct20 o n nm id hn s _ _ (.there h h1 p hp he)) (fits_nil ⟨fitU_refl _, fitU_refl _, trivial⟩) rfl trivial ?_
    have e1 : ic .neq 0 0 = false := by rw [hE.neq]; rfl
    cbv; (repeat ((first | rewrite [e1] | rewrite [hE.ntT] | rewrite [hE.ntF] | rewrite [hE.pkT] | rewrite [hE.pkF] | rewrite [hE.anT] | rewrite [hE.anF] | rewrite [hE.anT'] | rewrite [hE.anF']); (repeat (first | rewrite [e1] | rewrite [hE.ntT] | rewrite [hE.ntF] | rewrite [hE.pkT] | rewrite [hE.pkF] | rewrite [hE.anT] | rewrite [hE.anF] | rewrite [hE.anT'] | rewrite [hE.anF'])); cbv)); (repeat first | refine ⟨(fun h => absurd h Bool.false_ne_true), ?_⟩ | refine ⟨(hE.o (by simp only [Ob.den, hE.e_iN, hE.e_tn, hE.e_aN, hE.e_sN, hE.e_sI, hE.e_mn] <;> omega)), ?_⟩ | refine ⟨fun _ => (hE.o (by simp only [Ob.den, hE.e_iN, hE.e_tn, hE.e_aN, hE.e_sN, hE.e_sI, hE.e_mn] <;> omega)), ?_⟩ | refine ⟨fun h => h, ?_⟩ | refine ⟨fun _ => rfl, ?_⟩ | refine ⟨fun _ h => h, ?_⟩ | refine ⟨fun _ _ => True.intro, ?_⟩ | refine ⟨fun _ h => absurd h Bool.false_ne_true, ?_⟩ | refine ⟨fun _ => True.intro, ?_⟩ | refine ⟨fun _ _ => rfl, ?_⟩ | refine ⟨(fun h => Bool.noConfusion h), ?_⟩ | refine ⟨True.intro, ?_⟩)
    refine call_ct hX [] [] (ct54 o n nm id hn s p hp (fun i hi => ⟨fun e' => h.same hp hi he e', fun e' => by rw [e', he]⟩) nm' id' ha hb) (fits_nil ⟨fitU_refl _, fitU_refl _, trivial⟩) rfl trivial ?_
    cbv; (repeat ((first | rewrite [hE.ntT] | rewrite [hE.ntF] | rewrite [hE.pkT] | rewrite [hE.pkF] | rewrite [hE.anT] | rewrite [hE.anF] | rewrite [hE.anT'] | rewrite [hE.anF']); (repeat (first | rewrite [hE.ntT] | rewrite [hE.ntF] | rewrite [hE.pkT] | rewrite [hE.pkF] | rewrite [hE.anT] | rewrite [hE.anF] | rewrite [hE.anT'] | rewrite [hE.anF'])); cbv)); (repeat first | refine ⟨(fun h => absurd h Bool.false_ne_true), ?_⟩ | refine ⟨(hE.o (by simp only [Ob.den, hE.e_iN, hE.e_tn, hE.e_aN, hE.e_sN, hE.e_sI, hE.e_mn] <;> omega)), ?_⟩ | refine ⟨fun _ => (hE.o (by simp only [Ob.den, hE.e_iN, hE.e_tn, hE.e_aN, hE.e_sN, hE.e_sI, hE.e_mn] <;> omega)), ?_⟩ | refine ⟨fun h => h, ?_⟩ | refine ⟨fun _ => rfl, ?_⟩ | refine ⟨fun _ h => h, ?_⟩ | refine ⟨fun _ _ => True.intro, ?_⟩ | refine ⟨fun _ h => absurd h Bool.false_ne_true, ?_⟩ | refine ⟨fun _ => True.intro, ?_⟩ | refine ⟨fun _ _ => rfl, ?_⟩ | refine ⟨(fun h => Bool.noConfusion h), ?_⟩ | refine ⟨True.intro, ?_⟩)
    exact ct_flat [] rfl ⟨fitU_refl _, fitU_refl _, trivial⟩
theorem ct53 (n : Nat) (f h : Nat → List U) (hn : n ≤ 100000) (p : Nat) (hp : p < n) (z : Int) (hz : IsN z p) (z2 : Int) (hz2 : IsN z2 (p + 1)) (hh : ∀ i, i < n - 1 → h i = if i < p then f i else f (i + 1)) :
    CT Go.Proofs.Try.prog 53 [.sr 0 2 0 n, scI .i64 z, scI .i64 z2] [.arr 75 2 n f] (.u (.sv (.new 75) 2 (n - 1) h)) [.gone] := by
  refine enter53 rfl rfl ?_
  intro ob ib ic sb cat iu nt an be pk wr tn iN aN sN lN eN bt sub sl rn ofB mn dc dn sI X hE hX
  cbv
  have hzz : z = iN p := by rw [hE.e_iN, hz.e]
  have hzz2 : z2 = iN (p + 1) := by rw [hE.e_iN, hz2.e]
  subst hzz hzz2
  have e1 : ic .eql (iN p) (iN (p + 1)) = false := by rw [hE.eqN]; exact decide_eq_false (by omega)
  cbv; (repeat ((first | rewrite [e1] | rewrite [hE.tnN] | rewrite [hE.ntT] | rewrite [hE.ntF] | rewrite [hE.pkT] | rewrite [hE.pkF] | rewrite [hE.anT] | rewrite [hE.anF] | rewrite [hE.anT'] | rewrite [hE.anF']); (repeat (first | rewrite [e1] | rewrite [hE.tnN] | rewrite [hE.ntT] | rewrite [hE.ntF] | rewrite [hE.pkT] | rewrite [hE.pkF] | rewrite [hE.anT] | rewrite [hE.anF] | rewrite [hE.anT'] | rewrite [hE.anF'])); cbv)); (repeat first | refine ⟨(fun h => absurd h Bool.false_ne_true), ?_⟩ | refine ⟨(hE.o (by simp only [Ob.den, hE.e_iN, hE.e_tn, hE.e_aN, hE.e_sN, hE.e_sI, hE.e_mn] <;> omega)), ?_⟩ | refine ⟨fun _ => (hE.o (by simp only [Ob.den, hE.e_iN, hE.e_tn, hE.e_aN, hE.e_sN, hE.e_sI, hE.e_mn] <;> omega)), ?_⟩ | refine ⟨fun h => h, ?_⟩ | refine ⟨fun _ => rfl, ?_⟩ | refine ⟨fun _ h => h, ?_⟩ | refine ⟨fun _ _ => True.intro, ?_⟩ | refine ⟨fun _ h => absurd h Bool.false_ne_true, ?_⟩ | refine ⟨fun _ => True.intro, ?_⟩ | refine ⟨fun _ _ => rfl, ?_⟩ | refine ⟨(fun h => Bool.noConfusion h), ?_⟩ | refine ⟨True.intro, ?_⟩)
  have hm1 : tn (sI (iN n) (iN (p + 1))) = n - (p + 1) := by
    simp only [hE.e_sI, hE.e_tn, hE.e_iN]; omega
  have hm2 : aN p (n - (p + 1)) = n - 1 := by rw [hE.e_aN]; omega
  rw [hm1, hm2]
  refine ct_end ⟨[some 0], [0], ⟨rfl, rfl, rfl, rfl, trivial, trivial⟩, ⟨rfl, rfl, rfl, rfl, rfl, by omega, fun i hi => ?_⟩⟩
  rw [Nat.zero_add, hh i hi]
  simp only [rowsPut, hE.e_lN, hE.e_sN, hE.e_aN, decide_eq_true_eq]
  rw [if_pos hi]
  by_cases h3 : i < p
  · rw [if_pos h3, if_pos h3]
  · rw [if_neg h3, if_neg h3, if_pos (by omega)]
    congr 1; omega
theorem ct23 (o : Tg) (n : Nat) (nm : Nat → ByteArray) (id : Nat → Int) (hn : n ≤ 100000) (s : ByteArray) (e : Int) (m : Nat) (nm' : Nat → ByteArray) (id' : Nat → Int) (hr : UnbR n nm id s e m nm' id') :
    CT Go.Proofs.Try.prog 23 [catS o n nm id, strV s] [] (.tp [catS (.new 75) m nm' id', scI .i64 e]) [] := by
  refine enter23 rfl rfl ?_
  intro ob ib ic sb cat iu nt an be pk wr tn iN aN sN lN eN bt sub sl rn ofB mn dc dn sI X hE hX
  cbv
  cases hr with
  | fail v _ _ _ hg he =>
    refine call_ct hX [] [] (ct19 o n nm id hn s _ _ hg) (fits_nil ⟨fitU_refl _, fitU_refl _, trivial⟩) rfl trivial ?_
    have e1 : ic .neq e 0 = true := by rw [hE.neq]; exact decide_eq_true he
    cbv; (repeat ((first | rewrite [e1] | rewrite [hE.ntT] | rewrite [hE.ntF] | rewrite [hE.pkT] | rewrite [hE.pkF] | rewrite [hE.anT] | rewrite [hE.anF] | rewrite [hE.anT'] | rewrite [hE.anF']); (repeat (first | rewrite [e1] | rewrite [hE.ntT] | rewrite [hE.ntF] | rewrite [hE.pkT] | rewrite [hE.pkF] | rewrite [hE.anT] | rewrite [hE.anF] | rewrite [hE.anT'] | rewrite [hE.anF'])); cbv)); (repeat first | refine ⟨(fun h => absurd h Bool.false_ne_true), ?_⟩ | refine ⟨(hE.o (by simp only [Ob.den, hE.e_iN, hE.e_tn, hE.e_aN, hE.e_sN, hE.e_sI, hE.e_mn] <;> omega)), ?_⟩ | refine ⟨fun _ => (hE.o (by simp only [Ob.den, hE.e_iN, hE.e_tn, hE.e_aN, hE.e_sN, hE.e_sI, hE.e_mn] <;> omega)), ?_⟩ | refine ⟨fun h => h, ?_⟩ | refine ⟨fun _ => rfl, ?_⟩ | refine ⟨fun _ h => h, ?_⟩ | refine ⟨fun _ _ => True.intro, ?_⟩ | refine ⟨fun _ h => absurd h Bool.false_ne_true, ?_⟩ | refine ⟨fun _ => True.intro, ?_⟩ | refine ⟨fun _ _ => rfl, ?_⟩ | refine ⟨(fun h => Bool.noConfusion h), ?_⟩ | refine ⟨True.intro, ?_⟩)
    exact ct_flat [] rfl ⟨rfl, fitU_refl _, trivial⟩
  | ok _ _ h h1 p hp he ha hb =>
    refine call_ct hX [] [] (ct19 o n nm id hn s _ _ (.there h h1 p hp he)) (fits_nil ⟨fitU_refl _, fitU_refl _, trivial⟩) rfl trivial ?_
    have e1 : ic .neq 0 0 = false := by rw [hE.neq]; rfl
    cbv; (repeat ((first | rewrite [e1] | rewrite [hE.ntT] | rewrite [hE.ntF] | rewrite [hE.pkT] | rewrite [hE.pkF] | rewrite [hE.anT] | rewrite [hE.anF] | rewrite [hE.anT'] | rewrite [hE.anF']); (repeat (first | rewrite [e1] | rewrite [hE.ntT] | rewrite [hE.ntF] | rewrite [hE.pkT] | rewrite [hE.pkF] | rewrite [hE.anT] | rewrite [hE.anF] | rewrite [hE.anT'] | rewrite [hE.anF'])); cbv)); (repeat first | refine ⟨(fun h => absurd h Bool.false_ne_true), ?_⟩ | refine ⟨(hE.o (by simp only [Ob.den, hE.e_iN, hE.e_tn, hE.e_aN, hE.e_sN, hE.e_sI, hE.e_mn] <;> omega)), ?_⟩ | refine ⟨fun _ => (hE.o (by simp only [Ob.den, hE.e_iN, hE.e_tn, hE.e_aN, hE.e_sN, hE.e_sI, hE.e_mn] <;> omega)), ?_⟩ | refine ⟨fun h => h, ?_⟩ | refine ⟨fun _ => rfl, ?_⟩ | refine ⟨fun _ h => h, ?_⟩ | refine ⟨fun _ _ => True.intro, ?_⟩ | refine ⟨fun _ h => absurd h Bool.false_ne_true, ?_⟩ | refine ⟨fun _ => True.intro, ?_⟩ | refine ⟨fun _ _ => rfl, ?_⟩ | refine ⟨(fun h => Bool.noConfusion h), ?_⟩ | refine ⟨True.intro, ?_⟩)
    obtain ⟨q, hq, hs⟩ := h.place s
    obtain rfl := h.at hq hs hp he
    obtain ⟨z, hz⟩ : ∃ z : Int, IsN z p := ⟨_, ⟨rfl⟩⟩
    refine call_ct hX [] [] (ct47 o n nm id hn s p hq hs z hz true ⟨fun _ => ⟨hp, he⟩, fun _ => rfl⟩) (fits_nil ⟨fitU_refl _, fitU_refl _, trivial⟩) rfl trivial ?_
    obtain ⟨z2, hz2⟩ : ∃ z2 : Int, IsN z2 (p + 1) := ⟨_, ⟨rfl⟩⟩
    have e2 : ib .add .i64 z 1 = z2 := by rw [hE.add64 (by have := hz.e; omega), hz2.e, hz.e]; rfl
    cbv; (repeat ((first | rewrite [hE.ntT] | rewrite [hE.ntF] | rewrite [hE.pkT] | rewrite [hE.pkF] | rewrite [hE.anT] | rewrite [hE.anF] | rewrite [hE.anT'] | rewrite [hE.anF']); (repeat (first | rewrite [hE.ntT] | rewrite [hE.ntF] | rewrite [hE.pkT] | rewrite [hE.pkF] | rewrite [hE.anT] | rewrite [hE.anF] | rewrite [hE.anT'] | rewrite [hE.anF'])); cbv)); (repeat first | refine ⟨(fun h => absurd h Bool.false_ne_true), ?_⟩ | refine ⟨(hE.o (by simp only [Ob.den, hE.e_iN, hE.e_tn, hE.e_aN, hE.e_sN, hE.e_sI, hE.e_mn] <;> omega)), ?_⟩ | refine ⟨fun _ => (hE.o (by simp only [Ob.den, hE.e_iN, hE.e_tn, hE.e_aN, hE.e_sN, hE.e_sI, hE.e_mn] <;> omega)), ?_⟩ | refine ⟨fun h => h, ?_⟩ | refine ⟨fun _ => rfl, ?_⟩ | refine ⟨fun _ h => h, ?_⟩ | refine ⟨fun _ _ => True.intro, ?_⟩ | refine ⟨fun _ h => absurd h Bool.false_ne_true, ?_⟩ | refine ⟨fun _ => True.intro, ?_⟩ | refine ⟨fun _ _ => rfl, ?_⟩ | refine ⟨(fun h => Bool.noConfusion h), ?_⟩ | refine ⟨True.intro, ?_⟩)
    refine call_ct hX [] [] (ct51 o n (fun i => [.sc (.string (nm i)), .sc (.int .u64 (id i))]) hn) (fits_nil ⟨fitU_refl _, trivial⟩) rfl trivial ?_
    cbv; (repeat ((first | rewrite [e2] | rewrite [hE.ntT] | rewrite [hE.ntF] | rewrite [hE.pkT] | rewrite [hE.pkF] | rewrite [hE.anT] | rewrite [hE.anF] | rewrite [hE.anT'] | rewrite [hE.anF']); (repeat (first | rewrite [e2] | rewrite [hE.ntT] | rewrite [hE.ntF] | rewrite [hE.pkT] | rewrite [hE.pkF] | rewrite [hE.anT] | rewrite [hE.anF] | rewrite [hE.anT'] | rewrite [hE.anF'])); cbv)); (repeat first | refine ⟨(fun h => absurd h Bool.false_ne_true), ?_⟩ | refine ⟨(hE.o (by simp only [Ob.den, hE.e_iN, hE.e_tn, hE.e_aN, hE.e_sN, hE.e_sI, hE.e_mn] <;> omega)), ?_⟩ | refine ⟨fun _ => (hE.o (by simp only [Ob.den, hE.e_iN, hE.e_tn, hE.e_aN, hE.e_sN, hE.e_sI, hE.e_mn] <;> omega)), ?_⟩ | refine ⟨fun h => h, ?_⟩ | refine ⟨fun _ => rfl, ?_⟩ | refine ⟨fun _ h => h, ?_⟩ | refine ⟨fun _ _ => True.intro, ?_⟩ | refine ⟨fun _ h => absurd h Bool.false_ne_true, ?_⟩ | refine ⟨fun _ => True.intro, ?_⟩ | refine ⟨fun _ _ => rfl, ?_⟩ | refine ⟨(fun h => Bool.noConfusion h), ?_⟩ | refine ⟨True.intro, ?_⟩)
    refine call_ct hX [some 0] [] (ct53 n (fun i => [.sc (.string (nm i)), .sc (.int .u64 (id i))]) (fun i => [.sc (.string (nm' i)), .sc (.int .u64 (id' i))]) hn p hp z hz z2 hz2 fun i hi => ?_) ⟨⟨rfl, rfl, rfl, rfl, ?_⟩, ⟨⟨rfl, rfl, rfl, rfl⟩, fitU_refl _, fitU_refl _, trivial⟩, rfl⟩ rfl trivial ?_
    · show [U.sc (.string (nm' i)), U.sc (.int .u64 (id' i))] = _
      rw [ha, hb]
      unfold delF
      split <;> rfl
    · exact ⟨⟨rfl, rfl, rfl, rfl, fun _ _ => rfl⟩, trivial⟩
    · cbv; (repeat ((first | rewrite [hE.ntT] | rewrite [hE.ntF] | rewrite [hE.pkT] | rewrite [hE.pkF] | rewrite [hE.anT] | rewrite [hE.anF] | rewrite [hE.anT'] | rewrite [hE.anF']); (repeat (first | rewrite [hE.ntT] | rewrite [hE.ntF] | rewrite [hE.pkT] | rewrite [hE.pkF] | rewrite [hE.anT] | rewrite [hE.anF] | rewrite [hE.anT'] | rewrite [hE.anF'])); cbv)); (repeat first | refine ⟨(fun h => absurd h Bool.false_ne_true), ?_⟩ | refine ⟨(hE.o (by simp only [Ob.den, hE.e_iN, hE.e_tn, hE.e_aN, hE.e_sN, hE.e_sI, hE.e_mn] <;> omega)), ?_⟩ | refine ⟨fun _ => (hE.o (by simp only [Ob.den, hE.e_iN, hE.e_tn, hE.e_aN, hE.e_sN, hE.e_sI, hE.e_mn] <;> omega)), ?_⟩ | refine ⟨fun h => h, ?_⟩ | refine ⟨fun _ => rfl, ?_⟩ | refine ⟨fun _ h => h, ?_⟩ | refine ⟨fun _ _ => True.intro, ?_⟩ | refine ⟨fun _ h => absurd h Bool.false_ne_true, ?_⟩ | refine ⟨fun _ => True.intro, ?_⟩ | refine ⟨fun _ _ => rfl, ?_⟩ | refine ⟨(fun h => Bool.noConfusion h), ?_⟩ | refine ⟨True.intro, ?_⟩)
      exact ct_flat [] rfl ⟨fitU_refl _, fitU_refl _, trivial⟩
end Ytohkcdfjpgdfbaa
end
section
open Go Am
set_option maxRecDepth 100000
set_option maxHeartbeats 4000000
set_option linter.unusedVariables false
set_option linter.unusedSimpArgs false
namespace Ytohkcdfjpgdfbaa
inductive RenR (n : Nat) (nm : Nat → ByteArray) (id : Nat → Int) (s t : ByteArray) : Int → Nat → (Nat → ByteArray) → (Nat → Int) → Prop
  | wrong (a b) (h : ¬ Rt n nm id) : RenR n nm id s t 2 0 a b
  | name (a b) (h : Rt n nm id) (hn : (nmB s && nmB t) = false) : RenR n nm id s t 170 0 a b
  | none (a b) (h : Rt n nm id) (hs : nmB s = true) (ht : nmB t = true) (hne : ∀ p, p < n → nm p ≠ s) : RenR n nm id s t 80 0 a b
  | exist (a b) (h : Rt n nm id) (hs : nmB s = true) (ht : nmB t = true) (p : Nat) (hp : p < n) (e : nm p = s) (q : Nat) (hq : q < n) (e' : nm q = t) : RenR n nm id s t 81 0 a b
  | ok (a b) (h : Rt n nm id) (hs : nmB s = true) (ht : nmB t = true) (p : Nat) (hp : p < n) (e : nm p = s) (hne : ∀ q, q < n → nm q ≠ t) (q : Nat) (hq : q ≤ n - 1) (hl : ∀ i, i < n - 1 → bL (delF p nm i) t = decide (i < q)) (ha : ∀ i, a i = insF q (delF p nm) t i) (hb : ∀ i, b i = insF q (delF p id) (id p) i) : RenR n nm id s t 0 (n - 1 + 1) a b
theorem Rt.del {n : Nat} {nm : Nat → ByteArray} {id : Nat → Int} (h : Rt n nm id) {p : Nat} (hp : p < n) : Rt (n - 1) (delF p nm) (delF p id) := fun i hi => by
  unfold delF
  by_cases h1 : i < p
  · have := h i (by omega)
    simp only [h1, if_true]
    refine ⟨this.1, this.2.1, fun k hk => ?_⟩
    simp only [show k < p by omega, if_true]
    exact this.2.2 k hk
  · have := h (i + 1) (by omega)
    simp only [h1, if_false]
    refine ⟨this.1, this.2.1, fun k hk => ?_⟩
    by_cases h2 : k < p
    · simp only [h2, if_true]; exact this.2.2 k (by omega)
    · simp only [h2, if_false]; exact this.2.2 (k + 1) (by omega)
theorem delF_ne {α : Type} {n p : Nat} {f : Nat → α} {x : α} (h : ∀ i, i < n → i ≠ p → f i ≠ x) (i : Nat) (hi : i < n - 1) : delF p f i ≠ x := by
  unfold delF
  split
  · exact h i (by omega) (by omega)
  · exact h (i + 1) (by omega) (by omega)
theorem Rt.idne {n : Nat} {nm : Nat → ByteArray} {id : Nat → Int} (h : Rt n nm id) {p : Nat} (hp : p < n) (i : Nat) (hi : i < n) (hne : i ≠ p) : id i ≠ id p := by
  rcases Nat.lt_or_ge i p with h1 | h1
  · exact ((h p hp).2.2 i h1).2
  · exact fun e => ((h i hi).2.2 p (by omega)).2 e.symm
theorem renR_ex (n : Nat) (nm : Nat → ByteArray) (id : Nat → Int) (s t : ByteArray) : ∃ e m a b, RenR n nm id s t e m a b := by
  by_cases h : Rt n nm id
  · cases hs : nmB s
    · exact ⟨_, _, nm, id, .name _ _ h (by rw [hs]; rfl)⟩
    · cases ht : nmB t
      · exact ⟨_, _, nm, id, .name _ _ h (by rw [hs, ht]; rfl)⟩
      · by_cases hp : ∃ p, p < n ∧ nm p = s
        · obtain ⟨p, h1, h2⟩ := hp
          by_cases hq : ∃ q, q < n ∧ nm q = t
          · obtain ⟨q, h3, h4⟩ := hq
            exact ⟨_, _, nm, id, .exist _ _ h hs ht p h1 h2 q h3 h4⟩
          · obtain ⟨q, h3, h4⟩ := (h.del h1).place t
            exact ⟨_, _, _, _, .ok _ _ h hs ht p h1 h2 (fun q h5 h6 => hq ⟨q, h5, h6⟩) q h3 h4 (fun _ => rfl) fun _ => rfl⟩
        · exact ⟨_, _, nm, id, .none _ _ h hs ht fun p h1 h2 => hp ⟨p, h1, h2⟩⟩
  · exact ⟨_, _, nm, id, .wrong _ _ h⟩
theorem all2 {s t : ByteArray} : (nmB s && nmB t) = true ↔ ∀ i, i < 2 → nmB ((fun i => if i = 0 then s else t) i) = true := by
  constructor
  · intro h i hi
    rw [Bool.and_eq_true] at h
    match i, hi with
    | 0, _ => exact h.1
    | 1, _ => exact h.2
  · intro h
    rw [Bool.and_eq_true]
    exact ⟨h 0 (by omega), h 1 (by omega)⟩
theorem ct25 (o : Tg) (n : Nat) (nm : Nat → ByteArray) (id : Nat → Int) (hn : n ≤ 100000) (s t : ByteArray) (e : Int) (m : Nat) (nm' : Nat → ByteArray) (id' : Nat → Int) (hr : RenR n nm id s t e m nm' id') :
    CT Go.Proofs.Try.prog 25 [catS o n nm id, strV s, strV t] [] (.tp [catS (.new 75) m nm' id', scI .i64 e]) [] := by
  refine enter25 rfl rfl ?_
  intro ob ib ic sb cat iu nt an be pk wr tn iN aN sN lN eN bt sub sl rn ofB mn dc dn sI X hE hX
  cbv
  obtain ⟨b, hb⟩ : ∃ b : Bool, b = true ↔ Rt n nm id := by by_cases h : Rt n nm id; exact ⟨true, by simp [h]⟩; exact ⟨false, by simp [h]⟩
  refine call_ct hX [] [0] (ct46 o (.new 9) n nm id hn 2 (fun i => if i = 0 then s else t) (by omega) b hb (nmB s && nmB t) all2) (fits_fz rfl ⟨fitU_refl _, ⟨rfl, rfl, rfl, rfl, rfl, by omega, fun i hi => by match i, hi with | 0, _ => rfl | 1, _ => rfl⟩, trivial⟩) rfl ⟨trivial, trivial⟩ ?_
  have e1 : ic .neq 2 0 = true := by rw [hE.neq]; rfl
  have e2 : ic .neq 170 0 = true := by rw [hE.neq]; rfl
  have e3 : ic .neq 0 0 = false := by rw [hE.neq]; rfl
  have e4 : ic .neq 80 0 = true := by rw [hE.neq]; rfl
  cases hr with
  | wrong _ _ h =>
    rw [bfalse fun e => h (hb.1 e), show mayE false (nmB s && nmB t) = 2 by rfl]
    cbv; (repeat ((first | rewrite [e1] | rewrite [hE.ntT] | rewrite [hE.ntF] | rewrite [hE.pkT] | rewrite [hE.pkF] | rewrite [hE.anT] | rewrite [hE.anF] | rewrite [hE.anT'] | rewrite [hE.anF']); (repeat (first | rewrite [e1] | rewrite [hE.ntT] | rewrite [hE.ntF] | rewrite [hE.pkT] | rewrite [hE.pkF] | rewrite [hE.anT] | rewrite [hE.anF] | rewrite [hE.anT'] | rewrite [hE.anF'])); cbv)); (repeat first | refine ⟨(fun h => absurd h Bool.false_ne_true), ?_⟩ | refine ⟨(hE.o (by simp only [Ob.den, hE.e_iN, hE.e_tn, hE.e_aN, hE.e_sN, hE.e_sI, hE.e_mn] <;> omega)), ?_⟩ | refine ⟨fun _ => (hE.o (by simp only [Ob.den, hE.e_iN, hE.e_tn, hE.e_aN, hE.e_sN, hE.e_sI, hE.e_mn] <;> omega)), ?_⟩ | refine ⟨fun h => h, ?_⟩ | refine ⟨fun _ => rfl, ?_⟩ | refine ⟨fun _ h => h, ?_⟩ | refine ⟨fun _ _ => True.intro, ?_⟩ | refine ⟨fun _ h => absurd h Bool.false_ne_true, ?_⟩ | refine ⟨fun _ => True.intro, ?_⟩ | refine ⟨fun _ _ => rfl, ?_⟩ | refine ⟨(fun h => Bool.noConfusion h), ?_⟩ | refine ⟨True.intro, ?_⟩)
    exact ct_flat [] rfl ⟨rfl, fitU_refl _, trivial⟩
  | name _ _ h h1 =>
    rw [hb.2 h, h1, show mayE true false = 170 by rfl]
    cbv; (repeat ((first | rewrite [e2] | rewrite [hE.ntT] | rewrite [hE.ntF] | rewrite [hE.pkT] | rewrite [hE.pkF] | rewrite [hE.anT] | rewrite [hE.anF] | rewrite [hE.anT'] | rewrite [hE.anF']); (repeat (first | rewrite [e2] | rewrite [hE.ntT] | rewrite [hE.ntF] | rewrite [hE.pkT] | rewrite [hE.pkF] | rewrite [hE.anT] | rewrite [hE.anF] | rewrite [hE.anT'] | rewrite [hE.anF'])); cbv)); (repeat first | refine ⟨(fun h => absurd h Bool.false_ne_true), ?_⟩ | refine ⟨(hE.o (by simp only [Ob.den, hE.e_iN, hE.e_tn, hE.e_aN, hE.e_sN, hE.e_sI, hE.e_mn] <;> omega)), ?_⟩ | refine ⟨fun _ => (hE.o (by simp only [Ob.den, hE.e_iN, hE.e_tn, hE.e_aN, hE.e_sN, hE.e_sI, hE.e_mn] <;> omega)), ?_⟩ | refine ⟨fun h => h, ?_⟩ | refine ⟨fun _ => rfl, ?_⟩ | refine ⟨fun _ h => h, ?_⟩ | refine ⟨fun _ _ => True.intro, ?_⟩ | refine ⟨fun _ h => absurd h Bool.false_ne_true, ?_⟩ | refine ⟨fun _ => True.intro, ?_⟩ | refine ⟨fun _ _ => rfl, ?_⟩ | refine ⟨(fun h => Bool.noConfusion h), ?_⟩ | refine ⟨True.intro, ?_⟩)
    exact ct_flat [] rfl ⟨rfl, fitU_refl _, trivial⟩
  | none _ _ h h1 h2 hne =>
    rw [hb.2 h, h1, h2, show mayE true (true && true) = 0 by rfl]
    cbv; (repeat ((first | rewrite [e3] | rewrite [hE.ntT] | rewrite [hE.ntF] | rewrite [hE.pkT] | rewrite [hE.pkF] | rewrite [hE.anT] | rewrite [hE.anF] | rewrite [hE.anT'] | rewrite [hE.anF']); (repeat (first | rewrite [e3] | rewrite [hE.ntT] | rewrite [hE.ntF] | rewrite [hE.pkT] | rewrite [hE.pkF] | rewrite [hE.anT] | rewrite [hE.anF] | rewrite [hE.anT'] | rewrite [hE.anF'])); cbv)); (repeat first | refine ⟨(fun h => absurd h Bool.false_ne_true), ?_⟩ | refine ⟨(hE.o (by simp only [Ob.den, hE.e_iN, hE.e_tn, hE.e_aN, hE.e_sN, hE.e_sI, hE.e_mn] <;> omega)), ?_⟩ | refine ⟨fun _ => (hE.o (by simp only [Ob.den, hE.e_iN, hE.e_tn, hE.e_aN, hE.e_sN, hE.e_sI, hE.e_mn] <;> omega)), ?_⟩ | refine ⟨fun h => h, ?_⟩ | refine ⟨fun _ => rfl, ?_⟩ | refine ⟨fun _ h => h, ?_⟩ | refine ⟨fun _ _ => True.intro, ?_⟩ | refine ⟨fun _ h => absurd h Bool.false_ne_true, ?_⟩ | refine ⟨fun _ => True.intro, ?_⟩ | refine ⟨fun _ _ => rfl, ?_⟩ | refine ⟨(fun h => Bool.noConfusion h), ?_⟩ | refine ⟨True.intro, ?_⟩)
    refine call_ct hX [] [] (ct19 o n nm id hn s _ _ (.none h h1 hne)) (fits_nil ⟨fitU_refl _, fitU_refl _, trivial⟩) rfl trivial ?_
    cbv; (repeat ((first | rewrite [e4] | rewrite [hE.ntT] | rewrite [hE.ntF] | rewrite [hE.pkT] | rewrite [hE.pkF] | rewrite [hE.anT] | rewrite [hE.anF] | rewrite [hE.anT'] | rewrite [hE.anF']); (repeat (first | rewrite [e4] | rewrite [hE.ntT] | rewrite [hE.ntF] | rewrite [hE.pkT] | rewrite [hE.pkF] | rewrite [hE.anT] | rewrite [hE.anF] | rewrite [hE.anT'] | rewrite [hE.anF'])); cbv)); (repeat first | refine ⟨(fun h => absurd h Bool.false_ne_true), ?_⟩ | refine ⟨(hE.o (by simp only [Ob.den, hE.e_iN, hE.e_tn, hE.e_aN, hE.e_sN, hE.e_sI, hE.e_mn] <;> omega)), ?_⟩ | refine ⟨fun _ => (hE.o (by simp only [Ob.den, hE.e_iN, hE.e_tn, hE.e_aN, hE.e_sN, hE.e_sI, hE.e_mn] <;> omega)), ?_⟩ | refine ⟨fun h => h, ?_⟩ | refine ⟨fun _ => rfl, ?_⟩ | refine ⟨fun _ h => h, ?_⟩ | refine ⟨fun _ _ => True.intro, ?_⟩ | refine ⟨fun _ h => absurd h Bool.false_ne_true, ?_⟩ | refine ⟨fun _ => True.intro, ?_⟩ | refine ⟨fun _ _ => rfl, ?_⟩ | refine ⟨(fun h => Bool.noConfusion h), ?_⟩ | refine ⟨True.intro, ?_⟩)
    exact ct_flat [] rfl ⟨rfl, fitU_refl _, trivial⟩
  | exist _ _ h h1 h2 p hp he q hq he' =>
    rw [hb.2 h, h1, h2, show mayE true (true && true) = 0 by rfl]
    cbv; (repeat ((first | rewrite [e3] | rewrite [hE.ntT] | rewrite [hE.ntF] | rewrite [hE.pkT] | rewrite [hE.pkF] | rewrite [hE.anT] | rewrite [hE.anF] | rewrite [hE.anT'] | rewrite [hE.anF']); (repeat (first | rewrite [e3] | rewrite [hE.ntT] | rewrite [hE.ntF] | rewrite [hE.pkT] | rewrite [hE.pkF] | rewrite [hE.anT] | rewrite [hE.anF] | rewrite [hE.anT'] | rewrite [hE.anF'])); cbv)); (repeat first | refine ⟨(fun h => absurd h Bool.false_ne_true), ?_⟩ | refine ⟨(hE.o (by simp only [Ob.den, hE.e_iN, hE.e_tn, hE.e_aN, hE.e_sN, hE.e_sI, hE.e_mn] <;> omega)), ?_⟩ | refine ⟨fun _ => (hE.o (by simp only [Ob.den, hE.e_iN, hE.e_tn, hE.e_aN, hE.e_sN, hE.e_sI, hE.e_mn] <;> omega)), ?_⟩ | refine ⟨fun h => h, ?_⟩ | refine ⟨fun _ => rfl, ?_⟩ | refine ⟨fun _ h => h, ?_⟩ | refine ⟨fun _ _ => True.intro, ?_⟩ | refine ⟨fun _ h => absurd h Bool.false_ne_true, ?_⟩ | refine ⟨fun _ => True.intro, ?_⟩ | refine ⟨fun _ _ => rfl, ?_⟩ | refine ⟨(fun h => Bool.noConfusion h), ?_⟩ | refine ⟨True.intro, ?_⟩)
    refine call_ct hX [] [] (ct19 o n nm id hn s _ _ (.there h h1 p hp he)) (fits_nil ⟨fitU_refl _, fitU_refl _, trivial⟩) rfl trivial ?_
    cbv; (repeat ((first | rewrite [e3] | rewrite [hE.ntT] | rewrite [hE.ntF] | rewrite [hE.pkT] | rewrite [hE.pkF] | rewrite [hE.anT] | rewrite [hE.anF] | rewrite [hE.anT'] | rewrite [hE.anF']); (repeat (first | rewrite [e3] | rewrite [hE.ntT] | rewrite [hE.ntF] | rewrite [hE.pkT] | rewrite [hE.pkF] | rewrite [hE.anT] | rewrite [hE.anF] | rewrite [hE.anT'] | rewrite [hE.anF'])); cbv)); (repeat first | refine ⟨(fun h => absurd h Bool.false_ne_true), ?_⟩ | refine ⟨(hE.o (by simp only [Ob.den, hE.e_iN, hE.e_tn, hE.e_aN, hE.e_sN, hE.e_sI, hE.e_mn] <;> omega)), ?_⟩ | refine ⟨fun _ => (hE.o (by simp only [Ob.den, hE.e_iN, hE.e_tn, hE.e_aN, hE.e_sN, hE.e_sI, hE.e_mn] <;> omega)), ?_⟩ | refine ⟨fun h => h, ?_⟩ | refine ⟨fun _ => rfl, ?_⟩ | refine ⟨fun _ h => h, ?_⟩ | refine ⟨fun _ _ => True.intro, ?_⟩ | refine ⟨fun _ h => absurd h Bool.false_ne_true, ?_⟩ | refine ⟨fun _ => True.intro, ?_⟩ | refine ⟨fun _ _ => rfl, ?_⟩ | refine ⟨(fun h => Bool.noConfusion h), ?_⟩ | refine ⟨True.intro, ?_⟩)
    obtain ⟨r, hr, hs⟩ := h.place t
    obtain rfl := h.at hr hs hq he'
    obtain ⟨z, hz⟩ : ∃ z : Int, IsN z q := ⟨_, ⟨rfl⟩⟩
    refine call_ct hX [] [] (ct47 o n nm id hn t q hr hs z hz true ⟨fun _ => ⟨hq, he'⟩, fun _ => rfl⟩) (fits_nil ⟨fitU_refl _, fitU_refl _, trivial⟩) rfl trivial ?_
    cbv; (repeat ((first | rewrite [hE.ntT] | rewrite [hE.ntF] | rewrite [hE.pkT] | rewrite [hE.pkF] | rewrite [hE.anT] | rewrite [hE.anF] | rewrite [hE.anT'] | rewrite [hE.anF']); (repeat (first | rewrite [hE.ntT] | rewrite [hE.ntF] | rewrite [hE.pkT] | rewrite [hE.pkF] | rewrite [hE.anT] | rewrite [hE.anF] | rewrite [hE.anT'] | rewrite [hE.anF'])); cbv)); (repeat first | refine ⟨(fun h => absurd h Bool.false_ne_true), ?_⟩ | refine ⟨(hE.o (by simp only [Ob.den, hE.e_iN, hE.e_tn, hE.e_aN, hE.e_sN, hE.e_sI, hE.e_mn] <;> omega)), ?_⟩ | refine ⟨fun _ => (hE.o (by simp only [Ob.den, hE.e_iN, hE.e_tn, hE.e_aN, hE.e_sN, hE.e_sI, hE.e_mn] <;> omega)), ?_⟩ | refine ⟨fun h => h, ?_⟩ | refine ⟨fun _ => rfl, ?_⟩ | refine ⟨fun _ h => h, ?_⟩ | refine ⟨fun _ _ => True.intro, ?_⟩ | refine ⟨fun _ h => absurd h Bool.false_ne_true, ?_⟩ | refine ⟨fun _ => True.intro, ?_⟩ | refine ⟨fun _ _ => rfl, ?_⟩ | refine ⟨(fun h => Bool.noConfusion h), ?_⟩ | refine ⟨True.intro, ?_⟩)
    exact ct_flat [] rfl ⟨rfl, fitU_refl _, trivial⟩
  | ok _ _ h h1 h2 p hp he hne q hq hl ha hb' =>
    rw [hb.2 h, h1, h2, show mayE true (true && true) = 0 by rfl]
    cbv; (repeat ((first | rewrite [e3] | rewrite [hE.ntT] | rewrite [hE.ntF] | rewrite [hE.pkT] | rewrite [hE.pkF] | rewrite [hE.anT] | rewrite [hE.anF] | rewrite [hE.anT'] | rewrite [hE.anF']); (repeat (first | rewrite [e3] | rewrite [hE.ntT] | rewrite [hE.ntF] | rewrite [hE.pkT] | rewrite [hE.pkF] | rewrite [hE.anT] | rewrite [hE.anF] | rewrite [hE.anT'] | rewrite [hE.anF'])); cbv)); (repeat first | refine ⟨(fun h => absurd h Bool.false_ne_true), ?_⟩ | refine ⟨(hE.o (by simp only [Ob.den, hE.e_iN, hE.e_tn, hE.e_aN, hE.e_sN, hE.e_sI, hE.e_mn] <;> omega)), ?_⟩ | refine ⟨fun _ => (hE.o (by simp only [Ob.den, hE.e_iN, hE.e_tn, hE.e_aN, hE.e_sN, hE.e_sI, hE.e_mn] <;> omega)), ?_⟩ | refine ⟨fun h => h, ?_⟩ | refine ⟨fun _ => rfl, ?_⟩ | refine ⟨fun _ h => h, ?_⟩ | refine ⟨fun _ _ => True.intro, ?_⟩ | refine ⟨fun _ h => absurd h Bool.false_ne_true, ?_⟩ | refine ⟨fun _ => True.intro, ?_⟩ | refine ⟨fun _ _ => rfl, ?_⟩ | refine ⟨(fun h => Bool.noConfusion h), ?_⟩ | refine ⟨True.intro, ?_⟩)
    refine call_ct hX [] [] (ct19 o n nm id hn s _ _ (.there h h1 p hp he)) (fits_nil ⟨fitU_refl _, fitU_refl _, trivial⟩) rfl trivial ?_
    cbv; (repeat ((first | rewrite [e3] | rewrite [hE.ntT] | rewrite [hE.ntF] | rewrite [hE.pkT] | rewrite [hE.pkF] | rewrite [hE.anT] | rewrite [hE.anF] | rewrite [hE.anT'] | rewrite [hE.anF']); (repeat (first | rewrite [e3] | rewrite [hE.ntT] | rewrite [hE.ntF] | rewrite [hE.pkT] | rewrite [hE.pkF] | rewrite [hE.anT] | rewrite [hE.anF] | rewrite [hE.anT'] | rewrite [hE.anF'])); cbv)); (repeat first | refine ⟨(fun h => absurd h Bool.false_ne_true), ?_⟩ | refine ⟨(hE.o (by simp only [Ob.den, hE.e_iN, hE.e_tn, hE.e_aN, hE.e_sN, hE.e_sI, hE.e_mn] <;> omega)), ?_⟩ | refine ⟨fun _ => (hE.o (by simp only [Ob.den, hE.e_iN, hE.e_tn, hE.e_aN, hE.e_sN, hE.e_sI, hE.e_mn] <;> omega)), ?_⟩ | refine ⟨fun h => h, ?_⟩ | refine ⟨fun _ => rfl, ?_⟩ | refine ⟨fun _ h => h, ?_⟩ | refine ⟨fun _ _ => True.intro, ?_⟩ | refine ⟨fun _ h => absurd h Bool.false_ne_true, ?_⟩ | refine ⟨fun _ => True.intro, ?_⟩ | refine ⟨fun _ _ => rfl, ?_⟩ | refine ⟨(fun h => Bool.noConfusion h), ?_⟩ | refine ⟨True.intro, ?_⟩)
    obtain ⟨r, hr, hs⟩ := h.place t
    obtain ⟨z, hz⟩ : ∃ z : Int, IsN z r := ⟨_, ⟨rfl⟩⟩
    refine call_ct hX [] [] (ct47 o n nm id hn t r hr hs z hz false ⟨fun e => (by cases e), fun e => absurd e.2 (hne r e.1)⟩) (fits_nil ⟨fitU_refl _, fitU_refl _, trivial⟩) rfl trivial ?_
    cbv; (repeat ((first | rewrite [hE.ntT] | rewrite [hE.ntF] | rewrite [hE.pkT] | rewrite [hE.pkF] | rewrite [hE.anT] | rewrite [hE.anF] | rewrite [hE.anT'] | rewrite [hE.anF']); (repeat (first | rewrite [hE.ntT] | rewrite [hE.ntF] | rewrite [hE.pkT] | rewrite [hE.pkF] | rewrite [hE.anT] | rewrite [hE.anF] | rewrite [hE.anT'] | rewrite [hE.anF'])); cbv)); (repeat first | refine ⟨(fun h => absurd h Bool.false_ne_true), ?_⟩ | refine ⟨(hE.o (by simp only [Ob.den, hE.e_iN, hE.e_tn, hE.e_aN, hE.e_sN, hE.e_sI, hE.e_mn] <;> omega)), ?_⟩ | refine ⟨fun _ => (hE.o (by simp only [Ob.den, hE.e_iN, hE.e_tn, hE.e_aN, hE.e_sN, hE.e_sI, hE.e_mn] <;> omega)), ?_⟩ | refine ⟨fun h => h, ?_⟩ | refine ⟨fun _ => rfl, ?_⟩ | refine ⟨fun _ h => h, ?_⟩ | refine ⟨fun _ _ => True.intro, ?_⟩ | refine ⟨fun _ h => absurd h Bool.false_ne_true, ?_⟩ | refine ⟨fun _ => True.intro, ?_⟩ | refine ⟨fun _ _ => rfl, ?_⟩ | refine ⟨(fun h => Bool.noConfusion h), ?_⟩ | refine ⟨True.intro, ?_⟩)
    obtain ⟨nm1, hnm1⟩ : ∃ f, f = delF p nm := ⟨_, rfl⟩
    obtain ⟨id1, hid1⟩ : ∃ f, f = delF p id := ⟨_, rfl⟩
    refine call_ct hX [] [] (ct23 o n nm id hn s 0 (n - 1) nm1 id1 (.ok _ _ h h1 p hp he (fun i => by rw [hnm1]) fun i => by rw [hid1])) (fits_nil ⟨fitU_refl _, fitU_refl _, trivial⟩) rfl trivial ?_
    obtain ⟨n1, hn1⟩ : ∃ k, k = n - 1 := ⟨_, rfl⟩
    rw [← hn1] at hq hl ⊢
    cbv; (repeat ((first | rewrite [hE.ntT] | rewrite [hE.ntF] | rewrite [hE.pkT] | rewrite [hE.pkF] | rewrite [hE.anT] | rewrite [hE.anF] | rewrite [hE.anT'] | rewrite [hE.anF']); (repeat (first | rewrite [hE.ntT] | rewrite [hE.ntF] | rewrite [hE.pkT] | rewrite [hE.pkF] | rewrite [hE.anT] | rewrite [hE.anF] | rewrite [hE.anT'] | rewrite [hE.anF'])); cbv)); (repeat first | refine ⟨(fun h => absurd h Bool.false_ne_true), ?_⟩ | refine ⟨(hE.o (by simp only [Ob.den, hE.e_iN, hE.e_tn, hE.e_aN, hE.e_sN, hE.e_sI, hE.e_mn] <;> omega)), ?_⟩ | refine ⟨fun _ => (hE.o (by simp only [Ob.den, hE.e_iN, hE.e_tn, hE.e_aN, hE.e_sN, hE.e_sI, hE.e_mn] <;> omega)), ?_⟩ | refine ⟨fun h => h, ?_⟩ | refine ⟨fun _ => rfl, ?_⟩ | refine ⟨fun _ h => h, ?_⟩ | refine ⟨fun _ _ => True.intro, ?_⟩ | refine ⟨fun _ h => absurd h Bool.false_ne_true, ?_⟩ | refine ⟨fun _ => True.intro, ?_⟩ | refine ⟨fun _ _ => rfl, ?_⟩ | refine ⟨(fun h => Bool.noConfusion h), ?_⟩ | refine ⟨True.intro, ?_⟩)
    refine call_ct hX [] [] (ct21 (.new 75) n1 nm1 id1 (by omega) t (id p) 0 (n1 + 1) nm' id' (.ok _ _ (by rw [hn1, hnm1, hid1]; exact h.del hp) h2 (by rw [hn1, hnm1]; exact delF_ne fun i hi _ => hne i hi) (h p hp).2.1 (by rw [hn1, hid1]; exact delF_ne fun i hi hip => h.idne hp i hi hip) q hq (by rw [hnm1]; exact hl) (by rw [hnm1]; exact ha) (by rw [hid1]; exact hb'))) (fits_nil ⟨fitU_refl _, fitU_refl _, fitU_refl _, trivial⟩) rfl trivial ?_
    cbv; (repeat ((first | rewrite [hE.ntT] | rewrite [hE.ntF] | rewrite [hE.pkT] | rewrite [hE.pkF] | rewrite [hE.anT] | rewrite [hE.anF] | rewrite [hE.anT'] | rewrite [hE.anF']); (repeat (first | rewrite [hE.ntT] | rewrite [hE.ntF] | rewrite [hE.pkT] | rewrite [hE.pkF] | rewrite [hE.anT] | rewrite [hE.anF] | rewrite [hE.anT'] | rewrite [hE.anF'])); cbv)); (repeat first | refine ⟨(fun h => absurd h Bool.false_ne_true), ?_⟩ | refine ⟨(hE.o (by simp only [Ob.den, hE.e_iN, hE.e_tn, hE.e_aN, hE.e_sN, hE.e_sI, hE.e_mn] <;> omega)), ?_⟩ | refine ⟨fun _ => (hE.o (by simp only [Ob.den, hE.e_iN, hE.e_tn, hE.e_aN, hE.e_sN, hE.e_sI, hE.e_mn] <;> omega)), ?_⟩ | refine ⟨fun h => h, ?_⟩ | refine ⟨fun _ => rfl, ?_⟩ | refine ⟨fun _ h => h, ?_⟩ | refine ⟨fun _ _ => True.intro, ?_⟩ | refine ⟨fun _ h => absurd h Bool.false_ne_true, ?_⟩ | refine ⟨fun _ => True.intro, ?_⟩ | refine ⟨fun _ _ => rfl, ?_⟩ | refine ⟨(fun h => Bool.noConfusion h), ?_⟩ | refine ⟨True.intro, ?_⟩)
    exact ct_flat [] rfl ⟨fitU_refl _, fitU_refl _, trivial⟩
end Ytohkcdfjpgdfbaa
end
section
open Go Am
set_option maxRecDepth 100000
set_option maxHeartbeats 4000000
set_option linter.unusedVariables false
set_option linter.unusedSimpArgs false
namespace Ytohkcdfjpgdfbaa
theorem ct26 (o : Tg) (n : Nat) (nm : Nat → ByteArray) (id : Nat → Int) (hn : n ≤ 100000) (s t : ByteArray) (e : Int) (m : Nat) (nm' : Nat → ByteArray) (id' : Nat → Int) (hr : RenR n nm id s t e m nm' id') :
    CT Go.Proofs.Try.prog 26 [catS o n nm id, strV s, strV t] [] (.tp [catS (.new 100) m nm' id', scI .i64 e]) [] := by
  refine enter26 rfl rfl ?_
  intro ob ib ic sb cat iu nt an be pk wr tn iN aN sN lN eN bt sub sl rn ofB mn dc dn sI X hE hX
  cbv
  obtain ⟨b, hb⟩ : ∃ b : Bool, b = true ↔ Rt n nm id := by by_cases h : Rt n nm id; exact ⟨true, by simp [h]⟩; exact ⟨false, by simp [h]⟩
  refine call_ct hX [] [] (ct29 o n nm id hn b hb) (fits_nil ⟨fitU_refl _, trivial⟩) rfl trivial ?_
  have e1 : ic .neq 2 0 = true := by rw [hE.neq]; rfl
  have e2 : ic .neq 170 0 = true := by rw [hE.neq]; rfl
  have e3 : ic .neq 0 0 = false := by rw [hE.neq]; rfl
  have e4 : ic .neq 80 0 = true := by rw [hE.neq]; rfl
  have e5 : ic .eql 0 0 = true := by rw [hE.eql]; rfl
  have e6 : ic .eql 80 0 = false := by rw [hE.eql]; rfl
  cases hr with
  | wrong _ _ h =>
    rw [bfalse fun e => h (hb.1 e)]
    cbv; (repeat ((first | rewrite [hE.ntT] | rewrite [hE.ntF] | rewrite [hE.pkT] | rewrite [hE.pkF] | rewrite [hE.anT] | rewrite [hE.anF] | rewrite [hE.anT'] | rewrite [hE.anF']); (repeat (first | rewrite [hE.ntT] | rewrite [hE.ntF] | rewrite [hE.pkT] | rewrite [hE.pkF] | rewrite [hE.anT] | rewrite [hE.anF] | rewrite [hE.anT'] | rewrite [hE.anF'])); cbv)); (repeat first | refine ⟨(fun h => absurd h Bool.false_ne_true), ?_⟩ | refine ⟨(hE.o (by simp only [Ob.den, hE.e_iN, hE.e_tn, hE.e_aN, hE.e_sN, hE.e_sI, hE.e_mn] <;> omega)), ?_⟩ | refine ⟨fun _ => (hE.o (by simp only [Ob.den, hE.e_iN, hE.e_tn, hE.e_aN, hE.e_sN, hE.e_sI, hE.e_mn] <;> omega)), ?_⟩ | refine ⟨fun h => h, ?_⟩ | refine ⟨fun _ => rfl, ?_⟩ | refine ⟨fun _ h => h, ?_⟩ | refine ⟨fun _ _ => True.intro, ?_⟩ | refine ⟨fun _ h => absurd h Bool.false_ne_true, ?_⟩ | refine ⟨fun _ => True.intro, ?_⟩ | refine ⟨fun _ _ => rfl, ?_⟩ | refine ⟨(fun h => Bool.noConfusion h), ?_⟩ | refine ⟨True.intro, ?_⟩)
    refine call_ct hX [] [] (ct20 o n nm id hn s _ _ (.wrong h)) (fits_nil ⟨fitU_refl _, fitU_refl _, trivial⟩) rfl trivial ?_
    cbv; (repeat ((first | rewrite [e1] | rewrite [hE.ntT] | rewrite [hE.ntF] | rewrite [hE.pkT] | rewrite [hE.pkF] | rewrite [hE.anT] | rewrite [hE.anF] | rewrite [hE.anT'] | rewrite [hE.anF']); (repeat (first | rewrite [e1] | rewrite [hE.ntT] | rewrite [hE.ntF] | rewrite [hE.pkT] | rewrite [hE.pkF] | rewrite [hE.anT] | rewrite [hE.anF] | rewrite [hE.anT'] | rewrite [hE.anF'])); cbv)); (repeat first | refine ⟨(fun h => absurd h Bool.false_ne_true), ?_⟩ | refine ⟨(hE.o (by simp only [Ob.den, hE.e_iN, hE.e_tn, hE.e_aN, hE.e_sN, hE.e_sI, hE.e_mn] <;> omega)), ?_⟩ | refine ⟨fun _ => (hE.o (by simp only [Ob.den, hE.e_iN, hE.e_tn, hE.e_aN, hE.e_sN, hE.e_sI, hE.e_mn] <;> omega)), ?_⟩ | refine ⟨fun h => h, ?_⟩ | refine ⟨fun _ => rfl, ?_⟩ | refine ⟨fun _ h => h, ?_⟩ | refine ⟨fun _ _ => True.intro, ?_⟩ | refine ⟨fun _ h => absurd h Bool.false_ne_true, ?_⟩ | refine ⟨fun _ => True.intro, ?_⟩ | refine ⟨fun _ _ => rfl, ?_⟩ | refine ⟨(fun h => Bool.noConfusion h), ?_⟩ | refine ⟨True.intro, ?_⟩)
    exact ct_flat [] rfl ⟨rfl, fitU_refl _, trivial⟩
  | name _ _ h h1 =>
    rw [hb.2 h]
    cbv; (repeat ((first | rewrite [hE.ntT] | rewrite [hE.ntF] | rewrite [hE.pkT] | rewrite [hE.pkF] | rewrite [hE.anT] | rewrite [hE.anF] | rewrite [hE.anT'] | rewrite [hE.anF']); (repeat (first | rewrite [hE.ntT] | rewrite [hE.ntF] | rewrite [hE.pkT] | rewrite [hE.pkF] | rewrite [hE.anT] | rewrite [hE.anF] | rewrite [hE.anT'] | rewrite [hE.anF'])); cbv)); (repeat first | refine ⟨(fun h => absurd h Bool.false_ne_true), ?_⟩ | refine ⟨(hE.o (by simp only [Ob.den, hE.e_iN, hE.e_tn, hE.e_aN, hE.e_sN, hE.e_sI, hE.e_mn] <;> omega)), ?_⟩ | refine ⟨fun _ => (hE.o (by simp only [Ob.den, hE.e_iN, hE.e_tn, hE.e_aN, hE.e_sN, hE.e_sI, hE.e_mn] <;> omega)), ?_⟩ | refine ⟨fun h => h, ?_⟩ | refine ⟨fun _ => rfl, ?_⟩ | refine ⟨fun _ h => h, ?_⟩ | refine ⟨fun _ _ => True.intro, ?_⟩ | refine ⟨fun _ h => absurd h Bool.false_ne_true, ?_⟩ | refine ⟨fun _ => True.intro, ?_⟩ | refine ⟨fun _ _ => rfl, ?_⟩ | refine ⟨(fun h => Bool.noConfusion h), ?_⟩ | refine ⟨True.intro, ?_⟩)
    refine call_ct hX [] [] (ct34 s) (fits_nil ⟨fitU_refl _, trivial⟩) rfl trivial ?_
    cases h2 : nmB s
    · cbv; (repeat ((first | rewrite [hE.ntT] | rewrite [hE.ntF] | rewrite [hE.pkT] | rewrite [hE.pkF] | rewrite [hE.anT] | rewrite [hE.anF] | rewrite [hE.anT'] | rewrite [hE.anF']); (repeat (first | rewrite [hE.ntT] | rewrite [hE.ntF] | rewrite [hE.pkT] | rewrite [hE.pkF] | rewrite [hE.anT] | rewrite [hE.anF] | rewrite [hE.anT'] | rewrite [hE.anF'])); cbv)); (repeat first | refine ⟨(fun h => absurd h Bool.false_ne_true), ?_⟩ | refine ⟨(hE.o (by simp only [Ob.den, hE.e_iN, hE.e_tn, hE.e_aN, hE.e_sN, hE.e_sI, hE.e_mn] <;> omega)), ?_⟩ | refine ⟨fun _ => (hE.o (by simp only [Ob.den, hE.e_iN, hE.e_tn, hE.e_aN, hE.e_sN, hE.e_sI, hE.e_mn] <;> omega)), ?_⟩ | refine ⟨fun h => h, ?_⟩ | refine ⟨fun _ => rfl, ?_⟩ | refine ⟨fun _ h => h, ?_⟩ | refine ⟨fun _ _ => True.intro, ?_⟩ | refine ⟨fun _ h => absurd h Bool.false_ne_true, ?_⟩ | refine ⟨fun _ => True.intro, ?_⟩ | refine ⟨fun _ _ => rfl, ?_⟩ | refine ⟨(fun h => Bool.noConfusion h), ?_⟩ | refine ⟨True.intro, ?_⟩)
      exact ct_flat [] rfl ⟨rfl, fitU_refl _, trivial⟩
    · cbv; (repeat ((first | rewrite [hE.ntT] | rewrite [hE.ntF] | rewrite [hE.pkT] | rewrite [hE.pkF] | rewrite [hE.anT] | rewrite [hE.anF] | rewrite [hE.anT'] | rewrite [hE.anF']); (repeat (first | rewrite [hE.ntT] | rewrite [hE.ntF] | rewrite [hE.pkT] | rewrite [hE.pkF] | rewrite [hE.anT] | rewrite [hE.anF] | rewrite [hE.anT'] | rewrite [hE.anF'])); cbv)); (repeat first | refine ⟨(fun h => absurd h Bool.false_ne_true), ?_⟩ | refine ⟨(hE.o (by simp only [Ob.den, hE.e_iN, hE.e_tn, hE.e_aN, hE.e_sN, hE.e_sI, hE.e_mn] <;> omega)), ?_⟩ | refine ⟨fun _ => (hE.o (by simp only [Ob.den, hE.e_iN, hE.e_tn, hE.e_aN, hE.e_sN, hE.e_sI, hE.e_mn] <;> omega)), ?_⟩ | refine ⟨fun h => h, ?_⟩ | refine ⟨fun _ => rfl, ?_⟩ | refine ⟨fun _ h => h, ?_⟩ | refine ⟨fun _ _ => True.intro, ?_⟩ | refine ⟨fun _ h => absurd h Bool.false_ne_true, ?_⟩ | refine ⟨fun _ => True.intro, ?_⟩ | refine ⟨fun _ _ => rfl, ?_⟩ | refine ⟨(fun h => Bool.noConfusion h), ?_⟩ | refine ⟨True.intro, ?_⟩)
      rw [h2, Bool.true_and] at h1
      refine call_ct hX [] [] (ct34 t) (fits_nil ⟨fitU_refl _, trivial⟩) rfl trivial ?_
      rw [h1]
      cbv; (repeat ((first | rewrite [hE.ntT] | rewrite [hE.ntF] | rewrite [hE.pkT] | rewrite [hE.pkF] | rewrite [hE.anT] | rewrite [hE.anF] | rewrite [hE.anT'] | rewrite [hE.anF']); (repeat (first | rewrite [hE.ntT] | rewrite [hE.ntF] | rewrite [hE.pkT] | rewrite [hE.pkF] | rewrite [hE.anT] | rewrite [hE.anF] | rewrite [hE.anT'] | rewrite [hE.anF'])); cbv)); (repeat first | refine ⟨(fun h => absurd h Bool.false_ne_true), ?_⟩ | refine ⟨(hE.o (by simp only [Ob.den, hE.e_iN, hE.e_tn, hE.e_aN, hE.e_sN, hE.e_sI, hE.e_mn] <;> omega)), ?_⟩ | refine ⟨fun _ => (hE.o (by simp only [Ob.den, hE.e_iN, hE.e_tn, hE.e_aN, hE.e_sN, hE.e_sI, hE.e_mn] <;> omega)), ?_⟩ | refine ⟨fun h => h, ?_⟩ | refine ⟨fun _ => rfl, ?_⟩ | refine ⟨fun _ h => h, ?_⟩ | refine ⟨fun _ _ => True.intro, ?_⟩ | refine ⟨fun _ h => absurd h Bool.false_ne_true, ?_⟩ | refine ⟨fun _ => True.intro, ?_⟩ | refine ⟨fun _ _ => rfl, ?_⟩ | refine ⟨(fun h => Bool.noConfusion h), ?_⟩ | refine ⟨True.intro, ?_⟩)
      exact ct_flat [] rfl ⟨rfl, fitU_refl _, trivial⟩
  | none _ _ h h1 h2 hne =>
    rw [hb.2 h]
    cbv; (repeat ((first | rewrite [hE.ntT] | rewrite [hE.ntF] | rewrite [hE.pkT] | rewrite [hE.pkF] | rewrite [hE.anT] | rewrite [hE.anF] | rewrite [hE.anT'] | rewrite [hE.anF']); (repeat (first | rewrite [hE.ntT] | rewrite [hE.ntF] | rewrite [hE.pkT] | rewrite [hE.pkF] | rewrite [hE.anT] | rewrite [hE.anF] | rewrite [hE.anT'] | rewrite [hE.anF'])); cbv)); (repeat first | refine ⟨(fun h => absurd h Bool.false_ne_true), ?_⟩ | refine ⟨(hE.o (by simp only [Ob.den, hE.e_iN, hE.e_tn, hE.e_aN, hE.e_sN, hE.e_sI, hE.e_mn] <;> omega)), ?_⟩ | refine ⟨fun _ => (hE.o (by simp only [Ob.den, hE.e_iN, hE.e_tn, hE.e_aN, hE.e_sN, hE.e_sI, hE.e_mn] <;> omega)), ?_⟩ | refine ⟨fun h => h, ?_⟩ | refine ⟨fun _ => rfl, ?_⟩ | refine ⟨fun _ h => h, ?_⟩ | refine ⟨fun _ _ => True.intro, ?_⟩ | refine ⟨fun _ h => absurd h Bool.false_ne_true, ?_⟩ | refine ⟨fun _ => True.intro, ?_⟩ | refine ⟨fun _ _ => rfl, ?_⟩ | refine ⟨(fun h => Bool.noConfusion h), ?_⟩ | refine ⟨True.intro, ?_⟩)
    refine call_ct hX [] [] (ct34 s) (fits_nil ⟨fitU_refl _, trivial⟩) rfl trivial ?_
    rw [h1]
    cbv; (repeat ((first | rewrite [hE.ntT] | rewrite [hE.ntF] | rewrite [hE.pkT] | rewrite [hE.pkF] | rewrite [hE.anT] | rewrite [hE.anF] | rewrite [hE.anT'] | rewrite [hE.anF']); (repeat (first | rewrite [hE.ntT] | rewrite [hE.ntF] | rewrite [hE.pkT] | rewrite [hE.pkF] | rewrite [hE.anT] | rewrite [hE.anF] | rewrite [hE.anT'] | rewrite [hE.anF'])); cbv)); (repeat first | refine ⟨(fun h => absurd h Bool.false_ne_true), ?_⟩ | refine ⟨(hE.o (by simp only [Ob.den, hE.e_iN, hE.e_tn, hE.e_aN, hE.e_sN, hE.e_sI, hE.e_mn] <;> omega)), ?_⟩ | refine ⟨fun _ => (hE.o (by simp only [Ob.den, hE.e_iN, hE.e_tn, hE.e_aN, hE.e_sN, hE.e_sI, hE.e_mn] <;> omega)), ?_⟩ | refine ⟨fun h => h, ?_⟩ | refine ⟨fun _ => rfl, ?_⟩ | refine ⟨fun _ h => h, ?_⟩ | refine ⟨fun _ _ => True.intro, ?_⟩ | refine ⟨fun _ h => absurd h Bool.false_ne_true, ?_⟩ | refine ⟨fun _ => True.intro, ?_⟩ | refine ⟨fun _ _ => rfl, ?_⟩ | refine ⟨(fun h => Bool.noConfusion h), ?_⟩ | refine ⟨True.intro, ?_⟩)
    refine call_ct hX [] [] (ct34 t) (fits_nil ⟨fitU_refl _, trivial⟩) rfl trivial ?_
    rw [h2]
    cbv; (repeat ((first | rewrite [hE.ntT] | rewrite [hE.ntF] | rewrite [hE.pkT] | rewrite [hE.pkF] | rewrite [hE.anT] | rewrite [hE.anF] | rewrite [hE.anT'] | rewrite [hE.anF']); (repeat (first | rewrite [hE.ntT] | rewrite [hE.ntF] | rewrite [hE.pkT] | rewrite [hE.pkF] | rewrite [hE.anT] | rewrite [hE.anF] | rewrite [hE.anT'] | rewrite [hE.anF'])); cbv)); (repeat first | refine ⟨(fun h => absurd h Bool.false_ne_true), ?_⟩ | refine ⟨(hE.o (by simp only [Ob.den, hE.e_iN, hE.e_tn, hE.e_aN, hE.e_sN, hE.e_sI, hE.e_mn] <;> omega)), ?_⟩ | refine ⟨fun _ => (hE.o (by simp only [Ob.den, hE.e_iN, hE.e_tn, hE.e_aN, hE.e_sN, hE.e_sI, hE.e_mn] <;> omega)), ?_⟩ | refine ⟨fun h => h, ?_⟩ | refine ⟨fun _ => rfl, ?_⟩ | refine ⟨fun _ h => h, ?_⟩ | refine ⟨fun _ _ => True.intro, ?_⟩ | refine ⟨fun _ h => absurd h Bool.false_ne_true, ?_⟩ | refine ⟨fun _ => True.intro, ?_⟩ | refine ⟨fun _ _ => rfl, ?_⟩ | refine ⟨(fun h => Bool.noConfusion h), ?_⟩ | refine ⟨True.intro, ?_⟩)
    refine call_ct hX [] [] (ct20 o n nm id hn s _ _ (.none h h1 hne)) (fits_nil ⟨fitU_refl _, fitU_refl _, trivial⟩) rfl trivial ?_
    cbv; (repeat ((first | rewrite [e4] | rewrite [hE.ntT] | rewrite [hE.ntF] | rewrite [hE.pkT] | rewrite [hE.pkF] | rewrite [hE.anT] | rewrite [hE.anF] | rewrite [hE.anT'] | rewrite [hE.anF']); (repeat (first | rewrite [e4] | rewrite [hE.ntT] | rewrite [hE.ntF] | rewrite [hE.pkT] | rewrite [hE.pkF] | rewrite [hE.anT] | rewrite [hE.anF] | rewrite [hE.anT'] | rewrite [hE.anF'])); cbv)); (repeat first | refine ⟨(fun h => absurd h Bool.false_ne_true), ?_⟩ | refine ⟨(hE.o (by simp only [Ob.den, hE.e_iN, hE.e_tn, hE.e_aN, hE.e_sN, hE.e_sI, hE.e_mn] <;> omega)), ?_⟩ | refine ⟨fun _ => (hE.o (by simp only [Ob.den, hE.e_iN, hE.e_tn, hE.e_aN, hE.e_sN, hE.e_sI, hE.e_mn] <;> omega)), ?_⟩ | refine ⟨fun h => h, ?_⟩ | refine ⟨fun _ => rfl, ?_⟩ | refine ⟨fun _ h => h, ?_⟩ | refine ⟨fun _ _ => True.intro, ?_⟩ | refine ⟨fun _ h => absurd h Bool.false_ne_true, ?_⟩ | refine ⟨fun _ => True.intro, ?_⟩ | refine ⟨fun _ _ => rfl, ?_⟩ | refine ⟨(fun h => Bool.noConfusion h), ?_⟩ | refine ⟨True.intro, ?_⟩)
    exact ct_flat [] rfl ⟨rfl, fitU_refl _, trivial⟩
  | exist _ _ h h1 h2 p hp he q hq he' =>
    rw [hb.2 h]
    cbv; (repeat ((first | rewrite [hE.ntT] | rewrite [hE.ntF] | rewrite [hE.pkT] | rewrite [hE.pkF] | rewrite [hE.anT] | rewrite [hE.anF] | rewrite [hE.anT'] | rewrite [hE.anF']); (repeat (first | rewrite [hE.ntT] | rewrite [hE.ntF] | rewrite [hE.pkT] | rewrite [hE.pkF] | rewrite [hE.anT] | rewrite [hE.anF] | rewrite [hE.anT'] | rewrite [hE.anF'])); cbv)); (repeat first | refine ⟨(fun h => absurd h Bool.false_ne_true), ?_⟩ | refine ⟨(hE.o (by simp only [Ob.den, hE.e_iN, hE.e_tn, hE.e_aN, hE.e_sN, hE.e_sI, hE.e_mn] <;> omega)), ?_⟩ | refine ⟨fun _ => (hE.o (by simp only [Ob.den, hE.e_iN, hE.e_tn, hE.e_aN, hE.e_sN, hE.e_sI, hE.e_mn] <;> omega)), ?_⟩ | refine ⟨fun h => h, ?_⟩ | refine ⟨fun _ => rfl, ?_⟩ | refine ⟨fun _ h => h, ?_⟩ | refine ⟨fun _ _ => True.intro, ?_⟩ | refine ⟨fun _ h => absurd h Bool.false_ne_true, ?_⟩ | refine ⟨fun _ => True.intro, ?_⟩ | refine ⟨fun _ _ => rfl, ?_⟩ | refine ⟨(fun h => Bool.noConfusion h), ?_⟩ | refine ⟨True.intro, ?_⟩)
    refine call_ct hX [] [] (ct34 s) (fits_nil ⟨fitU_refl _, trivial⟩) rfl trivial ?_
    rw [h1]
    cbv; (repeat ((first | rewrite [hE.ntT] | rewrite [hE.ntF] | rewrite [hE.pkT] | rewrite [hE.pkF] | rewrite [hE.anT] | rewrite [hE.anF] | rewrite [hE.anT'] | rewrite [hE.anF']); (repeat (first | rewrite [hE.ntT] | rewrite [hE.ntF] | rewrite [hE.pkT] | rewrite [hE.pkF] | rewrite [hE.anT] | rewrite [hE.anF] | rewrite [hE.anT'] | rewrite [hE.anF'])); cbv)); (repeat first | refine ⟨(fun h => absurd h Bool.false_ne_true), ?_⟩ | refine ⟨(hE.o (by simp only [Ob.den, hE.e_iN, hE.e_tn, hE.e_aN, hE.e_sN, hE.e_sI, hE.e_mn] <;> omega)), ?_⟩ | refine ⟨fun _ => (hE.o (by simp only [Ob.den, hE.e_iN, hE.e_tn, hE.e_aN, hE.e_sN, hE.e_sI, hE.e_mn] <;> omega)), ?_⟩ | refine ⟨fun h => h, ?_⟩ | refine ⟨fun _ => rfl, ?_⟩ | refine ⟨fun _ h => h, ?_⟩ | refine ⟨fun _ _ => True.intro, ?_⟩ | refine ⟨fun _ h => absurd h Bool.false_ne_true, ?_⟩ | refine ⟨fun _ => True.intro, ?_⟩ | refine ⟨fun _ _ => rfl, ?_⟩ | refine ⟨(fun h => Bool.noConfusion h), ?_⟩ | refine ⟨True.intro, ?_⟩)
    refine call_ct hX [] [] (ct34 t) (fits_nil ⟨fitU_refl _, trivial⟩) rfl trivial ?_
    rw [h2]
    cbv; (repeat ((first | rewrite [hE.ntT] | rewrite [hE.ntF] | rewrite [hE.pkT] | rewrite [hE.pkF] | rewrite [hE.anT] | rewrite [hE.anF] | rewrite [hE.anT'] | rewrite [hE.anF']); (repeat (first | rewrite [hE.ntT] | rewrite [hE.ntF] | rewrite [hE.pkT] | rewrite [hE.pkF] | rewrite [hE.anT] | rewrite [hE.anF] | rewrite [hE.anT'] | rewrite [hE.anF'])); cbv)); (repeat first | refine ⟨(fun h => absurd h Bool.false_ne_true), ?_⟩ | refine ⟨(hE.o (by simp only [Ob.den, hE.e_iN, hE.e_tn, hE.e_aN, hE.e_sN, hE.e_sI, hE.e_mn] <;> omega)), ?_⟩ | refine ⟨fun _ => (hE.o (by simp only [Ob.den, hE.e_iN, hE.e_tn, hE.e_aN, hE.e_sN, hE.e_sI, hE.e_mn] <;> omega)), ?_⟩ | refine ⟨fun h => h, ?_⟩ | refine ⟨fun _ => rfl, ?_⟩ | refine ⟨fun _ h => h, ?_⟩ | refine ⟨fun _ _ => True.intro, ?_⟩ | refine ⟨fun _ h => absurd h Bool.false_ne_true, ?_⟩ | refine ⟨fun _ => True.intro, ?_⟩ | refine ⟨fun _ _ => rfl, ?_⟩ | refine ⟨(fun h => Bool.noConfusion h), ?_⟩ | refine ⟨True.intro, ?_⟩)
    refine call_ct hX [] [] (ct20 o n nm id hn s _ _ (.there h h1 p hp he)) (fits_nil ⟨fitU_refl _, fitU_refl _, trivial⟩) rfl trivial ?_
    cbv; (repeat ((first | rewrite [e3] | rewrite [hE.ntT] | rewrite [hE.ntF] | rewrite [hE.pkT] | rewrite [hE.pkF] | rewrite [hE.anT] | rewrite [hE.anF] | rewrite [hE.anT'] | rewrite [hE.anF']); (repeat (first | rewrite [e3] | rewrite [hE.ntT] | rewrite [hE.ntF] | rewrite [hE.pkT] | rewrite [hE.pkF] | rewrite [hE.anT] | rewrite [hE.anF] | rewrite [hE.anT'] | rewrite [hE.anF'])); cbv)); (repeat first | refine ⟨(fun h => absurd h Bool.false_ne_true), ?_⟩ | refine ⟨(hE.o (by simp only [Ob.den, hE.e_iN, hE.e_tn, hE.e_aN, hE.e_sN, hE.e_sI, hE.e_mn] <;> omega)), ?_⟩ | refine ⟨fun _ => (hE.o (by simp only [Ob.den, hE.e_iN, hE.e_tn, hE.e_aN, hE.e_sN, hE.e_sI, hE.e_mn] <;> omega)), ?_⟩ | refine ⟨fun h => h, ?_⟩ | refine ⟨fun _ => rfl, ?_⟩ | refine ⟨fun _ h => h, ?_⟩ | refine ⟨fun _ _ => True.intro, ?_⟩ | refine ⟨fun _ h => absurd h Bool.false_ne_true, ?_⟩ | refine ⟨fun _ => True.intro, ?_⟩ | refine ⟨fun _ _ => rfl, ?_⟩ | refine ⟨(fun h => Bool.noConfusion h), ?_⟩ | refine ⟨True.intro, ?_⟩)
    refine call_ct hX [] [] (ct20 o n nm id hn t _ _ (.there h h2 q hq he')) (fits_nil ⟨fitU_refl _, fitU_refl _, trivial⟩) rfl trivial ?_
    cbv; (repeat ((first | rewrite [e5] | rewrite [hE.ntT] | rewrite [hE.ntF] | rewrite [hE.pkT] | rewrite [hE.pkF] | rewrite [hE.anT] | rewrite [hE.anF] | rewrite [hE.anT'] | rewrite [hE.anF']); (repeat (first | rewrite [e5] | rewrite [hE.ntT] | rewrite [hE.ntF] | rewrite [hE.pkT] | rewrite [hE.pkF] | rewrite [hE.anT] | rewrite [hE.anF] | rewrite [hE.anT'] | rewrite [hE.anF'])); cbv)); (repeat first | refine ⟨(fun h => absurd h Bool.false_ne_true), ?_⟩ | refine ⟨(hE.o (by simp only [Ob.den, hE.e_iN, hE.e_tn, hE.e_aN, hE.e_sN, hE.e_sI, hE.e_mn] <;> omega)), ?_⟩ | refine ⟨fun _ => (hE.o (by simp only [Ob.den, hE.e_iN, hE.e_tn, hE.e_aN, hE.e_sN, hE.e_sI, hE.e_mn] <;> omega)), ?_⟩ | refine ⟨fun h => h, ?_⟩ | refine ⟨fun _ => rfl, ?_⟩ | refine ⟨fun _ h => h, ?_⟩ | refine ⟨fun _ _ => True.intro, ?_⟩ | refine ⟨fun _ h => absurd h Bool.false_ne_true, ?_⟩ | refine ⟨fun _ => True.intro, ?_⟩ | refine ⟨fun _ _ => rfl, ?_⟩ | refine ⟨(fun h => Bool.noConfusion h), ?_⟩ | refine ⟨True.intro, ?_⟩)
    exact ct_flat [] rfl ⟨rfl, fitU_refl _, trivial⟩
  | ok _ _ h h1 h2 p hp he hne q hq hl ha hb' =>
    rw [hb.2 h]
    cbv; (repeat ((first | rewrite [hE.ntT] | rewrite [hE.ntF] | rewrite [hE.pkT] | rewrite [hE.pkF] | rewrite [hE.anT] | rewrite [hE.anF] | rewrite [hE.anT'] | rewrite [hE.anF']); (repeat (first | rewrite [hE.ntT] | rewrite [hE.ntF] | rewrite [hE.pkT] | rewrite [hE.pkF] | rewrite [hE.anT] | rewrite [hE.anF] | rewrite [hE.anT'] | rewrite [hE.anF'])); cbv)); (repeat first | refine ⟨(fun h => absurd h Bool.false_ne_true), ?_⟩ | refine ⟨(hE.o (by simp only [Ob.den, hE.e_iN, hE.e_tn, hE.e_aN, hE.e_sN, hE.e_sI, hE.e_mn] <;> omega)), ?_⟩ | refine ⟨fun _ => (hE.o (by simp only [Ob.den, hE.e_iN, hE.e_tn, hE.e_aN, hE.e_sN, hE.e_sI, hE.e_mn] <;> omega)), ?_⟩ | refine ⟨fun h => h, ?_⟩ | refine ⟨fun _ => rfl, ?_⟩ | refine ⟨fun _ h => h, ?_⟩ | refine ⟨fun _ _ => True.intro, ?_⟩ | refine ⟨fun _ h => absurd h Bool.false_ne_true, ?_⟩ | refine ⟨fun _ => True.intro, ?_⟩ | refine ⟨fun _ _ => rfl, ?_⟩ | refine ⟨(fun h => Bool.noConfusion h), ?_⟩ | refine ⟨True.intro, ?_⟩)
    refine call_ct hX [] [] (ct34 s) (fits_nil ⟨fitU_refl _, trivial⟩) rfl trivial ?_
    rw [h1]
    cbv; (repeat ((first | rewrite [hE.ntT] | rewrite [hE.ntF] | rewrite [hE.pkT] | rewrite [hE.pkF] | rewrite [hE.anT] | rewrite [hE.anF] | rewrite [hE.anT'] | rewrite [hE.anF']); (repeat (first | rewrite [hE.ntT] | rewrite [hE.ntF] | rewrite [hE.pkT] | rewrite [hE.pkF] | rewrite [hE.anT] | rewrite [hE.anF] | rewrite [hE.anT'] | rewrite [hE.anF'])); cbv)); (repeat first | refine ⟨(fun h => absurd h Bool.false_ne_true), ?_⟩ | refine ⟨(hE.o (by simp only [Ob.den, hE.e_iN, hE.e_tn, hE.e_aN, hE.e_sN, hE.e_sI, hE.e_mn] <;> omega)), ?_⟩ | refine ⟨fun _ => (hE.o (by simp only [Ob.den, hE.e_iN, hE.e_tn, hE.e_aN, hE.e_sN, hE.e_sI, hE.e_mn] <;> omega)), ?_⟩ | refine ⟨fun h => h, ?_⟩ | refine ⟨fun _ => rfl, ?_⟩ | refine ⟨fun _ h => h, ?_⟩ | refine ⟨fun _ _ => True.intro, ?_⟩ | refine ⟨fun _ h => absurd h Bool.false_ne_true, ?_⟩ | refine ⟨fun _ => True.intro, ?_⟩ | refine ⟨fun _ _ => rfl, ?_⟩ | refine ⟨(fun h => Bool.noConfusion h), ?_⟩ | refine ⟨True.intro, ?_⟩)
    refine call_ct hX [] [] (ct34 t) (fits_nil ⟨fitU_refl _, trivial⟩) rfl trivial ?_
    rw [h2]
    cbv; (repeat ((first | rewrite [hE.ntT] | rewrite [hE.ntF] | rewrite [hE.pkT] | rewrite [hE.pkF] | rewrite [hE.anT] | rewrite [hE.anF] | rewrite [hE.anT'] | rewrite [hE.anF']); (repeat (first | rewrite [hE.ntT] | rewrite [hE.ntF] | rewrite [hE.pkT] | rewrite [hE.pkF] | rewrite [hE.anT] | rewrite [hE.anF] | rewrite [hE.anT'] | rewrite [hE.anF'])); cbv)); (repeat first | refine ⟨(fun h => absurd h Bool.false_ne_true), ?_⟩ | refine ⟨(hE.o (by simp only [Ob.den, hE.e_iN, hE.e_tn, hE.e_aN, hE.e_sN, hE.e_sI, hE.e_mn] <;> omega)), ?_⟩ | refine ⟨fun _ => (hE.o (by simp only [Ob.den, hE.e_iN, hE.e_tn, hE.e_aN, hE.e_sN, hE.e_sI, hE.e_mn] <;> omega)), ?_⟩ | refine ⟨fun h => h, ?_⟩ | refine ⟨fun _ => rfl, ?_⟩ | refine ⟨fun _ h => h, ?_⟩ | refine ⟨fun _ _ => True.intro, ?_⟩ | refine ⟨fun _ h => absurd h Bool.false_ne_true, ?_⟩ | refine ⟨fun _ => True.intro, ?_⟩ | refine ⟨fun _ _ => rfl, ?_⟩ | refine ⟨(fun h => Bool.noConfusion h), ?_⟩ | refine ⟨True.intro, ?_⟩)
    refine call_ct hX [] [] (ct20 o n nm id hn s _ _ (.there h h1 p hp he)) (fits_nil ⟨fitU_refl _, fitU_refl _, trivial⟩) rfl trivial ?_
    cbv; (repeat ((first | rewrite [e3] | rewrite [hE.ntT] | rewrite [hE.ntF] | rewrite [hE.pkT] | rewrite [hE.pkF] | rewrite [hE.anT] | rewrite [hE.anF] | rewrite [hE.anT'] | rewrite [hE.anF']); (repeat (first | rewrite [e3] | rewrite [hE.ntT] | rewrite [hE.ntF] | rewrite [hE.pkT] | rewrite [hE.pkF] | rewrite [hE.anT] | rewrite [hE.anF] | rewrite [hE.anT'] | rewrite [hE.anF'])); cbv)); (repeat first | refine ⟨(fun h => absurd h Bool.false_ne_true), ?_⟩ | refine ⟨(hE.o (by simp only [Ob.den, hE.e_iN, hE.e_tn, hE.e_aN, hE.e_sN, hE.e_sI, hE.e_mn] <;> omega)), ?_⟩ | refine ⟨fun _ => (hE.o (by simp only [Ob.den, hE.e_iN, hE.e_tn, hE.e_aN, hE.e_sN, hE.e_sI, hE.e_mn] <;> omega)), ?_⟩ | refine ⟨fun h => h, ?_⟩ | refine ⟨fun _ => rfl, ?_⟩ | refine ⟨fun _ h => h, ?_⟩ | refine ⟨fun _ _ => True.intro, ?_⟩ | refine ⟨fun _ h => absurd h Bool.false_ne_true, ?_⟩ | refine ⟨fun _ => True.intro, ?_⟩ | refine ⟨fun _ _ => rfl, ?_⟩ | refine ⟨(fun h => Bool.noConfusion h), ?_⟩ | refine ⟨True.intro, ?_⟩)
    refine call_ct hX [] [] (ct20 o n nm id hn t _ _ (.none h h2 hne)) (fits_nil ⟨fitU_refl _, fitU_refl _, trivial⟩) rfl trivial ?_
    cbv; (repeat ((first | rewrite [e6] | rewrite [hE.ntT] | rewrite [hE.ntF] | rewrite [hE.pkT] | rewrite [hE.pkF] | rewrite [hE.anT] | rewrite [hE.anF] | rewrite [hE.anT'] | rewrite [hE.anF']); (repeat (first | rewrite [e6] | rewrite [hE.ntT] | rewrite [hE.ntF] | rewrite [hE.pkT] | rewrite [hE.pkF] | rewrite [hE.anT] | rewrite [hE.anF] | rewrite [hE.anT'] | rewrite [hE.anF'])); cbv)); (repeat first | refine ⟨(fun h => absurd h Bool.false_ne_true), ?_⟩ | refine ⟨(hE.o (by simp only [Ob.den, hE.e_iN, hE.e_tn, hE.e_aN, hE.e_sN, hE.e_sI, hE.e_mn] <;> omega)), ?_⟩ | refine ⟨fun _ => (hE.o (by simp only [Ob.den, hE.e_iN, hE.e_tn, hE.e_aN, hE.e_sN, hE.e_sI, hE.e_mn] <;> omega)), ?_⟩ | refine ⟨fun h => h, ?_⟩ | refine ⟨fun _ => rfl, ?_⟩ | refine ⟨fun _ h => h, ?_⟩ | refine ⟨fun _ _ => True.intro, ?_⟩ | refine ⟨fun _ h => absurd h Bool.false_ne_true, ?_⟩ | refine ⟨fun _ => True.intro, ?_⟩ | refine ⟨fun _ _ => rfl, ?_⟩ | refine ⟨(fun h => Bool.noConfusion h), ?_⟩ | refine ⟨True.intro, ?_⟩)
    obtain ⟨nm1, hnm1⟩ : ∃ f, f = delF p nm := ⟨_, rfl⟩
    obtain ⟨id1, hid1⟩ : ∃ f, f = delF p id := ⟨_, rfl⟩
    refine call_ct hX [] [] (ct54 o n nm id hn s p hp (fun i hi => ⟨fun e' => h.same hp hi he e', fun e' => by rw [e', he]⟩) nm1 id1 (fun i => by rw [hnm1]) fun i => by rw [hid1]) (fits_nil ⟨fitU_refl _, fitU_refl _, trivial⟩) rfl trivial ?_
    obtain ⟨n1, hn1⟩ : ∃ k, k = n - 1 := ⟨_, rfl⟩
    rw [← hn1] at hq hl ⊢
    cbv; (repeat ((first | rewrite [hE.ntT] | rewrite [hE.ntF] | rewrite [hE.pkT] | rewrite [hE.pkF] | rewrite [hE.anT] | rewrite [hE.anF] | rewrite [hE.anT'] | rewrite [hE.anF']); (repeat (first | rewrite [hE.ntT] | rewrite [hE.ntF] | rewrite [hE.pkT] | rewrite [hE.pkF] | rewrite [hE.anT] | rewrite [hE.anF] | rewrite [hE.anT'] | rewrite [hE.anF'])); cbv)); (repeat first | refine ⟨(fun h => absurd h Bool.false_ne_true), ?_⟩ | refine ⟨(hE.o (by simp only [Ob.den, hE.e_iN, hE.e_tn, hE.e_aN, hE.e_sN, hE.e_sI, hE.e_mn] <;> omega)), ?_⟩ | refine ⟨fun _ => (hE.o (by simp only [Ob.den, hE.e_iN, hE.e_tn, hE.e_aN, hE.e_sN, hE.e_sI, hE.e_mn] <;> omega)), ?_⟩ | refine ⟨fun h => h, ?_⟩ | refine ⟨fun _ => rfl, ?_⟩ | refine ⟨fun _ h => h, ?_⟩ | refine ⟨fun _ _ => True.intro, ?_⟩ | refine ⟨fun _ h => absurd h Bool.false_ne_true, ?_⟩ | refine ⟨fun _ => True.intro, ?_⟩ | refine ⟨fun _ _ => rfl, ?_⟩ | refine ⟨(fun h => Bool.noConfusion h), ?_⟩ | refine ⟨True.intro, ?_⟩)
    refine call_ct hX [] [] (ct52 (.new 100) n1 nm1 id1 (by omega) t (id p) q hq (fun i hi => by
      have h6 := hl i hi
      rw [← hnm1] at h6
      have hne1 : nm1 i ≠ t := by rw [hnm1]; exact delF_ne (fun i hi _ => hne i hi) i (by omega)
      by_cases h7 : i < q
      · rw [decide_eq_true h7] at h6
        rw [bL_asymm h6]; exact (decide_eq_false (by omega)).symm
      · rw [decide_eq_false h7] at h6
        rw [decide_eq_true (show q ≤ i by omega)]
        rcases bL_tri (nm1 i) t with h8 | h8 | h8
        · rw [h8] at h6; cases h6
        · exact absurd h8 hne1
        · exact h8) nm' id' (by rw [hnm1]; exact ha) (by rw [hid1]; exact hb')) (fits_nil ⟨fitU_refl _, ⟨fitU_refl _, fitU_refl _, trivial⟩, trivial⟩) rfl trivial ?_
    cbv; (repeat ((first | rewrite [hE.ntT] | rewrite [hE.ntF] | rewrite [hE.pkT] | rewrite [hE.pkF] | rewrite [hE.anT] | rewrite [hE.anF] | rewrite [hE.anT'] | rewrite [hE.anF']); (repeat (first | rewrite [hE.ntT] | rewrite [hE.ntF] | rewrite [hE.pkT] | rewrite [hE.pkF] | rewrite [hE.anT] | rewrite [hE.anF] | rewrite [hE.anT'] | rewrite [hE.anF'])); cbv)); (repeat first | refine ⟨(fun h => absurd h Bool.false_ne_true), ?_⟩ | refine ⟨(hE.o (by simp only [Ob.den, hE.e_iN, hE.e_tn, hE.e_aN, hE.e_sN, hE.e_sI, hE.e_mn] <;> omega)), ?_⟩ | refine ⟨fun _ => (hE.o (by simp only [Ob.den, hE.e_iN, hE.e_tn, hE.e_aN, hE.e_sN, hE.e_sI, hE.e_mn] <;> omega)), ?_⟩ | refine ⟨fun h => h, ?_⟩ | refine ⟨fun _ => rfl, ?_⟩ | refine ⟨fun _ h => h, ?_⟩ | refine ⟨fun _ _ => True.intro, ?_⟩ | refine ⟨fun _ h => absurd h Bool.false_ne_true, ?_⟩ | refine ⟨fun _ => True.intro, ?_⟩ | refine ⟨fun _ _ => rfl, ?_⟩ | refine ⟨(fun h => Bool.noConfusion h), ?_⟩ | refine ⟨True.intro, ?_⟩)
    exact ct_flat [] rfl ⟨fitU_refl _, fitU_refl _, trivial⟩
end Ytohkcdfjpgdfbaa
end
section
open Go Am
set_option maxRecDepth 100000
set_option maxHeartbeats 4000000
set_option linter.unusedVariables false
set_option linter.unusedSimpArgs false
namespace Ytohkcdfjpgdfbaa
theorem ct18 (o : Tg) (n : Nat) (nm : Nat → ByteArray) (id : Nat → Int) (hn : n ≤ 100000) : CT Go.Proofs.Try.prog 18 [catS o n nm id] [] (catS (.new 100) n nm id) [] := by
  refine enter18 rfl rfl ?_
  intro ob ib ic sb cat iu nt an be pk wr tn iN aN sN lN eN bt sub sl rn ofB mn dc dn sI X hE hX
  cbv
  refine loop_at hE hX tabOK (by kernel_rfl) funcsOK rfl (α := Nat) (fun k => (sets (pad 26) [(0, catS o n nm id), (3, .sr 0 2 0 k), (4, scI .i64 (iN k))], [.arr 100 2 k fun i => [.sc (.string (nm i)), .sc (.int .u64 (id i))]])) (fun k => k ≤ n) (fun k => n - k) 0 (by omega) ?_ ?_
  · exact ⟨[none], [], ⟨rfl, rfl, rfl, rfl, by (cbv <;> (repeat' first | exact True.intro | exact ⟨.inr trivial, fun _ _ => rfl⟩ | exact rfl | exact fun _ _ => rfl | refine And.intro ?_ ?_ | rw [hE.iN0] | rw [hE.e_aN]))⟩, by (cbv <;> (repeat' first | exact True.intro | exact ⟨.inr trivial, fun _ _ => rfl⟩ | exact rfl | exact fun _ _ => rfl | refine And.intro ?_ ?_ | rw [hE.iN0] | rw [hE.e_aN]))⟩
  · rintro k hk
    by_cases hkn : k < n
    · have hc : ic .lss (iN k) (iN n) = true := by rw [hE.ltN]; exact decide_eq_true hkn
      have hi := hE.incN (a := k) (by omega)
      cbv; (repeat ((first | rewrite [hc] | rewrite [hi] | rewrite [hE.tnN] | rewrite [hE.ntT] | rewrite [hE.ntF] | rewrite [hE.pkT] | rewrite [hE.pkF] | rewrite [hE.anT] | rewrite [hE.anF] | rewrite [hE.anT'] | rewrite [hE.anF']); (repeat (first | rewrite [hc] | rewrite [hi] | rewrite [hE.tnN] | rewrite [hE.ntT] | rewrite [hE.ntF] | rewrite [hE.pkT] | rewrite [hE.pkF] | rewrite [hE.anT] | rewrite [hE.anF] | rewrite [hE.anT'] | rewrite [hE.anF'])); cbv)); (repeat first | refine ⟨(fun h => absurd h Bool.false_ne_true), ?_⟩ | refine ⟨(hE.o (by simp only [Ob.den, hE.e_iN, hE.e_tn, hE.e_aN, hE.e_sN, hE.e_sI, hE.e_mn] <;> omega)), ?_⟩ | refine ⟨fun _ => (hE.o (by simp only [Ob.den, hE.e_iN, hE.e_tn, hE.e_aN, hE.e_sN, hE.e_sI, hE.e_mn] <;> omega)), ?_⟩ | refine ⟨fun h => h, ?_⟩ | refine ⟨fun _ => rfl, ?_⟩ | refine ⟨fun _ h => h, ?_⟩ | refine ⟨fun _ _ => True.intro, ?_⟩ | refine ⟨fun _ h => absurd h Bool.false_ne_true, ?_⟩ | refine ⟨fun _ => True.intro, ?_⟩ | refine ⟨fun _ _ => rfl, ?_⟩ | refine ⟨(fun h => Bool.noConfusion h), ?_⟩ | refine ⟨True.intro, ?_⟩)
      exact ⟨k + 1, by omega, by omega, [some 2], [], ⟨rfl, rfl, rfl, rfl, ⟨rfl, rfl, rfl, by rw [hE.e_aN], hE.app1 rfl⟩, trivial⟩, by (cbv <;> (repeat' first | exact True.intro | exact ⟨.inr trivial, fun _ _ => rfl⟩ | exact rfl | exact fun _ _ => rfl | refine And.intro ?_ ?_ | rw [hE.iN0] | rw [hE.e_aN]))⟩
    · have hc : ic .lss (iN k) (iN n) = false := by rw [hE.ltN]; exact decide_eq_false hkn
      obtain rfl : k = n := by omega
      cbv; (repeat ((first | rewrite [hc] | rewrite [hE.ntT] | rewrite [hE.ntF] | rewrite [hE.pkT] | rewrite [hE.pkF] | rewrite [hE.anT] | rewrite [hE.anF] | rewrite [hE.anT'] | rewrite [hE.anF']); (repeat (first | rewrite [hc] | rewrite [hE.ntT] | rewrite [hE.ntF] | rewrite [hE.pkT] | rewrite [hE.pkF] | rewrite [hE.anT] | rewrite [hE.anF] | rewrite [hE.anT'] | rewrite [hE.anF'])); cbv)); (repeat first | refine ⟨(fun h => absurd h Bool.false_ne_true), ?_⟩ | refine ⟨(hE.o (by simp only [Ob.den, hE.e_iN, hE.e_tn, hE.e_aN, hE.e_sN, hE.e_sI, hE.e_mn] <;> omega)), ?_⟩ | refine ⟨fun _ => (hE.o (by simp only [Ob.den, hE.e_iN, hE.e_tn, hE.e_aN, hE.e_sN, hE.e_sI, hE.e_mn] <;> omega)), ?_⟩ | refine ⟨fun h => h, ?_⟩ | refine ⟨fun _ => rfl, ?_⟩ | refine ⟨fun _ h => h, ?_⟩ | refine ⟨fun _ _ => True.intro, ?_⟩ | refine ⟨fun _ h => absurd h Bool.false_ne_true, ?_⟩ | refine ⟨fun _ => True.intro, ?_⟩ | refine ⟨fun _ _ => rfl, ?_⟩ | refine ⟨(fun h => Bool.noConfusion h), ?_⟩ | refine ⟨True.intro, ?_⟩)
      exact ct_flat [0] rfl ⟨rfl, rfl, rfl, rfl, rfl, by omega, fun i _ => by rw [Nat.zero_add]⟩
theorem ct27 (o o' : Tg) (n : Nat) (nm nm' : Nat → ByteArray) (id id' : Nat → Int) (hn : n ≤ 100000) (h : ∀ i, i < n → nm i = nm' i ∧ id i = id' i) : CT Go.Proofs.Try.prog 27 [catS o n nm id, catS o' n nm' id'] [] (scB true) [] := by
  refine enter27 rfl rfl ?_
  intro ob ib ic sb cat iu nt an be pk wr tn iN aN sN lN eN bt sub sl rn ofB mn dc dn sI X hE hX
  cbv
  have h0 : ic .neq (iN n) (iN n) = false := by rw [hE.neN]; simp
  cbv; (repeat ((first | rewrite [h0] | rewrite [hE.ntT] | rewrite [hE.ntF] | rewrite [hE.pkT] | rewrite [hE.pkF] | rewrite [hE.anT] | rewrite [hE.anF] | rewrite [hE.anT'] | rewrite [hE.anF']); (repeat (first | rewrite [h0] | rewrite [hE.ntT] | rewrite [hE.ntF] | rewrite [hE.pkT] | rewrite [hE.pkF] | rewrite [hE.anT] | rewrite [hE.anF] | rewrite [hE.anT'] | rewrite [hE.anF'])); cbv)); (repeat first | refine ⟨(fun h => absurd h Bool.false_ne_true), ?_⟩ | refine ⟨(hE.o (by simp only [Ob.den, hE.e_iN, hE.e_tn, hE.e_aN, hE.e_sN, hE.e_sI, hE.e_mn] <;> omega)), ?_⟩ | refine ⟨fun _ => (hE.o (by simp only [Ob.den, hE.e_iN, hE.e_tn, hE.e_aN, hE.e_sN, hE.e_sI, hE.e_mn] <;> omega)), ?_⟩ | refine ⟨fun h => h, ?_⟩ | refine ⟨fun _ => rfl, ?_⟩ | refine ⟨fun _ h => h, ?_⟩ | refine ⟨fun _ _ => True.intro, ?_⟩ | refine ⟨fun _ h => absurd h Bool.false_ne_true, ?_⟩ | refine ⟨fun _ => True.intro, ?_⟩ | refine ⟨fun _ _ => rfl, ?_⟩ | refine ⟨(fun h => Bool.noConfusion h), ?_⟩ | refine ⟨True.intro, ?_⟩)
  refine loop_at hE hX tabOK (by kernel_rfl) funcsOK rfl (α := Nat) (fun k => (sets (pad 41) [(0, catS o n nm id), (1, catS o' n nm' id'), (5, scI .i64 (iN k))], [])) (fun k => k ≤ n) (fun k => n - k) 0 (by omega) ?_ ?_
  · exact ⟨[], [], ⟨rfl, rfl, rfl, rfl, trivial⟩, by (cbv <;> (repeat' first | exact True.intro | exact ⟨.inr trivial, fun _ _ => rfl⟩ | exact rfl | exact fun _ _ => rfl | refine And.intro ?_ ?_ | rw [hE.iN0] | rw [hE.e_aN]))⟩
  · rintro k hk
    by_cases hkn : k < n
    · have hc : ic .lss (iN k) (iN n) = true := by rw [hE.ltN]; exact decide_eq_true hkn
      have hi := hE.incN (a := k) (by omega)
      have h1 : sb .neq (nm k) (nm' k) = false := by rw [hE.sneq, (h k hkn).1]; simp
      have h2 : ic .neq (id k) (id' k) = false := by rw [hE.neq, (h k hkn).2]; simp
      cbv; (repeat ((first | rewrite [hc] | rewrite [hi] | rewrite [hE.tnN] | rewrite [h1] | rewrite [h2] | rewrite [hE.ntT] | rewrite [hE.ntF] | rewrite [hE.pkT] | rewrite [hE.pkF] | rewrite [hE.anT] | rewrite [hE.anF] | rewrite [hE.anT'] | rewrite [hE.anF']); (repeat (first | rewrite [hc] | rewrite [hi] | rewrite [hE.tnN] | rewrite [h1] | rewrite [h2] | rewrite [hE.ntT] | rewrite [hE.ntF] | rewrite [hE.pkT] | rewrite [hE.pkF] | rewrite [hE.anT] | rewrite [hE.anF] | rewrite [hE.anT'] | rewrite [hE.anF'])); cbv)); (repeat first | refine ⟨(fun h => absurd h Bool.false_ne_true), ?_⟩ | refine ⟨(hE.o (by simp only [Ob.den, hE.e_iN, hE.e_tn, hE.e_aN, hE.e_sN, hE.e_sI, hE.e_mn] <;> omega)), ?_⟩ | refine ⟨fun _ => (hE.o (by simp only [Ob.den, hE.e_iN, hE.e_tn, hE.e_aN, hE.e_sN, hE.e_sI, hE.e_mn] <;> omega)), ?_⟩ | refine ⟨fun h => h, ?_⟩ | refine ⟨fun _ => rfl, ?_⟩ | refine ⟨fun _ h => h, ?_⟩ | refine ⟨fun _ _ => True.intro, ?_⟩ | refine ⟨fun _ h => absurd h Bool.false_ne_true, ?_⟩ | refine ⟨fun _ => True.intro, ?_⟩ | refine ⟨fun _ _ => rfl, ?_⟩ | refine ⟨(fun h => Bool.noConfusion h), ?_⟩ | refine ⟨True.intro, ?_⟩)
      exact ⟨k + 1, by omega, by omega, [], [], ⟨rfl, rfl, rfl, rfl, trivial⟩, by (cbv <;> (repeat' first | exact True.intro | exact ⟨.inr trivial, fun _ _ => rfl⟩ | exact rfl | exact fun _ _ => rfl | refine And.intro ?_ ?_ | rw [hE.iN0] | rw [hE.e_aN]))⟩
    · have hc : ic .lss (iN k) (iN n) = false := by rw [hE.ltN]; exact decide_eq_false hkn
      cbv; (repeat ((first | rewrite [hc] | rewrite [hE.ntT] | rewrite [hE.ntF] | rewrite [hE.pkT] | rewrite [hE.pkF] | rewrite [hE.anT] | rewrite [hE.anF] | rewrite [hE.anT'] | rewrite [hE.anF']); (repeat (first | rewrite [hc] | rewrite [hE.ntT] | rewrite [hE.ntF] | rewrite [hE.pkT] | rewrite [hE.pkF] | rewrite [hE.anT] | rewrite [hE.anF] | rewrite [hE.anT'] | rewrite [hE.anF'])); cbv)); (repeat first | refine ⟨(fun h => absurd h Bool.false_ne_true), ?_⟩ | refine ⟨(hE.o (by simp only [Ob.den, hE.e_iN, hE.e_tn, hE.e_aN, hE.e_sN, hE.e_sI, hE.e_mn] <;> omega)), ?_⟩ | refine ⟨fun _ => (hE.o (by simp only [Ob.den, hE.e_iN, hE.e_tn, hE.e_aN, hE.e_sN, hE.e_sI, hE.e_mn] <;> omega)), ?_⟩ | refine ⟨fun h => h, ?_⟩ | refine ⟨fun _ => rfl, ?_⟩ | refine ⟨fun _ h => h, ?_⟩ | refine ⟨fun _ _ => True.intro, ?_⟩ | refine ⟨fun _ h => absurd h Bool.false_ne_true, ?_⟩ | refine ⟨fun _ => True.intro, ?_⟩ | refine ⟨fun _ _ => rfl, ?_⟩ | refine ⟨(fun h => Bool.noConfusion h), ?_⟩ | refine ⟨True.intro, ?_⟩)
      exact ct_u rfl
theorem ct16 (o : Tg) (n : Nat) (nm : Nat → ByteArray) (id : Nat → Int) (b : Bool) (hb : b = true ↔ n ≤ 20 ∧ ∀ i, i < n → i < 21 → (nm i).size ≤ 100) : CT Go.Proofs.Try.prog 16 [catS o n nm id] [] (scB b) [] := by
  refine enter16 rfl rfl ?_
  intro ob ib ic sb cat iu nt an be pk wr tn iN aN sN lN eN bt sub sl rn ofB mn dc dn sI X hE hX
  cbv
  refine loop_at hE hX tabOK (by kernel_rfl) funcsOK rfl (α := Nat) (fun k => (sets (pad 24) [(0, catS o n nm id), (3, scI .i64 (iN k))], [])) (fun k => k ≤ 21 ∧ k ≤ n ∧ ∀ i, i < k → (nm i).size ≤ 100) (fun k => 21 - k) 0 ⟨by omega, by omega, fun i hi => by omega⟩ ?_ ?_
  · exact ⟨[], [], ⟨rfl, rfl, rfl, rfl, trivial⟩, by (cbv <;> (repeat' first | exact True.intro | exact ⟨.inr trivial, fun _ _ => rfl⟩ | exact rfl | exact fun _ _ => rfl | refine And.intro ?_ ?_ | rw [hE.iN0] | rw [hE.e_aN]))⟩
  · rintro k ⟨hk, hkn, hs⟩
    by_cases h1 : k < n
    · have hc : ic .lss (iN k) (iN n) = true := by rw [hE.ltN]; exact decide_eq_true h1
      by_cases h2 : k < 21
      · have hc2 : ic .lss (iN k) 21 = true := by rw [hE.lss, hE.e_iN]; exact decide_eq_true (by omega)
        have hi := hE.incN (a := k) (by omega)
        by_cases h3 : (nm k).size ≤ 100
        · have h4 : ic .gtr (sl (nm k)) 100 = false := by rw [hE.gtr, hE.e_sl]; exact decide_eq_false (by omega)
          cbv; (repeat ((first | rewrite [hc] | rewrite [hc2] | rewrite [hE.tnN] | rewrite [h4] | rewrite [hi] | rewrite [hE.ntT] | rewrite [hE.ntF] | rewrite [hE.pkT] | rewrite [hE.pkF] | rewrite [hE.anT] | rewrite [hE.anF] | rewrite [hE.anT'] | rewrite [hE.anF']); (repeat (first | rewrite [hc] | rewrite [hc2] | rewrite [hE.tnN] | rewrite [h4] | rewrite [hi] | rewrite [hE.ntT] | rewrite [hE.ntF] | rewrite [hE.pkT] | rewrite [hE.pkF] | rewrite [hE.anT] | rewrite [hE.anF] | rewrite [hE.anT'] | rewrite [hE.anF'])); cbv)); (repeat first | refine ⟨(fun h => absurd h Bool.false_ne_true), ?_⟩ | refine ⟨(hE.o (by simp only [Ob.den, hE.e_iN, hE.e_tn, hE.e_aN, hE.e_sN, hE.e_sI, hE.e_mn] <;> omega)), ?_⟩ | refine ⟨fun _ => (hE.o (by simp only [Ob.den, hE.e_iN, hE.e_tn, hE.e_aN, hE.e_sN, hE.e_sI, hE.e_mn] <;> omega)), ?_⟩ | refine ⟨fun h => h, ?_⟩ | refine ⟨fun _ => rfl, ?_⟩ | refine ⟨fun _ h => h, ?_⟩ | refine ⟨fun _ _ => True.intro, ?_⟩ | refine ⟨fun _ h => absurd h Bool.false_ne_true, ?_⟩ | refine ⟨fun _ => True.intro, ?_⟩ | refine ⟨fun _ _ => rfl, ?_⟩ | refine ⟨(fun h => Bool.noConfusion h), ?_⟩ | refine ⟨True.intro, ?_⟩)
          exact ⟨k + 1, ⟨by omega, by omega, snoc hs h3⟩, by omega, [], [], ⟨rfl, rfl, rfl, rfl, trivial⟩, by (cbv <;> (repeat' first | exact True.intro | exact ⟨.inr trivial, fun _ _ => rfl⟩ | exact rfl | exact fun _ _ => rfl | refine And.intro ?_ ?_ | rw [hE.iN0] | rw [hE.e_aN]))⟩
        · have h4 : ic .gtr (sl (nm k)) 100 = true := by rw [hE.gtr, hE.e_sl]; exact decide_eq_true (by omega)
          cbv; (repeat ((first | rewrite [hc] | rewrite [hc2] | rewrite [hE.tnN] | rewrite [h4] | rewrite [hE.ntT] | rewrite [hE.ntF] | rewrite [hE.pkT] | rewrite [hE.pkF] | rewrite [hE.anT] | rewrite [hE.anF] | rewrite [hE.anT'] | rewrite [hE.anF']); (repeat (first | rewrite [hc] | rewrite [hc2] | rewrite [hE.tnN] | rewrite [h4] | rewrite [hE.ntT] | rewrite [hE.ntF] | rewrite [hE.pkT] | rewrite [hE.pkF] | rewrite [hE.anT] | rewrite [hE.anF] | rewrite [hE.anT'] | rewrite [hE.anF'])); cbv)); (repeat first | refine ⟨(fun h => absurd h Bool.false_ne_true), ?_⟩ | refine ⟨(hE.o (by simp only [Ob.den, hE.e_iN, hE.e_tn, hE.e_aN, hE.e_sN, hE.e_sI, hE.e_mn] <;> omega)), ?_⟩ | refine ⟨fun _ => (hE.o (by simp only [Ob.den, hE.e_iN, hE.e_tn, hE.e_aN, hE.e_sN, hE.e_sI, hE.e_mn] <;> omega)), ?_⟩ | refine ⟨fun h => h, ?_⟩ | refine ⟨fun _ => rfl, ?_⟩ | refine ⟨fun _ h => h, ?_⟩ | refine ⟨fun _ _ => True.intro, ?_⟩ | refine ⟨fun _ h => absurd h Bool.false_ne_true, ?_⟩ | refine ⟨fun _ => True.intro, ?_⟩ | refine ⟨fun _ _ => rfl, ?_⟩ | refine ⟨(fun h => Bool.noConfusion h), ?_⟩ | refine ⟨True.intro, ?_⟩)
          rw [show b = false from bfalse fun e => h3 ((hb.1 e).2 k h1 h2)]
          exact ct_u rfl
      · have hc2 : ic .lss (iN k) 21 = false := by rw [hE.lss, hE.e_iN]; exact decide_eq_false (by omega)
        have h5 : ic .leq (iN n) 20 = b := by
          rw [hE.leq, hE.e_iN, show b = false from bfalse fun e => (by have := (hb.1 e).1; omega)]
          exact decide_eq_false (by omega)
        cbv; (repeat ((first | rewrite [hc] | rewrite [hc2] | rewrite [h5] | rewrite [hE.ntT] | rewrite [hE.ntF] | rewrite [hE.pkT] | rewrite [hE.pkF] | rewrite [hE.anT] | rewrite [hE.anF] | rewrite [hE.anT'] | rewrite [hE.anF']); (repeat (first | rewrite [hc] | rewrite [hc2] | rewrite [h5] | rewrite [hE.ntT] | rewrite [hE.ntF] | rewrite [hE.pkT] | rewrite [hE.pkF] | rewrite [hE.anT] | rewrite [hE.anF] | rewrite [hE.anT'] | rewrite [hE.anF'])); cbv)); (repeat first | refine ⟨(fun h => absurd h Bool.false_ne_true), ?_⟩ | refine ⟨(hE.o (by simp only [Ob.den, hE.e_iN, hE.e_tn, hE.e_aN, hE.e_sN, hE.e_sI, hE.e_mn] <;> omega)), ?_⟩ | refine ⟨fun _ => (hE.o (by simp only [Ob.den, hE.e_iN, hE.e_tn, hE.e_aN, hE.e_sN, hE.e_sI, hE.e_mn] <;> omega)), ?_⟩ | refine ⟨fun h => h, ?_⟩ | refine ⟨fun _ => rfl, ?_⟩ | refine ⟨fun _ h => h, ?_⟩ | refine ⟨fun _ _ => True.intro, ?_⟩ | refine ⟨fun _ h => absurd h Bool.false_ne_true, ?_⟩ | refine ⟨fun _ => True.intro, ?_⟩ | refine ⟨fun _ _ => rfl, ?_⟩ | refine ⟨(fun h => Bool.noConfusion h), ?_⟩ | refine ⟨True.intro, ?_⟩)
        exact ct_u rfl
    · have hc : ic .lss (iN k) (iN n) = false := by rw [hE.ltN]; exact decide_eq_false h1
      have h5 : ic .leq (iN n) 20 = b := by
        rw [hE.leq, hE.e_iN]
        cases b
        · exact decide_eq_false fun h => by have := hb.2 ⟨by omega, fun i hi _ => hs i (by omega)⟩; cases this
        · exact decide_eq_true (by have := (hb.1 rfl).1; omega)
      cbv; (repeat ((first | rewrite [hc] | rewrite [h5] | rewrite [hE.ntT] | rewrite [hE.ntF] | rewrite [hE.pkT] | rewrite [hE.pkF] | rewrite [hE.anT] | rewrite [hE.anF] | rewrite [hE.anT'] | rewrite [hE.anF']); (repeat (first | rewrite [hc] | rewrite [h5] | rewrite [hE.ntT] | rewrite [hE.ntF] | rewrite [hE.pkT] | rewrite [hE.pkF] | rewrite [hE.anT] | rewrite [hE.anF] | rewrite [hE.anT'] | rewrite [hE.anF'])); cbv)); (repeat first | refine ⟨(fun h => absurd h Bool.false_ne_true), ?_⟩ | refine ⟨(hE.o (by simp only [Ob.den, hE.e_iN, hE.e_tn, hE.e_aN, hE.e_sN, hE.e_sI, hE.e_mn] <;> omega)), ?_⟩ | refine ⟨fun _ => (hE.o (by simp only [Ob.den, hE.e_iN, hE.e_tn, hE.e_aN, hE.e_sN, hE.e_sI, hE.e_mn] <;> omega)), ?_⟩ | refine ⟨fun h => h, ?_⟩ | refine ⟨fun _ => rfl, ?_⟩ | refine ⟨fun _ h => h, ?_⟩ | refine ⟨fun _ _ => True.intro, ?_⟩ | refine ⟨fun _ h => absurd h Bool.false_ne_true, ?_⟩ | refine ⟨fun _ => True.intro, ?_⟩ | refine ⟨fun _ _ => rfl, ?_⟩ | refine ⟨(fun h => Bool.noConfusion h), ?_⟩ | refine ⟨True.intro, ?_⟩)
      exact ct_u rfl
theorem ct31 (o : Tg) (n : Nat) (nm : Nat → ByteArray) (id : Nat → Int) (hn : n ≤ 100000) : CT Go.Proofs.Try.prog 31 [catS o n nm id] [] (strS (.new 9) n nm) [] := by
  refine enter31 rfl rfl ?_
  intro ob ib ic sb cat iu nt an be pk wr tn iN aN sN lN eN bt sub sl rn ofB mn dc dn sI X hE hX
  cbv
  refine loop_at hE hX tabOK (by kernel_rfl) funcsOK rfl (α := Nat) (fun k => (sets (pad 18) [(2, .sr 0 1 0 k), (5, catS o n nm id), (6, scI .i64 (iN n)), (7, scI .i64 (iN k))], [.arr 9 1 k fun i => [.sc (.string (nm i))]])) (fun k => k ≤ n) (fun k => n - k) 0 (by omega) ?_ ?_
  · exact ⟨[none], [], ⟨rfl, rfl, rfl, rfl, by (cbv <;> (repeat' first | exact True.intro | exact ⟨.inr trivial, fun _ _ => rfl⟩ | exact rfl | exact fun _ _ => rfl | refine And.intro ?_ ?_ | rw [hE.iN0] | rw [hE.e_aN]))⟩, by (cbv <;> (repeat' first | exact True.intro | exact ⟨.inr trivial, fun _ _ => rfl⟩ | exact rfl | exact fun _ _ => rfl | refine And.intro ?_ ?_ | rw [hE.iN0] | rw [hE.e_aN]))⟩
  · rintro k hk
    by_cases hkn : k < n
    · have hc : ic .lss (iN k) (iN n) = true := by rw [hE.ltN]; exact decide_eq_true hkn
      have hi := hE.incN (a := k) (by omega)
      cbv; (repeat ((first | rewrite [hc] | rewrite [hi] | rewrite [hE.tnN] | rewrite [hE.ntT] | rewrite [hE.ntF] | rewrite [hE.pkT] | rewrite [hE.pkF] | rewrite [hE.anT] | rewrite [hE.anF] | rewrite [hE.anT'] | rewrite [hE.anF']); (repeat (first | rewrite [hc] | rewrite [hi] | rewrite [hE.tnN] | rewrite [hE.ntT] | rewrite [hE.ntF] | rewrite [hE.pkT] | rewrite [hE.pkF] | rewrite [hE.anT] | rewrite [hE.anF] | rewrite [hE.anT'] | rewrite [hE.anF'])); cbv)); (repeat first | refine ⟨(fun h => absurd h Bool.false_ne_true), ?_⟩ | refine ⟨(hE.o (by simp only [Ob.den, hE.e_iN, hE.e_tn, hE.e_aN, hE.e_sN, hE.e_sI, hE.e_mn] <;> omega)), ?_⟩ | refine ⟨fun _ => (hE.o (by simp only [Ob.den, hE.e_iN, hE.e_tn, hE.e_aN, hE.e_sN, hE.e_sI, hE.e_mn] <;> omega)), ?_⟩ | refine ⟨fun h => h, ?_⟩ | refine ⟨fun _ => rfl, ?_⟩ | refine ⟨fun _ h => h, ?_⟩ | refine ⟨fun _ _ => True.intro, ?_⟩ | refine ⟨fun _ h => absurd h Bool.false_ne_true, ?_⟩ | refine ⟨fun _ => True.intro, ?_⟩ | refine ⟨fun _ _ => rfl, ?_⟩ | refine ⟨(fun h => Bool.noConfusion h), ?_⟩ | refine ⟨True.intro, ?_⟩)
      exact ⟨k + 1, by omega, by omega, [some 3], [], ⟨rfl, rfl, rfl, rfl, ⟨rfl, rfl, rfl, by rw [hE.e_aN], hE.app1 rfl⟩, trivial⟩, by (cbv <;> (repeat' first | exact True.intro | exact ⟨.inr trivial, fun _ _ => rfl⟩ | exact rfl | exact fun _ _ => rfl | refine And.intro ?_ ?_ | rw [hE.iN0] | rw [hE.e_aN]))⟩
    · have hc : ic .lss (iN k) (iN n) = false := by rw [hE.ltN]; exact decide_eq_false hkn
      obtain rfl : k = n := by omega
      cbv; (repeat ((first | rewrite [hc] | rewrite [hE.ntT] | rewrite [hE.ntF] | rewrite [hE.pkT] | rewrite [hE.pkF] | rewrite [hE.anT] | rewrite [hE.anF] | rewrite [hE.anT'] | rewrite [hE.anF']); (repeat (first | rewrite [hc] | rewrite [hE.ntT] | rewrite [hE.ntF] | rewrite [hE.pkT] | rewrite [hE.pkF] | rewrite [hE.anT] | rewrite [hE.anF] | rewrite [hE.anT'] | rewrite [hE.anF'])); cbv)); (repeat first | refine ⟨(fun h => absurd h Bool.false_ne_true), ?_⟩ | refine ⟨(hE.o (by simp only [Ob.den, hE.e_iN, hE.e_tn, hE.e_aN, hE.e_sN, hE.e_sI, hE.e_mn] <;> omega)), ?_⟩ | refine ⟨fun _ => (hE.o (by simp only [Ob.den, hE.e_iN, hE.e_tn, hE.e_aN, hE.e_sN, hE.e_sI, hE.e_mn] <;> omega)), ?_⟩ | refine ⟨fun h => h, ?_⟩ | refine ⟨fun _ => rfl, ?_⟩ | refine ⟨fun _ h => h, ?_⟩ | refine ⟨fun _ _ => True.intro, ?_⟩ | refine ⟨fun _ h => absurd h Bool.false_ne_true, ?_⟩ | refine ⟨fun _ => True.intro, ?_⟩ | refine ⟨fun _ _ => rfl, ?_⟩ | refine ⟨(fun h => Bool.noConfusion h), ?_⟩ | refine ⟨True.intro, ?_⟩)
      exact ct_flat [0] rfl ⟨rfl, rfl, rfl, rfl, rfl, by omega, fun i _ => by rw [Nat.zero_add]⟩
theorem ct32 (o : Tg) (n : Nat) (nm : Nat → ByteArray) (id : Nat → Int) (hn : n ≤ 100000) : CT Go.Proofs.Try.prog 32 [catS o n nm id] [] (strS (.new 9) n nm) [] := by
  refine enter32 rfl rfl ?_
  intro ob ib ic sb cat iu nt an be pk wr tn iN aN sN lN eN bt sub sl rn ofB mn dc dn sI X hE hX
  cbv
  refine loop_at hE hX tabOK (by kernel_rfl) funcsOK rfl (α := Nat) (fun k => (sets (pad 20) [(0, catS o n nm id), (3, .sr 0 1 0 k), (4, scI .i64 (iN k))], [.arr 9 1 k fun i => [.sc (.string (nm i))]])) (fun k => k ≤ n) (fun k => n - k) 0 (by omega) ?_ ?_
  · refine ⟨[none], [], ⟨rfl, rfl, rfl, rfl, by (cbv <;> (repeat' first | exact True.intro | exact ⟨.inr trivial, fun _ _ => rfl⟩ | exact rfl | exact fun _ _ => rfl | refine And.intro ?_ ?_ | rw [hE.iN0] | rw [hE.e_aN]))⟩, by (cbv <;> (repeat' first | exact True.intro | exact ⟨.inr trivial, fun _ _ => rfl⟩ | exact rfl | exact fun _ _ => rfl | refine And.intro ?_ ?_ | rw [hE.iN0] | rw [hE.e_aN]))⟩
  · rintro k hk
    by_cases hkn : k < n
    · have hc : ic .lss (iN k) (iN n) = true := by rw [hE.ltN]; exact decide_eq_true hkn
      have hi := hE.incN (a := k) (by omega)
      cbv; (repeat ((first | rewrite [hc] | rewrite [hi] | rewrite [hE.tnN] | rewrite [hE.ntT] | rewrite [hE.ntF] | rewrite [hE.pkT] | rewrite [hE.pkF] | rewrite [hE.anT] | rewrite [hE.anF] | rewrite [hE.anT'] | rewrite [hE.anF']); (repeat (first | rewrite [hc] | rewrite [hi] | rewrite [hE.tnN] | rewrite [hE.ntT] | rewrite [hE.ntF] | rewrite [hE.pkT] | rewrite [hE.pkF] | rewrite [hE.anT] | rewrite [hE.anF] | rewrite [hE.anT'] | rewrite [hE.anF'])); cbv)); (repeat first | refine ⟨(fun h => absurd h Bool.false_ne_true), ?_⟩ | refine ⟨(hE.o (by simp only [Ob.den, hE.e_iN, hE.e_tn, hE.e_aN, hE.e_sN, hE.e_sI, hE.e_mn] <;> omega)), ?_⟩ | refine ⟨fun _ => (hE.o (by simp only [Ob.den, hE.e_iN, hE.e_tn, hE.e_aN, hE.e_sN, hE.e_sI, hE.e_mn] <;> omega)), ?_⟩ | refine ⟨fun h => h, ?_⟩ | refine ⟨fun _ => rfl, ?_⟩ | refine ⟨fun _ h => h, ?_⟩ | refine ⟨fun _ _ => True.intro, ?_⟩ | refine ⟨fun _ h => absurd h Bool.false_ne_true, ?_⟩ | refine ⟨fun _ => True.intro, ?_⟩ | refine ⟨fun _ _ => rfl, ?_⟩ | refine ⟨(fun h => Bool.noConfusion h), ?_⟩ | refine ⟨True.intro, ?_⟩)
      exact ⟨k + 1, by omega, by omega, [some 2], [], ⟨rfl, rfl, rfl, rfl, ⟨rfl, rfl, rfl, by rw [hE.e_aN], hE.app1 rfl⟩, trivial⟩, by (cbv <;> (repeat' first | exact True.intro | exact ⟨.inr trivial, fun _ _ => rfl⟩ | exact rfl | exact fun _ _ => rfl | refine And.intro ?_ ?_ | rw [hE.iN0] | rw [hE.e_aN]))⟩
    · have hc : ic .lss (iN k) (iN n) = false := by rw [hE.ltN]; exact decide_eq_false hkn
      obtain rfl : k = n := by omega
      cbv; (repeat ((first | rewrite [hc] | rewrite [hE.ntT] | rewrite [hE.ntF] | rewrite [hE.pkT] | rewrite [hE.pkF] | rewrite [hE.anT] | rewrite [hE.anF] | rewrite [hE.anT'] | rewrite [hE.anF']); (repeat (first | rewrite [hc] | rewrite [hE.ntT] | rewrite [hE.ntF] | rewrite [hE.pkT] | rewrite [hE.pkF] | rewrite [hE.anT] | rewrite [hE.anF] | rewrite [hE.anT'] | rewrite [hE.anF'])); cbv)); (repeat first | refine ⟨(fun h => absurd h Bool.false_ne_true), ?_⟩ | refine ⟨(hE.o (by simp only [Ob.den, hE.e_iN, hE.e_tn, hE.e_aN, hE.e_sN, hE.e_sI, hE.e_mn] <;> omega)), ?_⟩ | refine ⟨fun _ => (hE.o (by simp only [Ob.den, hE.e_iN, hE.e_tn, hE.e_aN, hE.e_sN, hE.e_sI, hE.e_mn] <;> omega)), ?_⟩ | refine ⟨fun h => h, ?_⟩ | refine ⟨fun _ => rfl, ?_⟩ | refine ⟨fun _ h => h, ?_⟩ | refine ⟨fun _ _ => True.intro, ?_⟩ | refine ⟨fun _ h => absurd h Bool.false_ne_true, ?_⟩ | refine ⟨fun _ => True.intro, ?_⟩ | refine ⟨fun _ _ => rfl, ?_⟩ | refine ⟨(fun h => Bool.noConfusion h), ?_⟩ | refine ⟨True.intro, ?_⟩)
      exact ct_flat [0] rfl ⟨rfl, rfl, rfl, rfl, rfl, by omega, fun i _ => by rw [Nat.zero_add]⟩
theorem ct30 (o o' : Tg) (n : Nat) (S S' : Nat → ByteArray) (hn : n ≤ 100000) (h : ∀ i, i < n → S i = S' i) : CT Go.Proofs.Try.prog 30 [strS o n S, strS o' n S'] [] (scB true) [] := by
  refine enter30 rfl rfl ?_
  intro ob ib ic sb cat iu nt an be pk wr tn iN aN sN lN eN bt sub sl rn ofB mn dc dn sI X hE hX
  cbv
  have h0 : ic .neq (iN n) (iN n) = false := by rw [hE.neN]; simp
  cbv; (repeat ((first | rewrite [h0] | rewrite [hE.ntT] | rewrite [hE.ntF] | rewrite [hE.pkT] | rewrite [hE.pkF] | rewrite [hE.anT] | rewrite [hE.anF] | rewrite [hE.anT'] | rewrite [hE.anF']); (repeat (first | rewrite [h0] | rewrite [hE.ntT] | rewrite [hE.ntF] | rewrite [hE.pkT] | rewrite [hE.pkF] | rewrite [hE.anT] | rewrite [hE.anF] | rewrite [hE.anT'] | rewrite [hE.anF'])); cbv)); (repeat first | refine ⟨(fun h => absurd h Bool.false_ne_true), ?_⟩ | refine ⟨(hE.o (by simp only [Ob.den, hE.e_iN, hE.e_tn, hE.e_aN, hE.e_sN, hE.e_sI, hE.e_mn] <;> omega)), ?_⟩ | refine ⟨fun _ => (hE.o (by simp only [Ob.den, hE.e_iN, hE.e_tn, hE.e_aN, hE.e_sN, hE.e_sI, hE.e_mn] <;> omega)), ?_⟩ | refine ⟨fun h => h, ?_⟩ | refine ⟨fun _ => rfl, ?_⟩ | refine ⟨fun _ h => h, ?_⟩ | refine ⟨fun _ _ => True.intro, ?_⟩ | refine ⟨fun _ h => absurd h Bool.false_ne_true, ?_⟩ | refine ⟨fun _ => True.intro, ?_⟩ | refine ⟨fun _ _ => rfl, ?_⟩ | refine ⟨(fun h => Bool.noConfusion h), ?_⟩ | refine ⟨True.intro, ?_⟩)
  refine loop_at hE hX tabOK (by kernel_rfl) funcsOK rfl (α := Nat) (fun k => (sets (pad 26) [(0, strS o n S), (1, strS o' n S'), (5, scI .i64 (iN k))], [])) (fun k => k ≤ n) (fun k => n - k) 0 (by omega) ?_ ?_
  · exact ⟨[], [], ⟨rfl, rfl, rfl, rfl, trivial⟩, by (cbv <;> (repeat' first | exact True.intro | exact ⟨.inr trivial, fun _ _ => rfl⟩ | exact rfl | exact fun _ _ => rfl | refine And.intro ?_ ?_ | rw [hE.iN0] | rw [hE.e_aN]))⟩
  · rintro k hk
    by_cases hkn : k < n
    · have hc : ic .lss (iN k) (iN n) = true := by rw [hE.ltN]; exact decide_eq_true hkn
      have hi := hE.incN (a := k) (by omega)
      have h1 : sb .neq (S k) (S' k) = false := by rw [hE.sneq, h k hkn]; simp
      cbv; (repeat ((first | rewrite [hc] | rewrite [hi] | rewrite [hE.tnN] | rewrite [h1] | rewrite [hE.ntT] | rewrite [hE.ntF] | rewrite [hE.pkT] | rewrite [hE.pkF] | rewrite [hE.anT] | rewrite [hE.anF] | rewrite [hE.anT'] | rewrite [hE.anF']); (repeat (first | rewrite [hc] | rewrite [hi] | rewrite [hE.tnN] | rewrite [h1] | rewrite [hE.ntT] | rewrite [hE.ntF] | rewrite [hE.pkT] | rewrite [hE.pkF] | rewrite [hE.anT] | rewrite [hE.anF] | rewrite [hE.anT'] | rewrite [hE.anF'])); cbv)); (repeat first | refine ⟨(fun h => absurd h Bool.false_ne_true), ?_⟩ | refine ⟨(hE.o (by simp only [Ob.den, hE.e_iN, hE.e_tn, hE.e_aN, hE.e_sN, hE.e_sI, hE.e_mn] <;> omega)), ?_⟩ | refine ⟨fun _ => (hE.o (by simp only [Ob.den, hE.e_iN, hE.e_tn, hE.e_aN, hE.e_sN, hE.e_sI, hE.e_mn] <;> omega)), ?_⟩ | refine ⟨fun h => h, ?_⟩ | refine ⟨fun _ => rfl, ?_⟩ | refine ⟨fun _ h => h, ?_⟩ | refine ⟨fun _ _ => True.intro, ?_⟩ | refine ⟨fun _ h => absurd h Bool.false_ne_true, ?_⟩ | refine ⟨fun _ => True.intro, ?_⟩ | refine ⟨fun _ _ => rfl, ?_⟩ | refine ⟨(fun h => Bool.noConfusion h), ?_⟩ | refine ⟨True.intro, ?_⟩)
      exact ⟨k + 1, by omega, by omega, [], [], ⟨rfl, rfl, rfl, rfl, trivial⟩, by (cbv <;> (repeat' first | exact True.intro | exact ⟨.inr trivial, fun _ _ => rfl⟩ | exact rfl | exact fun _ _ => rfl | refine And.intro ?_ ?_ | rw [hE.iN0] | rw [hE.e_aN]))⟩
    · have hc : ic .lss (iN k) (iN n) = false := by rw [hE.ltN]; exact decide_eq_false hkn
      cbv; (repeat ((first | rewrite [hc] | rewrite [hE.ntT] | rewrite [hE.ntF] | rewrite [hE.pkT] | rewrite [hE.pkF] | rewrite [hE.anT] | rewrite [hE.anF] | rewrite [hE.anT'] | rewrite [hE.anF']); (repeat (first | rewrite [hc] | rewrite [hE.ntT] | rewrite [hE.ntF] | rewrite [hE.pkT] | rewrite [hE.pkF] | rewrite [hE.anT] | rewrite [hE.anF] | rewrite [hE.anT'] | rewrite [hE.anF'])); cbv)); (repeat first | refine ⟨(fun h => absurd h Bool.false_ne_true), ?_⟩ | refine ⟨(hE.o (by simp only [Ob.den, hE.e_iN, hE.e_tn, hE.e_aN, hE.e_sN, hE.e_sI, hE.e_mn] <;> omega)), ?_⟩ | refine ⟨fun _ => (hE.o (by simp only [Ob.den, hE.e_iN, hE.e_tn, hE.e_aN, hE.e_sN, hE.e_sI, hE.e_mn] <;> omega)), ?_⟩ | refine ⟨fun h => h, ?_⟩ | refine ⟨fun _ => rfl, ?_⟩ | refine ⟨fun _ h => h, ?_⟩ | refine ⟨fun _ _ => True.intro, ?_⟩ | refine ⟨fun _ h => absurd h Bool.false_ne_true, ?_⟩ | refine ⟨fun _ => True.intro, ?_⟩ | refine ⟨fun _ _ => rfl, ?_⟩ | refine ⟨(fun h => Bool.noConfusion h), ?_⟩ | refine ⟨True.intro, ?_⟩)
      exact ct_u rfl
end Ytohkcdfjpgdfbaa
end
section
open Go Am
set_option maxRecDepth 100000
set_option maxHeartbeats 4000000
set_option linter.unusedVariables false
set_option linter.unusedSimpArgs false
namespace Ytohkcdfjpgdfbaa
theorem bL_lit (x y : List UInt8) : bL ⟨⟨x⟩⟩ ⟨⟨y⟩⟩ = Op.bytesLess x y := by unfold bL; rw [ByteArray.toList_eq, ByteArray.toList_eq]
theorem ct17 : CT Go.Proofs.Try.prog 17 [] [] (scB true) [] := by
  obtain ⟨nm, hn0, hn1⟩ : ∃ nm : Nat → ByteArray, nm 0 = ⟨⟨[98]⟩⟩ ∧ nm 1 = ⟨⟨[100]⟩⟩ := ⟨fun i => if i = 0 then ⟨⟨[98]⟩⟩ else ⟨⟨[100]⟩⟩, rfl, rfl⟩
  obtain ⟨id, hi0, hi1⟩ : ∃ id : Nat → Int, id 0 = 2 ∧ id 1 = 4 := ⟨fun i => if i = 0 then 2 else 4, rfl, rfl⟩
  have two : ∀ {P : Nat → Prop}, P 0 → P 1 → ∀ i, i < 2 → P i := fun h0 h1 i hi => by
    match i, hi with
    | 0, _ => exact h0
    | 1, _ => exact h1
  have hR : Rt 2 nm id := two ⟨by rw [hn0]; decide, by rw [hi0]; decide, fun k hk => by omega⟩ ⟨by rw [hn1]; decide, by rw [hi1]; decide, fun k hk => by
    obtain rfl : k = 0 := by omega
    rw [hn0, hn1, hi0, hi1]
    exact ⟨by rw [bL_lit]; decide, by decide⟩⟩
  have hrow : ∀ i, i < 2 → listRow [[U.sc (.string ⟨⟨[98]⟩⟩), U.sc (.int .u64 2)], [U.sc (.string ⟨⟨[100]⟩⟩), U.sc (.int .u64 4)]] i = [U.sc (.string (nm i)), U.sc (.int .u64 (id i))] := two (by rw [hn0, hi0]; rfl) (by rw [hn1, hi1]; rfl)
  have nB : nmB ⟨⟨[98]⟩⟩ = true := by decide
  have nC : nmB ⟨⟨[99]⟩⟩ = true := by decide
  have nD : nmB ⟨⟨[100]⟩⟩ = true := by decide
  have nE : nmB ⟨⟨[101]⟩⟩ = true := by decide
  have nX : nmB ⟨⟨[120]⟩⟩ = true := by decide
  have ne : ∀ {x y : List UInt8}, x ≠ y → (⟨⟨x⟩⟩ : ByteArray) ≠ ⟨⟨y⟩⟩ := fun h e => h (by cases e; rfl)
  obtain ⟨nm1, hm1⟩ : ∃ f, f = insF 1 nm ⟨⟨[99]⟩⟩ := ⟨_, rfl⟩
  obtain ⟨id1, hd1⟩ : ∃ f, f = insF 1 id 3 := ⟨_, rfl⟩
  obtain ⟨nm4, hm4⟩ : ∃ f, f = insF 1 (delF 0 nm) ⟨⟨[101]⟩⟩ := ⟨_, rfl⟩
  obtain ⟨id4, hd4⟩ : ∃ f, f = insF 1 (delF 0 id) (id 0) := ⟨_, rfl⟩
  obtain ⟨nm7, hm7⟩ : ∃ f, f = delF 1 nm := ⟨_, rfl⟩
  obtain ⟨id7, hd7⟩ : ∃ f, f = delF 1 id := ⟨_, rfl⟩
  have b1 : BindR 2 nm id ⟨⟨[99]⟩⟩ 3 0 (2 + 1) nm1 id1 := .ok _ _ hR nC (two (by rw [hn0]; exact ne (by decide)) (by rw [hn1]; exact ne (by decide))) (by decide) (two (by rw [hi0]; decide) (by rw [hi1]; decide)) 1 (by omega) (two (by rw [hn0, bL_lit]; decide) (by rw [hn1, bL_lit]; decide)) (fun i => by rw [hm1]) fun i => by rw [hd1]
  have b2 : BindR 2 nm id ⟨⟨[98]⟩⟩ 5 81 0 nm id := .exist _ _ hR nB 0 (by omega) hn0
  have b3 : BindR 2 nm id ⟨⟨[101]⟩⟩ 4 2 0 nm id := .arg _ _ hR nE (two (by rw [hn0]; exact ne (by decide)) (by rw [hn1]; exact ne (by decide))) (.inr ⟨1, by omega, hi1⟩)
  have b4 : RenR 2 nm id ⟨⟨[98]⟩⟩ ⟨⟨[101]⟩⟩ 0 (2 - 1 + 1) nm4 id4 := .ok _ _ hR nB nE 0 (by omega) hn0 (two (by rw [hn0]; exact ne (by decide)) (by rw [hn1]; exact ne (by decide))) 1 (by omega) (fun i hi => by obtain rfl : i = 0 := (by omega); show bL (nm 1) _ = _; rw [hn1, bL_lit]; decide) (fun i => by rw [hm4]) fun i => by rw [hd4]
  have b5 : RenR 2 nm id ⟨⟨[98]⟩⟩ ⟨⟨[100]⟩⟩ 81 0 nm id := .exist _ _ hR nB nD 0 (by omega) hn0 1 (by omega) hn1
  have b6 : RenR 2 nm id ⟨⟨[120]⟩⟩ ⟨⟨[100]⟩⟩ 80 0 nm id := .none _ _ hR nX nD (two (by rw [hn0]; exact ne (by decide)) (by rw [hn1]; exact ne (by decide)))
  have b7 : UnbR 2 nm id ⟨⟨[100]⟩⟩ 0 (2 - 1) nm7 id7 := .ok _ _ hR nD 1 (by omega) hn1 (fun i => by rw [hm7]) fun i => by rw [hd7]
  have r1 : ∀ i, i < 3 → listRow [[U.sc (.string ⟨⟨[98]⟩⟩)], [U.sc (.string ⟨⟨[99]⟩⟩)], [U.sc (.string ⟨⟨[100]⟩⟩)]] i = [U.sc (.string (nm1 i))] := fun i hi => by
    rw [hm1]
    match i, hi with
    | 0, _ => show _ = [U.sc (.string (nm 0))]; rw [hn0]; rfl
    | 1, _ => rfl
    | 2, _ => show _ = [U.sc (.string (nm 1))]; rw [hn1]; rfl
  have r4 : ∀ i, i < 2 → listRow [[U.sc (.string ⟨⟨[100]⟩⟩), U.sc (.int .u64 4)], [U.sc (.string ⟨⟨[101]⟩⟩), U.sc (.int .u64 2)]] i = [U.sc (.string (nm4 i)), U.sc (.int .u64 (id4 i))] := by
    rw [hm4, hd4]
    refine two ?_ ?_
    · show _ = [U.sc (.string (nm 1)), U.sc (.int .u64 (id 1))]; rw [hn1, hi1]; rfl
    · show _ = [U.sc (.string ⟨⟨[101]⟩⟩), U.sc (.int .u64 (id 0))]; rw [hi0]; rfl
  have r7 : ∀ i, i < 1 → listRow [[U.sc (.string ⟨⟨[98]⟩⟩)]] i = [U.sc (.string (nm7 i))] := fun i hi => by
    obtain rfl : i = 0 := by omega
    rw [hm7]
    show _ = [U.sc (.string (nm 0))]; rw [hn0]; rfl
  clear hm1 hd1 hm4 hd4 hm7 hd7 hR nB nC nD nE nX hn0 hn1 hi0 hi1
  refine enter17 rfl rfl ?_
  intro ob ib ic sb cat iu nt an be pk wr tn iN aN sN lN eN bt sub sl rn ofB mn dc dn sI X hE hX
  cbv
  have e0 : ic .eql 0 0 = true := by rw [hE.eql]; rfl
  have e81 : ic .eql 81 81 = true := by rw [hE.eql]; rfl
  have e2 : ic .eql 2 2 = true := by rw [hE.eql]; rfl
  have e80 : ic .eql 80 80 = true := by rw [hE.eql]; rfl
  refine call_ct hX [] [] (ct21 (.new 75) 2 nm id (by omega) ⟨⟨[99]⟩⟩ 3 0 (2 + 1) nm1 id1 b1) (fits_nil ⟨⟨tgLe_refl _, rfl, rfl, hrow⟩, fitU_refl _, fitU_refl _, trivial⟩) rfl trivial ?_
  cbv; (repeat ((first | rewrite [hE.ntT] | rewrite [hE.ntF] | rewrite [hE.pkT] | rewrite [hE.pkF] | rewrite [hE.anT] | rewrite [hE.anF] | rewrite [hE.anT'] | rewrite [hE.anF']); (repeat (first | rewrite [hE.ntT] | rewrite [hE.ntF] | rewrite [hE.pkT] | rewrite [hE.pkF] | rewrite [hE.anT] | rewrite [hE.anF] | rewrite [hE.anT'] | rewrite [hE.anF'])); cbv)); (repeat first | refine ⟨(fun h => absurd h Bool.false_ne_true), ?_⟩ | refine ⟨(hE.o (by simp only [Ob.den, hE.e_iN, hE.e_tn, hE.e_aN, hE.e_sN, hE.e_sI, hE.e_mn] <;> omega)), ?_⟩ | refine ⟨fun _ => (hE.o (by simp only [Ob.den, hE.e_iN, hE.e_tn, hE.e_aN, hE.e_sN, hE.e_sI, hE.e_mn] <;> omega)), ?_⟩ | refine ⟨fun h => h, ?_⟩ | refine ⟨fun _ => rfl, ?_⟩ | refine ⟨fun _ h => h, ?_⟩ | refine ⟨fun _ _ => True.intro, ?_⟩ | refine ⟨fun _ h => absurd h Bool.false_ne_true, ?_⟩ | refine ⟨fun _ => True.intro, ?_⟩ | refine ⟨fun _ _ => rfl, ?_⟩ | refine ⟨(fun h => Bool.noConfusion h), ?_⟩ | refine ⟨True.intro, ?_⟩)
  refine call_ct hX [] [] (ct21 (.new 75) 2 nm id (by omega) ⟨⟨[98]⟩⟩ 5 81 0 nm id b2) (fits_nil ⟨⟨tgLe_refl _, rfl, rfl, hrow⟩, fitU_refl _, fitU_refl _, trivial⟩) rfl trivial ?_
  cbv; (repeat ((first | rewrite [hE.ntT] | rewrite [hE.ntF] | rewrite [hE.pkT] | rewrite [hE.pkF] | rewrite [hE.anT] | rewrite [hE.anF] | rewrite [hE.anT'] | rewrite [hE.anF']); (repeat (first | rewrite [hE.ntT] | rewrite [hE.ntF] | rewrite [hE.pkT] | rewrite [hE.pkF] | rewrite [hE.anT] | rewrite [hE.anF] | rewrite [hE.anT'] | rewrite [hE.anF'])); cbv)); (repeat first | refine ⟨(fun h => absurd h Bool.false_ne_true), ?_⟩ | refine ⟨(hE.o (by simp only [Ob.den, hE.e_iN, hE.e_tn, hE.e_aN, hE.e_sN, hE.e_sI, hE.e_mn] <;> omega)), ?_⟩ | refine ⟨fun _ => (hE.o (by simp only [Ob.den, hE.e_iN, hE.e_tn, hE.e_aN, hE.e_sN, hE.e_sI, hE.e_mn] <;> omega)), ?_⟩ | refine ⟨fun h => h, ?_⟩ | refine ⟨fun _ => rfl, ?_⟩ | refine ⟨fun _ h => h, ?_⟩ | refine ⟨fun _ _ => True.intro, ?_⟩ | refine ⟨fun _ h => absurd h Bool.false_ne_true, ?_⟩ | refine ⟨fun _ => True.intro, ?_⟩ | refine ⟨fun _ _ => rfl, ?_⟩ | refine ⟨(fun h => Bool.noConfusion h), ?_⟩ | refine ⟨True.intro, ?_⟩)
  refine call_ct hX [] [] (ct21 (.new 75) 2 nm id (by omega) ⟨⟨[101]⟩⟩ 4 2 0 nm id b3) (fits_nil ⟨⟨tgLe_refl _, rfl, rfl, hrow⟩, fitU_refl _, fitU_refl _, trivial⟩) rfl trivial ?_
  cbv; (repeat ((first | rewrite [hE.ntT] | rewrite [hE.ntF] | rewrite [hE.pkT] | rewrite [hE.pkF] | rewrite [hE.anT] | rewrite [hE.anF] | rewrite [hE.anT'] | rewrite [hE.anF']); (repeat (first | rewrite [hE.ntT] | rewrite [hE.ntF] | rewrite [hE.pkT] | rewrite [hE.pkF] | rewrite [hE.anT] | rewrite [hE.anF] | rewrite [hE.anT'] | rewrite [hE.anF'])); cbv)); (repeat first | refine ⟨(fun h => absurd h Bool.false_ne_true), ?_⟩ | refine ⟨(hE.o (by simp only [Ob.den, hE.e_iN, hE.e_tn, hE.e_aN, hE.e_sN, hE.e_sI, hE.e_mn] <;> omega)), ?_⟩ | refine ⟨fun _ => (hE.o (by simp only [Ob.den, hE.e_iN, hE.e_tn, hE.e_aN, hE.e_sN, hE.e_sI, hE.e_mn] <;> omega)), ?_⟩ | refine ⟨fun h => h, ?_⟩ | refine ⟨fun _ => rfl, ?_⟩ | refine ⟨fun _ h => h, ?_⟩ | refine ⟨fun _ _ => True.intro, ?_⟩ | refine ⟨fun _ h => absurd h Bool.false_ne_true, ?_⟩ | refine ⟨fun _ => True.intro, ?_⟩ | refine ⟨fun _ _ => rfl, ?_⟩ | refine ⟨(fun h => Bool.noConfusion h), ?_⟩ | refine ⟨True.intro, ?_⟩)
  refine call_ct hX [] [] (ct25 (.new 75) 2 nm id (by omega) ⟨⟨[98]⟩⟩ ⟨⟨[101]⟩⟩ 0 (2 - 1 + 1) nm4 id4 b4) (fits_nil ⟨⟨tgLe_refl _, rfl, rfl, hrow⟩, fitU_refl _, fitU_refl _, trivial⟩) rfl trivial ?_
  cbv; (repeat ((first | rewrite [hE.ntT] | rewrite [hE.ntF] | rewrite [hE.pkT] | rewrite [hE.pkF] | rewrite [hE.anT] | rewrite [hE.anF] | rewrite [hE.anT'] | rewrite [hE.anF']); (repeat (first | rewrite [hE.ntT] | rewrite [hE.ntF] | rewrite [hE.pkT] | rewrite [hE.pkF] | rewrite [hE.anT] | rewrite [hE.anF] | rewrite [hE.anT'] | rewrite [hE.anF'])); cbv)); (repeat first | refine ⟨(fun h => absurd h Bool.false_ne_true), ?_⟩ | refine ⟨(hE.o (by simp only [Ob.den, hE.e_iN, hE.e_tn, hE.e_aN, hE.e_sN, hE.e_sI, hE.e_mn] <;> omega)), ?_⟩ | refine ⟨fun _ => (hE.o (by simp only [Ob.den, hE.e_iN, hE.e_tn, hE.e_aN, hE.e_sN, hE.e_sI, hE.e_mn] <;> omega)), ?_⟩ | refine ⟨fun h => h, ?_⟩ | refine ⟨fun _ => rfl, ?_⟩ | refine ⟨fun _ h => h, ?_⟩ | refine ⟨fun _ _ => True.intro, ?_⟩ | refine ⟨fun _ h => absurd h Bool.false_ne_true, ?_⟩ | refine ⟨fun _ => True.intro, ?_⟩ | refine ⟨fun _ _ => rfl, ?_⟩ | refine ⟨(fun h => Bool.noConfusion h), ?_⟩ | refine ⟨True.intro, ?_⟩)
  refine call_ct hX [] [] (ct25 (.new 75) 2 nm id (by omega) ⟨⟨[98]⟩⟩ ⟨⟨[100]⟩⟩ 81 0 nm id b5) (fits_nil ⟨⟨tgLe_refl _, rfl, rfl, hrow⟩, fitU_refl _, fitU_refl _, trivial⟩) rfl trivial ?_
  cbv; (repeat ((first | rewrite [hE.ntT] | rewrite [hE.ntF] | rewrite [hE.pkT] | rewrite [hE.pkF] | rewrite [hE.anT] | rewrite [hE.anF] | rewrite [hE.anT'] | rewrite [hE.anF']); (repeat (first | rewrite [hE.ntT] | rewrite [hE.ntF] | rewrite [hE.pkT] | rewrite [hE.pkF] | rewrite [hE.anT] | rewrite [hE.anF] | rewrite [hE.anT'] | rewrite [hE.anF'])); cbv)); (repeat first | refine ⟨(fun h => absurd h Bool.false_ne_true), ?_⟩ | refine ⟨(hE.o (by simp only [Ob.den, hE.e_iN, hE.e_tn, hE.e_aN, hE.e_sN, hE.e_sI, hE.e_mn] <;> omega)), ?_⟩ | refine ⟨fun _ => (hE.o (by simp only [Ob.den, hE.e_iN, hE.e_tn, hE.e_aN, hE.e_sN, hE.e_sI, hE.e_mn] <;> omega)), ?_⟩ | refine ⟨fun h => h, ?_⟩ | refine ⟨fun _ => rfl, ?_⟩ | refine ⟨fun _ h => h, ?_⟩ | refine ⟨fun _ _ => True.intro, ?_⟩ | refine ⟨fun _ h => absurd h Bool.false_ne_true, ?_⟩ | refine ⟨fun _ => True.intro, ?_⟩ | refine ⟨fun _ _ => rfl, ?_⟩ | refine ⟨(fun h => Bool.noConfusion h), ?_⟩ | refine ⟨True.intro, ?_⟩)
  refine call_ct hX [] [] (ct25 (.new 75) 2 nm id (by omega) ⟨⟨[120]⟩⟩ ⟨⟨[100]⟩⟩ 80 0 nm id b6) (fits_nil ⟨⟨tgLe_refl _, rfl, rfl, hrow⟩, fitU_refl _, fitU_refl _, trivial⟩) rfl trivial ?_
  cbv; (repeat ((first | rewrite [hE.ntT] | rewrite [hE.ntF] | rewrite [hE.pkT] | rewrite [hE.pkF] | rewrite [hE.anT] | rewrite [hE.anF] | rewrite [hE.anT'] | rewrite [hE.anF']); (repeat (first | rewrite [hE.ntT] | rewrite [hE.ntF] | rewrite [hE.pkT] | rewrite [hE.pkF] | rewrite [hE.anT] | rewrite [hE.anF] | rewrite [hE.anT'] | rewrite [hE.anF'])); cbv)); (repeat first | refine ⟨(fun h => absurd h Bool.false_ne_true), ?_⟩ | refine ⟨(hE.o (by simp only [Ob.den, hE.e_iN, hE.e_tn, hE.e_aN, hE.e_sN, hE.e_sI, hE.e_mn] <;> omega)), ?_⟩ | refine ⟨fun _ => (hE.o (by simp only [Ob.den, hE.e_iN, hE.e_tn, hE.e_aN, hE.e_sN, hE.e_sI, hE.e_mn] <;> omega)), ?_⟩ | refine ⟨fun h => h, ?_⟩ | refine ⟨fun _ => rfl, ?_⟩ | refine ⟨fun _ h => h, ?_⟩ | refine ⟨fun _ _ => True.intro, ?_⟩ | refine ⟨fun _ h => absurd h Bool.false_ne_true, ?_⟩ | refine ⟨fun _ => True.intro, ?_⟩ | refine ⟨fun _ _ => rfl, ?_⟩ | refine ⟨(fun h => Bool.noConfusion h), ?_⟩ | refine ⟨True.intro, ?_⟩)
  refine call_ct hX [] [] (ct23 (.new 75) 2 nm id (by omega) ⟨⟨[100]⟩⟩ 0 (2 - 1) nm7 id7 b7) (fits_nil ⟨⟨tgLe_refl _, rfl, rfl, hrow⟩, fitU_refl _, trivial⟩) rfl trivial ?_
  cbv; (repeat ((first | rewrite [e0] | rewrite [hE.ntT] | rewrite [hE.ntF] | rewrite [hE.pkT] | rewrite [hE.pkF] | rewrite [hE.anT] | rewrite [hE.anF] | rewrite [hE.anT'] | rewrite [hE.anF']); (repeat (first | rewrite [e0] | rewrite [hE.ntT] | rewrite [hE.ntF] | rewrite [hE.pkT] | rewrite [hE.pkF] | rewrite [hE.anT] | rewrite [hE.anF] | rewrite [hE.anT'] | rewrite [hE.anF'])); cbv)); (repeat first | refine ⟨(fun h => absurd h Bool.false_ne_true), ?_⟩ | refine ⟨(hE.o (by simp only [Ob.den, hE.e_iN, hE.e_tn, hE.e_aN, hE.e_sN, hE.e_sI, hE.e_mn] <;> omega)), ?_⟩ | refine ⟨fun _ => (hE.o (by simp only [Ob.den, hE.e_iN, hE.e_tn, hE.e_aN, hE.e_sN, hE.e_sI, hE.e_mn] <;> omega)), ?_⟩ | refine ⟨fun h => h, ?_⟩ | refine ⟨fun _ => rfl, ?_⟩ | refine ⟨fun _ h => h, ?_⟩ | refine ⟨fun _ _ => True.intro, ?_⟩ | refine ⟨fun _ h => absurd h Bool.false_ne_true, ?_⟩ | refine ⟨fun _ => True.intro, ?_⟩ | refine ⟨fun _ _ => rfl, ?_⟩ | refine ⟨(fun h => Bool.noConfusion h), ?_⟩ | refine ⟨True.intro, ?_⟩)
  refine call_ct hX [] [] (ct31 (.new 75) 3 nm1 id1 (by omega)) (fits_nil ⟨fitU_refl _, trivial⟩) rfl trivial ?_
  cbv; (repeat ((first | rewrite [hE.ntT] | rewrite [hE.ntF] | rewrite [hE.pkT] | rewrite [hE.pkF] | rewrite [hE.anT] | rewrite [hE.anF] | rewrite [hE.anT'] | rewrite [hE.anF']); (repeat (first | rewrite [hE.ntT] | rewrite [hE.ntF] | rewrite [hE.pkT] | rewrite [hE.pkF] | rewrite [hE.anT] | rewrite [hE.anF] | rewrite [hE.anT'] | rewrite [hE.anF'])); cbv)); (repeat first | refine ⟨(fun h => absurd h Bool.false_ne_true), ?_⟩ | refine ⟨(hE.o (by simp only [Ob.den, hE.e_iN, hE.e_tn, hE.e_aN, hE.e_sN, hE.e_sI, hE.e_mn] <;> omega)), ?_⟩ | refine ⟨fun _ => (hE.o (by simp only [Ob.den, hE.e_iN, hE.e_tn, hE.e_aN, hE.e_sN, hE.e_sI, hE.e_mn] <;> omega)), ?_⟩ | refine ⟨fun h => h, ?_⟩ | refine ⟨fun _ => rfl, ?_⟩ | refine ⟨fun _ h => h, ?_⟩ | refine ⟨fun _ _ => True.intro, ?_⟩ | refine ⟨fun _ h => absurd h Bool.false_ne_true, ?_⟩ | refine ⟨fun _ => True.intro, ?_⟩ | refine ⟨fun _ _ => rfl, ?_⟩ | refine ⟨(fun h => Bool.noConfusion h), ?_⟩ | refine ⟨True.intro, ?_⟩)
  refine call_ct hX [] [] (ct30 (.new 9) (.new 9) 3 nm1 nm1 (by omega) fun _ _ => rfl) (fits_nil ⟨fitU_refl _, ⟨tgLe_refl _, rfl, rfl, r1⟩, trivial⟩) rfl trivial ?_
  cbv; (repeat ((first | rewrite [e81] | rewrite [e2] | rewrite [e0] | rewrite [hE.ntT] | rewrite [hE.ntF] | rewrite [hE.pkT] | rewrite [hE.pkF] | rewrite [hE.anT] | rewrite [hE.anF] | rewrite [hE.anT'] | rewrite [hE.anF']); (repeat (first | rewrite [e81] | rewrite [e2] | rewrite [e0] | rewrite [hE.ntT] | rewrite [hE.ntF] | rewrite [hE.pkT] | rewrite [hE.pkF] | rewrite [hE.anT] | rewrite [hE.anF] | rewrite [hE.anT'] | rewrite [hE.anF'])); cbv)); (repeat first | refine ⟨(fun h => absurd h Bool.false_ne_true), ?_⟩ | refine ⟨(hE.o (by simp only [Ob.den, hE.e_iN, hE.e_tn, hE.e_aN, hE.e_sN, hE.e_sI, hE.e_mn] <;> omega)), ?_⟩ | refine ⟨fun _ => (hE.o (by simp only [Ob.den, hE.e_iN, hE.e_tn, hE.e_aN, hE.e_sN, hE.e_sI, hE.e_mn] <;> omega)), ?_⟩ | refine ⟨fun h => h, ?_⟩ | refine ⟨fun _ => rfl, ?_⟩ | refine ⟨fun _ h => h, ?_⟩ | refine ⟨fun _ _ => True.intro, ?_⟩ | refine ⟨fun _ h => absurd h Bool.false_ne_true, ?_⟩ | refine ⟨fun _ => True.intro, ?_⟩ | refine ⟨fun _ _ => rfl, ?_⟩ | refine ⟨(fun h => Bool.noConfusion h), ?_⟩ | refine ⟨True.intro, ?_⟩)
  refine call_ct hX [] [] (ct27 (.new 75) (.new 100) 2 nm4 nm4 id4 id4 (by omega) fun _ _ => ⟨rfl, rfl⟩) (fits_nil ⟨fitU_refl _, ⟨tgLe_refl _, rfl, rfl, r4⟩, trivial⟩) rfl trivial ?_
  cbv; (repeat ((first | rewrite [e81] | rewrite [e80] | rewrite [e0] | rewrite [hE.ntT] | rewrite [hE.ntF] | rewrite [hE.pkT] | rewrite [hE.pkF] | rewrite [hE.anT] | rewrite [hE.anF] | rewrite [hE.anT'] | rewrite [hE.anF']); (repeat (first | rewrite [e81] | rewrite [e80] | rewrite [e0] | rewrite [hE.ntT] | rewrite [hE.ntF] | rewrite [hE.pkT] | rewrite [hE.pkF] | rewrite [hE.anT] | rewrite [hE.anF] | rewrite [hE.anT'] | rewrite [hE.anF'])); cbv)); (repeat first | refine ⟨(fun h => absurd h Bool.false_ne_true), ?_⟩ | refine ⟨(hE.o (by simp only [Ob.den, hE.e_iN, hE.e_tn, hE.e_aN, hE.e_sN, hE.e_sI, hE.e_mn] <;> omega)), ?_⟩ | refine ⟨fun _ => (hE.o (by simp only [Ob.den, hE.e_iN, hE.e_tn, hE.e_aN, hE.e_sN, hE.e_sI, hE.e_mn] <;> omega)), ?_⟩ | refine ⟨fun h => h, ?_⟩ | refine ⟨fun _ => rfl, ?_⟩ | refine ⟨fun _ h => h, ?_⟩ | refine ⟨fun _ _ => True.intro, ?_⟩ | refine ⟨fun _ h => absurd h Bool.false_ne_true, ?_⟩ | refine ⟨fun _ => True.intro, ?_⟩ | refine ⟨fun _ _ => rfl, ?_⟩ | refine ⟨(fun h => Bool.noConfusion h), ?_⟩ | refine ⟨True.intro, ?_⟩)
  refine call_ct hX [] [] (ct31 (.new 75) 1 nm7 id7 (by omega)) (fits_nil ⟨fitU_refl _, trivial⟩) rfl trivial ?_
  cbv; (repeat ((first | rewrite [hE.ntT] | rewrite [hE.ntF] | rewrite [hE.pkT] | rewrite [hE.pkF] | rewrite [hE.anT] | rewrite [hE.anF] | rewrite [hE.anT'] | rewrite [hE.anF']); (repeat (first | rewrite [hE.ntT] | rewrite [hE.ntF] | rewrite [hE.pkT] | rewrite [hE.pkF] | rewrite [hE.anT] | rewrite [hE.anF] | rewrite [hE.anT'] | rewrite [hE.anF'])); cbv)); (repeat first | refine ⟨(fun h => absurd h Bool.false_ne_true), ?_⟩ | refine ⟨(hE.o (by simp only [Ob.den, hE.e_iN, hE.e_tn, hE.e_aN, hE.e_sN, hE.e_sI, hE.e_mn] <;> omega)), ?_⟩ | refine ⟨fun _ => (hE.o (by simp only [Ob.den, hE.e_iN, hE.e_tn, hE.e_aN, hE.e_sN, hE.e_sI, hE.e_mn] <;> omega)), ?_⟩ | refine ⟨fun h => h, ?_⟩ | refine ⟨fun _ => rfl, ?_⟩ | refine ⟨fun _ h => h, ?_⟩ | refine ⟨fun _ _ => True.intro, ?_⟩ | refine ⟨fun _ h => absurd h Bool.false_ne_true, ?_⟩ | refine ⟨fun _ => True.intro, ?_⟩ | refine ⟨fun _ _ => rfl, ?_⟩ | refine ⟨(fun h => Bool.noConfusion h), ?_⟩ | refine ⟨True.intro, ?_⟩)
  refine call_ct hX [] [] (ct30 (.new 9) (.new 9) 1 nm7 nm7 (by omega) fun _ _ => rfl) (fits_nil ⟨fitU_refl _, ⟨tgLe_refl _, rfl, rfl, r7⟩, trivial⟩) rfl trivial ?_
  cbv; (repeat ((first | rewrite [hE.ntT] | rewrite [hE.ntF] | rewrite [hE.pkT] | rewrite [hE.pkF] | rewrite [hE.anT] | rewrite [hE.anF] | rewrite [hE.anT'] | rewrite [hE.anF']); (repeat (first | rewrite [hE.ntT] | rewrite [hE.ntF] | rewrite [hE.pkT] | rewrite [hE.pkF] | rewrite [hE.anT] | rewrite [hE.anF] | rewrite [hE.anT'] | rewrite [hE.anF'])); cbv)); (repeat first | refine ⟨(fun h => absurd h Bool.false_ne_true), ?_⟩ | refine ⟨(hE.o (by simp only [Ob.den, hE.e_iN, hE.e_tn, hE.e_aN, hE.e_sN, hE.e_sI, hE.e_mn] <;> omega)), ?_⟩ | refine ⟨fun _ => (hE.o (by simp only [Ob.den, hE.e_iN, hE.e_tn, hE.e_aN, hE.e_sN, hE.e_sI, hE.e_mn] <;> omega)), ?_⟩ | refine ⟨fun h => h, ?_⟩ | refine ⟨fun _ => rfl, ?_⟩ | refine ⟨fun _ h => h, ?_⟩ | refine ⟨fun _ _ => True.intro, ?_⟩ | refine ⟨fun _ h => absurd h Bool.false_ne_true, ?_⟩ | refine ⟨fun _ => True.intro, ?_⟩ | refine ⟨fun _ _ => rfl, ?_⟩ | refine ⟨(fun h => Bool.noConfusion h), ?_⟩ | refine ⟨True.intro, ?_⟩)
  exact ct_u rfl
end Ytohkcdfjpgdfbaa
end
section
open Go Am
set_option maxRecDepth 100000
set_option maxHeartbeats 4000000
set_option linter.unusedVariables false
set_option linter.unusedSimpArgs false
namespace Ytohkcdfjpgdfbaa
theorem cols {n : Nat} {f : Nat → List U} (h : ∀ i, i < n → shUs [.str, .int .u64] (f i)) : ∃ (nm : Nat → ByteArray) (id : Nat → Int), ∀ i, i < n → f i = [.sc (.string (nm i)), .sc (.int .u64 (id i))] := by
  have each : ∀ i, ∃ (a : ByteArray) (x : Int), i < n → f i = [.sc (.string a), .sc (.int .u64 x)] := fun i => by
    by_cases hi : i < n
    · obtain ⟨u, us, e, ⟨a, rfl, _⟩, u2, us2, rfl, ⟨x, rfl, _⟩, rfl⟩ := h i hi
      exact ⟨a, x, fun _ => e⟩
    · exact ⟨ByteArray.empty, 0, fun h => absurd h hi⟩
  exact ⟨fun i => Classical.choose (each i), fun i => Classical.choose (Classical.choose_spec (each i)), fun i hi => Classical.choose_spec (Classical.choose_spec (each i)) hi⟩
end Ytohkcdfjpgdfbaa
end
section
open Go Am
set_option maxRecDepth 100000
set_option maxHeartbeats 4000000
set_option linter.unusedVariables false
set_option linter.unusedSimpArgs false
namespace Ytohkcdfjpgdfbaa
theorem fit0 {o o' : Tg} {z : Nat} {f g : Nat → List U} (h : tgLe o o') : fitU (.sv o z 0 f) (.sv o' z 0 g) := ⟨h, rfl, rfl, fun i hi => by omega⟩
theorem BindR.le {n : Nat} {nm : Nat → ByteArray} {id : Nat → Int} {s : ByteArray} {x e : Int} {m : Nat} {a b} (h : BindR n nm id s x e m a b) : m ≤ n + 1 := by cases h <;> omega
theorem UnbR.le {n : Nat} {nm : Nat → ByteArray} {id : Nat → Int} {s : ByteArray} {e : Int} {m : Nat} {a b} (h : UnbR n nm id s e m a b) : m ≤ n := by cases h <;> omega
theorem RenR.le {n : Nat} {nm : Nat → ByteArray} {id : Nat → Int} {s t : ByteArray} {e : Int} {m : Nat} {a b} (h : RenR n nm id s t e m a b) : m ≤ n + 1 := by cases h <;> omega
theorem insF_lt {α : Type} {p i : Nat} {f : Nat → α} {a : α} (h : i < p) : insF p f a i = f i := if_pos h
theorem insF_at {α : Type} {p : Nat} {f : Nat → α} {a : α} : insF p f a p = a := by simp [insF]
theorem insF_gt {α : Type} {p i : Nat} {f : Nat → α} {a : α} (h : p ≤ i) : insF p f a (i + 1) = f i := by
  unfold insF
  rw [if_neg (by omega), if_neg (by omega)]
  rfl
theorem delF_lt {α : Type} {p i : Nat} {f : Nat → α} (h : i < p) : delF p f i = f i := if_pos h
theorem delF_ge {α : Type} {p i : Nat} {f : Nat → α} (h : p ≤ i) : delF p f i = f (i + 1) := if_neg (by omega)
theorem del_ins {α : Type} (p : Nat) (f : Nat → α) (a : α) (i : Nat) : delF p (insF p f a) i = f i := by
  rcases Nat.lt_or_ge i p with h | h
  · rw [delF_lt h, insF_lt h]
  · rw [delF_ge h, insF_gt h]
theorem ins_del {α : Type} (p : Nat) (f : Nat → α) (a : α) (h0 : f p = a) (i : Nat) : insF p (delF p f) a i = f i := by
  rcases Nat.lt_trichotomy i p with h | h | h
  · rw [insF_lt h, delF_lt h]
  · subst h; rw [insF_at, h0]
  · obtain ⟨j, rfl⟩ : ∃ j, i = j + 1 := ⟨i - 1, by omega⟩
    rw [insF_gt (by omega), delF_ge (by omega)]
theorem ins_cases {α : Type} (p n : Nat) (f : Nat → α) (a : α) (i : Nat) (hi : i < n + 1) : (i < p ∧ insF p f a i = f i) ∨ (i = p ∧ insF p f a i = a) ∨ (p < i ∧ i - 1 < n ∧ insF p f a i = f (i - 1)) := by
  rcases Nat.lt_trichotomy i p with h | h | h
  · exact .inl ⟨h, insF_lt h⟩
  · subst h; exact .inr (.inl ⟨rfl, insF_at⟩)
  · obtain ⟨j, rfl⟩ : ∃ j, i = j + 1 := ⟨i - 1, by omega⟩
    exact .inr (.inr ⟨h, by omega, insF_gt (by omega)⟩)
theorem Rt.ins {n : Nat} {nm : Nat → ByteArray} {id : Nat → Int} (h : Rt n nm id) {s : ByteArray} {x : Int} {p : Nat} (hs : nmB s = true) (hx : x ≠ 0) (hxn : ∀ i, i < n → id i ≠ x) (hne : ∀ i, i < n → nm i ≠ s) (hp : p ≤ n)
    (hpl : ∀ i, i < n → bL (nm i) s = decide (i < p)) : Rt (n + 1) (insF p nm s) (insF p id x) := by
  have hgt : ∀ i, i < n → p ≤ i → bL s (nm i) = true := fun i hi h1 => by
    rcases bL_tri (nm i) s with h2 | h2 | h2
    · rw [hpl i hi, decide_eq_true_eq] at h2; omega
    · exact absurd h2 (hne i hi)
    · exact h2
  have hlt : ∀ i, i < n → i < p → bL (nm i) s = true := fun i hi h1 => by rw [hpl i hi]; exact decide_eq_true h1
  intro i hi
  rcases ins_cases p n nm s i hi with ⟨h1, e1⟩ | ⟨h1, e1⟩ | ⟨h1, h1', e1⟩ <;> rcases ins_cases p n id x i hi with ⟨h2, e2⟩ | ⟨h2, e2⟩ | ⟨h2, h2', e2⟩ <;> (first | omega | skip)
  · rw [e1, e2]
    have := h i (by omega)
    refine ⟨this.1, this.2.1, fun k hk => ?_⟩
    rw [insF_lt (by omega), insF_lt (by omega)]
    exact this.2.2 k hk
  · rw [e1, e2]
    refine ⟨hs, hx, fun k hk => ?_⟩
    rw [insF_lt (by omega), insF_lt (by omega)]
    exact ⟨hlt k (by omega) (by omega), hxn k (by omega)⟩
  · rw [e1, e2]
    have := h (i - 1) h1'
    refine ⟨this.1, this.2.1, fun k hk => ?_⟩
    rcases ins_cases p n nm s k (by omega) with ⟨h3, e3⟩ | ⟨h3, e3⟩ | ⟨h3, h3', e3⟩ <;> rcases ins_cases p n id x k (by omega) with ⟨h4, e4⟩ | ⟨h4, e4⟩ | ⟨h4, h4', e4⟩ <;> (first | omega | skip)
    · rw [e3, e4]; exact this.2.2 k (by omega)
    · rw [e3, e4]; exact ⟨hgt _ h1' (by omega), fun e => hxn _ h1' e.symm⟩
    · rw [e3, e4]; exact this.2.2 (k - 1) (by omega)
theorem GetR.ins {n : Nat} {nm : Nat → ByteArray} {id : Nat → Int} {o s : ByteArray} {v e x : Int} {p : Nat} (hg : GetR n nm id o v e) (h0 : Rt n nm id) (h : Rt (n + 1) (insF p nm s) (insF p id x)) (hp : p ≤ n) (hos : o ≠ s) : GetR (n + 1) (insF p nm s) (insF p id x) o v e := by
  cases hg with
  | wrong hw => exact absurd h0 hw
  | name _ hn => exact .name h hn
  | there _ hn q hq e =>
    rcases Nat.lt_or_ge q p with h1 | h1
    · have := GetR.there h hn q (by omega) (by rw [insF_lt h1]; exact e)
      rwa [insF_lt h1] at this
    · have := GetR.there h hn (q + 1) (by omega) (by rw [insF_gt h1]; exact e)
      rwa [insF_gt h1] at this
  | none _ hn hne =>
    refine .none h hn fun q hq => ?_
    rcases ins_cases p n nm s q hq with ⟨h1, e1⟩ | ⟨h1, e1⟩ | ⟨h1, h1', e1⟩
    · rw [e1]; exact hne q (by omega)
    · rw [e1]; exact fun e => hos e.symm
    · rw [e1]; exact hne _ h1'
theorem GetR.del {n : Nat} {nm : Nat → ByteArray} {id : Nat → Int} {o : ByteArray} {v e : Int} {p : Nat} (hg : GetR n nm id o v e) (h0 : Rt n nm id) (hp : p < n) (hos : o ≠ nm p) : GetR (n - 1) (delF p nm) (delF p id) o v e := by
  have h := h0.del hp
  cases hg with
  | wrong hw => exact absurd h0 hw
  | name _ hn => exact .name h hn
  | there _ hn q hq e =>
    rcases Nat.lt_trichotomy q p with h1 | h1 | h1
    · have := GetR.there h hn q (by omega) (by rw [delF_lt h1]; exact e)
      rwa [delF_lt h1] at this
    · subst h1; exact absurd e.symm hos
    · obtain ⟨r, rfl⟩ : ∃ r, q = r + 1 := ⟨q - 1, by omega⟩
      have := GetR.there h hn r (by omega) (by rw [delF_ge (by omega)]; exact e)
      rwa [delF_ge (by omega)] at this
  | none _ hn hne =>
    refine .none h hn fun q hq => ?_
    rcases Nat.lt_or_ge q p with h1 | h1
    · rw [delF_lt h1]; exact hne q (by omega)
    · rw [delF_ge h1]; exact hne _ (by omega)
theorem BindR.right {n : Nat} {nm : Nat → ByteArray} {id : Nat → Int} {s : ByteArray} {x : Int} {m : Nat} {a : Nat → ByteArray} {c : Nat → Int} (hb : BindR n nm id s x 0 m a c) :
    ∃ p, p ≤ n ∧ m = n + 1 ∧ a = insF p nm s ∧ c = insF p id x ∧ Rt n nm id ∧ Rt (n + 1) (insF p nm s) (insF p id x) ∧ nmB s = true := by
  cases hb with
  | ok _ _ h hn hne hx hxn p hp hs ha hc => exact ⟨p, hp, rfl, funext ha, funext hc, h, h.ins hn hx hxn hne hp hs, hn⟩
theorem RenR.right {n : Nat} {nm : Nat → ByteArray} {id : Nat → Int} {s t : ByteArray} {m : Nat} {a : Nat → ByteArray} {c : Nat → Int} (hb : RenR n nm id s t 0 m a c) :
    ∃ p q, p < n ∧ nm p = s ∧ q ≤ n - 1 ∧ m = n - 1 + 1 ∧ a = insF q (delF p nm) t ∧ c = insF q (delF p id) (id p) ∧ Rt n nm id ∧ Rt (n - 1) (delF p nm) (delF p id) ∧ Rt (n - 1 + 1) a c ∧ nmB s = true ∧ nmB t = true ∧ s ≠ t ∧
      (∀ i, i < n - 1 → delF p nm i ≠ s) ∧ ∃ b d, RenR m a c t s 0 m b d ∧ ∀ i, i < m → b i = nm i ∧ d i = id i := by
  cases hb with
  | ok _ _ h hs ht p hp e hne q hq hl ha hc =>
    have hd := h.del hp
    have hidne : ∀ i, i < n - 1 → delF p id i ≠ id p := fun i hi => delF_ne (fun i hi h1 => h.idne hp i hi h1) i hi
    have htne : ∀ i, i < n - 1 → delF p nm i ≠ t := fun i hi => delF_ne (fun i hi _ => hne i hi) i hi
    have hsne : ∀ i, i < n - 1 → delF p nm i ≠ s := fun i hi => delF_ne (fun i hi h1 e1 => h1 (h.same hp hi e e1)) i hi
    have hst : s ≠ t := fun e1 => hne p hp (by rw [e, e1])
    have hr := hd.ins ht (h p hp).2.1 hidne htne hq hl
    obtain rfl := funext ha
    obtain rfl := funext hc
    have ea : (insF q (delF p nm) t) q = t := insF_at
    have ec : (insF q (delF p id) (id p)) q = id p := insF_at
    have da : delF q (insF q (delF p nm) t) = delF p nm := funext (del_ins q _ _)
    have dc : delF q (insF q (delF p id) (id p)) = delF p id := funext (del_ins q _ _)
    refine ⟨p, q, hp, e, hq, rfl, rfl, rfl, h, hd, hr, hs, ht, hst, hsne, insF p (delF p nm) s, insF p (delF p id) (id p), ?_, fun i hi => ⟨ins_del p nm s e i, ins_del p id _ rfl i⟩⟩
    refine .ok _ _ hr ht hs q (by omega) ea (fun r hr' => ?_) p (by omega) (fun i hi => ?_) (fun i => by rw [da]) (fun i => by rw [dc, ec])
    · rcases ins_cases q (n - 1) (delF p nm) t r hr' with ⟨h1, e1⟩ | ⟨h1, e1⟩ | ⟨h1, h1', e1⟩
      · rw [e1]; exact hsne _ (by omega)
      · rw [e1]; exact fun e => hst e.symm
      · rw [e1]; exact hsne _ h1'
    · rw [da, ← e]
      have hi : i < n - 1 := by omega
      rcases Nat.lt_or_ge i p with h1 | h1
      · rw [delF_lt h1, decide_eq_true h1]; exact ((h p hp).2.2 i h1).1
      · rw [delF_ge h1, decide_eq_false (by omega)]; exact bL_asymm ((h (i + 1) (by omega)).2.2 p (by omega)).1
end Ytohkcdfjpgdfbaa
end
