/- Part 3 of the proof of CatalogBytesSaid: K21, K22, K23, K24, K25, K26, K27, K28, K29, K30, K31, K32, K33, K34, KR, AmX, K40, K41. -/
import Derived.Test.YtohkcdfjpgdfbaaT2
section
open Go Am
set_option maxRecDepth 100000
set_option maxHeartbeats 4000000
set_option linter.unusedVariables false
set_option linter.unusedSimpArgs false
namespace Ytohkcdfjpgdfbaa
theorem ct28 (o : Tg) (n : Nat) (nm : Nat → ByteArray) (id : Nat → Int) (hn : n ≤ 100000) (b : Bool) (hb : b = true ↔ Rt n nm id) : CT Go.Proofs.Try.prog 28 [catS o n nm id] [] (scB b) [] := by
  refine enter28 rfl rfl ?_
  intro ob ib ic sb cat iu nt an be pk wr tn iN aN sN lN eN bt sub sl rn ofB mn dc dn sI X hE hX
  cbv
  obtain ⟨M, hM⟩ : ∃ M : Nat → Int → Bool, ∀ k i, M k i = decide (i = 0 ∨ ∃ j, j < k ∧ i = id j) := ⟨_, fun _ _ => rfl⟩
  refine loop_at hE hX tabOK (by kernel_rfl) funcsOK rfl (α := Nat) (fun k => (sets (pad 53) [(0, catS o n nm id), (3, .mp 0), (11, catS o n nm id), (12, scI .i64 (iN n)), (13, scI .i64 (iN k))], [.ms .u64 fun i => M k i])) (fun k => k ≤ n ∧ Rt k nm id) (fun k => n - k) 0 ⟨by omega, fun i hi => by omega⟩ ?_ ?_
  · refine ⟨[some 0], [], ⟨rfl, rfl, rfl, rfl, ?_⟩, ?_⟩
    · cbv
      exact ⟨fun i => by show nt (an (nt false) (nt (ic .eql i 0))) = _; rw [hM, hE.ntF, hE.e_an, Bool.true_and, hE.e_nt, hE.e_nt, Bool.not_not, hE.eql]; exact decide_eq_decide.2 ⟨.inl, fun h => h.elim (fun h => h) fun ⟨j, hj, _⟩ => by omega⟩, trivial⟩
    · cbv
      (repeat' first | exact True.intro | exact ⟨.inr trivial, fun _ _ => rfl⟩ | exact rfl | exact fun _ _ => rfl | refine And.intro ?_ ?_ | rw [hE.iN0] | rw [hE.e_aN])
  · rintro k ⟨hk, hs⟩
    cbv
    split
    · rename_i h
      cbv
      rw [hE.ltN, decide_eq_true_eq] at h
      rw [hE.tnN]
      (try simp only [hE.ntT, hE.ntF, hE.pkT, hE.pkF, hE.anT, hE.anF, hE.anT', hE.anF']); (repeat first | refine ⟨(fun h => absurd h Bool.false_ne_true), ?_⟩ | refine ⟨(hE.o (by simp only [Ob.den, hE.e_iN, hE.e_tn, hE.e_aN, hE.e_sN, hE.e_sI, hE.e_mn] <;> omega)), ?_⟩ | refine ⟨fun _ => (hE.o (by simp only [Ob.den, hE.e_iN, hE.e_tn, hE.e_aN, hE.e_sN, hE.e_sI, hE.e_mn] <;> omega)), ?_⟩ | refine ⟨fun h => h, ?_⟩ | refine ⟨fun _ => rfl, ?_⟩ | refine ⟨fun _ h => h, ?_⟩ | refine ⟨fun _ _ => True.intro, ?_⟩ | refine ⟨fun _ h => absurd h Bool.false_ne_true, ?_⟩ | refine ⟨fun _ => True.intro, ?_⟩ | refine ⟨fun _ _ => rfl, ?_⟩ | refine ⟨(fun h => Bool.noConfusion h), ?_⟩ | refine ⟨True.intro, ?_⟩)
      cases h0 : M k (id k)
      rotate_left
      · cbv; (repeat ((first | rewrite [hE.ntT] | rewrite [hE.ntF] | rewrite [hE.pkT] | rewrite [hE.pkF] | rewrite [hE.anT] | rewrite [hE.anF] | rewrite [hE.anT'] | rewrite [hE.anF']); (repeat (first | rewrite [hE.ntT] | rewrite [hE.ntF] | rewrite [hE.pkT] | rewrite [hE.pkF] | rewrite [hE.anT] | rewrite [hE.anF] | rewrite [hE.anT'] | rewrite [hE.anF'])); cbv)); (repeat first | refine ⟨(fun h => absurd h Bool.false_ne_true), ?_⟩ | refine ⟨(hE.o (by simp only [Ob.den, hE.e_iN, hE.e_tn, hE.e_aN, hE.e_sN, hE.e_sI, hE.e_mn] <;> omega)), ?_⟩ | refine ⟨fun _ => (hE.o (by simp only [Ob.den, hE.e_iN, hE.e_tn, hE.e_aN, hE.e_sN, hE.e_sI, hE.e_mn] <;> omega)), ?_⟩ | refine ⟨fun h => h, ?_⟩ | refine ⟨fun _ => rfl, ?_⟩ | refine ⟨fun _ h => h, ?_⟩ | refine ⟨fun _ _ => True.intro, ?_⟩ | refine ⟨fun _ h => absurd h Bool.false_ne_true, ?_⟩ | refine ⟨fun _ => True.intro, ?_⟩ | refine ⟨fun _ _ => rfl, ?_⟩ | refine ⟨(fun h => Bool.noConfusion h), ?_⟩ | refine ⟨True.intro, ?_⟩)
        rw [hM, decide_eq_true_eq] at h0
        have hf : b = false := bfalse fun e => by
          have := (hb.1 e) k h
          rcases h0 with h0 | ⟨j, hj, h0⟩
          · exact this.2.1 h0
          · exact (this.2.2 j hj).2 h0.symm
        rw [hf]
        exact ct_u rfl
      cbv; (repeat ((first | rewrite [hE.ntT] | rewrite [hE.ntF] | rewrite [hE.pkT] | rewrite [hE.pkF] | rewrite [hE.anT] | rewrite [hE.anF] | rewrite [hE.anT'] | rewrite [hE.anF']); (repeat (first | rewrite [hE.ntT] | rewrite [hE.ntF] | rewrite [hE.pkT] | rewrite [hE.pkF] | rewrite [hE.anT] | rewrite [hE.anF] | rewrite [hE.anT'] | rewrite [hE.anF'])); cbv)); (repeat first | refine ⟨(fun h => absurd h Bool.false_ne_true), ?_⟩ | refine ⟨(hE.o (by simp only [Ob.den, hE.e_iN, hE.e_tn, hE.e_aN, hE.e_sN, hE.e_sI, hE.e_mn] <;> omega)), ?_⟩ | refine ⟨fun _ => (hE.o (by simp only [Ob.den, hE.e_iN, hE.e_tn, hE.e_aN, hE.e_sN, hE.e_sI, hE.e_mn] <;> omega)), ?_⟩ | refine ⟨fun h => h, ?_⟩ | refine ⟨fun _ => rfl, ?_⟩ | refine ⟨fun _ h => h, ?_⟩ | refine ⟨fun _ _ => True.intro, ?_⟩ | refine ⟨fun _ h => absurd h Bool.false_ne_true, ?_⟩ | refine ⟨fun _ => True.intro, ?_⟩ | refine ⟨fun _ _ => rfl, ?_⟩ | refine ⟨(fun h => Bool.noConfusion h), ?_⟩ | refine ⟨True.intro, ?_⟩)
      refine calld_ct hX [] [3] (ct33 (.new 9) 1 (fun _ => nm k) (by omega) (nmB (nm k)) ⟨fun e _ _ => e, fun e => e 0 (by omega)⟩) (fits_fz rfl ⟨⟨rfl, rfl, rfl, rfl, rfl, by omega, fun i hi => by obtain rfl : i = 0 := (by omega); rfl⟩, trivial⟩) rfl ⟨trivial, trivial⟩ ?_
      cases h1 : nmB (nm k)
      · cbv; (repeat ((first | rewrite [hE.ntT] | rewrite [hE.ntF] | rewrite [hE.pkT] | rewrite [hE.pkF] | rewrite [hE.anT] | rewrite [hE.anF] | rewrite [hE.anT'] | rewrite [hE.anF']); (repeat (first | rewrite [hE.ntT] | rewrite [hE.ntF] | rewrite [hE.pkT] | rewrite [hE.pkF] | rewrite [hE.anT] | rewrite [hE.anF] | rewrite [hE.anT'] | rewrite [hE.anF'])); cbv)); (repeat first | refine ⟨(fun h => absurd h Bool.false_ne_true), ?_⟩ | refine ⟨(hE.o (by simp only [Ob.den, hE.e_iN, hE.e_tn, hE.e_aN, hE.e_sN, hE.e_sI, hE.e_mn] <;> omega)), ?_⟩ | refine ⟨fun _ => (hE.o (by simp only [Ob.den, hE.e_iN, hE.e_tn, hE.e_aN, hE.e_sN, hE.e_sI, hE.e_mn] <;> omega)), ?_⟩ | refine ⟨fun h => h, ?_⟩ | refine ⟨fun _ => rfl, ?_⟩ | refine ⟨fun _ h => h, ?_⟩ | refine ⟨fun _ _ => True.intro, ?_⟩ | refine ⟨fun _ h => absurd h Bool.false_ne_true, ?_⟩ | refine ⟨fun _ => True.intro, ?_⟩ | refine ⟨fun _ _ => rfl, ?_⟩ | refine ⟨(fun h => Bool.noConfusion h), ?_⟩ | refine ⟨True.intro, ?_⟩)
        rw [bfalse fun e => absurd ((hb.1 e) k h).1 (by rw [h1]; exact Bool.false_ne_true)]
        exact ct_u rfl
      have hin : ∀ (hlt : k = 0 ∨ bL (nm (k - 1)) (nm k) = true), Rt (k + 1) nm id := fun hlt => by
        rw [hM, decide_eq_false_iff_not] at h0
        refine snoc hs ⟨h1, fun e => h0 (.inl e), fun j hj => ⟨?_, fun e => h0 (.inr ⟨j, hj, e.symm⟩)⟩⟩
        rcases hlt with h2 | h2
        · omega
        · rcases Nat.eq_or_lt_of_le (show j ≤ k - 1 by omega) with h3 | h3
          · rw [h3]; exact h2
          · exact bL_trans ((hs (k - 1) (by omega)).2.2 j h3).1 h2
      have hms : ∀ i, nt (an (nt (M k i)) (nt (ic .eql i (id k)))) = M (k + 1) i := fun i => by
        rw [hM, hM, hE.e_an, hE.e_nt, hE.e_nt, hE.e_nt, hE.eql]
        by_cases h3 : i = id k
        · have : (i = 0 ∨ ∃ j, j < k + 1 ∧ i = id j) := .inr ⟨k, by omega, h3⟩
          simp [h3, this]
          exact .inr ⟨k, by omega, rfl⟩
        · have : (∃ j, j < k + 1 ∧ i = id j) ↔ (∃ j, j < k ∧ i = id j) := ⟨fun ⟨j, h4, h5⟩ => by
            rcases Nat.lt_or_ge j k with h6 | h6
            · exact ⟨j, h6, h5⟩
            · exact absurd (by rw [h5, show j = k by omega]) h3, fun ⟨j, h4, h5⟩ => ⟨j, by omega, h5⟩⟩
          simp [h3, this]
      rcases Nat.eq_zero_or_pos k with hk0 | hk0
      · have hgt : ic .gtr (iN k) 0 = false := by rw [hE.gt0]; exact decide_eq_false (by omega)
        cbv; (repeat ((first | rewrite [hgt] | rewrite [hE.ntT] | rewrite [hE.ntF] | rewrite [hE.pkT] | rewrite [hE.pkF] | rewrite [hE.anT] | rewrite [hE.anF] | rewrite [hE.anT'] | rewrite [hE.anF']); (repeat (first | rewrite [hgt] | rewrite [hE.ntT] | rewrite [hE.ntF] | rewrite [hE.pkT] | rewrite [hE.pkF] | rewrite [hE.anT] | rewrite [hE.anF] | rewrite [hE.anT'] | rewrite [hE.anF'])); cbv)); (repeat first | refine ⟨(fun h => absurd h Bool.false_ne_true), ?_⟩ | refine ⟨(hE.o (by simp only [Ob.den, hE.e_iN, hE.e_tn, hE.e_aN, hE.e_sN, hE.e_sI, hE.e_mn] <;> omega)), ?_⟩ | refine ⟨fun _ => (hE.o (by simp only [Ob.den, hE.e_iN, hE.e_tn, hE.e_aN, hE.e_sN, hE.e_sI, hE.e_mn] <;> omega)), ?_⟩ | refine ⟨fun h => h, ?_⟩ | refine ⟨fun _ => rfl, ?_⟩ | refine ⟨fun _ h => h, ?_⟩ | refine ⟨fun _ _ => True.intro, ?_⟩ | refine ⟨fun _ h => absurd h Bool.false_ne_true, ?_⟩ | refine ⟨fun _ => True.intro, ?_⟩ | refine ⟨fun _ _ => rfl, ?_⟩ | refine ⟨(fun h => Bool.noConfusion h), ?_⟩ | refine ⟨True.intro, ?_⟩)
        rw [hE.incN (by omega)]
        refine ⟨k + 1, ⟨by omega, hin (.inl hk0)⟩, by omega, [some 0], [], ⟨rfl, rfl, rfl, rfl, ?_⟩, ?_⟩
        · cbv
          exact ⟨hms, trivial⟩
        · cbv
          (repeat' first | exact True.intro | exact ⟨.inr trivial, fun _ _ => rfl⟩ | exact rfl | exact fun _ _ => rfl | refine And.intro ?_ ?_ | rw [hE.iN0] | rw [hE.e_aN])
      · have hgt : ic .gtr (iN k) 0 = true := by rw [hE.gt0]; exact decide_eq_true hk0
        have hd := hE.decN (a := k) (by omega) (by omega)
        cases h2 : bL (nm (k - 1)) (nm k)
        · cbv; (repeat ((first | rewrite [hgt] | rewrite [hd] | rewrite [hE.tnN] | rewrite [hE.sgeq] | rewrite [h2] | rewrite [Bool.not_false] | rewrite [hE.ntT] | rewrite [hE.ntF] | rewrite [hE.pkT] | rewrite [hE.pkF] | rewrite [hE.anT] | rewrite [hE.anF] | rewrite [hE.anT'] | rewrite [hE.anF']); (repeat (first | rewrite [hgt] | rewrite [hd] | rewrite [hE.tnN] | rewrite [hE.sgeq] | rewrite [h2] | rewrite [Bool.not_false] | rewrite [hE.ntT] | rewrite [hE.ntF] | rewrite [hE.pkT] | rewrite [hE.pkF] | rewrite [hE.anT] | rewrite [hE.anF] | rewrite [hE.anT'] | rewrite [hE.anF'])); cbv)); (repeat first | refine ⟨(fun h => absurd h Bool.false_ne_true), ?_⟩ | refine ⟨(hE.o (by simp only [Ob.den, hE.e_iN, hE.e_tn, hE.e_aN, hE.e_sN, hE.e_sI, hE.e_mn] <;> omega)), ?_⟩ | refine ⟨fun _ => (hE.o (by simp only [Ob.den, hE.e_iN, hE.e_tn, hE.e_aN, hE.e_sN, hE.e_sI, hE.e_mn] <;> omega)), ?_⟩ | refine ⟨fun h => h, ?_⟩ | refine ⟨fun _ => rfl, ?_⟩ | refine ⟨fun _ h => h, ?_⟩ | refine ⟨fun _ _ => True.intro, ?_⟩ | refine ⟨fun _ h => absurd h Bool.false_ne_true, ?_⟩ | refine ⟨fun _ => True.intro, ?_⟩ | refine ⟨fun _ _ => rfl, ?_⟩ | refine ⟨(fun h => Bool.noConfusion h), ?_⟩ | refine ⟨True.intro, ?_⟩)
          rw [bfalse fun e => absurd (((hb.1 e) k h).2.2 (k - 1) (by omega)).1 (by rw [h2]; exact Bool.false_ne_true)]
          exact ct_u rfl
        · cbv; (repeat ((first | rewrite [hgt] | rewrite [hd] | rewrite [hE.tnN] | rewrite [hE.sgeq] | rewrite [h2] | rewrite [Bool.not_true] | rewrite [hE.ntT] | rewrite [hE.ntF] | rewrite [hE.pkT] | rewrite [hE.pkF] | rewrite [hE.anT] | rewrite [hE.anF] | rewrite [hE.anT'] | rewrite [hE.anF']); (repeat (first | rewrite [hgt] | rewrite [hd] | rewrite [hE.tnN] | rewrite [hE.sgeq] | rewrite [h2] | rewrite [Bool.not_true] | rewrite [hE.ntT] | rewrite [hE.ntF] | rewrite [hE.pkT] | rewrite [hE.pkF] | rewrite [hE.anT] | rewrite [hE.anF] | rewrite [hE.anT'] | rewrite [hE.anF'])); cbv)); (repeat first | refine ⟨(fun h => absurd h Bool.false_ne_true), ?_⟩ | refine ⟨(hE.o (by simp only [Ob.den, hE.e_iN, hE.e_tn, hE.e_aN, hE.e_sN, hE.e_sI, hE.e_mn] <;> omega)), ?_⟩ | refine ⟨fun _ => (hE.o (by simp only [Ob.den, hE.e_iN, hE.e_tn, hE.e_aN, hE.e_sN, hE.e_sI, hE.e_mn] <;> omega)), ?_⟩ | refine ⟨fun h => h, ?_⟩ | refine ⟨fun _ => rfl, ?_⟩ | refine ⟨fun _ h => h, ?_⟩ | refine ⟨fun _ _ => True.intro, ?_⟩ | refine ⟨fun _ h => absurd h Bool.false_ne_true, ?_⟩ | refine ⟨fun _ => True.intro, ?_⟩ | refine ⟨fun _ _ => rfl, ?_⟩ | refine ⟨(fun h => Bool.noConfusion h), ?_⟩ | refine ⟨True.intro, ?_⟩)
          rw [hE.incN (by omega)]
          refine ⟨k + 1, ⟨by omega, hin (.inr h2)⟩, by omega, [some 0], [], ⟨rfl, rfl, rfl, rfl, ?_⟩, ?_⟩
          · cbv
            exact ⟨hms, trivial⟩
          · cbv
            (repeat' first | exact True.intro | exact ⟨.inr trivial, fun _ _ => rfl⟩ | exact rfl | exact fun _ _ => rfl | refine And.intro ?_ ?_ | rw [hE.iN0] | rw [hE.e_aN])
    · rename_i h
      cbv
      rw [hE.ltN, decide_eq_false_iff_not] at h
      rw [hb.2 (by rwa [show n = k by omega])]
      exact ct_u rfl
end Ytohkcdfjpgdfbaa
end
section
open Go Am
set_option maxRecDepth 100000
set_option maxHeartbeats 4000000
set_option linter.unusedVariables false
set_option linter.unusedSimpArgs false
namespace Ytohkcdfjpgdfbaa
abbrev fnV (f : Nat) : V := .u (.sc (.func (.func f) #[] #[]))
def cmpS (a b : ByteArray) : Int := if bL a b = true then -1 else if bL b a = true then 1 else 0
theorem cmpS_lt {a b : ByteArray} : cmpS a b < 0 ↔ bL a b = true := by
  unfold cmpS
  split
  · simp [*]
  · split <;> simp [*]
theorem cmpS_eq {a b : ByteArray} : cmpS a b = 0 ↔ a = b := by
  unfold cmpS
  split
  · rename_i h; exact ⟨fun e => by omega, fun e => by rw [e, bL_irrefl] at h; cases h⟩
  · rename_i h
    split
    · rename_i h'; exact ⟨fun e => by omega, fun e => by rw [e, bL_irrefl] at h'; cases h'⟩
    · rename_i h'
      exact ⟨fun _ => (bL_tri a b).elim (fun e => absurd e h) fun e => e.elim (fun e => e) fun e => absurd e h', fun _ => rfl⟩
theorem ct86 (s : ByteArray) : CT Go.Proofs.Try.prog 86 [strV s] [] (scB false) [] := by
  refine enter86 rfl rfl ?_
  intro ob ib ic sb cat iu nt an be pk wr tn iN aN sN lN eN bt sub sl rn ofB mn dc dn sI X hE hX
  cbv
  have : sb .neq s s = false := by rw [hE.sneq]; simp
  rw [this]
  exact ct_u rfl
theorem ct71 (a b : ByteArray) : CT Go.Proofs.Try.prog 71 [strV a, strV b] [] (scI .i64 (cmpS a b)) [] := by
  refine enter71 rfl rfl ?_
  intro ob ib ic sb cat iu nt an be pk wr tn iN aN sN lN eN bt sub sl rn ofB mn dc dn sI X hE hX
  cbv
  refine call_ct hX [] [] (ct86 a) (fits_nil ⟨fitU_refl _, trivial⟩) rfl trivial ?_
  cbv
  refine call_ct hX [] [] (ct86 b) (fits_nil ⟨fitU_refl _, trivial⟩) rfl trivial ?_
  cases h : bL a b
  · cases h2 : bL b a
    · cbv; (repeat ((first | rewrite [hE.slss] | rewrite [hE.sgtr] | rewrite [h] | rewrite [h2] | rewrite [hE.ntT] | rewrite [hE.ntF] | rewrite [hE.pkT] | rewrite [hE.pkF] | rewrite [hE.anT] | rewrite [hE.anF] | rewrite [hE.anT'] | rewrite [hE.anF']); (repeat (first | rewrite [hE.slss] | rewrite [hE.sgtr] | rewrite [h] | rewrite [h2] | rewrite [hE.ntT] | rewrite [hE.ntF] | rewrite [hE.pkT] | rewrite [hE.pkF] | rewrite [hE.anT] | rewrite [hE.anF] | rewrite [hE.anT'] | rewrite [hE.anF'])); cbv)); (repeat first | refine ⟨(fun h => absurd h Bool.false_ne_true), ?_⟩ | refine ⟨(hE.o (by simp only [Ob.den, hE.e_iN, hE.e_tn, hE.e_aN, hE.e_sN, hE.e_sI, hE.e_mn] <;> omega)), ?_⟩ | refine ⟨fun _ => (hE.o (by simp only [Ob.den, hE.e_iN, hE.e_tn, hE.e_aN, hE.e_sN, hE.e_sI, hE.e_mn] <;> omega)), ?_⟩ | refine ⟨fun h => h, ?_⟩ | refine ⟨fun _ => rfl, ?_⟩ | refine ⟨fun _ h => h, ?_⟩ | refine ⟨fun _ _ => True.intro, ?_⟩ | refine ⟨fun _ h => absurd h Bool.false_ne_true, ?_⟩ | refine ⟨fun _ => True.intro, ?_⟩ | refine ⟨fun _ _ => rfl, ?_⟩ | refine ⟨(fun h => Bool.noConfusion h), ?_⟩ | refine ⟨True.intro, ?_⟩)
      exact ct_u (by unfold cmpS; rw [h, h2]; rfl)
    · cbv; (repeat ((first | rewrite [hE.slss] | rewrite [hE.sgtr] | rewrite [h] | rewrite [h2] | rewrite [hE.ntT] | rewrite [hE.ntF] | rewrite [hE.pkT] | rewrite [hE.pkF] | rewrite [hE.anT] | rewrite [hE.anF] | rewrite [hE.anT'] | rewrite [hE.anF']); (repeat (first | rewrite [hE.slss] | rewrite [hE.sgtr] | rewrite [h] | rewrite [h2] | rewrite [hE.ntT] | rewrite [hE.ntF] | rewrite [hE.pkT] | rewrite [hE.pkF] | rewrite [hE.anT] | rewrite [hE.anF] | rewrite [hE.anT'] | rewrite [hE.anF'])); cbv)); (repeat first | refine ⟨(fun h => absurd h Bool.false_ne_true), ?_⟩ | refine ⟨(hE.o (by simp only [Ob.den, hE.e_iN, hE.e_tn, hE.e_aN, hE.e_sN, hE.e_sI, hE.e_mn] <;> omega)), ?_⟩ | refine ⟨fun _ => (hE.o (by simp only [Ob.den, hE.e_iN, hE.e_tn, hE.e_aN, hE.e_sN, hE.e_sI, hE.e_mn] <;> omega)), ?_⟩ | refine ⟨fun h => h, ?_⟩ | refine ⟨fun _ => rfl, ?_⟩ | refine ⟨fun _ h => h, ?_⟩ | refine ⟨fun _ _ => True.intro, ?_⟩ | refine ⟨fun _ h => absurd h Bool.false_ne_true, ?_⟩ | refine ⟨fun _ => True.intro, ?_⟩ | refine ⟨fun _ _ => rfl, ?_⟩ | refine ⟨(fun h => Bool.noConfusion h), ?_⟩ | refine ⟨True.intro, ?_⟩)
      exact ct_u (by unfold cmpS; rw [h, h2]; rfl)
  · cbv; (repeat ((first | rewrite [hE.slss] | rewrite [h] | rewrite [hE.ntT] | rewrite [hE.ntF] | rewrite [hE.pkT] | rewrite [hE.pkF] | rewrite [hE.anT] | rewrite [hE.anF] | rewrite [hE.anT'] | rewrite [hE.anF']); (repeat (first | rewrite [hE.slss] | rewrite [h] | rewrite [hE.ntT] | rewrite [hE.ntF] | rewrite [hE.pkT] | rewrite [hE.pkF] | rewrite [hE.anT] | rewrite [hE.anF] | rewrite [hE.anT'] | rewrite [hE.anF'])); cbv)); (repeat first | refine ⟨(fun h => absurd h Bool.false_ne_true), ?_⟩ | refine ⟨(hE.o (by simp only [Ob.den, hE.e_iN, hE.e_tn, hE.e_aN, hE.e_sN, hE.e_sI, hE.e_mn] <;> omega)), ?_⟩ | refine ⟨fun _ => (hE.o (by simp only [Ob.den, hE.e_iN, hE.e_tn, hE.e_aN, hE.e_sN, hE.e_sI, hE.e_mn] <;> omega)), ?_⟩ | refine ⟨fun h => h, ?_⟩ | refine ⟨fun _ => rfl, ?_⟩ | refine ⟨fun _ h => h, ?_⟩ | refine ⟨fun _ _ => True.intro, ?_⟩ | refine ⟨fun _ h => absurd h Bool.false_ne_true, ?_⟩ | refine ⟨fun _ => True.intro, ?_⟩ | refine ⟨fun _ _ => rfl, ?_⟩ | refine ⟨(fun h => Bool.noConfusion h), ?_⟩ | refine ⟨True.intro, ?_⟩)
    exact ct_u (by unfold cmpS; rw [h]; rfl)
theorem ct70 (a b : ByteArray) (i : Int) : CT Go.Proofs.Try.prog 70 [.ag [strV a, scI .u64 i], strV b] [] (scI .i64 (cmpS a b)) [] := by
  refine enter70 rfl rfl ?_
  intro ob ib ic sb cat iu nt an be pk wr tn iN aN sN lN eN bt sub sl rn ofB mn dc dn sI X hE hX
  cbv
  (repeat first | refine ⟨(fun h => absurd h Bool.false_ne_true), ?_⟩ | refine ⟨(hE.o (by simp only [Ob.den, hE.e_iN, hE.e_tn, hE.e_aN, hE.e_sN, hE.e_sI, hE.e_mn] <;> omega)), ?_⟩ | refine ⟨fun _ => (hE.o (by simp only [Ob.den, hE.e_iN, hE.e_tn, hE.e_aN, hE.e_sN, hE.e_sI, hE.e_mn] <;> omega)), ?_⟩ | refine ⟨fun h => h, ?_⟩ | refine ⟨fun _ => rfl, ?_⟩ | refine ⟨fun _ h => h, ?_⟩ | refine ⟨fun _ _ => True.intro, ?_⟩ | refine ⟨fun _ h => absurd h Bool.false_ne_true, ?_⟩ | refine ⟨fun _ => True.intro, ?_⟩ | refine ⟨fun _ _ => rfl, ?_⟩ | refine ⟨(fun h => Bool.noConfusion h), ?_⟩ | refine ⟨True.intro, ?_⟩)
  refine call_ct hX [] [] (ct71 a b) (fits_nil ⟨fitU_refl _, fitU_refl _, trivial⟩) rfl trivial ?_
  generalize cmpS a b = c
  cbv
  exact ct_u rfl
theorem ct69 (o : Tg) (n : Nat) (nm : Nat → ByteArray) (id : Nat → Int) (hn : n ≤ 100000) (s : ByteArray) (p : Nat) (hp : p ≤ n) (hs : ∀ i, i < n → bL (nm i) s = decide (i < p)) (z : Int) (hz : IsN z p) (t : Bool) (ht : t = true ↔ p < n ∧ nm p = s) :
    CT Go.Proofs.Try.prog 69 [catS o n nm id, strV s, fnV 70] [] (.tp [scI .i64 z, scB t]) [] := by
  refine enter69 rfl rfl ?_
  intro ob ib ic sb cat iu nt an be pk wr tn iN aN sN lN eN bt sub sl rn ofB mn dc dn sI X hE hX
  cbv
  refine loop_at hE hX tabOK (by kernel_rfl) funcsOK rfl (α := Nat × Nat) (fun ⟨i, j⟩ => (sets (pad 49) [(0, catS o n nm id), (1, strV s), (2, fnV 70), (8, scI .i64 (iN n)), (9, scI .i64 (iN i)), (10, scI .i64 (iN j))], [])) (fun k => k.1 ≤ p ∧ p ≤ k.2 ∧ k.2 ≤ n) (fun k => k.2 - k.1) (0, n) ⟨by omega, hp, by omega⟩ ?_ ?_
  · refine ⟨[], [], ⟨rfl, rfl, rfl, rfl, trivial⟩, ?_⟩
    cbv
    (repeat' first | exact True.intro | exact ⟨.inr trivial, fun _ _ => rfl⟩ | exact rfl | exact fun _ _ => rfl | refine And.intro ?_ ?_ | rw [hE.iN0] | rw [hE.e_aN])
  · rintro ⟨i, j⟩ ⟨hi, hj, hjn⟩
    dsimp only at hi hj hjn
    by_cases h : i < j
    · have hc : ic .lss (iN i) (iN j) = true := by rw [hE.ltN]; exact decide_eq_true h
      have hm := hE.mid (i := i) (j := j) (by omega)
      obtain ⟨m, hmm⟩ : ∃ m, m = (i + j) / 2 := ⟨_, rfl⟩
      rw [← hmm] at hm
      cbv
      rw [hc]
      cbv
      rw [hm, hE.tnN]
      (repeat first | refine ⟨(fun h => absurd h Bool.false_ne_true), ?_⟩ | refine ⟨(hE.o (by simp only [Ob.den, hE.e_iN, hE.e_tn, hE.e_aN, hE.e_sN, hE.e_sI, hE.e_mn] <;> omega)), ?_⟩ | refine ⟨fun _ => (hE.o (by simp only [Ob.den, hE.e_iN, hE.e_tn, hE.e_aN, hE.e_sN, hE.e_sI, hE.e_mn] <;> omega)), ?_⟩ | refine ⟨fun h => h, ?_⟩ | refine ⟨fun _ => rfl, ?_⟩ | refine ⟨fun _ h => h, ?_⟩ | refine ⟨fun _ _ => True.intro, ?_⟩ | refine ⟨fun _ h => absurd h Bool.false_ne_true, ?_⟩ | refine ⟨fun _ => True.intro, ?_⟩ | refine ⟨fun _ _ => rfl, ?_⟩ | refine ⟨(fun h => Bool.noConfusion h), ?_⟩ | refine ⟨True.intro, ?_⟩)
      refine ⟨Cx.fok_of hX funcsOK rfl, ?_⟩
      refine call_ct hX [] [] (ct70 (nm m) s (id m)) (fits_nil ⟨⟨fitU_refl _, fitU_refl _, trivial⟩, fitU_refl _, trivial⟩) rfl trivial ?_
      have hcm := @cmpS_lt (nm m) s
      rw [hs m (by omega), decide_eq_true_eq] at hcm
      generalize cmpS (nm m) s = c at hcm
      by_cases hc2 : c < 0
      · have hc3 : ic .lss c 0 = true := by rw [hE.lss]; exact decide_eq_true hc2
        cbv
        rw [hc3]
        cbv
        rw [hE.incN (by omega)]
        exact ⟨(m + 1, j), ⟨hcm.1 hc2, hj, hjn⟩, by simp only; omega, [], [], ⟨rfl, rfl, rfl, rfl, trivial⟩, by cbv; (repeat' first | exact True.intro | exact ⟨.inr trivial, fun _ _ => rfl⟩ | exact rfl | exact fun _ _ => rfl | refine And.intro ?_ ?_ | rw [hE.iN0] | rw [hE.e_aN])⟩
      · have hc3 : ic .lss c 0 = false := by rw [hE.lss]; exact decide_eq_false hc2
        cbv
        rw [hc3]
        cbv
        have : ¬ m < p := fun h => hc2 (hcm.2 h)
        exact ⟨(i, m), ⟨hi, by simp only; omega, by simp only; omega⟩, by simp only; omega, [], [], ⟨rfl, rfl, rfl, rfl, trivial⟩, by cbv; (repeat' first | exact True.intro | exact ⟨.inr trivial, fun _ _ => rfl⟩ | exact rfl | exact fun _ _ => rfl | refine And.intro ?_ ?_ | rw [hE.iN0] | rw [hE.e_aN])⟩
    · have hc : ic .lss (iN i) (iN j) = false := by rw [hE.ltN]; exact decide_eq_false h
      obtain rfl : i = p := by omega
      cbv
      rw [hc]
      by_cases h2 : i < n
      · have hc2 : ic .lss (iN i) (iN n) = true := by rw [hE.ltN]; exact decide_eq_true h2
        cbv; (repeat ((first | rewrite [hc2] | rewrite [hE.tnN] | rewrite [hE.ntT] | rewrite [hE.ntF] | rewrite [hE.pkT] | rewrite [hE.pkF] | rewrite [hE.anT] | rewrite [hE.anF] | rewrite [hE.anT'] | rewrite [hE.anF']); (repeat (first | rewrite [hc2] | rewrite [hE.tnN] | rewrite [hE.ntT] | rewrite [hE.ntF] | rewrite [hE.pkT] | rewrite [hE.pkF] | rewrite [hE.anT] | rewrite [hE.anF] | rewrite [hE.anT'] | rewrite [hE.anF'])); cbv)); (repeat first | refine ⟨(fun h => absurd h Bool.false_ne_true), ?_⟩ | refine ⟨(hE.o (by simp only [Ob.den, hE.e_iN, hE.e_tn, hE.e_aN, hE.e_sN, hE.e_sI, hE.e_mn] <;> omega)), ?_⟩ | refine ⟨fun _ => (hE.o (by simp only [Ob.den, hE.e_iN, hE.e_tn, hE.e_aN, hE.e_sN, hE.e_sI, hE.e_mn] <;> omega)), ?_⟩ | refine ⟨fun h => h, ?_⟩ | refine ⟨fun _ => rfl, ?_⟩ | refine ⟨fun _ h => h, ?_⟩ | refine ⟨fun _ _ => True.intro, ?_⟩ | refine ⟨fun _ h => absurd h Bool.false_ne_true, ?_⟩ | refine ⟨fun _ => True.intro, ?_⟩ | refine ⟨fun _ _ => rfl, ?_⟩ | refine ⟨(fun h => Bool.noConfusion h), ?_⟩ | refine ⟨True.intro, ?_⟩)
        refine ⟨Cx.fok_of hX funcsOK rfl, ?_⟩
        refine call_ct hX [] [] (ct70 (nm i) s (id i)) (fits_nil ⟨⟨fitU_refl _, fitU_refl _, trivial⟩, fitU_refl _, trivial⟩) rfl trivial ?_
        have hcm := @cmpS_eq (nm i) s
        generalize cmpS (nm i) s = c at hcm
        have hc3 : ic .eql c 0 = t := by
          rw [hE.eql]
          cases t
          · exact decide_eq_false fun e => by have := ht.2 ⟨h2, hcm.1 e⟩; cases this
          · exact decide_eq_true (hcm.2 (ht.1 rfl).2)
        cbv; (repeat ((first | rewrite [hc3] | rewrite [hc2] | rewrite [hE.ntT] | rewrite [hE.ntF] | rewrite [hE.pkT] | rewrite [hE.pkF] | rewrite [hE.anT] | rewrite [hE.anF] | rewrite [hE.anT'] | rewrite [hE.anF']); (repeat (first | rewrite [hc3] | rewrite [hc2] | rewrite [hE.ntT] | rewrite [hE.ntF] | rewrite [hE.pkT] | rewrite [hE.pkF] | rewrite [hE.anT] | rewrite [hE.anF] | rewrite [hE.anT'] | rewrite [hE.anF'])); cbv)); (repeat first | refine ⟨(fun h => absurd h Bool.false_ne_true), ?_⟩ | refine ⟨(hE.o (by simp only [Ob.den, hE.e_iN, hE.e_tn, hE.e_aN, hE.e_sN, hE.e_sI, hE.e_mn] <;> omega)), ?_⟩ | refine ⟨fun _ => (hE.o (by simp only [Ob.den, hE.e_iN, hE.e_tn, hE.e_aN, hE.e_sN, hE.e_sI, hE.e_mn] <;> omega)), ?_⟩ | refine ⟨fun h => h, ?_⟩ | refine ⟨fun _ => rfl, ?_⟩ | refine ⟨fun _ h => h, ?_⟩ | refine ⟨fun _ _ => True.intro, ?_⟩ | refine ⟨fun _ h => absurd h Bool.false_ne_true, ?_⟩ | refine ⟨fun _ => True.intro, ?_⟩ | refine ⟨fun _ _ => rfl, ?_⟩ | refine ⟨(fun h => Bool.noConfusion h), ?_⟩ | refine ⟨True.intro, ?_⟩)
        rw [show iN i = z by rw [hE.e_iN, hz.e]]
        exact ct_flat [] rfl ⟨fitU_refl _, fitU_refl _, trivial⟩
      · have hc2 : ic .lss (iN i) (iN n) = false := by rw [hE.ltN]; exact decide_eq_false h2
        have ht2 : t = false := bfalse fun e => h2 (ht.1 e).1
        subst ht2
        cbv; (repeat ((first | rewrite [hc2] | rewrite [hE.ntT] | rewrite [hE.ntF] | rewrite [hE.pkT] | rewrite [hE.pkF] | rewrite [hE.anT] | rewrite [hE.anF] | rewrite [hE.anT'] | rewrite [hE.anF']); (repeat (first | rewrite [hc2] | rewrite [hE.ntT] | rewrite [hE.ntF] | rewrite [hE.pkT] | rewrite [hE.pkF] | rewrite [hE.anT] | rewrite [hE.anF] | rewrite [hE.anT'] | rewrite [hE.anF'])); cbv)); (repeat first | refine ⟨(fun h => absurd h Bool.false_ne_true), ?_⟩ | refine ⟨(hE.o (by simp only [Ob.den, hE.e_iN, hE.e_tn, hE.e_aN, hE.e_sN, hE.e_sI, hE.e_mn] <;> omega)), ?_⟩ | refine ⟨fun _ => (hE.o (by simp only [Ob.den, hE.e_iN, hE.e_tn, hE.e_aN, hE.e_sN, hE.e_sI, hE.e_mn] <;> omega)), ?_⟩ | refine ⟨fun h => h, ?_⟩ | refine ⟨fun _ => rfl, ?_⟩ | refine ⟨fun _ h => h, ?_⟩ | refine ⟨fun _ _ => True.intro, ?_⟩ | refine ⟨fun _ h => absurd h Bool.false_ne_true, ?_⟩ | refine ⟨fun _ => True.intro, ?_⟩ | refine ⟨fun _ _ => rfl, ?_⟩ | refine ⟨(fun h => Bool.noConfusion h), ?_⟩ | refine ⟨True.intro, ?_⟩)
        rw [show iN i = z by rw [hE.e_iN, hz.e]]
        exact ct_flat [] rfl ⟨fitU_refl _, fitU_refl _, trivial⟩
end Ytohkcdfjpgdfbaa
end
section
open Go Am
set_option maxRecDepth 100000
set_option maxHeartbeats 4000000
set_option linter.unusedVariables false
set_option linter.unusedSimpArgs false
namespace Ytohkcdfjpgdfbaa
theorem ct47 (o : Tg) (n : Nat) (nm : Nat → ByteArray) (id : Nat → Int) (hn : n ≤ 100000) (s : ByteArray) (p : Nat) (hp : p ≤ n) (hs : ∀ i, i < n → bL (nm i) s = decide (i < p)) (z : Int) (hz : IsN z p) (t : Bool) (ht : t = true ↔ p < n ∧ nm p = s) :
    CT Go.Proofs.Try.prog 47 [catS o n nm id, strV s] [] (.tp [scI .i64 z, scB t]) [] := by
  refine enter47 rfl rfl ?_
  intro ob ib ic sb cat iu nt an be pk wr tn iN aN sN lN eN bt sub sl rn ofB mn dc dn sI X hE hX
  cbv
  refine call_ct hX [] [] (ct69 o n nm id hn s p hp hs z hz t ht) (fits_nil ⟨fitU_refl _, fitU_refl _, fitU_refl _, trivial⟩) rfl trivial ?_
  cbv
  exact ct_flat [] rfl ⟨fitU_refl _, fitU_refl _, trivial⟩
def mayE : Bool → Bool → Int
  | false, _ => 2
  | true, false => 170
  | true, true => 0
theorem ct46 (o o2 : Tg) (n : Nat) (nm : Nat → ByteArray) (id : Nat → Int) (hn : n ≤ 100000) (m : Nat) (S : Nat → ByteArray) (hm : m ≤ 100000) (b : Bool) (hb : b = true ↔ Rt n nm id) (q : Bool) (hq : q = true ↔ ∀ i, i < m → nmB (S i) = true) :
    CT Go.Proofs.Try.prog 46 [catS o n nm id, strS o2 m S] [] (scI .i64 (mayE b q)) [] := by
  refine enter46 rfl rfl ?_
  intro ob ib ic sb cat iu nt an be pk wr tn iN aN sN lN eN bt sub sl rn ofB mn dc dn sI X hE hX
  cbv
  refine call_ct hX [] [] (ct28 o n nm id hn b hb) (fits_nil ⟨fitU_refl _, trivial⟩) rfl trivial ?_
  cases b
  · cbv; (repeat ((first | rewrite [hE.ntT] | rewrite [hE.ntF] | rewrite [hE.pkT] | rewrite [hE.pkF] | rewrite [hE.anT] | rewrite [hE.anF] | rewrite [hE.anT'] | rewrite [hE.anF']); (repeat (first | rewrite [hE.ntT] | rewrite [hE.ntF] | rewrite [hE.pkT] | rewrite [hE.pkF] | rewrite [hE.anT] | rewrite [hE.anF] | rewrite [hE.anT'] | rewrite [hE.anF'])); cbv)); (repeat first | refine ⟨(fun h => absurd h Bool.false_ne_true), ?_⟩ | refine ⟨(hE.o (by simp only [Ob.den, hE.e_iN, hE.e_tn, hE.e_aN, hE.e_sN, hE.e_sI, hE.e_mn] <;> omega)), ?_⟩ | refine ⟨fun _ => (hE.o (by simp only [Ob.den, hE.e_iN, hE.e_tn, hE.e_aN, hE.e_sN, hE.e_sI, hE.e_mn] <;> omega)), ?_⟩ | refine ⟨fun h => h, ?_⟩ | refine ⟨fun _ => rfl, ?_⟩ | refine ⟨fun _ h => h, ?_⟩ | refine ⟨fun _ _ => True.intro, ?_⟩ | refine ⟨fun _ h => absurd h Bool.false_ne_true, ?_⟩ | refine ⟨fun _ => True.intro, ?_⟩ | refine ⟨fun _ _ => rfl, ?_⟩ | refine ⟨(fun h => Bool.noConfusion h), ?_⟩ | refine ⟨True.intro, ?_⟩)
    exact ct_u rfl
  · cbv; (repeat ((first | rewrite [hE.ntT] | rewrite [hE.ntF] | rewrite [hE.pkT] | rewrite [hE.pkF] | rewrite [hE.anT] | rewrite [hE.anF] | rewrite [hE.anT'] | rewrite [hE.anF']); (repeat (first | rewrite [hE.ntT] | rewrite [hE.ntF] | rewrite [hE.pkT] | rewrite [hE.pkF] | rewrite [hE.anT] | rewrite [hE.anF] | rewrite [hE.anT'] | rewrite [hE.anF'])); cbv)); (repeat first | refine ⟨(fun h => absurd h Bool.false_ne_true), ?_⟩ | refine ⟨(hE.o (by simp only [Ob.den, hE.e_iN, hE.e_tn, hE.e_aN, hE.e_sN, hE.e_sI, hE.e_mn] <;> omega)), ?_⟩ | refine ⟨fun _ => (hE.o (by simp only [Ob.den, hE.e_iN, hE.e_tn, hE.e_aN, hE.e_sN, hE.e_sI, hE.e_mn] <;> omega)), ?_⟩ | refine ⟨fun h => h, ?_⟩ | refine ⟨fun _ => rfl, ?_⟩ | refine ⟨fun _ h => h, ?_⟩ | refine ⟨fun _ _ => True.intro, ?_⟩ | refine ⟨fun _ h => absurd h Bool.false_ne_true, ?_⟩ | refine ⟨fun _ => True.intro, ?_⟩ | refine ⟨fun _ _ => rfl, ?_⟩ | refine ⟨(fun h => Bool.noConfusion h), ?_⟩ | refine ⟨True.intro, ?_⟩)
    refine call_ct hX [] [] (ct33 o2 m S hm q hq) (fits_nil ⟨fitU_refl _, trivial⟩) rfl trivial ?_
    cases q
    · cbv; (repeat ((first | rewrite [hE.ntT] | rewrite [hE.ntF] | rewrite [hE.pkT] | rewrite [hE.pkF] | rewrite [hE.anT] | rewrite [hE.anF] | rewrite [hE.anT'] | rewrite [hE.anF']); (repeat (first | rewrite [hE.ntT] | rewrite [hE.ntF] | rewrite [hE.pkT] | rewrite [hE.pkF] | rewrite [hE.anT] | rewrite [hE.anF] | rewrite [hE.anT'] | rewrite [hE.anF'])); cbv)); (repeat first | refine ⟨(fun h => absurd h Bool.false_ne_true), ?_⟩ | refine ⟨(hE.o (by simp only [Ob.den, hE.e_iN, hE.e_tn, hE.e_aN, hE.e_sN, hE.e_sI, hE.e_mn] <;> omega)), ?_⟩ | refine ⟨fun _ => (hE.o (by simp only [Ob.den, hE.e_iN, hE.e_tn, hE.e_aN, hE.e_sN, hE.e_sI, hE.e_mn] <;> omega)), ?_⟩ | refine ⟨fun h => h, ?_⟩ | refine ⟨fun _ => rfl, ?_⟩ | refine ⟨fun _ h => h, ?_⟩ | refine ⟨fun _ _ => True.intro, ?_⟩ | refine ⟨fun _ h => absurd h Bool.false_ne_true, ?_⟩ | refine ⟨fun _ => True.intro, ?_⟩ | refine ⟨fun _ _ => rfl, ?_⟩ | refine ⟨(fun h => Bool.noConfusion h), ?_⟩ | refine ⟨True.intro, ?_⟩)
      exact ct_u rfl
    · cbv; (repeat ((first | rewrite [hE.ntT] | rewrite [hE.ntF] | rewrite [hE.pkT] | rewrite [hE.pkF] | rewrite [hE.anT] | rewrite [hE.anF] | rewrite [hE.anT'] | rewrite [hE.anF']); (repeat (first | rewrite [hE.ntT] | rewrite [hE.ntF] | rewrite [hE.pkT] | rewrite [hE.pkF] | rewrite [hE.anT] | rewrite [hE.anF] | rewrite [hE.anT'] | rewrite [hE.anF'])); cbv)); (repeat first | refine ⟨(fun h => absurd h Bool.false_ne_true), ?_⟩ | refine ⟨(hE.o (by simp only [Ob.den, hE.e_iN, hE.e_tn, hE.e_aN, hE.e_sN, hE.e_sI, hE.e_mn] <;> omega)), ?_⟩ | refine ⟨fun _ => (hE.o (by simp only [Ob.den, hE.e_iN, hE.e_tn, hE.e_aN, hE.e_sN, hE.e_sI, hE.e_mn] <;> omega)), ?_⟩ | refine ⟨fun h => h, ?_⟩ | refine ⟨fun _ => rfl, ?_⟩ | refine ⟨fun _ h => h, ?_⟩ | refine ⟨fun _ _ => True.intro, ?_⟩ | refine ⟨fun _ h => absurd h Bool.false_ne_true, ?_⟩ | refine ⟨fun _ => True.intro, ?_⟩ | refine ⟨fun _ _ => rfl, ?_⟩ | refine ⟨(fun h => Bool.noConfusion h), ?_⟩ | refine ⟨True.intro, ?_⟩)
      exact ct_u rfl
inductive GetR (n : Nat) (nm : Nat → ByteArray) (id : Nat → Int) (s : ByteArray) : Int → Int → Prop
  | wrong (h : ¬ Rt n nm id) : GetR n nm id s 0 2
  | name (h : Rt n nm id) (hn : nmB s = false) : GetR n nm id s 0 170
  | there (h : Rt n nm id) (hn : nmB s = true) (p : Nat) (hp : p < n) (e : nm p = s) : GetR n nm id s (id p) 0
  | none (h : Rt n nm id) (hn : nmB s = true) (hne : ∀ p, p < n → nm p ≠ s) : GetR n nm id s 0 80
theorem getR_ex (n : Nat) (nm : Nat → ByteArray) (id : Nat → Int) (s : ByteArray) : ∃ v e, GetR n nm id s v e := by
  by_cases h : Rt n nm id
  · cases hn : nmB s
    · exact ⟨_, _, .name h hn⟩
    · by_cases hp : ∃ p, p < n ∧ nm p = s
      · obtain ⟨p, h1, h2⟩ := hp
        exact ⟨_, _, .there h hn p h1 h2⟩
      · exact ⟨_, _, .none h hn fun p h1 h2 => hp ⟨p, h1, h2⟩⟩
  · exact ⟨_, _, .wrong h⟩
theorem Rt.place {n : Nat} {nm : Nat → ByteArray} {id : Nat → Int} (h : Rt n nm id) (s : ByteArray) : ∃ p, p ≤ n ∧ ∀ i, i < n → bL (nm i) s = decide (i < p) := by
  induction n with
  | zero => exact ⟨0, by omega, fun i hi => by omega⟩
  | succ n ih =>
    obtain ⟨p, hp, hs⟩ := ih fun i hi => h i (by omega)
    cases hb : bL (nm n) s
    · refine ⟨p, by omega, fun i hi => ?_⟩
      rcases Nat.lt_or_ge i n with h1 | h1
      · exact hs i h1
      · rw [show i = n by omega, hb, decide_eq_false (by omega)]
    · refine ⟨n + 1, by omega, fun i hi => ?_⟩
      rw [decide_eq_true hi]
      rcases Nat.lt_or_ge i n with h1 | h1
      · exact bL_trans ((h n (by omega)).2.2 i h1).1 hb
      · rw [show i = n by omega, hb]
theorem Rt.at {n : Nat} {nm : Nat → ByteArray} {id : Nat → Int} (h : Rt n nm id) {s : ByteArray} {p q : Nat} (hp : p ≤ n) (hs : ∀ i, i < n → bL (nm i) s = decide (i < p)) (hq : q < n) (e : nm q = s) : q = p := by
  subst e
  have h1 := hs q hq
  rw [bL_irrefl] at h1
  have h2 : ¬ q < p := of_decide_eq_false h1.symm
  rcases Nat.lt_or_ge p q with h3 | h3
  · have h4 := hs p (by omega)
    rw [((h q hq).2.2 p h3).1] at h4
    have := of_decide_eq_true h4.symm
    omega
  · omega
theorem all1 {s : ByteArray} : nmB s = true ↔ ∀ i, i < 1 → nmB ((fun _ => s) i) = true := ⟨fun e _ _ => e, fun e => e 0 (by omega)⟩
theorem ct19 (o : Tg) (n : Nat) (nm : Nat → ByteArray) (id : Nat → Int) (hn : n ≤ 100000) (s : ByteArray) (v e : Int) (hg : GetR n nm id s v e) :
    CT Go.Proofs.Try.prog 19 [catS o n nm id, strV s] [] (.tp [scI .u64 v, scI .i64 e]) [] := by
  refine enter19 rfl rfl ?_
  intro ob ib ic sb cat iu nt an be pk wr tn iN aN sN lN eN bt sub sl rn ofB mn dc dn sI X hE hX
  cbv
  obtain ⟨b, hb⟩ : ∃ b : Bool, b = true ↔ Rt n nm id := by by_cases h : Rt n nm id; exact ⟨true, by simp [h]⟩; exact ⟨false, by simp [h]⟩
  refine call_ct hX [] [0] (ct46 o (.new 9) n nm id hn 1 (fun _ => s) (by omega) b hb (nmB s) all1) (fits_fz rfl ⟨fitU_refl _, ⟨rfl, rfl, rfl, rfl, rfl, by omega, fun i hi => by obtain rfl : i = 0 := (by omega); rfl⟩, trivial⟩) rfl ⟨trivial, trivial⟩ ?_
  cases hg with
  | wrong h =>
    have : b = false := bfalse fun e => h (hb.1 e)
    rw [this]
    rw [show mayE false (nmB s) = 2 by rfl]
    cbv
    rw [show ic .neq 2 0 = true by rw [hE.neq]; rfl]
    cbv
    exact ct_flat [] rfl ⟨fitU_refl _, fitU_refl _, trivial⟩
  | name h h1 =>
    rw [hb.2 h, h1]
    rw [show mayE true false = 170 by rfl]
    cbv
    rw [show ic .neq 170 0 = true by rw [hE.neq]; rfl]
    cbv
    exact ct_flat [] rfl ⟨fitU_refl _, fitU_refl _, trivial⟩
  | there h h1 q hq he =>
    rw [hb.2 h, h1]
    rw [show mayE true true = 0 by rfl]
    cbv
    rw [show ic .neq 0 0 = false by rw [hE.neq]; rfl]
    cbv
    obtain ⟨p, hp, hs⟩ := h.place s
    obtain rfl := h.at hp hs hq he
    obtain ⟨z, hz⟩ : ∃ z : Int, IsN z q := ⟨_, ⟨rfl⟩⟩
    refine call_ct hX [] [] (ct47 o n nm id hn s q hp hs z hz true ⟨fun _ => ⟨hq, he⟩, fun _ => rfl⟩) (fits_nil ⟨fitU_refl _, fitU_refl _, trivial⟩) rfl trivial ?_
    cbv
    rw [show z = iN q by rw [hE.e_iN, hz.e], hE.tnN]
    (repeat first | refine ⟨(fun h => absurd h Bool.false_ne_true), ?_⟩ | refine ⟨(hE.o (by simp only [Ob.den, hE.e_iN, hE.e_tn, hE.e_aN, hE.e_sN, hE.e_sI, hE.e_mn] <;> omega)), ?_⟩ | refine ⟨fun _ => (hE.o (by simp only [Ob.den, hE.e_iN, hE.e_tn, hE.e_aN, hE.e_sN, hE.e_sI, hE.e_mn] <;> omega)), ?_⟩ | refine ⟨fun h => h, ?_⟩ | refine ⟨fun _ => rfl, ?_⟩ | refine ⟨fun _ h => h, ?_⟩ | refine ⟨fun _ _ => True.intro, ?_⟩ | refine ⟨fun _ h => absurd h Bool.false_ne_true, ?_⟩ | refine ⟨fun _ => True.intro, ?_⟩ | refine ⟨fun _ _ => rfl, ?_⟩ | refine ⟨(fun h => Bool.noConfusion h), ?_⟩ | refine ⟨True.intro, ?_⟩)
    exact ct_flat [] rfl ⟨fitU_refl _, fitU_refl _, trivial⟩
  | none h h1 hne =>
    rw [hb.2 h, h1]
    rw [show mayE true true = 0 by rfl]
    cbv
    rw [show ic .neq 0 0 = false by rw [hE.neq]; rfl]
    cbv
    obtain ⟨p, hp, hs⟩ := h.place s
    obtain ⟨z, hz⟩ : ∃ z : Int, IsN z p := ⟨_, ⟨rfl⟩⟩
    refine call_ct hX [] [] (ct47 o n nm id hn s p hp hs z hz false ⟨fun e => (by cases e), fun e => absurd e.2 (hne p e.1)⟩) (fits_nil ⟨fitU_refl _, fitU_refl _, trivial⟩) rfl trivial ?_
    cbv
    exact ct_flat [] rfl ⟨fitU_refl _, fitU_refl _, trivial⟩
end Ytohkcdfjpgdfbaa
end
section
open Go Am
set_option maxRecDepth 100000
set_option maxHeartbeats 4000000
set_option linter.unusedVariables false
set_option linter.unusedSimpArgs false
namespace Ytohkcdfjpgdfbaa
theorem ct49 (a : ByteArray) (i x : Int) : CT Go.Proofs.Try.prog 49 [.ag [strV a, scI .u64 i], .pb 0 0] [.box [scI .u64 x]] (scB (decide (i = x))) [.box [scI .u64 x]] := by
  obtain ⟨t, ht⟩ : ∃ t, t = decide (i = x) := ⟨_, rfl⟩
  rw [← ht]
  refine enter49 rfl rfl ?_
  intro ob ib ic sb cat iu nt an be pk wr tn iN aN sN lN eN bt sub sl rn ofB mn dc dn sI X hE hX
  cbv
  (repeat first | refine ⟨(fun h => absurd h Bool.false_ne_true), ?_⟩ | refine ⟨(hE.o (by simp only [Ob.den, hE.e_iN, hE.e_tn, hE.e_aN, hE.e_sN, hE.e_sI, hE.e_mn] <;> omega)), ?_⟩ | refine ⟨fun _ => (hE.o (by simp only [Ob.den, hE.e_iN, hE.e_tn, hE.e_aN, hE.e_sN, hE.e_sI, hE.e_mn] <;> omega)), ?_⟩ | refine ⟨fun h => h, ?_⟩ | refine ⟨fun _ => rfl, ?_⟩ | refine ⟨fun _ h => h, ?_⟩ | refine ⟨fun _ _ => True.intro, ?_⟩ | refine ⟨fun _ h => absurd h Bool.false_ne_true, ?_⟩ | refine ⟨fun _ => True.intro, ?_⟩ | refine ⟨fun _ _ => rfl, ?_⟩ | refine ⟨(fun h => Bool.noConfusion h), ?_⟩ | refine ⟨True.intro, ?_⟩)
  rw [hE.eql, ← ht]
  exact ct_end ⟨[some 0], [], ⟨rfl, rfl, rfl, rfl, by (cbv <;> (repeat' first | exact True.intro | exact ⟨.inr trivial, fun _ _ => rfl⟩ | exact rfl | exact fun _ _ => rfl | refine And.intro ?_ ?_ | rw [hE.iN0] | rw [hE.e_aN]))⟩, fitU_refl _⟩
theorem ct72 (o : Tg) (n : Nat) (nm : Nat → ByteArray) (id : Nat → Int) (hn : n ≤ 100000) (x : Int) (q : Nat) (hq : q ≤ n) (h1 : ∀ i, i < q → id i ≠ x) (h2 : q < n → id q = x) (z : Int) (hz : z = if q < n then (q : Int) else -1) :
    CT Go.Proofs.Try.prog 72 [catS o n nm id, .fv (.func 49) [] [.pb 0 0]] [.box [scI .u64 x]] (scI .i64 z) [.box [scI .u64 x]] := by
  refine enter72 rfl rfl ?_
  intro ob ib ic sb cat iu nt an be pk wr tn iN aN sN lN eN bt sub sl rn ofB mn dc dn sI X hE hX
  cbv
  refine loop_at hE hX tabOK (by kernel_rfl) funcsOK rfl (α := Nat) (fun k => (sets (pad 19) [(0, catS o n nm id), (1, .fv (.func 49) [] [.pb 0 0]), (6, catS o n nm id), (7, scI .i64 (iN n)), (8, scI .i64 (iN k))], [.box [scI .u64 x]])) (fun k => k ≤ q) (fun k => n - k) 0 (by omega) ?_ ?_
  · exact ⟨[some 0], [], ⟨rfl, rfl, rfl, rfl, by (cbv <;> (repeat' first | exact True.intro | exact ⟨.inr trivial, fun _ _ => rfl⟩ | exact rfl | exact fun _ _ => rfl | refine And.intro ?_ ?_ | rw [hE.iN0] | rw [hE.e_aN]))⟩, by (cbv <;> (repeat' first | exact True.intro | exact ⟨.inr trivial, fun _ _ => rfl⟩ | exact rfl | exact fun _ _ => rfl | refine And.intro ?_ ?_ | rw [hE.iN0] | rw [hE.e_aN]))⟩
  · rintro k hk
    by_cases h : k < n
    · have hc : ic .lss (iN k) (iN n) = true := by rw [hE.ltN]; exact decide_eq_true h
      cbv; (repeat ((first | rewrite [hc] | rewrite [hE.tnN] | rewrite [hE.ntT] | rewrite [hE.ntF] | rewrite [hE.pkT] | rewrite [hE.pkF] | rewrite [hE.anT] | rewrite [hE.anF] | rewrite [hE.anT'] | rewrite [hE.anF']); (repeat (first | rewrite [hc] | rewrite [hE.tnN] | rewrite [hE.ntT] | rewrite [hE.ntF] | rewrite [hE.pkT] | rewrite [hE.pkF] | rewrite [hE.anT] | rewrite [hE.anF] | rewrite [hE.anT'] | rewrite [hE.anF'])); cbv)); (repeat first | refine ⟨(fun h => absurd h Bool.false_ne_true), ?_⟩ | refine ⟨(hE.o (by simp only [Ob.den, hE.e_iN, hE.e_tn, hE.e_aN, hE.e_sN, hE.e_sI, hE.e_mn] <;> omega)), ?_⟩ | refine ⟨fun _ => (hE.o (by simp only [Ob.den, hE.e_iN, hE.e_tn, hE.e_aN, hE.e_sN, hE.e_sI, hE.e_mn] <;> omega)), ?_⟩ | refine ⟨fun h => h, ?_⟩ | refine ⟨fun _ => rfl, ?_⟩ | refine ⟨fun _ h => h, ?_⟩ | refine ⟨fun _ _ => True.intro, ?_⟩ | refine ⟨fun _ h => absurd h Bool.false_ne_true, ?_⟩ | refine ⟨fun _ => True.intro, ?_⟩ | refine ⟨fun _ _ => rfl, ?_⟩ | refine ⟨(fun h => Bool.noConfusion h), ?_⟩ | refine ⟨True.intro, ?_⟩)
      refine ⟨Cx.fok_of hX funcsOK rfl, ?_⟩
      refine call_ct hX [some 0] [] (ct49 (nm k) (id k) x) ⟨⟨rfl, rfl, rfl, rfl, by (cbv <;> (repeat' first | exact True.intro | exact ⟨.inr trivial, fun _ _ => rfl⟩ | exact rfl | exact fun _ _ => rfl | refine And.intro ?_ ?_ | rw [hE.iN0] | rw [hE.e_aN]))⟩, ⟨⟨fitU_refl _, fitU_refl _, trivial⟩, ⟨rfl, rfl⟩, trivial⟩, rfl⟩ rfl trivial ?_
      by_cases h3 : id k = x
      · rw [decide_eq_true h3]
        obtain rfl : k = q := by
          rcases Nat.lt_or_ge k q with h4 | h4
          · exact absurd h3 (h1 k h4)
          · omega
        cbv; (repeat ((first | rewrite [hE.ntT] | rewrite [hE.ntF] | rewrite [hE.pkT] | rewrite [hE.pkF] | rewrite [hE.anT] | rewrite [hE.anF] | rewrite [hE.anT'] | rewrite [hE.anF']); (repeat (first | rewrite [hE.ntT] | rewrite [hE.ntF] | rewrite [hE.pkT] | rewrite [hE.pkF] | rewrite [hE.anT] | rewrite [hE.anF] | rewrite [hE.anT'] | rewrite [hE.anF'])); cbv)); (repeat first | refine ⟨(fun h => absurd h Bool.false_ne_true), ?_⟩ | refine ⟨(hE.o (by simp only [Ob.den, hE.e_iN, hE.e_tn, hE.e_aN, hE.e_sN, hE.e_sI, hE.e_mn] <;> omega)), ?_⟩ | refine ⟨fun _ => (hE.o (by simp only [Ob.den, hE.e_iN, hE.e_tn, hE.e_aN, hE.e_sN, hE.e_sI, hE.e_mn] <;> omega)), ?_⟩ | refine ⟨fun h => h, ?_⟩ | refine ⟨fun _ => rfl, ?_⟩ | refine ⟨fun _ h => h, ?_⟩ | refine ⟨fun _ _ => True.intro, ?_⟩ | refine ⟨fun _ h => absurd h Bool.false_ne_true, ?_⟩ | refine ⟨fun _ => True.intro, ?_⟩ | refine ⟨fun _ _ => rfl, ?_⟩ | refine ⟨(fun h => Bool.noConfusion h), ?_⟩ | refine ⟨True.intro, ?_⟩)
        rw [show iN k = z by rw [hz, if_pos h, hE.e_iN]]
        exact ct_end ⟨[some 0], [], ⟨rfl, rfl, rfl, rfl, by (cbv <;> (repeat' first | exact True.intro | exact ⟨.inr trivial, fun _ _ => rfl⟩ | exact rfl | exact fun _ _ => rfl | refine And.intro ?_ ?_ | rw [hE.iN0] | rw [hE.e_aN]))⟩, fitU_refl _⟩
      · rw [decide_eq_false h3]
        cbv; (repeat ((first | rewrite [hE.ntT] | rewrite [hE.ntF] | rewrite [hE.pkT] | rewrite [hE.pkF] | rewrite [hE.anT] | rewrite [hE.anF] | rewrite [hE.anT'] | rewrite [hE.anF']); (repeat (first | rewrite [hE.ntT] | rewrite [hE.ntF] | rewrite [hE.pkT] | rewrite [hE.pkF] | rewrite [hE.anT] | rewrite [hE.anF] | rewrite [hE.anT'] | rewrite [hE.anF'])); cbv)); (repeat first | refine ⟨(fun h => absurd h Bool.false_ne_true), ?_⟩ | refine ⟨(hE.o (by simp only [Ob.den, hE.e_iN, hE.e_tn, hE.e_aN, hE.e_sN, hE.e_sI, hE.e_mn] <;> omega)), ?_⟩ | refine ⟨fun _ => (hE.o (by simp only [Ob.den, hE.e_iN, hE.e_tn, hE.e_aN, hE.e_sN, hE.e_sI, hE.e_mn] <;> omega)), ?_⟩ | refine ⟨fun h => h, ?_⟩ | refine ⟨fun _ => rfl, ?_⟩ | refine ⟨fun _ h => h, ?_⟩ | refine ⟨fun _ _ => True.intro, ?_⟩ | refine ⟨fun _ h => absurd h Bool.false_ne_true, ?_⟩ | refine ⟨fun _ => True.intro, ?_⟩ | refine ⟨fun _ _ => rfl, ?_⟩ | refine ⟨(fun h => Bool.noConfusion h), ?_⟩ | refine ⟨True.intro, ?_⟩)
        rw [hE.incN (by omega)]
        have : k ≠ q := fun e => h3 (by rw [e]; exact h2 (by omega))
        exact ⟨k + 1, by omega, by omega, [some 0], [], ⟨rfl, rfl, rfl, rfl, by (cbv <;> (repeat' first | exact True.intro | exact ⟨.inr trivial, fun _ _ => rfl⟩ | exact rfl | exact fun _ _ => rfl | refine And.intro ?_ ?_ | rw [hE.iN0] | rw [hE.e_aN]))⟩, by (cbv <;> (repeat' first | exact True.intro | exact ⟨.inr trivial, fun _ _ => rfl⟩ | exact rfl | exact fun _ _ => rfl | refine And.intro ?_ ?_ | rw [hE.iN0] | rw [hE.e_aN]))⟩
    · have hc : ic .lss (iN k) (iN n) = false := by rw [hE.ltN]; exact decide_eq_false h
      cbv; (repeat ((first | rewrite [hc] | rewrite [hE.ntT] | rewrite [hE.ntF] | rewrite [hE.pkT] | rewrite [hE.pkF] | rewrite [hE.anT] | rewrite [hE.anF] | rewrite [hE.anT'] | rewrite [hE.anF']); (repeat (first | rewrite [hc] | rewrite [hE.ntT] | rewrite [hE.ntF] | rewrite [hE.pkT] | rewrite [hE.pkF] | rewrite [hE.anT] | rewrite [hE.anF] | rewrite [hE.anT'] | rewrite [hE.anF'])); cbv)); (repeat first | refine ⟨(fun h => absurd h Bool.false_ne_true), ?_⟩ | refine ⟨(hE.o (by simp only [Ob.den, hE.e_iN, hE.e_tn, hE.e_aN, hE.e_sN, hE.e_sI, hE.e_mn] <;> omega)), ?_⟩ | refine ⟨fun _ => (hE.o (by simp only [Ob.den, hE.e_iN, hE.e_tn, hE.e_aN, hE.e_sN, hE.e_sI, hE.e_mn] <;> omega)), ?_⟩ | refine ⟨fun h => h, ?_⟩ | refine ⟨fun _ => rfl, ?_⟩ | refine ⟨fun _ h => h, ?_⟩ | refine ⟨fun _ _ => True.intro, ?_⟩ | refine ⟨fun _ h => absurd h Bool.false_ne_true, ?_⟩ | refine ⟨fun _ => True.intro, ?_⟩ | refine ⟨fun _ _ => rfl, ?_⟩ | refine ⟨(fun h => Bool.noConfusion h), ?_⟩ | refine ⟨True.intro, ?_⟩)
      rw [show (-1 : Int) = z by rw [hz, if_neg (by omega)]]
      exact ct_end ⟨[some 0], [], ⟨rfl, rfl, rfl, rfl, by (cbv <;> (repeat' first | exact True.intro | exact ⟨.inr trivial, fun _ _ => rfl⟩ | exact rfl | exact fun _ _ => rfl | refine And.intro ?_ ?_ | rw [hE.iN0] | rw [hE.e_aN]))⟩, fitU_refl _⟩
theorem ct51 (o : Tg) (n : Nat) (f : Nat → List U) (hn : n ≤ 100000) : CT Go.Proofs.Try.prog 51 [.u (.sv o 2 n f)] [] (.sr 0 2 0 n) [.arr 75 2 n f] := by
  refine enter51 rfl rfl ?_
  intro ob ib ic sb cat iu nt an be pk wr tn iN aN sN lN eN bt sub sl rn ofB mn dc dn sI X hE hX
  cbv
  intro c hc
  cases c
  · cbv; (repeat ((first | rewrite [hE.ntT] | rewrite [hE.ntF] | rewrite [hE.pkT] | rewrite [hE.pkF] | rewrite [hE.anT] | rewrite [hE.anF] | rewrite [hE.anT'] | rewrite [hE.anF']); (repeat (first | rewrite [hE.ntT] | rewrite [hE.ntF] | rewrite [hE.pkT] | rewrite [hE.pkF] | rewrite [hE.anT] | rewrite [hE.anF] | rewrite [hE.anT'] | rewrite [hE.anF'])); cbv)); (repeat first | refine ⟨(fun h => absurd h Bool.false_ne_true), ?_⟩ | refine ⟨(hE.o (by simp only [Ob.den, hE.e_iN, hE.e_tn, hE.e_aN, hE.e_sN, hE.e_sI, hE.e_mn] <;> omega)), ?_⟩ | refine ⟨fun _ => (hE.o (by simp only [Ob.den, hE.e_iN, hE.e_tn, hE.e_aN, hE.e_sN, hE.e_sI, hE.e_mn] <;> omega)), ?_⟩ | refine ⟨fun h => h, ?_⟩ | refine ⟨fun _ => rfl, ?_⟩ | refine ⟨fun _ h => h, ?_⟩ | refine ⟨fun _ _ => True.intro, ?_⟩ | refine ⟨fun _ h => absurd h Bool.false_ne_true, ?_⟩ | refine ⟨fun _ => True.intro, ?_⟩ | refine ⟨fun _ _ => rfl, ?_⟩ | refine ⟨(fun h => Bool.noConfusion h), ?_⟩ | refine ⟨True.intro, ?_⟩)
    rw [hE.e_aN, Nat.zero_add]
    exact ct_end ⟨[some 1], [], ⟨rfl, rfl, rfl, rfl, ⟨rfl, rfl, rfl, rfl, fun i hi => by show (if lN i 0 = true then [] else f (sN i 0)) = f i; rw [hE.e_lN, hE.e_sN]; rfl⟩, trivial⟩, ⟨rfl, rfl, rfl, rfl⟩⟩
  · cbv; (repeat ((first | rewrite [hE.ntT] | rewrite [hE.ntF] | rewrite [hE.pkT] | rewrite [hE.pkF] | rewrite [hE.anT] | rewrite [hE.anF] | rewrite [hE.anT'] | rewrite [hE.anF']); (repeat (first | rewrite [hE.ntT] | rewrite [hE.ntF] | rewrite [hE.pkT] | rewrite [hE.pkF] | rewrite [hE.anT] | rewrite [hE.anF] | rewrite [hE.anT'] | rewrite [hE.anF'])); cbv)); (repeat first | refine ⟨(fun h => absurd h Bool.false_ne_true), ?_⟩ | refine ⟨(hE.o (by simp only [Ob.den, hE.e_iN, hE.e_tn, hE.e_aN, hE.e_sN, hE.e_sI, hE.e_mn] <;> omega)), ?_⟩ | refine ⟨fun _ => (hE.o (by simp only [Ob.den, hE.e_iN, hE.e_tn, hE.e_aN, hE.e_sN, hE.e_sI, hE.e_mn] <;> omega)), ?_⟩ | refine ⟨fun h => h, ?_⟩ | refine ⟨fun _ => rfl, ?_⟩ | refine ⟨fun _ h => h, ?_⟩ | refine ⟨fun _ _ => True.intro, ?_⟩ | refine ⟨fun _ h => absurd h Bool.false_ne_true, ?_⟩ | refine ⟨fun _ => True.intro, ?_⟩ | refine ⟨fun _ _ => rfl, ?_⟩ | refine ⟨(fun h => Bool.noConfusion h), ?_⟩ | refine ⟨True.intro, ?_⟩)
    have hn0 : n = 0 := hE.od (hc rfl)
    subst hn0
    exact ct_end ⟨[none], [], ⟨rfl, rfl, rfl, rfl, by (cbv <;> (repeat' first | exact True.intro | exact ⟨.inr trivial, fun _ _ => rfl⟩ | exact rfl | exact fun _ _ => rfl | refine And.intro ?_ ?_ | rw [hE.iN0] | rw [hE.e_aN]))⟩, ⟨rfl, rfl, rfl⟩⟩
end Ytohkcdfjpgdfbaa
end
section
open Go Am
set_option maxRecDepth 100000
set_option maxHeartbeats 4000000
set_option linter.unusedVariables false
set_option linter.unusedSimpArgs false
namespace Ytohkcdfjpgdfbaa
theorem ct48 (o : Tg) (n : Nat) (nm : Nat → ByteArray) (id : Nat → Int) (hn : n ≤ 100000) (x : Int) (t : Bool) (ht : t = true ↔ ∃ i, i < n ∧ id i = x) :
    CT Go.Proofs.Try.prog 48 [catS o n nm id, .fv (.func 49) [] [.pb 0 0]] [.box [scI .u64 x]] (scB t) [.box [scI .u64 x]] := by
  refine enter48 rfl rfl ?_
  intro ob ib ic sb cat iu nt an be pk wr tn iN aN sN lN eN bt sub sl rn ofB mn dc dn sI X hE hX
  cbv
  obtain ⟨q, hq, h1, h2⟩ : ∃ q, q ≤ n ∧ (∀ i, i < q → id i ≠ x) ∧ (q < n → id q = x) := by
    clear ht hE hX
    induction n with
    | zero => exact ⟨0, by omega, fun i hi => by omega, fun h => by omega⟩
    | succ n ih =>
      obtain ⟨q, hq, h1, h2⟩ := ih (by omega)
      rcases Nat.eq_or_lt_of_le hq with h3 | h3
      · by_cases h4 : id n = x
        · exact ⟨n, by omega, fun i hi => h1 i (by omega), fun _ => h4⟩
        · exact ⟨n + 1, by omega, fun i hi => by
            rcases Nat.lt_or_ge i n with h5 | h5
            · exact h1 i (by omega)
            · rwa [show i = n by omega], fun h => by omega⟩
      · exact ⟨q, by omega, h1, fun _ => h2 h3⟩
  obtain ⟨z, hz⟩ : ∃ z : Int, z = if q < n then (q : Int) else -1 := ⟨_, rfl⟩
  refine call_ct hX [some 0] [] (ct72 o n nm id hn x q hq h1 h2 z hz) ⟨⟨rfl, rfl, rfl, rfl, by (cbv <;> (repeat' first | exact True.intro | exact ⟨.inr trivial, fun _ _ => rfl⟩ | exact rfl | exact fun _ _ => rfl | refine And.intro ?_ ?_ | rw [hE.iN0] | rw [hE.e_aN]))⟩, ⟨fitU_refl _, ⟨rfl, trivial, ⟨⟨rfl, rfl⟩, trivial⟩⟩, trivial⟩, rfl⟩ rfl trivial ?_
  have hc : ic .geq z 0 = t := by
    rw [hE.geq, hz]
    by_cases h3 : q < n
    · rw [if_pos h3, ht.2 ⟨q, h3, h2 h3⟩]; exact decide_eq_true (by omega)
    · rw [if_neg h3]
      cases t
      · rfl
      · obtain ⟨i, hi, he⟩ := ht.1 rfl
        exact absurd he (h1 i (by omega))
  cbv; (repeat ((first | rewrite [hc] | rewrite [hE.ntT] | rewrite [hE.ntF] | rewrite [hE.pkT] | rewrite [hE.pkF] | rewrite [hE.anT] | rewrite [hE.anF] | rewrite [hE.anT'] | rewrite [hE.anF']); (repeat (first | rewrite [hc] | rewrite [hE.ntT] | rewrite [hE.ntF] | rewrite [hE.pkT] | rewrite [hE.pkF] | rewrite [hE.anT] | rewrite [hE.anF] | rewrite [hE.anT'] | rewrite [hE.anF'])); cbv)); (repeat first | refine ⟨(fun h => absurd h Bool.false_ne_true), ?_⟩ | refine ⟨(hE.o (by simp only [Ob.den, hE.e_iN, hE.e_tn, hE.e_aN, hE.e_sN, hE.e_sI, hE.e_mn] <;> omega)), ?_⟩ | refine ⟨fun _ => (hE.o (by simp only [Ob.den, hE.e_iN, hE.e_tn, hE.e_aN, hE.e_sN, hE.e_sI, hE.e_mn] <;> omega)), ?_⟩ | refine ⟨fun h => h, ?_⟩ | refine ⟨fun _ => rfl, ?_⟩ | refine ⟨fun _ h => h, ?_⟩ | refine ⟨fun _ _ => True.intro, ?_⟩ | refine ⟨fun _ h => absurd h Bool.false_ne_true, ?_⟩ | refine ⟨fun _ => True.intro, ?_⟩ | refine ⟨fun _ _ => rfl, ?_⟩ | refine ⟨(fun h => Bool.noConfusion h), ?_⟩ | refine ⟨True.intro, ?_⟩)
  exact ct_end ⟨[some 0], [], ⟨rfl, rfl, rfl, rfl, by (cbv <;> (repeat' first | exact True.intro | exact ⟨.inr trivial, fun _ _ => rfl⟩ | exact rfl | exact fun _ _ => rfl | refine And.intro ?_ ?_ | rw [hE.iN0] | rw [hE.e_aN]))⟩, fitU_refl _⟩
theorem ct50 (n : Nat) (f g h : Nat → List U) (hn : n ≤ 100000) (p : Nat) (hp : p ≤ n) (z : Int) (hz : IsN z p) (hh : ∀ i, i < n + 1 → h i = if i < p then f i else if i = p then g 0 else f (i - 1)) :
    CT Go.Proofs.Try.prog 50 [.sr 0 2 0 n, scI .i64 z, .sr 1 2 0 1] [.arr 75 2 n f, .arr 75 2 1 g] (.u (.sv (.new 75) 2 (n + 1) h)) [.gone, .gone] := by
  refine enter50 rfl rfl ?_
  intro ob ib ic sb cat iu nt an be pk wr tn iN aN sN lN eN bt sub sl rn ofB mn dc dn sI X hE hX
  cbv
  have hz2 : z = iN p := by rw [hE.e_iN, hz.e]
  have hc1 : ic .eql (iN 1) 0 = false := by rw [hE.eql, hE.e_iN]; rfl
  subst hz2
  have ha1 : ib .add .i64 (iN n) (iN 1) = iN (n + 1) := hE.addN (by omega)
  have ha2 : ib .sub .i64 (iN (n + 1)) (iN p) = iN (n + 1 - p) := hE.subN (by omega) (by omega)
  have ha3 : ib .add .i64 (iN p) (iN 1) = iN (p + 1) := hE.addN (by omega)
  by_cases h1 : p = n
  · subst h1
    have hc2 : ic .eql (iN p) (iN p) = true := by rw [hE.eqN]; simp
    cbv; (repeat ((first | rewrite [hc1] | rewrite [hc2] | rewrite [hE.ntT] | rewrite [hE.ntF] | rewrite [hE.pkT] | rewrite [hE.pkF] | rewrite [hE.anT] | rewrite [hE.anF] | rewrite [hE.anT'] | rewrite [hE.anF']); (repeat (first | rewrite [hc1] | rewrite [hc2] | rewrite [hE.ntT] | rewrite [hE.ntF] | rewrite [hE.pkT] | rewrite [hE.pkF] | rewrite [hE.anT] | rewrite [hE.anF] | rewrite [hE.anT'] | rewrite [hE.anF'])); cbv)); (repeat first | refine ⟨(fun h => absurd h Bool.false_ne_true), ?_⟩ | refine ⟨(hE.o (by simp only [Ob.den, hE.e_iN, hE.e_tn, hE.e_aN, hE.e_sN, hE.e_sI, hE.e_mn] <;> omega)), ?_⟩ | refine ⟨fun _ => (hE.o (by simp only [Ob.den, hE.e_iN, hE.e_tn, hE.e_aN, hE.e_sN, hE.e_sI, hE.e_mn] <;> omega)), ?_⟩ | refine ⟨fun h => h, ?_⟩ | refine ⟨fun _ => rfl, ?_⟩ | refine ⟨fun _ h => h, ?_⟩ | refine ⟨fun _ _ => True.intro, ?_⟩ | refine ⟨fun _ h => absurd h Bool.false_ne_true, ?_⟩ | refine ⟨fun _ => True.intro, ?_⟩ | refine ⟨fun _ _ => rfl, ?_⟩ | refine ⟨(fun h => Bool.noConfusion h), ?_⟩ | refine ⟨True.intro, ?_⟩)
    refine ct_end ⟨[some 0, some 1], [2], ⟨rfl, rfl, rfl, rfl, trivial, trivial, trivial⟩, ⟨rfl, rfl, rfl, rfl, hE.e_aN, by rw [hE.e_aN]; omega, fun i hi => ?_⟩⟩
    rw [Nat.zero_add, hh i hi]
    show (if lN i p = true then f i else g (sN i p)) = _
    rw [hE.e_lN, hE.e_sN]
    rcases Nat.lt_or_ge i p with h3 | h3
    · rw [if_pos (decide_eq_true h3), if_pos h3]
    · obtain rfl : i = p := by omega
      simp
  · have hc2 : ic .eql (iN p) (iN n) = false := by rw [hE.eqN]; exact decide_eq_false h1
    cbv; (repeat ((first | rewrite [hc1] | rewrite [hc2] | rewrite [ha1] | rewrite [ha2] | rewrite [ha3] | rewrite [hE.ntT] | rewrite [hE.ntF] | rewrite [hE.pkT] | rewrite [hE.pkF] | rewrite [hE.anT] | rewrite [hE.anF] | rewrite [hE.anT'] | rewrite [hE.anF']); (repeat (first | rewrite [hc1] | rewrite [hc2] | rewrite [ha1] | rewrite [ha2] | rewrite [ha3] | rewrite [hE.ntT] | rewrite [hE.ntF] | rewrite [hE.pkT] | rewrite [hE.pkF] | rewrite [hE.anT] | rewrite [hE.anF] | rewrite [hE.anT'] | rewrite [hE.anF'])); cbv)); (repeat first | refine ⟨(fun h => absurd h Bool.false_ne_true), ?_⟩ | refine ⟨(hE.o (by simp only [Ob.den, hE.e_iN, hE.e_tn, hE.e_aN, hE.e_sN, hE.e_sI, hE.e_mn] <;> omega)), ?_⟩ | refine ⟨fun _ => (hE.o (by simp only [Ob.den, hE.e_iN, hE.e_tn, hE.e_aN, hE.e_sN, hE.e_sI, hE.e_mn] <;> omega)), ?_⟩ | refine ⟨fun h => h, ?_⟩ | refine ⟨fun _ => rfl, ?_⟩ | refine ⟨fun _ h => h, ?_⟩ | refine ⟨fun _ _ => True.intro, ?_⟩ | refine ⟨fun _ h => absurd h Bool.false_ne_true, ?_⟩ | refine ⟨fun _ => True.intro, ?_⟩ | refine ⟨fun _ _ => rfl, ?_⟩ | refine ⟨(fun h => Bool.noConfusion h), ?_⟩ | refine ⟨True.intro, ?_⟩)
    intro c hl _ hm
    have hl := hE.od hl
    simp only [Ob.den] at hl
    by_cases h2 : c < n + 1
    · have hc3 : ic .gtr (iN (n + 1)) (iN c) = true := by rw [hE.gtN]; exact decide_eq_true h2
      cbv; (repeat ((first | rewrite [hc3] | rewrite [ha1] | rewrite [ha2] | rewrite [ha3] | rewrite [hE.tnN] | rewrite [hE.ntT] | rewrite [hE.ntF] | rewrite [hE.pkT] | rewrite [hE.pkF] | rewrite [hE.anT] | rewrite [hE.anF] | rewrite [hE.anT'] | rewrite [hE.anF']); (repeat (first | rewrite [hc3] | rewrite [ha1] | rewrite [ha2] | rewrite [ha3] | rewrite [hE.tnN] | rewrite [hE.ntT] | rewrite [hE.ntF] | rewrite [hE.pkT] | rewrite [hE.pkF] | rewrite [hE.anT] | rewrite [hE.anF] | rewrite [hE.anT'] | rewrite [hE.anF'])); cbv)); (repeat first | refine ⟨(fun h => absurd h Bool.false_ne_true), ?_⟩ | refine ⟨(hE.o (by simp only [Ob.den, hE.e_iN, hE.e_tn, hE.e_aN, hE.e_sN, hE.e_sI, hE.e_mn] <;> omega)), ?_⟩ | refine ⟨fun _ => (hE.o (by simp only [Ob.den, hE.e_iN, hE.e_tn, hE.e_aN, hE.e_sN, hE.e_sI, hE.e_mn] <;> omega)), ?_⟩ | refine ⟨fun h => h, ?_⟩ | refine ⟨fun _ => rfl, ?_⟩ | refine ⟨fun _ h => h, ?_⟩ | refine ⟨fun _ _ => True.intro, ?_⟩ | refine ⟨fun _ h => absurd h Bool.false_ne_true, ?_⟩ | refine ⟨fun _ => True.intro, ?_⟩ | refine ⟨fun _ _ => rfl, ?_⟩ | refine ⟨(fun h => Bool.noConfusion h), ?_⟩ | refine ⟨True.intro, ?_⟩)
      have hm1 : tn (mn (iN 1) (iN (tn (sI (iN (aN p (n + 1 - p))) (iN p))))) = 1 := by
        simp only [hE.e_aN, hE.e_sI, hE.e_mn, hE.e_tn, hE.e_iN]; split <;> omega
      have hm2 : tn (mn (iN (tn (sI (iN n) (iN p)))) (iN (tn (sI (iN (aN p (n + 1 - p))) (iN (p + 1)))))) = n - p := by
        simp only [hE.e_aN, hE.e_sI, hE.e_mn, hE.e_tn, hE.e_iN]; split <;> omega
      rw [hm1, hm2]
      refine ct_end ⟨[some 0, some 1], [2], ⟨rfl, rfl, rfl, rfl, trivial, trivial, trivial⟩, ⟨rfl, rfl, rfl, rfl, by rw [hE.e_aN]; omega, by rw [hE.e_aN]; omega, fun i hi => ?_⟩⟩
      rw [Nat.zero_add, hh i hi]
      simp only [rowsPut, hE.e_lN, hE.e_sN, hE.e_aN, decide_eq_true_eq]
      rcases Nat.lt_trichotomy i p with h3 | h3 | h3
      · simp only [h3, show i < p + 1 by omega, if_true]
      · simp only [h3, show p < p + 1 by omega, Nat.lt_irrefl, if_true, if_false, Nat.sub_self, show 0 < 1 by omega]
      · simp only [show ¬ i < p + 1 by omega, show ¬ i < p by omega, show i - (p + 1) < n - p by omega, show ¬ i = p by omega, if_true, if_false]
        congr 1; omega
    · have hc3 : ic .gtr (iN (n + 1)) (iN c) = false := by rw [hE.gtN]; exact decide_eq_false h2
      cbv; (repeat ((first | rewrite [hc3] | rewrite [ha1] | rewrite [ha2] | rewrite [ha3] | rewrite [hE.tnN] | rewrite [hE.ntT] | rewrite [hE.ntF] | rewrite [hE.pkT] | rewrite [hE.pkF] | rewrite [hE.anT] | rewrite [hE.anF] | rewrite [hE.anT'] | rewrite [hE.anF']); (repeat (first | rewrite [hc3] | rewrite [ha1] | rewrite [ha2] | rewrite [ha3] | rewrite [hE.tnN] | rewrite [hE.ntT] | rewrite [hE.ntF] | rewrite [hE.pkT] | rewrite [hE.pkF] | rewrite [hE.anT] | rewrite [hE.anF] | rewrite [hE.anT'] | rewrite [hE.anF'])); cbv)); (repeat first | refine ⟨(fun h => absurd h Bool.false_ne_true), ?_⟩ | refine ⟨(hE.o (by simp only [Ob.den, hE.e_iN, hE.e_tn, hE.e_aN, hE.e_sN, hE.e_sI, hE.e_mn] <;> omega)), ?_⟩ | refine ⟨fun _ => (hE.o (by simp only [Ob.den, hE.e_iN, hE.e_tn, hE.e_aN, hE.e_sN, hE.e_sI, hE.e_mn] <;> omega)), ?_⟩ | refine ⟨fun h => h, ?_⟩ | refine ⟨fun _ => rfl, ?_⟩ | refine ⟨fun _ h => h, ?_⟩ | refine ⟨fun _ _ => True.intro, ?_⟩ | refine ⟨fun _ h => absurd h Bool.false_ne_true, ?_⟩ | refine ⟨fun _ => True.intro, ?_⟩ | refine ⟨fun _ _ => rfl, ?_⟩ | refine ⟨(fun h => Bool.noConfusion h), ?_⟩ | refine ⟨True.intro, ?_⟩)
      refine callx_overlaps hX (tS := 48) (tR := 4) (e := 75) (size := 2) Go.Proofs.Try.func73 (by kernel_rfl) (by kernel_rfl) (by kernel_rfl) (by kernel_rfl) (by kernel_rfl) (fun w => by rfl) (by omega) (by omega) (by rw [hE.e_sI, hE.e_tn, hE.e_iN, hE.e_iN]; omega) ?_
      cbv; (repeat ((first | rewrite [ha1] | rewrite [ha2] | rewrite [ha3] | rewrite [hE.tnN] | rewrite [hE.ntT] | rewrite [hE.ntF] | rewrite [hE.pkT] | rewrite [hE.pkF] | rewrite [hE.anT] | rewrite [hE.anF] | rewrite [hE.anT'] | rewrite [hE.anF']); (repeat (first | rewrite [ha1] | rewrite [ha2] | rewrite [ha3] | rewrite [hE.tnN] | rewrite [hE.ntT] | rewrite [hE.ntF] | rewrite [hE.pkT] | rewrite [hE.pkF] | rewrite [hE.anT] | rewrite [hE.anF] | rewrite [hE.anT'] | rewrite [hE.anF'])); cbv)); (repeat first | refine ⟨(fun h => absurd h Bool.false_ne_true), ?_⟩ | refine ⟨(hE.o (by simp only [Ob.den, hE.e_iN, hE.e_tn, hE.e_aN, hE.e_sN, hE.e_sI, hE.e_mn] <;> omega)), ?_⟩ | refine ⟨fun _ => (hE.o (by simp only [Ob.den, hE.e_iN, hE.e_tn, hE.e_aN, hE.e_sN, hE.e_sI, hE.e_mn] <;> omega)), ?_⟩ | refine ⟨fun h => h, ?_⟩ | refine ⟨fun _ => rfl, ?_⟩ | refine ⟨fun _ h => h, ?_⟩ | refine ⟨fun _ _ => True.intro, ?_⟩ | refine ⟨fun _ h => absurd h Bool.false_ne_true, ?_⟩ | refine ⟨fun _ => True.intro, ?_⟩ | refine ⟨fun _ _ => rfl, ?_⟩ | refine ⟨(fun h => Bool.noConfusion h), ?_⟩ | refine ⟨True.intro, ?_⟩)
      have hm1 : tn (mn (iN 1) (iN (tn (sI (iN n.succ) (iN p))))) = 1 := by
        simp only [hE.e_aN, hE.e_sI, hE.e_mn, hE.e_tn, hE.e_iN]; split <;> omega
      have hm2 : tn (mn (iN (tn (sI (iN n.succ) (iN p)))) (iN (tn (sI (iN n.succ) (iN (p + 1)))))) = n - p := by
        simp only [hE.e_aN, hE.e_sI, hE.e_mn, hE.e_tn, hE.e_iN]; split <;> omega
      rw [hm1, hm2]
      refine ct_end ⟨[some 0, some 1], [0], ⟨rfl, rfl, rfl, rfl, trivial, trivial, trivial⟩, ⟨rfl, rfl, rfl, rfl, rfl, by simp only [hE.e_aN, hE.e_sN]; omega, fun i hi => ?_⟩⟩
      rw [Nat.zero_add, hh i hi]
      simp only [rowsPut, hE.e_lN, hE.e_sN, hE.e_aN, decide_eq_true_eq]
      rcases Nat.lt_trichotomy i p with h3 | h3 | h3
      · simp only [h3, show i < p + 1 by omega, if_true]
      · simp only [h3, show p < p + 1 by omega, Nat.lt_irrefl, if_true, if_false, Nat.sub_self, show 0 < 1 by omega]
      · simp only [show ¬ i < p + 1 by omega, show ¬ i < p by omega, show i - (p + 1) < n - p by omega, show ¬ i = p by omega, show ¬ i - p < 1 by omega, if_true, if_false]
        congr 1; omega
end Ytohkcdfjpgdfbaa
end
section
open Go Am
set_option maxRecDepth 100000
set_option maxHeartbeats 4000000
set_option linter.unusedVariables false
set_option linter.unusedSimpArgs false
namespace Ytohkcdfjpgdfbaa
def insF {α : Type} (p : Nat) (f : Nat → α) (a : α) (i : Nat) : α := if i < p then f i else if i = p then a else f (i - 1)
inductive BindR (n : Nat) (nm : Nat → ByteArray) (id : Nat → Int) (s : ByteArray) (x : Int) : Int → Nat → (Nat → ByteArray) → (Nat → Int) → Prop
  | wrong (a b) (h : ¬ Rt n nm id) : BindR n nm id s x 2 0 a b
  | name (a b) (h : Rt n nm id) (hn : nmB s = false) : BindR n nm id s x 170 0 a b
  | exist (a b) (h : Rt n nm id) (hn : nmB s = true) (p : Nat) (hp : p < n) (e : nm p = s) : BindR n nm id s x 81 0 a b
  | arg (a b) (h : Rt n nm id) (hn : nmB s = true) (hne : ∀ p, p < n → nm p ≠ s) (hx : x = 0 ∨ ∃ i, i < n ∧ id i = x) : BindR n nm id s x 2 0 a b
  | ok (a b) (h : Rt n nm id) (hn : nmB s = true) (hne : ∀ p, p < n → nm p ≠ s) (hx : x ≠ 0) (hxn : ∀ i, i < n → id i ≠ x) (p : Nat) (hp : p ≤ n) (hs : ∀ i, i < n → bL (nm i) s = decide (i < p)) (ha : ∀ i, a i = insF p nm s i) (hb : ∀ i, b i = insF p id x i) : BindR n nm id s x 0 (n + 1) a b
theorem bindR_ex (n : Nat) (nm : Nat → ByteArray) (id : Nat → Int) (s : ByteArray) (x : Int) : ∃ e m a b, BindR n nm id s x e m a b := by
  by_cases h : Rt n nm id
  · cases hn : nmB s
    · exact ⟨_, _, nm, id, .name _ _ h hn⟩
    · by_cases hp : ∃ p, p < n ∧ nm p = s
      · obtain ⟨p, h1, h2⟩ := hp
        exact ⟨_, _, nm, id, .exist _ _ h hn p h1 h2⟩
      · have hne : ∀ p, p < n → nm p ≠ s := fun p h1 h2 => hp ⟨p, h1, h2⟩
        by_cases hx : x = 0 ∨ ∃ i, i < n ∧ id i = x
        · exact ⟨_, _, nm, id, .arg _ _ h hn hne hx⟩
        · obtain ⟨p, h1, h2⟩ := h.place s
          exact ⟨_, _, _, _, .ok _ _ h hn hne (fun e => hx (.inl e)) (fun i hi e => hx (.inr ⟨i, hi, e⟩)) p h1 h2 (fun _ => rfl) fun _ => rfl⟩
  · exact ⟨_, _, nm, id, .wrong _ _ h⟩
theorem ct21 (o : Tg) (n : Nat) (nm : Nat → ByteArray) (id : Nat → Int) (hn : n ≤ 100000) (s : ByteArray) (x : Int) (e : Int) (m : Nat) (nm' : Nat → ByteArray) (id' : Nat → Int) (hr : BindR n nm id s x e m nm' id') :
    CT Go.Proofs.Try.prog 21 [catS o n nm id, strV s, scI .u64 x] [] (.tp [catS (.new 75) m nm' id', scI .i64 e]) [] := by
  refine enter21 rfl rfl ?_
  intro ob ib ic sb cat iu nt an be pk wr tn iN aN sN lN eN bt sub sl rn ofB mn dc dn sI X hE hX
  cbv
  obtain ⟨b, hb⟩ : ∃ b : Bool, b = true ↔ Rt n nm id := by by_cases h : Rt n nm id; exact ⟨true, by simp [h]⟩; exact ⟨false, by simp [h]⟩
  refine call_ct hX [] [1] (ct46 o (.new 9) n nm id hn 1 (fun _ => s) (by omega) b hb (nmB s) all1) (fits_fz rfl ⟨fitU_refl _, ⟨rfl, rfl, rfl, rfl, rfl, by omega, fun i hi => by obtain rfl : i = 0 := (by omega); rfl⟩, trivial⟩) rfl ⟨trivial, trivial⟩ ?_
  have e1 : ic .neq 2 0 = true := by rw [hE.neq]; rfl
  have e2 : ic .neq 170 0 = true := by rw [hE.neq]; rfl
  have e3 : ic .neq 0 0 = false := by rw [hE.neq]; rfl
  cases hr with
  | wrong _ _ h =>
    rw [bfalse fun e => h (hb.1 e), show mayE false (nmB s) = 2 by rfl]
    cbv; (repeat ((first | rewrite [e1] | rewrite [hE.ntT] | rewrite [hE.ntF] | rewrite [hE.pkT] | rewrite [hE.pkF] | rewrite [hE.anT] | rewrite [hE.anF] | rewrite [hE.anT'] | rewrite [hE.anF']); (repeat (first | rewrite [e1] | rewrite [hE.ntT] | rewrite [hE.ntF] | rewrite [hE.pkT] | rewrite [hE.pkF] | rewrite [hE.anT] | rewrite [hE.anF] | rewrite [hE.anT'] | rewrite [hE.anF'])); cbv)); (repeat first | refine ⟨(fun h => absurd h Bool.false_ne_true), ?_⟩ | refine ⟨(hE.o (by simp only [Ob.den, hE.e_iN, hE.e_tn, hE.e_aN, hE.e_sN, hE.e_sI, hE.e_mn] <;> omega)), ?_⟩ | refine ⟨fun _ => (hE.o (by simp only [Ob.den, hE.e_iN, hE.e_tn, hE.e_aN, hE.e_sN, hE.e_sI, hE.e_mn] <;> omega)), ?_⟩ | refine ⟨fun h => h, ?_⟩ | refine ⟨fun _ => rfl, ?_⟩ | refine ⟨fun _ h => h, ?_⟩ | refine ⟨fun _ _ => True.intro, ?_⟩ | refine ⟨fun _ h => absurd h Bool.false_ne_true, ?_⟩ | refine ⟨fun _ => True.intro, ?_⟩ | refine ⟨fun _ _ => rfl, ?_⟩ | refine ⟨(fun h => Bool.noConfusion h), ?_⟩ | refine ⟨True.intro, ?_⟩)
    exact ct_flat [] rfl ⟨rfl, fitU_refl _, trivial⟩
  | name _ _ h h1 =>
    rw [hb.2 h, h1, show mayE true false = 170 by rfl]
    cbv; (repeat ((first | rewrite [e2] | rewrite [hE.ntT] | rewrite [hE.ntF] | rewrite [hE.pkT] | rewrite [hE.pkF] | rewrite [hE.anT] | rewrite [hE.anF] | rewrite [hE.anT'] | rewrite [hE.anF']); (repeat (first | rewrite [e2] | rewrite [hE.ntT] | rewrite [hE.ntF] | rewrite [hE.pkT] | rewrite [hE.pkF] | rewrite [hE.anT] | rewrite [hE.anF] | rewrite [hE.anT'] | rewrite [hE.anF'])); cbv)); (repeat first | refine ⟨(fun h => absurd h Bool.false_ne_true), ?_⟩ | refine ⟨(hE.o (by simp only [Ob.den, hE.e_iN, hE.e_tn, hE.e_aN, hE.e_sN, hE.e_sI, hE.e_mn] <;> omega)), ?_⟩ | refine ⟨fun _ => (hE.o (by simp only [Ob.den, hE.e_iN, hE.e_tn, hE.e_aN, hE.e_sN, hE.e_sI, hE.e_mn] <;> omega)), ?_⟩ | refine ⟨fun h => h, ?_⟩ | refine ⟨fun _ => rfl, ?_⟩ | refine ⟨fun _ h => h, ?_⟩ | refine ⟨fun _ _ => True.intro, ?_⟩ | refine ⟨fun _ h => absurd h Bool.false_ne_true, ?_⟩ | refine ⟨fun _ => True.intro, ?_⟩ | refine ⟨fun _ _ => rfl, ?_⟩ | refine ⟨(fun h => Bool.noConfusion h), ?_⟩ | refine ⟨True.intro, ?_⟩)
    exact ct_flat [] rfl ⟨rfl, fitU_refl _, trivial⟩
  | exist _ _ h h1 q hq he =>
    rw [hb.2 h, h1, show mayE true true = 0 by rfl]
    cbv; (repeat ((first | rewrite [e3] | rewrite [hE.ntT] | rewrite [hE.ntF] | rewrite [hE.pkT] | rewrite [hE.pkF] | rewrite [hE.anT] | rewrite [hE.anF] | rewrite [hE.anT'] | rewrite [hE.anF']); (repeat (first | rewrite [e3] | rewrite [hE.ntT] | rewrite [hE.ntF] | rewrite [hE.pkT] | rewrite [hE.pkF] | rewrite [hE.anT] | rewrite [hE.anF] | rewrite [hE.anT'] | rewrite [hE.anF'])); cbv)); (repeat first | refine ⟨(fun h => absurd h Bool.false_ne_true), ?_⟩ | refine ⟨(hE.o (by simp only [Ob.den, hE.e_iN, hE.e_tn, hE.e_aN, hE.e_sN, hE.e_sI, hE.e_mn] <;> omega)), ?_⟩ | refine ⟨fun _ => (hE.o (by simp only [Ob.den, hE.e_iN, hE.e_tn, hE.e_aN, hE.e_sN, hE.e_sI, hE.e_mn] <;> omega)), ?_⟩ | refine ⟨fun h => h, ?_⟩ | refine ⟨fun _ => rfl, ?_⟩ | refine ⟨fun _ h => h, ?_⟩ | refine ⟨fun _ _ => True.intro, ?_⟩ | refine ⟨fun _ h => absurd h Bool.false_ne_true, ?_⟩ | refine ⟨fun _ => True.intro, ?_⟩ | refine ⟨fun _ _ => rfl, ?_⟩ | refine ⟨(fun h => Bool.noConfusion h), ?_⟩ | refine ⟨True.intro, ?_⟩)
    obtain ⟨p, hp, hs⟩ := h.place s
    obtain rfl := h.at hp hs hq he
    obtain ⟨z, hz⟩ : ∃ z : Int, IsN z q := ⟨_, ⟨rfl⟩⟩
    refine call_ct hX [] [] (ct47 o n nm id hn s q hp hs z hz true ⟨fun _ => ⟨hq, he⟩, fun _ => rfl⟩) (fits_nil ⟨fitU_refl _, fitU_refl _, trivial⟩) rfl trivial ?_
    cbv
    exact ct_flat [] rfl ⟨rfl, fitU_refl _, trivial⟩
  | arg _ _ h h1 hne hx =>
    rw [hb.2 h, h1, show mayE true true = 0 by rfl]
    cbv; (repeat ((first | rewrite [e3] | rewrite [hE.ntT] | rewrite [hE.ntF] | rewrite [hE.pkT] | rewrite [hE.pkF] | rewrite [hE.anT] | rewrite [hE.anF] | rewrite [hE.anT'] | rewrite [hE.anF']); (repeat (first | rewrite [e3] | rewrite [hE.ntT] | rewrite [hE.ntF] | rewrite [hE.pkT] | rewrite [hE.pkF] | rewrite [hE.anT] | rewrite [hE.anF] | rewrite [hE.anT'] | rewrite [hE.anF'])); cbv)); (repeat first | refine ⟨(fun h => absurd h Bool.false_ne_true), ?_⟩ | refine ⟨(hE.o (by simp only [Ob.den, hE.e_iN, hE.e_tn, hE.e_aN, hE.e_sN, hE.e_sI, hE.e_mn] <;> omega)), ?_⟩ | refine ⟨fun _ => (hE.o (by simp only [Ob.den, hE.e_iN, hE.e_tn, hE.e_aN, hE.e_sN, hE.e_sI, hE.e_mn] <;> omega)), ?_⟩ | refine ⟨fun h => h, ?_⟩ | refine ⟨fun _ => rfl, ?_⟩ | refine ⟨fun _ h => h, ?_⟩ | refine ⟨fun _ _ => True.intro, ?_⟩ | refine ⟨fun _ h => absurd h Bool.false_ne_true, ?_⟩ | refine ⟨fun _ => True.intro, ?_⟩ | refine ⟨fun _ _ => rfl, ?_⟩ | refine ⟨(fun h => Bool.noConfusion h), ?_⟩ | refine ⟨True.intro, ?_⟩)
    obtain ⟨p, hp, hs⟩ := h.place s
    obtain ⟨z, hz⟩ : ∃ z : Int, IsN z p := ⟨_, ⟨rfl⟩⟩
    refine call_ct hX [] [] (ct47 o n nm id hn s p hp hs z hz false ⟨fun e => (by cases e), fun e => absurd e.2 (hne p e.1)⟩) (fits_nil ⟨fitU_refl _, fitU_refl _, trivial⟩) rfl trivial ?_
    by_cases h0 : x = 0
    · have e4 : ic .eql x 0 = true := by rw [hE.eql]; exact decide_eq_true h0
      cbv; (repeat ((first | rewrite [e4] | rewrite [hE.ntT] | rewrite [hE.ntF] | rewrite [hE.pkT] | rewrite [hE.pkF] | rewrite [hE.anT] | rewrite [hE.anF] | rewrite [hE.anT'] | rewrite [hE.anF']); (repeat (first | rewrite [e4] | rewrite [hE.ntT] | rewrite [hE.ntF] | rewrite [hE.pkT] | rewrite [hE.pkF] | rewrite [hE.anT] | rewrite [hE.anF] | rewrite [hE.anT'] | rewrite [hE.anF'])); cbv)); (repeat first | refine ⟨(fun h => absurd h Bool.false_ne_true), ?_⟩ | refine ⟨(hE.o (by simp only [Ob.den, hE.e_iN, hE.e_tn, hE.e_aN, hE.e_sN, hE.e_sI, hE.e_mn] <;> omega)), ?_⟩ | refine ⟨fun _ => (hE.o (by simp only [Ob.den, hE.e_iN, hE.e_tn, hE.e_aN, hE.e_sN, hE.e_sI, hE.e_mn] <;> omega)), ?_⟩ | refine ⟨fun h => h, ?_⟩ | refine ⟨fun _ => rfl, ?_⟩ | refine ⟨fun _ h => h, ?_⟩ | refine ⟨fun _ _ => True.intro, ?_⟩ | refine ⟨fun _ h => absurd h Bool.false_ne_true, ?_⟩ | refine ⟨fun _ => True.intro, ?_⟩ | refine ⟨fun _ _ => rfl, ?_⟩ | refine ⟨(fun h => Bool.noConfusion h), ?_⟩ | refine ⟨True.intro, ?_⟩)
      exact ct_flat [] rfl ⟨rfl, fitU_refl _, trivial⟩
    · have e4 : ic .eql x 0 = false := by rw [hE.eql]; exact decide_eq_false h0
      cbv; (repeat ((first | rewrite [e4] | rewrite [hE.ntT] | rewrite [hE.ntF] | rewrite [hE.pkT] | rewrite [hE.pkF] | rewrite [hE.anT] | rewrite [hE.anF] | rewrite [hE.anT'] | rewrite [hE.anF']); (repeat (first | rewrite [e4] | rewrite [hE.ntT] | rewrite [hE.ntF] | rewrite [hE.pkT] | rewrite [hE.pkF] | rewrite [hE.anT] | rewrite [hE.anF] | rewrite [hE.anT'] | rewrite [hE.anF'])); cbv)); (repeat first | refine ⟨(fun h => absurd h Bool.false_ne_true), ?_⟩ | refine ⟨(hE.o (by simp only [Ob.den, hE.e_iN, hE.e_tn, hE.e_aN, hE.e_sN, hE.e_sI, hE.e_mn] <;> omega)), ?_⟩ | refine ⟨fun _ => (hE.o (by simp only [Ob.den, hE.e_iN, hE.e_tn, hE.e_aN, hE.e_sN, hE.e_sI, hE.e_mn] <;> omega)), ?_⟩ | refine ⟨fun h => h, ?_⟩ | refine ⟨fun _ => rfl, ?_⟩ | refine ⟨fun _ h => h, ?_⟩ | refine ⟨fun _ _ => True.intro, ?_⟩ | refine ⟨fun _ h => absurd h Bool.false_ne_true, ?_⟩ | refine ⟨fun _ => True.intro, ?_⟩ | refine ⟨fun _ _ => rfl, ?_⟩ | refine ⟨(fun h => Bool.noConfusion h), ?_⟩ | refine ⟨True.intro, ?_⟩)
      refine call_ct hX [some 0] [] (ct48 o n nm id hn x true ⟨fun _ => hx.resolve_left h0, fun _ => rfl⟩) ⟨⟨rfl, rfl, rfl, rfl, by (cbv <;> (repeat' first | exact True.intro | exact ⟨.inr trivial, fun _ _ => rfl⟩ | exact rfl | exact fun _ _ => rfl | refine And.intro ?_ ?_ | rw [hE.iN0] | rw [hE.e_aN]))⟩, ⟨fitU_refl _, ⟨rfl, trivial, ⟨⟨rfl, rfl⟩, trivial⟩⟩, trivial⟩, rfl⟩ rfl trivial ?_
      cbv; (repeat ((first | rewrite [hE.ntT] | rewrite [hE.ntF] | rewrite [hE.pkT] | rewrite [hE.pkF] | rewrite [hE.anT] | rewrite [hE.anF] | rewrite [hE.anT'] | rewrite [hE.anF']); (repeat (first | rewrite [hE.ntT] | rewrite [hE.ntF] | rewrite [hE.pkT] | rewrite [hE.pkF] | rewrite [hE.anT] | rewrite [hE.anF] | rewrite [hE.anT'] | rewrite [hE.anF'])); cbv)); (repeat first | refine ⟨(fun h => absurd h Bool.false_ne_true), ?_⟩ | refine ⟨(hE.o (by simp only [Ob.den, hE.e_iN, hE.e_tn, hE.e_aN, hE.e_sN, hE.e_sI, hE.e_mn] <;> omega)), ?_⟩ | refine ⟨fun _ => (hE.o (by simp only [Ob.den, hE.e_iN, hE.e_tn, hE.e_aN, hE.e_sN, hE.e_sI, hE.e_mn] <;> omega)), ?_⟩ | refine ⟨fun h => h, ?_⟩ | refine ⟨fun _ => rfl, ?_⟩ | refine ⟨fun _ h => h, ?_⟩ | refine ⟨fun _ _ => True.intro, ?_⟩ | refine ⟨fun _ h => absurd h Bool.false_ne_true, ?_⟩ | refine ⟨fun _ => True.intro, ?_⟩ | refine ⟨fun _ _ => rfl, ?_⟩ | refine ⟨(fun h => Bool.noConfusion h), ?_⟩ | refine ⟨True.intro, ?_⟩)
      exact ct_flat [] rfl ⟨rfl, fitU_refl _, trivial⟩
  | ok _ _ h h1 hne hx hxn p hp hs ha hb' =>
    rw [hb.2 h, h1, show mayE true true = 0 by rfl]
    cbv; (repeat ((first | rewrite [e3] | rewrite [hE.ntT] | rewrite [hE.ntF] | rewrite [hE.pkT] | rewrite [hE.pkF] | rewrite [hE.anT] | rewrite [hE.anF] | rewrite [hE.anT'] | rewrite [hE.anF']); (repeat (first | rewrite [e3] | rewrite [hE.ntT] | rewrite [hE.ntF] | rewrite [hE.pkT] | rewrite [hE.pkF] | rewrite [hE.anT] | rewrite [hE.anF] | rewrite [hE.anT'] | rewrite [hE.anF'])); cbv)); (repeat first | refine ⟨(fun h => absurd h Bool.false_ne_true), ?_⟩ | refine ⟨(hE.o (by simp only [Ob.den, hE.e_iN, hE.e_tn, hE.e_aN, hE.e_sN, hE.e_sI, hE.e_mn] <;> omega)), ?_⟩ | refine ⟨fun _ => (hE.o (by simp only [Ob.den, hE.e_iN, hE.e_tn, hE.e_aN, hE.e_sN, hE.e_sI, hE.e_mn] <;> omega)), ?_⟩ | refine ⟨fun h => h, ?_⟩ | refine ⟨fun _ => rfl, ?_⟩ | refine ⟨fun _ h => h, ?_⟩ | refine ⟨fun _ _ => True.intro, ?_⟩ | refine ⟨fun _ h => absurd h Bool.false_ne_true, ?_⟩ | refine ⟨fun _ => True.intro, ?_⟩ | refine ⟨fun _ _ => rfl, ?_⟩ | refine ⟨(fun h => Bool.noConfusion h), ?_⟩ | refine ⟨True.intro, ?_⟩)
    obtain ⟨z, hz⟩ : ∃ z : Int, IsN z p := ⟨_, ⟨rfl⟩⟩
    refine call_ct hX [] [] (ct47 o n nm id hn s p hp hs z hz false ⟨fun e => (by cases e), fun e => absurd e.2 (hne p e.1)⟩) (fits_nil ⟨fitU_refl _, fitU_refl _, trivial⟩) rfl trivial ?_
    have e4 : ic .eql x 0 = false := by rw [hE.eql]; exact decide_eq_false hx
    cbv; (repeat ((first | rewrite [e4] | rewrite [hE.ntT] | rewrite [hE.ntF] | rewrite [hE.pkT] | rewrite [hE.pkF] | rewrite [hE.anT] | rewrite [hE.anF] | rewrite [hE.anT'] | rewrite [hE.anF']); (repeat (first | rewrite [e4] | rewrite [hE.ntT] | rewrite [hE.ntF] | rewrite [hE.pkT] | rewrite [hE.pkF] | rewrite [hE.anT] | rewrite [hE.anF] | rewrite [hE.anT'] | rewrite [hE.anF'])); cbv)); (repeat first | refine ⟨(fun h => absurd h Bool.false_ne_true), ?_⟩ | refine ⟨(hE.o (by simp only [Ob.den, hE.e_iN, hE.e_tn, hE.e_aN, hE.e_sN, hE.e_sI, hE.e_mn] <;> omega)), ?_⟩ | refine ⟨fun _ => (hE.o (by simp only [Ob.den, hE.e_iN, hE.e_tn, hE.e_aN, hE.e_sN, hE.e_sI, hE.e_mn] <;> omega)), ?_⟩ | refine ⟨fun h => h, ?_⟩ | refine ⟨fun _ => rfl, ?_⟩ | refine ⟨fun _ h => h, ?_⟩ | refine ⟨fun _ _ => True.intro, ?_⟩ | refine ⟨fun _ h => absurd h Bool.false_ne_true, ?_⟩ | refine ⟨fun _ => True.intro, ?_⟩ | refine ⟨fun _ _ => rfl, ?_⟩ | refine ⟨(fun h => Bool.noConfusion h), ?_⟩ | refine ⟨True.intro, ?_⟩)
    refine call_ct hX [some 0] [] (ct48 o n nm id hn x false ⟨fun e => (by cases e), fun ⟨i, hi, he⟩ => absurd he (hxn i hi)⟩) ⟨⟨rfl, rfl, rfl, rfl, by (cbv <;> (repeat' first | exact True.intro | exact ⟨.inr trivial, fun _ _ => rfl⟩ | exact rfl | exact fun _ _ => rfl | refine And.intro ?_ ?_ | rw [hE.iN0] | rw [hE.e_aN]))⟩, ⟨fitU_refl _, ⟨rfl, trivial, ⟨⟨rfl, rfl⟩, trivial⟩⟩, trivial⟩, rfl⟩ rfl trivial ?_
    cbv; (repeat ((first | rewrite [hE.ntT] | rewrite [hE.ntF] | rewrite [hE.pkT] | rewrite [hE.pkF] | rewrite [hE.anT] | rewrite [hE.anF] | rewrite [hE.anT'] | rewrite [hE.anF']); (repeat (first | rewrite [hE.ntT] | rewrite [hE.ntF] | rewrite [hE.pkT] | rewrite [hE.pkF] | rewrite [hE.anT] | rewrite [hE.anF] | rewrite [hE.anT'] | rewrite [hE.anF'])); cbv)); (repeat first | refine ⟨(fun h => absurd h Bool.false_ne_true), ?_⟩ | refine ⟨(hE.o (by simp only [Ob.den, hE.e_iN, hE.e_tn, hE.e_aN, hE.e_sN, hE.e_sI, hE.e_mn] <;> omega)), ?_⟩ | refine ⟨fun _ => (hE.o (by simp only [Ob.den, hE.e_iN, hE.e_tn, hE.e_aN, hE.e_sN, hE.e_sI, hE.e_mn] <;> omega)), ?_⟩ | refine ⟨fun h => h, ?_⟩ | refine ⟨fun _ => rfl, ?_⟩ | refine ⟨fun _ h => h, ?_⟩ | refine ⟨fun _ _ => True.intro, ?_⟩ | refine ⟨fun _ h => absurd h Bool.false_ne_true, ?_⟩ | refine ⟨fun _ => True.intro, ?_⟩ | refine ⟨fun _ _ => rfl, ?_⟩ | refine ⟨(fun h => Bool.noConfusion h), ?_⟩ | refine ⟨True.intro, ?_⟩)
    refine calld_ct hX [] [] (ct51 o n (fun i => [.sc (.string (nm i)), .sc (.int .u64 (id i))]) hn) (fits_nil ⟨fitU_refl _, trivial⟩) rfl trivial ?_
    cbv; (repeat ((first | rewrite [hE.ntT] | rewrite [hE.ntF] | rewrite [hE.pkT] | rewrite [hE.pkF] | rewrite [hE.anT] | rewrite [hE.anF] | rewrite [hE.anT'] | rewrite [hE.anF']); (repeat (first | rewrite [hE.ntT] | rewrite [hE.ntF] | rewrite [hE.pkT] | rewrite [hE.pkF] | rewrite [hE.anT] | rewrite [hE.anF] | rewrite [hE.anT'] | rewrite [hE.anF'])); cbv)); (repeat first | refine ⟨(fun h => absurd h Bool.false_ne_true), ?_⟩ | refine ⟨(hE.o (by simp only [Ob.den, hE.e_iN, hE.e_tn, hE.e_aN, hE.e_sN, hE.e_sI, hE.e_mn] <;> omega)), ?_⟩ | refine ⟨fun _ => (hE.o (by simp only [Ob.den, hE.e_iN, hE.e_tn, hE.e_aN, hE.e_sN, hE.e_sI, hE.e_mn] <;> omega)), ?_⟩ | refine ⟨fun h => h, ?_⟩ | refine ⟨fun _ => rfl, ?_⟩ | refine ⟨fun _ h => h, ?_⟩ | refine ⟨fun _ _ => True.intro, ?_⟩ | refine ⟨fun _ h => absurd h Bool.false_ne_true, ?_⟩ | refine ⟨fun _ => True.intro, ?_⟩ | refine ⟨fun _ _ => rfl, ?_⟩ | refine ⟨(fun h => Bool.noConfusion h), ?_⟩ | refine ⟨True.intro, ?_⟩)
    refine calld_ct hX [some 2, some 3] [] (ct50 n (fun i => [.sc (.string (nm i)), .sc (.int .u64 (id i))]) (fun _ => [.sc (.string s), .sc (.int .u64 x)]) (fun i => [.sc (.string (nm' i)), .sc (.int .u64 (id' i))]) hn p hp z hz fun i hi => ?_) ⟨⟨rfl, rfl, rfl, rfl, ?_⟩, ⟨⟨rfl, rfl, rfl, rfl⟩, fitU_refl _, ⟨rfl, rfl, rfl, rfl⟩, trivial⟩, rfl⟩ rfl trivial ?_
    · show [U.sc (.string (nm' i)), U.sc (.int .u64 (id' i))] = _
      rw [ha, hb']
      unfold insF
      split
      · rfl
      · split <;> rfl
    · exact ⟨⟨rfl, rfl, rfl, rfl, fun _ _ => rfl⟩, ⟨rfl, rfl, rfl, rfl, fun i hi => by obtain rfl : i = 0 := (by omega); rfl⟩, trivial⟩
    · cbv; (repeat ((first | rewrite [hE.ntT] | rewrite [hE.ntF] | rewrite [hE.pkT] | rewrite [hE.pkF] | rewrite [hE.anT] | rewrite [hE.anF] | rewrite [hE.anT'] | rewrite [hE.anF']); (repeat (first | rewrite [hE.ntT] | rewrite [hE.ntF] | rewrite [hE.pkT] | rewrite [hE.pkF] | rewrite [hE.anT] | rewrite [hE.anF] | rewrite [hE.anT'] | rewrite [hE.anF'])); cbv)); (repeat first | refine ⟨(fun h => absurd h Bool.false_ne_true), ?_⟩ | refine ⟨(hE.o (by simp only [Ob.den, hE.e_iN, hE.e_tn, hE.e_aN, hE.e_sN, hE.e_sI, hE.e_mn] <;> omega)), ?_⟩ | refine ⟨fun _ => (hE.o (by simp only [Ob.den, hE.e_iN, hE.e_tn, hE.e_aN, hE.e_sN, hE.e_sI, hE.e_mn] <;> omega)), ?_⟩ | refine ⟨fun h => h, ?_⟩ | refine ⟨fun _ => rfl, ?_⟩ | refine ⟨fun _ h => h, ?_⟩ | refine ⟨fun _ _ => True.intro, ?_⟩ | refine ⟨fun _ h => absurd h Bool.false_ne_true, ?_⟩ | refine ⟨fun _ => True.intro, ?_⟩ | refine ⟨fun _ _ => rfl, ?_⟩ | refine ⟨(fun h => Bool.noConfusion h), ?_⟩ | refine ⟨True.intro, ?_⟩)
      exact ct_flat [] rfl ⟨fitU_refl _, fitU_refl _, trivial⟩
end Ytohkcdfjpgdfbaa
end
section
open Go Am
set_option maxRecDepth 100000
set_option maxHeartbeats 4000000
set_option linter.unusedVariables false
set_option linter.unusedSimpArgs false
namespace Ytohkcdfjpgdfbaa
theorem _root_.Am.Ax.app2 {ob : Ob → Prop} {ib : BinOp → IntKind → Int → Int → Int} {ic : BinOp → Int → Int → Bool} {sb : BinOp → ByteArray → ByteArray → Bool} {cat : ByteArray → ByteArray → ByteArray} {iu : UnOp → IntKind → Int → Int} {nt : Bool → Bool} {an : Bool → Bool → Bool} {be : Bool → Bool → Bool} {pk : Bool → Bool → Bool → Bool} {wr : IntKind → Int → Int} {tn : Int → Nat} {iN : Nat → Int} {aN : Nat → Nat → Nat} {sN : Nat → Nat → Nat} {lN : Nat → Nat → Bool} {eN : Nat → Nat → Bool} {bt : ByteArray → Int → Int} {sub : ByteArray → Int → Int → ByteArray} {sl : ByteArray → Int} {rn : Int → ByteArray} {ofB : Nat → (Nat → List U) → ByteArray} {mn : Int → Int → Int} {dc : ByteArray → Nat → Int} {dn : ByteArray → Nat → Nat} {sI : Int → Int → Int} (hE : Ax ob ib ic sb cat iu nt an be pk wr tn iN aN sN lN eN bt sub sl rn ofB mn dc dn sI) {G : Nat → List U} {k : Nat} {x y : List U} (h : G k = x) (h' : G (k + 1) = y) : ∀ i, i < k + 2 → (if lN i (aN k 1) = true then (if lN i k = true then G i else listRow [x] (sN i k)) else listRow [y] (sN i (aN k 1))) = G i := by
  intro i hi
  rw [hE.e_aN, hE.e_lN (b := k + 1)]
  by_cases hk : i < k + 1
  · rw [if_pos (decide_eq_true hk)]
    exact hE.app1 h i hk
  · rw [if_neg (by simpa using hk), hE.e_sN, show i - (k + 1) = 0 by omega, show i = k + 1 by omega]
    exact h'.symm
theorem ct52 (o : Tg) (n : Nat) (nm : Nat → ByteArray) (id : Nat → Int) (hn : n ≤ 100000) (s : ByteArray) (x : Int) (p : Nat) (hp : p ≤ n) (hs : ∀ i, i < n → bL s (nm i) = decide (p ≤ i)) (nm' : Nat → ByteArray) (id' : Nat → Int) (ha : ∀ i, nm' i = insF p nm s i) (hb : ∀ i, id' i = insF p id x i) :
    CT Go.Proofs.Try.prog 52 [catS o n nm id, .ag [strV s, scI .u64 x]] [] (catS (.new 100) (n + 1) nm' id') [] := by
  have hlo : ∀ i, i < p → [U.sc (.string (nm' i)), U.sc (.int .u64 (id' i))] = [U.sc (.string (nm i)), U.sc (.int .u64 (id i))] := fun i hi => by rw [ha, hb]; unfold insF; rw [if_pos hi, if_pos hi]
  have hat : [U.sc (.string (nm' p)), U.sc (.int .u64 (id' p))] = [U.sc (.string s), U.sc (.int .u64 x)] := by rw [ha, hb]; unfold insF; simp
  have hhi : ∀ i, p ≤ i → [U.sc (.string (nm' (i + 1))), U.sc (.int .u64 (id' (i + 1)))] = [U.sc (.string (nm i)), U.sc (.int .u64 (id i))] := fun i hi => by rw [ha, hb]; unfold insF; simp only [show ¬ i + 1 < p by omega, show ¬ i + 1 = p by omega, if_false, Nat.add_sub_cancel]
  obtain ⟨h, hh⟩ : ∃ h : Nat → List U, h = fun i => [U.sc (.string (nm' i)), U.sc (.int .u64 (id' i))] := ⟨_, rfl⟩
  refine enter52 rfl rfl ?_
  intro ob ib ic sb cat iu nt an be pk wr tn iN aN sN lN eN bt sub sl rn ofB mn dc dn sI X hE hX
  cbv
  refine loop_at hE hX tabOK (by kernel_rfl) funcsOK rfl (α := Nat × Nat × Bool) (fun ⟨k, m, d⟩ => (sets (pad 44) [(0, catS o n nm id), (3, .pb 0 0), (5, .sr 1 2 0 m), (6, scB d), (7, scI .i64 (iN k))], [.box [strV s, scI .u64 x], .arr 100 2 m h])) (fun a => a.1 ≤ n ∧ ((a.2.2 = false ∧ a.1 ≤ p ∧ a.2.1 = a.1) ∨ (a.2.2 = true ∧ p < a.1 ∧ a.2.1 = a.1 + 1))) (fun a => n - a.1) (0, 0, false) ⟨by omega, .inl ⟨rfl, by omega, rfl⟩⟩ ?_ ?_
  · exact ⟨[some 0, none], [], ⟨rfl, rfl, rfl, rfl, by (cbv <;> (repeat' first | exact True.intro | exact ⟨.inr trivial, fun _ _ => rfl⟩ | exact rfl | exact fun _ _ => rfl | refine And.intro ?_ ?_ | rw [hE.iN0] | rw [hE.e_aN]))⟩, by (cbv <;> (repeat' first | exact True.intro | exact ⟨.inr trivial, fun _ _ => rfl⟩ | exact rfl | exact fun _ _ => rfl | refine And.intro ?_ ?_ | rw [hE.iN0] | rw [hE.e_aN]))⟩
  · rintro ⟨k, m, d⟩ ⟨hk, hd⟩
    dsimp only at hk hd
    by_cases hkn : k < n
    · have hc : ic .lss (iN k) (iN n) = true := by rw [hE.ltN]; exact decide_eq_true hkn
      have hi := hE.incN (a := k) (by omega)
      rcases hd with ⟨rfl, hd, rfl⟩ | ⟨rfl, hd, rfl⟩
      · have hg : sb .gtr (nm m) s = decide (p ≤ m) := by rw [hE.sgtr, hs m hkn]
        by_cases hpm : p ≤ m
        · rw [decide_eq_true hpm] at hg
          obtain rfl : m = p := by omega
          cbv; (repeat ((first | rewrite [hc] | rewrite [hg] | rewrite [hi] | rewrite [hE.tnN] | rewrite [hE.ntT] | rewrite [hE.ntF] | rewrite [hE.pkT] | rewrite [hE.pkF] | rewrite [hE.anT] | rewrite [hE.anF] | rewrite [hE.anT'] | rewrite [hE.anF']); (repeat (first | rewrite [hc] | rewrite [hg] | rewrite [hi] | rewrite [hE.tnN] | rewrite [hE.ntT] | rewrite [hE.ntF] | rewrite [hE.pkT] | rewrite [hE.pkF] | rewrite [hE.anT] | rewrite [hE.anF] | rewrite [hE.anT'] | rewrite [hE.anF'])); cbv)); (repeat first | refine ⟨(fun h => absurd h Bool.false_ne_true), ?_⟩ | refine ⟨(hE.o (by simp only [Ob.den, hE.e_iN, hE.e_tn, hE.e_aN, hE.e_sN, hE.e_sI, hE.e_mn] <;> omega)), ?_⟩ | refine ⟨fun _ => (hE.o (by simp only [Ob.den, hE.e_iN, hE.e_tn, hE.e_aN, hE.e_sN, hE.e_sI, hE.e_mn] <;> omega)), ?_⟩ | refine ⟨fun h => h, ?_⟩ | refine ⟨fun _ => rfl, ?_⟩ | refine ⟨fun _ h => h, ?_⟩ | refine ⟨fun _ _ => True.intro, ?_⟩ | refine ⟨fun _ h => absurd h Bool.false_ne_true, ?_⟩ | refine ⟨fun _ => True.intro, ?_⟩ | refine ⟨fun _ _ => rfl, ?_⟩ | refine ⟨(fun h => Bool.noConfusion h), ?_⟩ | refine ⟨True.intro, ?_⟩)
          exact ⟨(m + 1, m + 2, true), ⟨by dsimp only; omega, .inr ⟨rfl, by dsimp only; omega, rfl⟩⟩, by dsimp only; omega, [some 0, some 5], [], ⟨rfl, rfl, rfl, rfl, ⟨rfl, fitU_refl _, fitU_refl _, trivial⟩, ⟨rfl, rfl, rfl, by rw [hE.e_aN, hE.e_aN], hE.app2 (by rw [hh]; exact hat) (by rw [hh]; exact hhi m (by omega))⟩, trivial⟩, by (cbv <;> (repeat' first | exact True.intro | exact ⟨.inr trivial, fun _ _ => rfl⟩ | exact rfl | exact fun _ _ => rfl | refine And.intro ?_ ?_ | rw [hE.iN0] | rw [hE.e_aN]))⟩
        · rw [decide_eq_false hpm] at hg
          cbv; (repeat ((first | rewrite [hc] | rewrite [hg] | rewrite [hi] | rewrite [hE.tnN] | rewrite [hE.ntT] | rewrite [hE.ntF] | rewrite [hE.pkT] | rewrite [hE.pkF] | rewrite [hE.anT] | rewrite [hE.anF] | rewrite [hE.anT'] | rewrite [hE.anF']); (repeat (first | rewrite [hc] | rewrite [hg] | rewrite [hi] | rewrite [hE.tnN] | rewrite [hE.ntT] | rewrite [hE.ntF] | rewrite [hE.pkT] | rewrite [hE.pkF] | rewrite [hE.anT] | rewrite [hE.anF] | rewrite [hE.anT'] | rewrite [hE.anF'])); cbv)); (repeat first | refine ⟨(fun h => absurd h Bool.false_ne_true), ?_⟩ | refine ⟨(hE.o (by simp only [Ob.den, hE.e_iN, hE.e_tn, hE.e_aN, hE.e_sN, hE.e_sI, hE.e_mn] <;> omega)), ?_⟩ | refine ⟨fun _ => (hE.o (by simp only [Ob.den, hE.e_iN, hE.e_tn, hE.e_aN, hE.e_sN, hE.e_sI, hE.e_mn] <;> omega)), ?_⟩ | refine ⟨fun h => h, ?_⟩ | refine ⟨fun _ => rfl, ?_⟩ | refine ⟨fun _ h => h, ?_⟩ | refine ⟨fun _ _ => True.intro, ?_⟩ | refine ⟨fun _ h => absurd h Bool.false_ne_true, ?_⟩ | refine ⟨fun _ => True.intro, ?_⟩ | refine ⟨fun _ _ => rfl, ?_⟩ | refine ⟨(fun h => Bool.noConfusion h), ?_⟩ | refine ⟨True.intro, ?_⟩)
          exact ⟨(m + 1, m + 1, false), ⟨by dsimp only; omega, .inl ⟨rfl, by dsimp only; omega, rfl⟩⟩, by dsimp only; omega, [some 0, some 3], [], ⟨rfl, rfl, rfl, rfl, ⟨rfl, fitU_refl _, fitU_refl _, trivial⟩, ⟨rfl, rfl, rfl, by rw [hE.e_aN], hE.app1 (by rw [hh]; exact hlo m (by omega))⟩, trivial⟩, by (cbv <;> (repeat' first | exact True.intro | exact ⟨.inr trivial, fun _ _ => rfl⟩ | exact rfl | exact fun _ _ => rfl | refine And.intro ?_ ?_ | rw [hE.iN0] | rw [hE.e_aN]))⟩
      · cbv; (repeat ((first | rewrite [hc] | rewrite [hi] | rewrite [hE.tnN] | rewrite [hE.ntT] | rewrite [hE.ntF] | rewrite [hE.pkT] | rewrite [hE.pkF] | rewrite [hE.anT] | rewrite [hE.anF] | rewrite [hE.anT'] | rewrite [hE.anF']); (repeat (first | rewrite [hc] | rewrite [hi] | rewrite [hE.tnN] | rewrite [hE.ntT] | rewrite [hE.ntF] | rewrite [hE.pkT] | rewrite [hE.pkF] | rewrite [hE.anT] | rewrite [hE.anF] | rewrite [hE.anT'] | rewrite [hE.anF'])); cbv)); (repeat first | refine ⟨(fun h => absurd h Bool.false_ne_true), ?_⟩ | refine ⟨(hE.o (by simp only [Ob.den, hE.e_iN, hE.e_tn, hE.e_aN, hE.e_sN, hE.e_sI, hE.e_mn] <;> omega)), ?_⟩ | refine ⟨fun _ => (hE.o (by simp only [Ob.den, hE.e_iN, hE.e_tn, hE.e_aN, hE.e_sN, hE.e_sI, hE.e_mn] <;> omega)), ?_⟩ | refine ⟨fun h => h, ?_⟩ | refine ⟨fun _ => rfl, ?_⟩ | refine ⟨fun _ h => h, ?_⟩ | refine ⟨fun _ _ => True.intro, ?_⟩ | refine ⟨fun _ h => absurd h Bool.false_ne_true, ?_⟩ | refine ⟨fun _ => True.intro, ?_⟩ | refine ⟨fun _ _ => rfl, ?_⟩ | refine ⟨(fun h => Bool.noConfusion h), ?_⟩ | refine ⟨True.intro, ?_⟩)
        exact ⟨(k + 1, k + 2, true), ⟨by dsimp only; omega, .inr ⟨rfl, by dsimp only; omega, rfl⟩⟩, by dsimp only; omega, [some 0, some 3], [], ⟨rfl, rfl, rfl, rfl, ⟨rfl, fitU_refl _, fitU_refl _, trivial⟩, ⟨rfl, rfl, rfl, by rw [hE.e_aN], hE.app1 (by rw [hh]; exact hhi k (by omega))⟩, trivial⟩, by (cbv <;> (repeat' first | exact True.intro | exact ⟨.inr trivial, fun _ _ => rfl⟩ | exact rfl | exact fun _ _ => rfl | refine And.intro ?_ ?_ | rw [hE.iN0] | rw [hE.e_aN]))⟩
    · have hc : ic .lss (iN k) (iN n) = false := by rw [hE.ltN]; exact decide_eq_false hkn
      obtain rfl : k = n := by omega
      rcases hd with ⟨rfl, hd, rfl⟩ | ⟨rfl, hd, rfl⟩
      · obtain rfl : m = p := by omega
        cbv; (repeat ((first | rewrite [hc] | rewrite [hE.ntT] | rewrite [hE.ntF] | rewrite [hE.pkT] | rewrite [hE.pkF] | rewrite [hE.anT] | rewrite [hE.anF] | rewrite [hE.anT'] | rewrite [hE.anF']); (repeat (first | rewrite [hc] | rewrite [hE.ntT] | rewrite [hE.ntF] | rewrite [hE.pkT] | rewrite [hE.pkF] | rewrite [hE.anT] | rewrite [hE.anF] | rewrite [hE.anT'] | rewrite [hE.anF'])); cbv)); (repeat first | refine ⟨(fun h => absurd h Bool.false_ne_true), ?_⟩ | refine ⟨(hE.o (by simp only [Ob.den, hE.e_iN, hE.e_tn, hE.e_aN, hE.e_sN, hE.e_sI, hE.e_mn] <;> omega)), ?_⟩ | refine ⟨fun _ => (hE.o (by simp only [Ob.den, hE.e_iN, hE.e_tn, hE.e_aN, hE.e_sN, hE.e_sI, hE.e_mn] <;> omega)), ?_⟩ | refine ⟨fun h => h, ?_⟩ | refine ⟨fun _ => rfl, ?_⟩ | refine ⟨fun _ h => h, ?_⟩ | refine ⟨fun _ _ => True.intro, ?_⟩ | refine ⟨fun _ h => absurd h Bool.false_ne_true, ?_⟩ | refine ⟨fun _ => True.intro, ?_⟩ | refine ⟨fun _ _ => rfl, ?_⟩ | refine ⟨(fun h => Bool.noConfusion h), ?_⟩ | refine ⟨True.intro, ?_⟩)
        exact ct_flat [3] rfl ⟨rfl, rfl, rfl, rfl, by rw [hE.e_aN], by rw [hE.e_aN]; try omega, fun i hi => by
          rw [Nat.zero_add]
          have := hE.app1 (G := h) (k := m) (x := [U.sc (.string s), U.sc (.int .u64 x)]) (by rw [hh]; exact hat) i hi
          exact this.trans (by rw [hh])⟩
      · cbv; (repeat ((first | rewrite [hc] | rewrite [hE.ntT] | rewrite [hE.ntF] | rewrite [hE.pkT] | rewrite [hE.pkF] | rewrite [hE.anT] | rewrite [hE.anF] | rewrite [hE.anT'] | rewrite [hE.anF']); (repeat (first | rewrite [hc] | rewrite [hE.ntT] | rewrite [hE.ntF] | rewrite [hE.pkT] | rewrite [hE.pkF] | rewrite [hE.anT] | rewrite [hE.anF] | rewrite [hE.anT'] | rewrite [hE.anF'])); cbv)); (repeat first | refine ⟨(fun h => absurd h Bool.false_ne_true), ?_⟩ | refine ⟨(hE.o (by simp only [Ob.den, hE.e_iN, hE.e_tn, hE.e_aN, hE.e_sN, hE.e_sI, hE.e_mn] <;> omega)), ?_⟩ | refine ⟨fun _ => (hE.o (by simp only [Ob.den, hE.e_iN, hE.e_tn, hE.e_aN, hE.e_sN, hE.e_sI, hE.e_mn] <;> omega)), ?_⟩ | refine ⟨fun h => h, ?_⟩ | refine ⟨fun _ => rfl, ?_⟩ | refine ⟨fun _ h => h, ?_⟩ | refine ⟨fun _ _ => True.intro, ?_⟩ | refine ⟨fun _ h => absurd h Bool.false_ne_true, ?_⟩ | refine ⟨fun _ => True.intro, ?_⟩ | refine ⟨fun _ _ => rfl, ?_⟩ | refine ⟨(fun h => Bool.noConfusion h), ?_⟩ | refine ⟨True.intro, ?_⟩)
        exact ct_flat [1] rfl ⟨rfl, rfl, rfl, rfl, rfl, by omega, fun i _ => by rw [Nat.zero_add, hh]⟩
end Ytohkcdfjpgdfbaa
end
section
open Go Am
set_option maxRecDepth 100000
set_option maxHeartbeats 4000000
set_option linter.unusedVariables false
set_option linter.unusedSimpArgs false
namespace Ytohkcdfjpgdfbaa
theorem ct20 (o : Tg) (n : Nat) (nm : Nat → ByteArray) (id : Nat → Int) (hn : n ≤ 100000) (s : ByteArray) (v e : Int) (hg : GetR n nm id s v e) :
    CT Go.Proofs.Try.prog 20 [catS o n nm id, strV s] [] (.tp [scI .u64 v, scI .i64 e]) [] := by
  refine enter20 rfl rfl ?_
  intro ob ib ic sb cat iu nt an be pk wr tn iN aN sN lN eN bt sub sl rn ofB mn dc dn sI X hE hX
  cbv
  obtain ⟨b, hb⟩ : ∃ b : Bool, b = true ↔ Rt n nm id := by by_cases h : Rt n nm id; exact ⟨true, by simp [h]⟩; exact ⟨false, by simp [h]⟩
  refine call_ct hX [] [] (ct29 o n nm id hn b hb) (fits_nil ⟨fitU_refl _, trivial⟩) rfl trivial ?_
  by_cases h0 : Rt n nm id
  · rw [hb.2 h0]
    cbv; (repeat ((first | rewrite [hE.ntT] | rewrite [hE.ntF] | rewrite [hE.pkT] | rewrite [hE.pkF] | rewrite [hE.anT] | rewrite [hE.anF] | rewrite [hE.anT'] | rewrite [hE.anF']); (repeat (first | rewrite [hE.ntT] | rewrite [hE.ntF] | rewrite [hE.pkT] | rewrite [hE.pkF] | rewrite [hE.anT] | rewrite [hE.anF] | rewrite [hE.anT'] | rewrite [hE.anF'])); cbv)); (repeat first | refine ⟨(fun h => absurd h Bool.false_ne_true), ?_⟩ | refine ⟨(hE.o (by simp only [Ob.den, hE.e_iN, hE.e_tn, hE.e_aN, hE.e_sN, hE.e_sI, hE.e_mn] <;> omega)), ?_⟩ | refine ⟨fun _ => (hE.o (by simp only [Ob.den, hE.e_iN, hE.e_tn, hE.e_aN, hE.e_sN, hE.e_sI, hE.e_mn] <;> omega)), ?_⟩ | refine ⟨fun h => h, ?_⟩ | refine ⟨fun _ => rfl, ?_⟩ | refine ⟨fun _ h => h, ?_⟩ | refine ⟨fun _ _ => True.intro, ?_⟩ | refine ⟨fun _ h => absurd h Bool.false_ne_true, ?_⟩ | refine ⟨fun _ => True.intro, ?_⟩ | refine ⟨fun _ _ => rfl, ?_⟩ | refine ⟨(fun h => Bool.noConfusion h), ?_⟩ | refine ⟨True.intro, ?_⟩)
    refine call_ct hX [] [] (ct34 s) (fits_nil ⟨fitU_refl _, trivial⟩) rfl trivial ?_
    cases h1 : nmB s
    · cases hg with
      | wrong h => exact absurd h0 h
      | name h hn =>
        cbv; (repeat ((first | rewrite [hE.ntT] | rewrite [hE.ntF] | rewrite [hE.pkT] | rewrite [hE.pkF] | rewrite [hE.anT] | rewrite [hE.anF] | rewrite [hE.anT'] | rewrite [hE.anF']); (repeat (first | rewrite [hE.ntT] | rewrite [hE.ntF] | rewrite [hE.pkT] | rewrite [hE.pkF] | rewrite [hE.anT] | rewrite [hE.anF] | rewrite [hE.anT'] | rewrite [hE.anF'])); cbv)); (repeat first | refine ⟨(fun h => absurd h Bool.false_ne_true), ?_⟩ | refine ⟨(hE.o (by simp only [Ob.den, hE.e_iN, hE.e_tn, hE.e_aN, hE.e_sN, hE.e_sI, hE.e_mn] <;> omega)), ?_⟩ | refine ⟨fun _ => (hE.o (by simp only [Ob.den, hE.e_iN, hE.e_tn, hE.e_aN, hE.e_sN, hE.e_sI, hE.e_mn] <;> omega)), ?_⟩ | refine ⟨fun h => h, ?_⟩ | refine ⟨fun _ => rfl, ?_⟩ | refine ⟨fun _ h => h, ?_⟩ | refine ⟨fun _ _ => True.intro, ?_⟩ | refine ⟨fun _ h => absurd h Bool.false_ne_true, ?_⟩ | refine ⟨fun _ => True.intro, ?_⟩ | refine ⟨fun _ _ => rfl, ?_⟩ | refine ⟨(fun h => Bool.noConfusion h), ?_⟩ | refine ⟨True.intro, ?_⟩)
        exact ct_flat [] rfl ⟨fitU_refl _, fitU_refl _, trivial⟩
      | there h hn p hp e => rw [h1] at hn; cases hn
      | none h hn hne => rw [h1] at hn; cases hn
    · cbv; (repeat ((first | rewrite [hE.ntT] | rewrite [hE.ntF] | rewrite [hE.pkT] | rewrite [hE.pkF] | rewrite [hE.anT] | rewrite [hE.anF] | rewrite [hE.anT'] | rewrite [hE.anF']); (repeat (first | rewrite [hE.ntT] | rewrite [hE.ntF] | rewrite [hE.pkT] | rewrite [hE.pkF] | rewrite [hE.anT] | rewrite [hE.anF] | rewrite [hE.anT'] | rewrite [hE.anF'])); cbv)); (repeat first | refine ⟨(fun h => absurd h Bool.false_ne_true), ?_⟩ | refine ⟨(hE.o (by simp only [Ob.den, hE.e_iN, hE.e_tn, hE.e_aN, hE.e_sN, hE.e_sI, hE.e_mn] <;> omega)), ?_⟩ | refine ⟨fun _ => (hE.o (by simp only [Ob.den, hE.e_iN, hE.e_tn, hE.e_aN, hE.e_sN, hE.e_sI, hE.e_mn] <;> omega)), ?_⟩ | refine ⟨fun h => h, ?_⟩ | refine ⟨fun _ => rfl, ?_⟩ | refine ⟨fun _ h => h, ?_⟩ | refine ⟨fun _ _ => True.intro, ?_⟩ | refine ⟨fun _ h => absurd h Bool.false_ne_true, ?_⟩ | refine ⟨fun _ => True.intro, ?_⟩ | refine ⟨fun _ _ => rfl, ?_⟩ | refine ⟨(fun h => Bool.noConfusion h), ?_⟩ | refine ⟨True.intro, ?_⟩)
      have hgo : ∀ i, i < n → nm i = s → v = id i ∧ e = 0 := fun i hi he => by
        cases hg with
        | wrong h => exact absurd h0 h
        | name h hn => rw [h1] at hn; cases hn
        | there h hn p hp e =>
          obtain ⟨q, hq, hs⟩ := h.place s
          rw [h.at hq hs hi he, h.at hq hs hp e]
          exact ⟨rfl, rfl⟩
        | none h hn hne => exact absurd he (hne i hi)
      have hno : (∀ i, i < n → nm i ≠ s) → v = 0 ∧ e = 80 := fun hx => by
        cases hg with
        | wrong h => exact absurd h0 h
        | name h hn => rw [h1] at hn; cases hn
        | there h hn p hp e => exact absurd e (hx p hp)
        | none h hn hne => exact ⟨rfl, rfl⟩
      refine loop_at hE hX tabOK (by kernel_rfl) funcsOK rfl (α := Nat) (fun k => (sets (pad 31) [(0, catS o n nm id), (1, strV s), (6, scI .i64 (iN k))], [])) (fun k => k ≤ n ∧ ∀ i, i < k → nm i ≠ s) (fun k => n - k) 0 ⟨by omega, fun i hi => by omega⟩ ?_ ?_
      · exact ⟨[], [], ⟨rfl, rfl, rfl, rfl, trivial⟩, by (cbv <;> (repeat' first | exact True.intro | exact ⟨.inr trivial, fun _ _ => rfl⟩ | exact rfl | exact fun _ _ => rfl | refine And.intro ?_ ?_ | rw [hE.iN0] | rw [hE.e_aN]))⟩
      · rintro k ⟨hk, hs⟩
        by_cases hkn : k < n
        · have hc : ic .lss (iN k) (iN n) = true := by rw [hE.ltN]; exact decide_eq_true hkn
          have hi := hE.incN (a := k) (by omega)
          by_cases h3 : nm k = s
          · have h4 : sb .eql (nm k) s = true := by rw [hE.seql]; exact decide_eq_true h3
            cbv; (repeat ((first | rewrite [hc] | rewrite [h4] | rewrite [hE.tnN] | rewrite [hE.ntT] | rewrite [hE.ntF] | rewrite [hE.pkT] | rewrite [hE.pkF] | rewrite [hE.anT] | rewrite [hE.anF] | rewrite [hE.anT'] | rewrite [hE.anF']); (repeat (first | rewrite [hc] | rewrite [h4] | rewrite [hE.tnN] | rewrite [hE.ntT] | rewrite [hE.ntF] | rewrite [hE.pkT] | rewrite [hE.pkF] | rewrite [hE.anT] | rewrite [hE.anF] | rewrite [hE.anT'] | rewrite [hE.anF'])); cbv)); (repeat first | refine ⟨(fun h => absurd h Bool.false_ne_true), ?_⟩ | refine ⟨(hE.o (by simp only [Ob.den, hE.e_iN, hE.e_tn, hE.e_aN, hE.e_sN, hE.e_sI, hE.e_mn] <;> omega)), ?_⟩ | refine ⟨fun _ => (hE.o (by simp only [Ob.den, hE.e_iN, hE.e_tn, hE.e_aN, hE.e_sN, hE.e_sI, hE.e_mn] <;> omega)), ?_⟩ | refine ⟨fun h => h, ?_⟩ | refine ⟨fun _ => rfl, ?_⟩ | refine ⟨fun _ h => h, ?_⟩ | refine ⟨fun _ _ => True.intro, ?_⟩ | refine ⟨fun _ h => absurd h Bool.false_ne_true, ?_⟩ | refine ⟨fun _ => True.intro, ?_⟩ | refine ⟨fun _ _ => rfl, ?_⟩ | refine ⟨(fun h => Bool.noConfusion h), ?_⟩ | refine ⟨True.intro, ?_⟩)
            obtain ⟨rfl, rfl⟩ := hgo k hkn h3
            exact ct_flat [] rfl ⟨fitU_refl _, fitU_refl _, trivial⟩
          · have h4 : sb .eql (nm k) s = false := by rw [hE.seql]; exact decide_eq_false h3
            cbv; (repeat ((first | rewrite [hc] | rewrite [h4] | rewrite [hi] | rewrite [hE.tnN] | rewrite [hE.ntT] | rewrite [hE.ntF] | rewrite [hE.pkT] | rewrite [hE.pkF] | rewrite [hE.anT] | rewrite [hE.anF] | rewrite [hE.anT'] | rewrite [hE.anF']); (repeat (first | rewrite [hc] | rewrite [h4] | rewrite [hi] | rewrite [hE.tnN] | rewrite [hE.ntT] | rewrite [hE.ntF] | rewrite [hE.pkT] | rewrite [hE.pkF] | rewrite [hE.anT] | rewrite [hE.anF] | rewrite [hE.anT'] | rewrite [hE.anF'])); cbv)); (repeat first | refine ⟨(fun h => absurd h Bool.false_ne_true), ?_⟩ | refine ⟨(hE.o (by simp only [Ob.den, hE.e_iN, hE.e_tn, hE.e_aN, hE.e_sN, hE.e_sI, hE.e_mn] <;> omega)), ?_⟩ | refine ⟨fun _ => (hE.o (by simp only [Ob.den, hE.e_iN, hE.e_tn, hE.e_aN, hE.e_sN, hE.e_sI, hE.e_mn] <;> omega)), ?_⟩ | refine ⟨fun h => h, ?_⟩ | refine ⟨fun _ => rfl, ?_⟩ | refine ⟨fun _ h => h, ?_⟩ | refine ⟨fun _ _ => True.intro, ?_⟩ | refine ⟨fun _ h => absurd h Bool.false_ne_true, ?_⟩ | refine ⟨fun _ => True.intro, ?_⟩ | refine ⟨fun _ _ => rfl, ?_⟩ | refine ⟨(fun h => Bool.noConfusion h), ?_⟩ | refine ⟨True.intro, ?_⟩)
            exact ⟨k + 1, ⟨by omega, snoc hs h3⟩, by omega, [], [], ⟨rfl, rfl, rfl, rfl, trivial⟩, by (cbv <;> (repeat' first | exact True.intro | exact ⟨.inr trivial, fun _ _ => rfl⟩ | exact rfl | exact fun _ _ => rfl | refine And.intro ?_ ?_ | rw [hE.iN0] | rw [hE.e_aN]))⟩
        · have hc : ic .lss (iN k) (iN n) = false := by rw [hE.ltN]; exact decide_eq_false hkn
          cbv; (repeat ((first | rewrite [hc] | rewrite [hE.ntT] | rewrite [hE.ntF] | rewrite [hE.pkT] | rewrite [hE.pkF] | rewrite [hE.anT] | rewrite [hE.anF] | rewrite [hE.anT'] | rewrite [hE.anF']); (repeat (first | rewrite [hc] | rewrite [hE.ntT] | rewrite [hE.ntF] | rewrite [hE.pkT] | rewrite [hE.pkF] | rewrite [hE.anT] | rewrite [hE.anF] | rewrite [hE.anT'] | rewrite [hE.anF'])); cbv)); (repeat first | refine ⟨(fun h => absurd h Bool.false_ne_true), ?_⟩ | refine ⟨(hE.o (by simp only [Ob.den, hE.e_iN, hE.e_tn, hE.e_aN, hE.e_sN, hE.e_sI, hE.e_mn] <;> omega)), ?_⟩ | refine ⟨fun _ => (hE.o (by simp only [Ob.den, hE.e_iN, hE.e_tn, hE.e_aN, hE.e_sN, hE.e_sI, hE.e_mn] <;> omega)), ?_⟩ | refine ⟨fun h => h, ?_⟩ | refine ⟨fun _ => rfl, ?_⟩ | refine ⟨fun _ h => h, ?_⟩ | refine ⟨fun _ _ => True.intro, ?_⟩ | refine ⟨fun _ h => absurd h Bool.false_ne_true, ?_⟩ | refine ⟨fun _ => True.intro, ?_⟩ | refine ⟨fun _ _ => rfl, ?_⟩ | refine ⟨(fun h => Bool.noConfusion h), ?_⟩ | refine ⟨True.intro, ?_⟩)
          obtain ⟨rfl, rfl⟩ := hno fun i hi => hs i (by omega)
          exact ct_flat [] rfl ⟨fitU_refl _, fitU_refl _, trivial⟩
  · rw [bfalse fun e => h0 (hb.1 e)]
    cbv; (repeat ((first | rewrite [hE.ntT] | rewrite [hE.ntF] | rewrite [hE.pkT] | rewrite [hE.pkF] | rewrite [hE.anT] | rewrite [hE.anF] | rewrite [hE.anT'] | rewrite [hE.anF']); (repeat (first | rewrite [hE.ntT] | rewrite [hE.ntF] | rewrite [hE.pkT] | rewrite [hE.pkF] | rewrite [hE.anT] | rewrite [hE.anF] | rewrite [hE.anT'] | rewrite [hE.anF'])); cbv)); (repeat first | refine ⟨(fun h => absurd h Bool.false_ne_true), ?_⟩ | refine ⟨(hE.o (by simp only [Ob.den, hE.e_iN, hE.e_tn, hE.e_aN, hE.e_sN, hE.e_sI, hE.e_mn] <;> omega)), ?_⟩ | refine ⟨fun _ => (hE.o (by simp only [Ob.den, hE.e_iN, hE.e_tn, hE.e_aN, hE.e_sN, hE.e_sI, hE.e_mn] <;> omega)), ?_⟩ | refine ⟨fun h => h, ?_⟩ | refine ⟨fun _ => rfl, ?_⟩ | refine ⟨fun _ h => h, ?_⟩ | refine ⟨fun _ _ => True.intro, ?_⟩ | refine ⟨fun _ h => absurd h Bool.false_ne_true, ?_⟩ | refine ⟨fun _ => True.intro, ?_⟩ | refine ⟨fun _ _ => rfl, ?_⟩ | refine ⟨(fun h => Bool.noConfusion h), ?_⟩ | refine ⟨True.intro, ?_⟩)
    cases hg with
    | wrong h => exact ct_flat [] rfl ⟨fitU_refl _, fitU_refl _, trivial⟩
    | name h => exact absurd h h0
    | there h => exact absurd h h0
    | none h => exact absurd h h0
def delF {α : Type} (p : Nat) (f : Nat → α) (i : Nat) : α := if i < p then f i else f (i + 1)
theorem ct54 (o : Tg) (n : Nat) (nm : Nat → ByteArray) (id : Nat → Int) (hn : n ≤ 100000) (s : ByteArray) (p : Nat) (hp : p < n) (hs : ∀ i, i < n → (nm i = s ↔ i = p)) (nm' : Nat → ByteArray) (id' : Nat → Int) (ha : ∀ i, nm' i = delF p nm i) (hb : ∀ i, id' i = delF p id i) :
    CT Go.Proofs.Try.prog 54 [catS o n nm id, strV s] [] (catS (.new 100) (n - 1) nm' id') [] := by
  have hlo : ∀ i, i < p → [U.sc (.string (nm' i)), U.sc (.int .u64 (id' i))] = [U.sc (.string (nm i)), U.sc (.int .u64 (id i))] := fun i hi => by rw [ha, hb]; unfold delF; rw [if_pos hi, if_pos hi]
  have hhi : ∀ i, p ≤ i → [U.sc (.string (nm' i)), U.sc (.int .u64 (id' i))] = [U.sc (.string (nm (i + 1))), U.sc (.int .u64 (id (i + 1)))] := fun i hi => by rw [ha, hb]; unfold delF; simp only [show ¬ i < p by omega, if_false]
  obtain ⟨h, hh⟩ : ∃ h : Nat → List U, h = fun i => [U.sc (.string (nm' i)), U.sc (.int .u64 (id' i))] := ⟨_, rfl⟩
  refine enter54 rfl rfl ?_
  intro ob ib ic sb cat iu nt an be pk wr tn iN aN sN lN eN bt sub sl rn ofB mn dc dn sI X hE hX
  cbv
  refine loop_at hE hX tabOK (by kernel_rfl) funcsOK rfl (α := Nat × Nat) (fun ⟨k, m⟩ => (sets (pad 28) [(0, catS o n nm id), (1, strV s), (5, .sr 0 2 0 m), (6, scI .i64 (iN k))], [.arr 100 2 m h])) (fun a => a.1 ≤ n ∧ ((a.1 ≤ p ∧ a.2 = a.1) ∨ (p < a.1 ∧ a.2 + 1 = a.1))) (fun a => n - a.1) (0, 0) ⟨by omega, .inl ⟨by omega, rfl⟩⟩ ?_ ?_
  · exact ⟨[none], [], ⟨rfl, rfl, rfl, rfl, by (cbv <;> (repeat' first | exact True.intro | exact ⟨.inr trivial, fun _ _ => rfl⟩ | exact rfl | exact fun _ _ => rfl | refine And.intro ?_ ?_ | rw [hE.iN0] | rw [hE.e_aN]))⟩, by (cbv <;> (repeat' first | exact True.intro | exact ⟨.inr trivial, fun _ _ => rfl⟩ | exact rfl | exact fun _ _ => rfl | refine And.intro ?_ ?_ | rw [hE.iN0] | rw [hE.e_aN]))⟩
  · rintro ⟨k, m⟩ ⟨hk, hd⟩
    dsimp only at hk hd
    by_cases hkn : k < n
    · have hc : ic .lss (iN k) (iN n) = true := by rw [hE.ltN]; exact decide_eq_true hkn
      have hi := hE.incN (a := k) (by omega)
      by_cases h3 : k = p
      · have h4 : sb .neq (nm k) s = false := by rw [hE.sneq]; exact decide_eq_false (by rw [(hs k hkn).2 h3]; simp)
        cbv; (repeat ((first | rewrite [hc] | rewrite [h4] | rewrite [hi] | rewrite [hE.tnN] | rewrite [hE.ntT] | rewrite [hE.ntF] | rewrite [hE.pkT] | rewrite [hE.pkF] | rewrite [hE.anT] | rewrite [hE.anF] | rewrite [hE.anT'] | rewrite [hE.anF']); (repeat (first | rewrite [hc] | rewrite [h4] | rewrite [hi] | rewrite [hE.tnN] | rewrite [hE.ntT] | rewrite [hE.ntF] | rewrite [hE.pkT] | rewrite [hE.pkF] | rewrite [hE.anT] | rewrite [hE.anF] | rewrite [hE.anT'] | rewrite [hE.anF'])); cbv)); (repeat first | refine ⟨(fun h => absurd h Bool.false_ne_true), ?_⟩ | refine ⟨(hE.o (by simp only [Ob.den, hE.e_iN, hE.e_tn, hE.e_aN, hE.e_sN, hE.e_sI, hE.e_mn] <;> omega)), ?_⟩ | refine ⟨fun _ => (hE.o (by simp only [Ob.den, hE.e_iN, hE.e_tn, hE.e_aN, hE.e_sN, hE.e_sI, hE.e_mn] <;> omega)), ?_⟩ | refine ⟨fun h => h, ?_⟩ | refine ⟨fun _ => rfl, ?_⟩ | refine ⟨fun _ h => h, ?_⟩ | refine ⟨fun _ _ => True.intro, ?_⟩ | refine ⟨fun _ h => absurd h Bool.false_ne_true, ?_⟩ | refine ⟨fun _ => True.intro, ?_⟩ | refine ⟨fun _ _ => rfl, ?_⟩ | refine ⟨(fun h => Bool.noConfusion h), ?_⟩ | refine ⟨True.intro, ?_⟩)
        exact ⟨(k + 1, m), ⟨by dsimp only; omega, .inr ⟨by dsimp only; omega, by dsimp only; omega⟩⟩, by dsimp only; omega, [some 0], [], ⟨rfl, rfl, rfl, rfl, by (cbv <;> (repeat' first | exact True.intro | exact ⟨.inr trivial, fun _ _ => rfl⟩ | exact rfl | exact fun _ _ => rfl | refine And.intro ?_ ?_ | rw [hE.iN0] | rw [hE.e_aN]))⟩, by (cbv <;> (repeat' first | exact True.intro | exact ⟨.inr trivial, fun _ _ => rfl⟩ | exact rfl | exact fun _ _ => rfl | refine And.intro ?_ ?_ | rw [hE.iN0] | rw [hE.e_aN]))⟩
      · have h4 : sb .neq (nm k) s = true := by rw [hE.sneq]; exact decide_eq_true fun e => h3 ((hs k hkn).1 e)
        cbv; (repeat ((first | rewrite [hc] | rewrite [h4] | rewrite [hi] | rewrite [hE.tnN] | rewrite [hE.ntT] | rewrite [hE.ntF] | rewrite [hE.pkT] | rewrite [hE.pkF] | rewrite [hE.anT] | rewrite [hE.anF] | rewrite [hE.anT'] | rewrite [hE.anF']); (repeat (first | rewrite [hc] | rewrite [h4] | rewrite [hi] | rewrite [hE.tnN] | rewrite [hE.ntT] | rewrite [hE.ntF] | rewrite [hE.pkT] | rewrite [hE.pkF] | rewrite [hE.anT] | rewrite [hE.anF] | rewrite [hE.anT'] | rewrite [hE.anF'])); cbv)); (repeat first | refine ⟨(fun h => absurd h Bool.false_ne_true), ?_⟩ | refine ⟨(hE.o (by simp only [Ob.den, hE.e_iN, hE.e_tn, hE.e_aN, hE.e_sN, hE.e_sI, hE.e_mn] <;> omega)), ?_⟩ | refine ⟨fun _ => (hE.o (by simp only [Ob.den, hE.e_iN, hE.e_tn, hE.e_aN, hE.e_sN, hE.e_sI, hE.e_mn] <;> omega)), ?_⟩ | refine ⟨fun h => h, ?_⟩ | refine ⟨fun _ => rfl, ?_⟩ | refine ⟨fun _ h => h, ?_⟩ | refine ⟨fun _ _ => True.intro, ?_⟩ | refine ⟨fun _ h => absurd h Bool.false_ne_true, ?_⟩ | refine ⟨fun _ => True.intro, ?_⟩ | refine ⟨fun _ _ => rfl, ?_⟩ | refine ⟨(fun h => Bool.noConfusion h), ?_⟩ | refine ⟨True.intro, ?_⟩)
        have hrow : h m = [U.sc (.string (nm k)), U.sc (.int .u64 (id k))] := by
          rw [hh]
          rcases hd with ⟨h5, rfl⟩ | ⟨h5, h6⟩
          · exact hlo m (by omega)
          · subst h6; exact hhi m (by omega)
        exact ⟨(k + 1, m + 1), ⟨by dsimp only; omega, by dsimp only; omega⟩, by dsimp only; omega, [some 2], [], ⟨rfl, rfl, rfl, rfl, ⟨rfl, rfl, rfl, by rw [hE.e_aN], hE.app1 hrow⟩, trivial⟩, by (cbv <;> (repeat' first | exact True.intro | exact ⟨.inr trivial, fun _ _ => rfl⟩ | exact rfl | exact fun _ _ => rfl | refine And.intro ?_ ?_ | rw [hE.iN0] | rw [hE.e_aN]))⟩
    · have hc : ic .lss (iN k) (iN n) = false := by rw [hE.ltN]; exact decide_eq_false hkn
      obtain rfl : k = n := by omega
      obtain rfl : m = k - 1 := by omega
      cbv; (repeat ((first | rewrite [hc] | rewrite [hE.ntT] | rewrite [hE.ntF] | rewrite [hE.pkT] | rewrite [hE.pkF] | rewrite [hE.anT] | rewrite [hE.anF] | rewrite [hE.anT'] | rewrite [hE.anF']); (repeat (first | rewrite [hc] | rewrite [hE.ntT] | rewrite [hE.ntF] | rewrite [hE.pkT] | rewrite [hE.pkF] | rewrite [hE.anT] | rewrite [hE.anF] | rewrite [hE.anT'] | rewrite [hE.anF'])); cbv)); (repeat first | refine ⟨(fun h => absurd h Bool.false_ne_true), ?_⟩ | refine ⟨(hE.o (by simp only [Ob.den, hE.e_iN, hE.e_tn, hE.e_aN, hE.e_sN, hE.e_sI, hE.e_mn] <;> omega)), ?_⟩ | refine ⟨fun _ => (hE.o (by simp only [Ob.den, hE.e_iN, hE.e_tn, hE.e_aN, hE.e_sN, hE.e_sI, hE.e_mn] <;> omega)), ?_⟩ | refine ⟨fun h => h, ?_⟩ | refine ⟨fun _ => rfl, ?_⟩ | refine ⟨fun _ h => h, ?_⟩ | refine ⟨fun _ _ => True.intro, ?_⟩ | refine ⟨fun _ h => absurd h Bool.false_ne_true, ?_⟩ | refine ⟨fun _ => True.intro, ?_⟩ | refine ⟨fun _ _ => rfl, ?_⟩ | refine ⟨(fun h => Bool.noConfusion h), ?_⟩ | refine ⟨True.intro, ?_⟩)
      exact ct_flat [0] rfl ⟨rfl, rfl, rfl, rfl, rfl, by omega, fun i _ => by rw [Nat.zero_add, hh]⟩
end Ytohkcdfjpgdfbaa
end
section
open Go Am
set_option maxRecDepth 100000
set_option maxHeartbeats 4000000
set_option linter.unusedVariables false
set_option linter.unusedSimpArgs false
namespace Ytohkcdfjpgdfbaa
theorem ct22 (o : Tg) (n : Nat) (nm : Nat → ByteArray) (id : Nat → Int) (hn : n ≤ 100000) (s : ByteArray) (x : Int) (e : Int) (m : Nat) (nm' : Nat → ByteArray) (id' : Nat → Int) (hr : BindR n nm id s x e m nm' id') :
    CT Go.Proofs.Try.prog 22 [catS o n nm id, strV s, scI .u64 x] [] (.tp [catS (.new 100) m nm' id', scI .i64 e]) [] := by
  refine enter22 rfl rfl ?_
  intro ob ib ic sb cat iu nt an be pk wr tn iN aN sN lN eN bt sub sl rn ofB mn dc dn sI X hE hX
  cbv
  have e1 : ic .eql 2 0 = false := by rw [hE.eql]; rfl
  have e2 : ic .neq 2 80 = true := by rw [hE.neq]; rfl
  have e3 : ic .eql 170 0 = false := by rw [hE.eql]; rfl
  have e4 : ic .neq 170 80 = true := by rw [hE.neq]; rfl
  have e5 : ic .eql 0 0 = true := by rw [hE.eql]; rfl
  have e6 : ic .eql 80 0 = false := by rw [hE.eql]; rfl
  have e7 : ic .neq 80 80 = false := by rw [hE.neq]; rfl
  cases hr with
  | wrong _ _ h =>
    refine call_ct hX [] [] (ct20 o n nm id hn s _ _ (.wrong h)) (fits_nil ⟨fitU_refl _, fitU_refl _, trivial⟩) rfl trivial ?_
    cbv; (repeat ((first | rewrite [e1] | rewrite [e2] | rewrite [hE.ntT] | rewrite [hE.ntF] | rewrite [hE.pkT] | rewrite [hE.pkF] | rewrite [hE.anT] | rewrite [hE.anF] | rewrite [hE.anT'] | rewrite [hE.anF']); (repeat (first | rewrite [e1] | rewrite [e2] | rewrite [hE.ntT] | rewrite [hE.ntF] | rewrite [hE.pkT] | rewrite [hE.pkF] | rewrite [hE.anT] | rewrite [hE.anF] | rewrite [hE.anT'] | rewrite [hE.anF'])); cbv)); (repeat first | refine ⟨(fun h => absurd h Bool.false_ne_true), ?_⟩ | refine ⟨(hE.o (by simp only [Ob.den, hE.e_iN, hE.e_tn, hE.e_aN, hE.e_sN, hE.e_sI, hE.e_mn] <;> omega)), ?_⟩ | refine ⟨fun _ => (hE.o (by simp only [Ob.den, hE.e_iN, hE.e_tn, hE.e_aN, hE.e_sN, hE.e_sI, hE.e_mn] <;> omega)), ?_⟩ | refine ⟨fun h => h, ?_⟩ | refine ⟨fun _ => rfl, ?_⟩ | refine ⟨fun _ h => h, ?_⟩ | refine ⟨fun _ _ => True.intro, ?_⟩ | refine ⟨fun _ h => absurd h Bool.false_ne_true, ?_⟩ | refine ⟨fun _ => True.intro, ?_⟩ | refine ⟨fun _ _ => rfl, ?_⟩ | refine ⟨(fun h => Bool.noConfusion h), ?_⟩ | refine ⟨True.intro, ?_⟩)
    exact ct_flat [] rfl ⟨rfl, fitU_refl _, trivial⟩
  | name _ _ h h1 =>
    refine call_ct hX [] [] (ct20 o n nm id hn s _ _ (.name h h1)) (fits_nil ⟨fitU_refl _, fitU_refl _, trivial⟩) rfl trivial ?_
    cbv; (repeat ((first | rewrite [e3] | rewrite [e4] | rewrite [hE.ntT] | rewrite [hE.ntF] | rewrite [hE.pkT] | rewrite [hE.pkF] | rewrite [hE.anT] | rewrite [hE.anF] | rewrite [hE.anT'] | rewrite [hE.anF']); (repeat (first | rewrite [e3] | rewrite [e4] | rewrite [hE.ntT] | rewrite [hE.ntF] | rewrite [hE.pkT] | rewrite [hE.pkF] | rewrite [hE.anT] | rewrite [hE.anF] | rewrite [hE.anT'] | rewrite [hE.anF'])); cbv)); (repeat first | refine ⟨(fun h => absurd h Bool.false_ne_true), ?_⟩ | refine ⟨(hE.o (by simp only [Ob.den, hE.e_iN, hE.e_tn, hE.e_aN, hE.e_sN, hE.e_sI, hE.e_mn] <;> omega)), ?_⟩ | refine ⟨fun _ => (hE.o (by simp only [Ob.den, hE.e_iN, hE.e_tn, hE.e_aN, hE.e_sN, hE.e_sI, hE.e_mn] <;> omega)), ?_⟩ | refine ⟨fun h => h, ?_⟩ | refine ⟨fun _ => rfl, ?_⟩ | refine ⟨fun _ h => h, ?_⟩ | refine ⟨fun _ _ => True.intro, ?_⟩ | refine ⟨fun _ h => absurd h Bool.false_ne_true, ?_⟩ | refine ⟨fun _ => True.intro, ?_⟩ | refine ⟨fun _ _ => rfl, ?_⟩ | refine ⟨(fun h => Bool.noConfusion h), ?_⟩ | refine ⟨True.intro, ?_⟩)
    exact ct_flat [] rfl ⟨rfl, fitU_refl _, trivial⟩
  | exist _ _ h h1 q hq he =>
    refine call_ct hX [] [] (ct20 o n nm id hn s _ _ (.there h h1 q hq he)) (fits_nil ⟨fitU_refl _, fitU_refl _, trivial⟩) rfl trivial ?_
    cbv; (repeat ((first | rewrite [e5] | rewrite [hE.ntT] | rewrite [hE.ntF] | rewrite [hE.pkT] | rewrite [hE.pkF] | rewrite [hE.anT] | rewrite [hE.anF] | rewrite [hE.anT'] | rewrite [hE.anF']); (repeat (first | rewrite [e5] | rewrite [hE.ntT] | rewrite [hE.ntF] | rewrite [hE.pkT] | rewrite [hE.pkF] | rewrite [hE.anT] | rewrite [hE.anF] | rewrite [hE.anT'] | rewrite [hE.anF'])); cbv)); (repeat first | refine ⟨(fun h => absurd h Bool.false_ne_true), ?_⟩ | refine ⟨(hE.o (by simp only [Ob.den, hE.e_iN, hE.e_tn, hE.e_aN, hE.e_sN, hE.e_sI, hE.e_mn] <;> omega)), ?_⟩ | refine ⟨fun _ => (hE.o (by simp only [Ob.den, hE.e_iN, hE.e_tn, hE.e_aN, hE.e_sN, hE.e_sI, hE.e_mn] <;> omega)), ?_⟩ | refine ⟨fun h => h, ?_⟩ | refine ⟨fun _ => rfl, ?_⟩ | refine ⟨fun _ h => h, ?_⟩ | refine ⟨fun _ _ => True.intro, ?_⟩ | refine ⟨fun _ h => absurd h Bool.false_ne_true, ?_⟩ | refine ⟨fun _ => True.intro, ?_⟩ | refine ⟨fun _ _ => rfl, ?_⟩ | refine ⟨(fun h => Bool.noConfusion h), ?_⟩ | refine ⟨True.intro, ?_⟩)
    exact ct_flat [] rfl ⟨rfl, fitU_refl _, trivial⟩
  | arg _ _ h h1 hne hx =>
    refine call_ct hX [] [] (ct20 o n nm id hn s _ _ (.none h h1 hne)) (fits_nil ⟨fitU_refl _, fitU_refl _, trivial⟩) rfl trivial ?_
    cbv; (repeat ((first | rewrite [e6] | rewrite [e7] | rewrite [hE.ntT] | rewrite [hE.ntF] | rewrite [hE.pkT] | rewrite [hE.pkF] | rewrite [hE.anT] | rewrite [hE.anF] | rewrite [hE.anT'] | rewrite [hE.anF']); (repeat (first | rewrite [e6] | rewrite [e7] | rewrite [hE.ntT] | rewrite [hE.ntF] | rewrite [hE.pkT] | rewrite [hE.pkF] | rewrite [hE.anT] | rewrite [hE.anF] | rewrite [hE.anT'] | rewrite [hE.anF'])); cbv)); (repeat first | refine ⟨(fun h => absurd h Bool.false_ne_true), ?_⟩ | refine ⟨(hE.o (by simp only [Ob.den, hE.e_iN, hE.e_tn, hE.e_aN, hE.e_sN, hE.e_sI, hE.e_mn] <;> omega)), ?_⟩ | refine ⟨fun _ => (hE.o (by simp only [Ob.den, hE.e_iN, hE.e_tn, hE.e_aN, hE.e_sN, hE.e_sI, hE.e_mn] <;> omega)), ?_⟩ | refine ⟨fun h => h, ?_⟩ | refine ⟨fun _ => rfl, ?_⟩ | refine ⟨fun _ h => h, ?_⟩ | refine ⟨fun _ _ => True.intro, ?_⟩ | refine ⟨fun _ h => absurd h Bool.false_ne_true, ?_⟩ | refine ⟨fun _ => True.intro, ?_⟩ | refine ⟨fun _ _ => rfl, ?_⟩ | refine ⟨(fun h => Bool.noConfusion h), ?_⟩ | refine ⟨True.intro, ?_⟩)
    refine loop_at hE hX tabOK (by kernel_rfl) funcsOK rfl (α := Nat) (fun k => (sets (pad 42) [(0, catS o n nm id), (1, strV s), (2, scI .u64 x), (10, scI .i64 (iN k))], [])) (fun k => k ≤ n ∧ ∀ i, i < k → id i ≠ x) (fun k => n - k) 0 ⟨by omega, fun i hi => by omega⟩ ?_ ?_
    · exact ⟨[], [], ⟨rfl, rfl, rfl, rfl, trivial⟩, by (cbv <;> (repeat' first | exact True.intro | exact ⟨.inr trivial, fun _ _ => rfl⟩ | exact rfl | exact fun _ _ => rfl | refine And.intro ?_ ?_ | rw [hE.iN0] | rw [hE.e_aN]))⟩
    · rintro k ⟨hk, hs⟩
      by_cases hkn : k < n
      · have hc : ic .lss (iN k) (iN n) = true := by rw [hE.ltN]; exact decide_eq_true hkn
        have hi := hE.incN (a := k) (by omega)
        by_cases h3 : id k = x
        · have h4 : ic .eql (id k) x = true := by rw [hE.eql]; exact decide_eq_true h3
          cbv; (repeat ((first | rewrite [hc] | rewrite [h4] | rewrite [hE.tnN] | rewrite [hE.ntT] | rewrite [hE.ntF] | rewrite [hE.pkT] | rewrite [hE.pkF] | rewrite [hE.anT] | rewrite [hE.anF] | rewrite [hE.anT'] | rewrite [hE.anF']); (repeat (first | rewrite [hc] | rewrite [h4] | rewrite [hE.tnN] | rewrite [hE.ntT] | rewrite [hE.ntF] | rewrite [hE.pkT] | rewrite [hE.pkF] | rewrite [hE.anT] | rewrite [hE.anF] | rewrite [hE.anT'] | rewrite [hE.anF'])); cbv)); (repeat first | refine ⟨(fun h => absurd h Bool.false_ne_true), ?_⟩ | refine ⟨(hE.o (by simp only [Ob.den, hE.e_iN, hE.e_tn, hE.e_aN, hE.e_sN, hE.e_sI, hE.e_mn] <;> omega)), ?_⟩ | refine ⟨fun _ => (hE.o (by simp only [Ob.den, hE.e_iN, hE.e_tn, hE.e_aN, hE.e_sN, hE.e_sI, hE.e_mn] <;> omega)), ?_⟩ | refine ⟨fun h => h, ?_⟩ | refine ⟨fun _ => rfl, ?_⟩ | refine ⟨fun _ h => h, ?_⟩ | refine ⟨fun _ _ => True.intro, ?_⟩ | refine ⟨fun _ h => absurd h Bool.false_ne_true, ?_⟩ | refine ⟨fun _ => True.intro, ?_⟩ | refine ⟨fun _ _ => rfl, ?_⟩ | refine ⟨(fun h => Bool.noConfusion h), ?_⟩ | refine ⟨True.intro, ?_⟩)
          exact ct_flat [] rfl ⟨rfl, fitU_refl _, trivial⟩
        · have h4 : ic .eql (id k) x = false := by rw [hE.eql]; exact decide_eq_false h3
          cbv; (repeat ((first | rewrite [hc] | rewrite [h4] | rewrite [hi] | rewrite [hE.tnN] | rewrite [hE.ntT] | rewrite [hE.ntF] | rewrite [hE.pkT] | rewrite [hE.pkF] | rewrite [hE.anT] | rewrite [hE.anF] | rewrite [hE.anT'] | rewrite [hE.anF']); (repeat (first | rewrite [hc] | rewrite [h4] | rewrite [hi] | rewrite [hE.tnN] | rewrite [hE.ntT] | rewrite [hE.ntF] | rewrite [hE.pkT] | rewrite [hE.pkF] | rewrite [hE.anT] | rewrite [hE.anF] | rewrite [hE.anT'] | rewrite [hE.anF'])); cbv)); (repeat first | refine ⟨(fun h => absurd h Bool.false_ne_true), ?_⟩ | refine ⟨(hE.o (by simp only [Ob.den, hE.e_iN, hE.e_tn, hE.e_aN, hE.e_sN, hE.e_sI, hE.e_mn] <;> omega)), ?_⟩ | refine ⟨fun _ => (hE.o (by simp only [Ob.den, hE.e_iN, hE.e_tn, hE.e_aN, hE.e_sN, hE.e_sI, hE.e_mn] <;> omega)), ?_⟩ | refine ⟨fun h => h, ?_⟩ | refine ⟨fun _ => rfl, ?_⟩ | refine ⟨fun _ h => h, ?_⟩ | refine ⟨fun _ _ => True.intro, ?_⟩ | refine ⟨fun _ h => absurd h Bool.false_ne_true, ?_⟩ | refine ⟨fun _ => True.intro, ?_⟩ | refine ⟨fun _ _ => rfl, ?_⟩ | refine ⟨(fun h => Bool.noConfusion h), ?_⟩ | refine ⟨True.intro, ?_⟩)
          exact ⟨k + 1, ⟨by omega, snoc hs h3⟩, by omega, [], [], ⟨rfl, rfl, rfl, rfl, trivial⟩, by (cbv <;> (repeat' first | exact True.intro | exact ⟨.inr trivial, fun _ _ => rfl⟩ | exact rfl | exact fun _ _ => rfl | refine And.intro ?_ ?_ | rw [hE.iN0] | rw [hE.e_aN]))⟩
      · have hc : ic .lss (iN k) (iN n) = false := by rw [hE.ltN]; exact decide_eq_false hkn
        have h5 : ic .eql x 0 = true := by rw [hE.eql]; exact decide_eq_true (hx.resolve_right fun ⟨i, hi, he⟩ => hs i (by omega) he)
        cbv; (repeat ((first | rewrite [hc] | rewrite [h5] | rewrite [hE.ntT] | rewrite [hE.ntF] | rewrite [hE.pkT] | rewrite [hE.pkF] | rewrite [hE.anT] | rewrite [hE.anF] | rewrite [hE.anT'] | rewrite [hE.anF']); (repeat (first | rewrite [hc] | rewrite [h5] | rewrite [hE.ntT] | rewrite [hE.ntF] | rewrite [hE.pkT] | rewrite [hE.pkF] | rewrite [hE.anT] | rewrite [hE.anF] | rewrite [hE.anT'] | rewrite [hE.anF'])); cbv)); (repeat first | refine ⟨(fun h => absurd h Bool.false_ne_true), ?_⟩ | refine ⟨(hE.o (by simp only [Ob.den, hE.e_iN, hE.e_tn, hE.e_aN, hE.e_sN, hE.e_sI, hE.e_mn] <;> omega)), ?_⟩ | refine ⟨fun _ => (hE.o (by simp only [Ob.den, hE.e_iN, hE.e_tn, hE.e_aN, hE.e_sN, hE.e_sI, hE.e_mn] <;> omega)), ?_⟩ | refine ⟨fun h => h, ?_⟩ | refine ⟨fun _ => rfl, ?_⟩ | refine ⟨fun _ h => h, ?_⟩ | refine ⟨fun _ _ => True.intro, ?_⟩ | refine ⟨fun _ h => absurd h Bool.false_ne_true, ?_⟩ | refine ⟨fun _ => True.intro, ?_⟩ | refine ⟨fun _ _ => rfl, ?_⟩ | refine ⟨(fun h => Bool.noConfusion h), ?_⟩ | refine ⟨True.intro, ?_⟩)
        exact ct_flat [] rfl ⟨rfl, fitU_refl _, trivial⟩
  | ok _ _ h h1 hne hx hxn p hp hs ha hb' =>
    refine call_ct hX [] [] (ct20 o n nm id hn s _ _ (.none h h1 hne)) (fits_nil ⟨fitU_refl _, fitU_refl _, trivial⟩) rfl trivial ?_
    cbv; (repeat ((first | rewrite [e6] | rewrite [e7] | rewrite [hE.ntT] | rewrite [hE.ntF] | rewrite [hE.pkT] | rewrite [hE.pkF] | rewrite [hE.anT] | rewrite [hE.anF] | rewrite [hE.anT'] | rewrite [hE.anF']); (repeat (first | rewrite [e6] | rewrite [e7] | rewrite [hE.ntT] | rewrite [hE.ntF] | rewrite [hE.pkT] | rewrite [hE.pkF] | rewrite [hE.anT] | rewrite [hE.anF] | rewrite [hE.anT'] | rewrite [hE.anF'])); cbv)); (repeat first | refine ⟨(fun h => absurd h Bool.false_ne_true), ?_⟩ | refine ⟨(hE.o (by simp only [Ob.den, hE.e_iN, hE.e_tn, hE.e_aN, hE.e_sN, hE.e_sI, hE.e_mn] <;> omega)), ?_⟩ | refine ⟨fun _ => (hE.o (by simp only [Ob.den, hE.e_iN, hE.e_tn, hE.e_aN, hE.e_sN, hE.e_sI, hE.e_mn] <;> omega)), ?_⟩ | refine ⟨fun h => h, ?_⟩ | refine ⟨fun _ => rfl, ?_⟩ | refine ⟨fun _ h => h, ?_⟩ | refine ⟨fun _ _ => True.intro, ?_⟩ | refine ⟨fun _ h => absurd h Bool.false_ne_true, ?_⟩ | refine ⟨fun _ => True.intro, ?_⟩ | refine ⟨fun _ _ => rfl, ?_⟩ | refine ⟨(fun h => Bool.noConfusion h), ?_⟩ | refine ⟨True.intro, ?_⟩)
    refine loop_at hE hX tabOK (by kernel_rfl) funcsOK rfl (α := Nat) (fun k => (sets (pad 42) [(0, catS o n nm id), (1, strV s), (2, scI .u64 x), (10, scI .i64 (iN k))], [])) (fun k => k ≤ n) (fun k => n - k) 0 (by omega) ?_ ?_
    · exact ⟨[], [], ⟨rfl, rfl, rfl, rfl, trivial⟩, by (cbv <;> (repeat' first | exact True.intro | exact ⟨.inr trivial, fun _ _ => rfl⟩ | exact rfl | exact fun _ _ => rfl | refine And.intro ?_ ?_ | rw [hE.iN0] | rw [hE.e_aN]))⟩
    · rintro k hk
      by_cases hkn : k < n
      · have hc : ic .lss (iN k) (iN n) = true := by rw [hE.ltN]; exact decide_eq_true hkn
        have hi := hE.incN (a := k) (by omega)
        have h4 : ic .eql (id k) x = false := by rw [hE.eql]; exact decide_eq_false (hxn k hkn)
        cbv; (repeat ((first | rewrite [hc] | rewrite [h4] | rewrite [hi] | rewrite [hE.tnN] | rewrite [hE.ntT] | rewrite [hE.ntF] | rewrite [hE.pkT] | rewrite [hE.pkF] | rewrite [hE.anT] | rewrite [hE.anF] | rewrite [hE.anT'] | rewrite [hE.anF']); (repeat (first | rewrite [hc] | rewrite [h4] | rewrite [hi] | rewrite [hE.tnN] | rewrite [hE.ntT] | rewrite [hE.ntF] | rewrite [hE.pkT] | rewrite [hE.pkF] | rewrite [hE.anT] | rewrite [hE.anF] | rewrite [hE.anT'] | rewrite [hE.anF'])); cbv)); (repeat first | refine ⟨(fun h => absurd h Bool.false_ne_true), ?_⟩ | refine ⟨(hE.o (by simp only [Ob.den, hE.e_iN, hE.e_tn, hE.e_aN, hE.e_sN, hE.e_sI, hE.e_mn] <;> omega)), ?_⟩ | refine ⟨fun _ => (hE.o (by simp only [Ob.den, hE.e_iN, hE.e_tn, hE.e_aN, hE.e_sN, hE.e_sI, hE.e_mn] <;> omega)), ?_⟩ | refine ⟨fun h => h, ?_⟩ | refine ⟨fun _ => rfl, ?_⟩ | refine ⟨fun _ h => h, ?_⟩ | refine ⟨fun _ _ => True.intro, ?_⟩ | refine ⟨fun _ h => absurd h Bool.false_ne_true, ?_⟩ | refine ⟨fun _ => True.intro, ?_⟩ | refine ⟨fun _ _ => rfl, ?_⟩ | refine ⟨(fun h => Bool.noConfusion h), ?_⟩ | refine ⟨True.intro, ?_⟩)
        exact ⟨k + 1, by omega, by omega, [], [], ⟨rfl, rfl, rfl, rfl, trivial⟩, by (cbv <;> (repeat' first | exact True.intro | exact ⟨.inr trivial, fun _ _ => rfl⟩ | exact rfl | exact fun _ _ => rfl | refine And.intro ?_ ?_ | rw [hE.iN0] | rw [hE.e_aN]))⟩
      · have hc : ic .lss (iN k) (iN n) = false := by rw [hE.ltN]; exact decide_eq_false hkn
        have h5 : ic .eql x 0 = false := by rw [hE.eql]; exact decide_eq_false hx
        cbv; (repeat ((first | rewrite [hc] | rewrite [h5] | rewrite [hE.ntT] | rewrite [hE.ntF] | rewrite [hE.pkT] | rewrite [hE.pkF] | rewrite [hE.anT] | rewrite [hE.anF] | rewrite [hE.anT'] | rewrite [hE.anF']); (repeat (first | rewrite [hc] | rewrite [h5] | rewrite [hE.ntT] | rewrite [hE.ntF] | rewrite [hE.pkT] | rewrite [hE.pkF] | rewrite [hE.anT] | rewrite [hE.anF] | rewrite [hE.anT'] | rewrite [hE.anF'])); cbv)); (repeat first | refine ⟨(fun h => absurd h Bool.false_ne_true), ?_⟩ | refine ⟨(hE.o (by simp only [Ob.den, hE.e_iN, hE.e_tn, hE.e_aN, hE.e_sN, hE.e_sI, hE.e_mn] <;> omega)), ?_⟩ | refine ⟨fun _ => (hE.o (by simp only [Ob.den, hE.e_iN, hE.e_tn, hE.e_aN, hE.e_sN, hE.e_sI, hE.e_mn] <;> omega)), ?_⟩ | refine ⟨fun h => h, ?_⟩ | refine ⟨fun _ => rfl, ?_⟩ | refine ⟨fun _ h => h, ?_⟩ | refine ⟨fun _ _ => True.intro, ?_⟩ | refine ⟨fun _ h => absurd h Bool.false_ne_true, ?_⟩ | refine ⟨fun _ => True.intro, ?_⟩ | refine ⟨fun _ _ => rfl, ?_⟩ | refine ⟨(fun h => Bool.noConfusion h), ?_⟩ | refine ⟨True.intro, ?_⟩)
        refine call_ct hX [] [] (ct52 o n nm id hn s x p hp (fun i hi => by
          have h6 := hs i hi
          by_cases h7 : i < p
          · rw [decide_eq_true h7] at h6
            rw [bL_asymm h6]; exact (decide_eq_false (by omega)).symm
          · rw [decide_eq_false h7] at h6
            rw [decide_eq_true (show p ≤ i by omega)]
            rcases bL_tri (nm i) s with h8 | h8 | h8
            · rw [h8] at h6; cases h6
            · exact absurd h8 (hne i hi)
            · exact h8) nm' id' ha hb') (fits_nil ⟨fitU_refl _, ⟨fitU_refl _, fitU_refl _, trivial⟩, trivial⟩) rfl trivial ?_
        cbv; (repeat ((first | rewrite [hE.ntT] | rewrite [hE.ntF] | rewrite [hE.pkT] | rewrite [hE.pkF] | rewrite [hE.anT] | rewrite [hE.anF] | rewrite [hE.anT'] | rewrite [hE.anF']); (repeat (first | rewrite [hE.ntT] | rewrite [hE.ntF] | rewrite [hE.pkT] | rewrite [hE.pkF] | rewrite [hE.anT] | rewrite [hE.anF] | rewrite [hE.anT'] | rewrite [hE.anF'])); cbv)); (repeat first | refine ⟨(fun h => absurd h Bool.false_ne_true), ?_⟩ | refine ⟨(hE.o (by simp only [Ob.den, hE.e_iN, hE.e_tn, hE.e_aN, hE.e_sN, hE.e_sI, hE.e_mn] <;> omega)), ?_⟩ | refine ⟨fun _ => (hE.o (by simp only [Ob.den, hE.e_iN, hE.e_tn, hE.e_aN, hE.e_sN, hE.e_sI, hE.e_mn] <;> omega)), ?_⟩ | refine ⟨fun h => h, ?_⟩ | refine ⟨fun _ => rfl, ?_⟩ | refine ⟨fun _ h => h, ?_⟩ | refine ⟨fun _ _ => True.intro, ?_⟩ | refine ⟨fun _ h => absurd h Bool.false_ne_true, ?_⟩ | refine ⟨fun _ => True.intro, ?_⟩ | refine ⟨fun _ _ => rfl, ?_⟩ | refine ⟨(fun h => Bool.noConfusion h), ?_⟩ | refine ⟨True.intro, ?_⟩)
        exact ct_flat [] rfl ⟨fitU_refl _, fitU_refl _, trivial⟩
end Ytohkcdfjpgdfbaa
end
section
open Go Am
set_option maxRecDepth 100000
set_option maxHeartbeats 4000000
set_option linter.unusedVariables false
set_option linter.unusedSimpArgs false
namespace Ytohkcdfjpgdfbaa
inductive UnbR (n : Nat) (nm : Nat → ByteArray) (id : Nat → Int) (s : ByteArray) : Int → Nat → (Nat → ByteArray) → (Nat → Int) → Prop
  | fail (v e a b) (hg : GetR n nm id s v e) (he : e ≠ 0) : UnbR n nm id s e 0 a b
  | ok (a b) (h : Rt n nm id) (hn : nmB s = true) (p : Nat) (hp : p < n) (e : nm p = s) (ha : ∀ i, a i = delF p nm i) (hb : ∀ i, b i = delF p id i) : UnbR n nm id s 0 (n - 1) a b
theorem unbR_ex (n : Nat) (nm : Nat → ByteArray) (id : Nat → Int) (s : ByteArray) : ∃ e m a b, UnbR n nm id s e m a b := by
  obtain ⟨v, e, hg⟩ := getR_ex n nm id s
  cases hg with
  | wrong h => exact ⟨_, _, nm, id, .fail _ _ _ _ (.wrong h) (by decide)⟩
  | name h hn => exact ⟨_, _, nm, id, .fail _ _ _ _ (.name h hn) (by decide)⟩
  | none h hn hne => exact ⟨_, _, nm, id, .fail _ _ _ _ (.none h hn hne) (by decide)⟩
  | there h hn p hp e => exact ⟨_, _, _, _, .ok _ _ h hn p hp e (fun _ => rfl) fun _ => rfl⟩
theorem Rt.same {n : Nat} {nm : Nat → ByteArray} {id : Nat → Int} (h : Rt n nm id) {s : ByteArray} {p q : Nat} (hp : p < n) (hq : q < n) (e : nm p = s) (e' : nm q = s) : q = p := by
  obtain ⟨r, hr, hs⟩ := h.place s
  rw [h.at hr hs hp e, h.at hr hs hq e']
theorem ct24 (o : Tg) (n : Nat) (nm : Nat → ByteArray) (id : Nat → Int) (hn : n ≤ 100000) (s : ByteArray) (e : Int) (m : Nat) (nm' : Nat → ByteArray) (id' : Nat → Int) (hr : UnbR n nm id s e m nm' id') :
    CT Go.Proofs.Try.prog 24 [catS o n nm id, strV s] [] (.tp [catS (.new 100) m nm' id', scI .i64 e]) [] := by
  refine enter24 rfl rfl ?_
  intro ob ib ic sb cat iu nt an be pk wr tn iN aN sN lN eN bt sub sl rn ofB mn dc dn sI X hE hX
  cbv
  cases hr with
  | fail v _ _ _ hg he =>
    refine call_ct hX [] [] (ct20 o n nm id hn s _ _ hg) (fits_nil ⟨fitU_refl _, fitU_refl _, trivial⟩) rfl trivial ?_
    have e1 : ic .neq e 0 = true := by rw [hE.neq]; exact decide_eq_true he
    cbv; (repeat ((first | rewrite [e1] | rewrite [hE.ntT] | rewrite [hE.ntF] | rewrite [hE.pkT] | rewrite [hE.pkF] | rewrite [hE.anT] | rewrite [hE.anF] | rewrite [hE.anT'] | rewrite [hE.anF']); (repeat (first | rewrite [e1] | rewrite [hE.ntT] | rewrite [hE.ntF] | rewrite [hE.pkT] | rewrite [hE.pkF] | rewrite [hE.anT] | rewrite [hE.anF] | rewrite [hE.anT'] | rewrite [hE.anF'])); cbv)); (repeat first | refine ⟨(fun h => absurd h Bool.false_ne_true), ?_⟩ | refine ⟨(hE.o (by simp only [Ob.den, hE.e_iN, hE.e_tn, hE.e_aN, hE.e_sN, hE.e_sI, hE.e_mn] <;> omega)), ?_⟩ | refine ⟨fun _ => (hE.o (by simp only [Ob.den, hE.e_iN, hE.e_tn, hE.e_aN, hE.e_sN, hE.e_sI, hE.e_mn] <;> omega)), ?_⟩ | refine ⟨fun h => h, ?_⟩ | refine ⟨fun _ => rfl, ?_⟩ | refine ⟨fun _ h => h, ?_⟩ | refine ⟨fun _ _ => True.intro, ?_⟩ | refine ⟨fun _ h => absurd h Bool.false_ne_true, ?_⟩ | refine ⟨fun _ => True.intro, ?_⟩ | refine ⟨fun _ _ => rfl, ?_⟩ | refine ⟨(fun h => Bool.noConfusion h), ?_⟩ | refine ⟨True.intro, ?_⟩)
    exact ct_flat [] rfl ⟨rfl, fitU_refl _, trivial⟩
  | ok _ _ h h1 p hp he ha hb =>
    refine call_ct hX [] [] (ct20 o n nm id hn s _ _ (.there h h1 p hp he)) (fits_nil ⟨fitU_refl _, fitU_refl _, trivial⟩) rfl trivial ?_
    have e1 : ic .neq 0 0 = false := by rw [hE.neq]; rfl
    cbv; (repeat ((first | rewrite [e1] | rewrite [hE.ntT] | rewrite [hE.ntF] | rewrite [hE.pkT] | rewrite [hE.pkF] | rewrite [hE.anT] | rewrite [hE.anF] | rewrite [hE.anT'] | rewrite [hE.anF']); (repeat (first | rewrite [e1] | rewrite [hE.ntT] | rewrite [hE.ntF] | rewrite [hE.pkT] | rewrite [hE.pkF] | rewrite [hE.anT] | rewrite [hE.anF] | rewrite [hE.anT'] | rewrite [hE.anF'])); cbv)); (repeat first | refine ⟨(fun h => absurd h Bool.false_ne_true), ?_⟩ | refine ⟨(hE.o (by simp only [Ob.den, hE.e_iN, hE.e_tn, hE.e_aN, hE.e_sN, hE.e_sI, hE.e_mn] <;> omega)), ?_⟩ | refine ⟨fun _ => (hE.o (by simp only [Ob.den, hE.e_iN, hE.e_tn, hE.e_aN, hE.e_sN, hE.e_sI, hE.e_mn] <;> omega)), ?_⟩ | refine ⟨fun h => h, ?_⟩ | refine ⟨fun _ => rfl, ?_⟩ | refine ⟨fun _ h => h, ?_⟩ | refine ⟨fun _ _ => True.intro, ?_⟩ | refine ⟨fun _ h => absurd h Bool.false_ne_true, ?_⟩ | refine ⟨fun _ => True.intro, ?_⟩ | refine ⟨fun _ _ => rfl, ?_⟩ | refine ⟨(fun h => Bool.noConfusion h), ?_⟩ | refine ⟨True.intro, ?_⟩)
    refine call_ct hX [] [] (ct54 o n nm id hn s p hp (fun i hi => ⟨fun e' => h.same hp hi he e', fun e' => by rw [e', he]⟩) nm' id' ha hb) (fits_nil ⟨fitU_refl _, fitU_refl _, trivial⟩) rfl trivial ?_
    cbv; (repeat ((first | rewrite [hE.ntT] | rewrite [hE.ntF] | rewrite [hE.pkT] | rewrite [hE.pkF] | rewrite [hE.anT] | rewrite [hE.anF] | rewrite [hE.anT'] | rewrite [hE.anF']); (repeat (first | rewrite [hE.ntT] | rewrite [hE.ntF] | rewrite [hE.pkT] | rewrite [hE.pkF] | rewrite [hE.anT] | rewrite [hE.anF] | rewrite [hE.anT'] | rewrite [hE.anF'])); cbv)); (repeat first | refine ⟨(fun h => absurd h Bool.false_ne_true), ?_⟩ | refine ⟨(hE.o (by simp only [Ob.den, hE.e_iN, hE.e_tn, hE.e_aN, hE.e_sN, hE.e_sI, hE.e_mn] <;> omega)), ?_⟩ | refine ⟨fun _ => (hE.o (by simp only [Ob.den, hE.e_iN, hE.e_tn, hE.e_aN, hE.e_sN, hE.e_sI, hE.e_mn] <;> omega)), ?_⟩ | refine ⟨fun h => h, ?_⟩ | refine ⟨fun _ => rfl, ?_⟩ | refine ⟨fun _ h => h, ?_⟩ | refine ⟨fun _ _ => True.intro, ?_⟩ | refine ⟨fun _ h => absurd h Bool.false_ne_true, ?_⟩ | refine ⟨fun _ => True.intro, ?_⟩ | refine ⟨fun _ _ => rfl, ?_⟩ | refine ⟨(fun h => Bool.noConfusion h), ?_⟩ | refine ⟨True.intro, ?_⟩)
    exact ct_flat [] rfl ⟨fitU_refl _, fitU_refl _, trivial⟩
theorem ct53 (n : Nat) (f h : Nat → List U) (hn : n ≤ 100000) (p : Nat) (hp : p < n) (z : Int) (hz : IsN z p) (z2 : Int) (hz2 : IsN z2 (p + 1)) (hh : ∀ i, i < n - 1 → h i = if i < p then f i else f (i + 1)) :
    CT Go.Proofs.Try.prog 53 [.sr 0 2 0 n, scI .i64 z, scI .i64 z2] [.arr 75 2 n f] (.u (.sv (.new 75) 2 (n - 1) h)) [.gone] := by
  refine enter53 rfl rfl ?_
  intro ob ib ic sb cat iu nt an be pk wr tn iN aN sN lN eN bt sub sl rn ofB mn dc dn sI X hE hX
  cbv
  have hzz : z = iN p := by rw [hE.e_iN, hz.e]
  have hzz2 : z2 = iN (p + 1) := by rw [hE.e_iN, hz2.e]
  subst hzz hzz2
  have e1 : ic .eql (iN p) (iN (p + 1)) = false := by rw [hE.eqN]; exact decide_eq_false (by omega)
  cbv; (repeat ((first | rewrite [e1] | rewrite [hE.tnN] | rewrite [hE.ntT] | rewrite [hE.ntF] | rewrite [hE.pkT] | rewrite [hE.pkF] | rewrite [hE.anT] | rewrite [hE.anF] | rewrite [hE.anT'] | rewrite [hE.anF']); (repeat (first | rewrite [e1] | rewrite [hE.tnN] | rewrite [hE.ntT] | rewrite [hE.ntF] | rewrite [hE.pkT] | rewrite [hE.pkF] | rewrite [hE.anT] | rewrite [hE.anF] | rewrite [hE.anT'] | rewrite [hE.anF'])); cbv)); (repeat first | refine ⟨(fun h => absurd h Bool.false_ne_true), ?_⟩ | refine ⟨(hE.o (by simp only [Ob.den, hE.e_iN, hE.e_tn, hE.e_aN, hE.e_sN, hE.e_sI, hE.e_mn] <;> omega)), ?_⟩ | refine ⟨fun _ => (hE.o (by simp only [Ob.den, hE.e_iN, hE.e_tn, hE.e_aN, hE.e_sN, hE.e_sI, hE.e_mn] <;> omega)), ?_⟩ | refine ⟨fun h => h, ?_⟩ | refine ⟨fun _ => rfl, ?_⟩ | refine ⟨fun _ h => h, ?_⟩ | refine ⟨fun _ _ => True.intro, ?_⟩ | refine ⟨fun _ h => absurd h Bool.false_ne_true, ?_⟩ | refine ⟨fun _ => True.intro, ?_⟩ | refine ⟨fun _ _ => rfl, ?_⟩ | refine ⟨(fun h => Bool.noConfusion h), ?_⟩ | refine ⟨True.intro, ?_⟩)
  have hm1 : tn (sI (iN n) (iN (p + 1))) = n - (p + 1) := by
    simp only [hE.e_sI, hE.e_tn, hE.e_iN]; omega
  have hm2 : aN p (n - (p + 1)) = n - 1 := by rw [hE.e_aN]; omega
  rw [hm1, hm2]
  refine ct_end ⟨[some 0], [0], ⟨rfl, rfl, rfl, rfl, trivial, trivial⟩, ⟨rfl, rfl, rfl, rfl, rfl, by omega, fun i hi => ?_⟩⟩
  rw [Nat.zero_add, hh i hi]
  simp only [rowsPut, hE.e_lN, hE.e_sN, hE.e_aN, decide_eq_true_eq]
  rw [if_pos hi]
  by_cases h3 : i < p
  · rw [if_pos h3, if_pos h3]
  · rw [if_neg h3, if_neg h3, if_pos (by omega)]
    congr 1; omega
theorem ct23 (o : Tg) (n : Nat) (nm : Nat → ByteArray) (id : Nat → Int) (hn : n ≤ 100000) (s : ByteArray) (e : Int) (m : Nat) (nm' : Nat → ByteArray) (id' : Nat → Int) (hr : UnbR n nm id s e m nm' id') :
    CT Go.Proofs.Try.prog 23 [catS o n nm id, strV s] [] (.tp [catS (.new 75) m nm' id', scI .i64 e]) [] := by
  refine enter23 rfl rfl ?_
  intro ob ib ic sb cat iu nt an be pk wr tn iN aN sN lN eN bt sub sl rn ofB mn dc dn sI X hE hX
  cbv
  cases hr with
  | fail v _ _ _ hg he =>
    refine call_ct hX [] [] (ct19 o n nm id hn s _ _ hg) (fits_nil ⟨fitU_refl _, fitU_refl _, trivial⟩) rfl trivial ?_
    have e1 : ic .neq e 0 = true := by rw [hE.neq]; exact decide_eq_true he
    cbv; (repeat ((first | rewrite [e1] | rewrite [hE.ntT] | rewrite [hE.ntF] | rewrite [hE.pkT] | rewrite [hE.pkF] | rewrite [hE.anT] | rewrite [hE.anF] | rewrite [hE.anT'] | rewrite [hE.anF']); (repeat (first | rewrite [e1] | rewrite [hE.ntT] | rewrite [hE.ntF] | rewrite [hE.pkT] | rewrite [hE.pkF] | rewrite [hE.anT] | rewrite [hE.anF] | rewrite [hE.anT'] | rewrite [hE.anF'])); cbv)); (repeat first | refine ⟨(fun h => absurd h Bool.false_ne_true), ?_⟩ | refine ⟨(hE.o (by simp only [Ob.den, hE.e_iN, hE.e_tn, hE.e_aN, hE.e_sN, hE.e_sI, hE.e_mn] <;> omega)), ?_⟩ | refine ⟨fun _ => (hE.o (by simp only [Ob.den, hE.e_iN, hE.e_tn, hE.e_aN, hE.e_sN, hE.e_sI, hE.e_mn] <;> omega)), ?_⟩ | refine ⟨fun h => h, ?_⟩ | refine ⟨fun _ => rfl, ?_⟩ | refine ⟨fun _ h => h, ?_⟩ | refine ⟨fun _ _ => True.intro, ?_⟩ | refine ⟨fun _ h => absurd h Bool.false_ne_true, ?_⟩ | refine ⟨fun _ => True.intro, ?_⟩ | refine ⟨fun _ _ => rfl, ?_⟩ | refine ⟨(fun h => Bool.noConfusion h), ?_⟩ | refine ⟨True.intro, ?_⟩)
    exact ct_flat [] rfl ⟨rfl, fitU_refl _, trivial⟩
  | ok _ _ h h1 p hp he ha hb =>
    refine call_ct hX [] [] (ct19 o n nm id hn s _ _ (.there h h1 p hp he)) (fits_nil ⟨fitU_refl _, fitU_refl _, trivial⟩) rfl trivial ?_
    have e1 : ic .neq 0 0 = false := by rw [hE.neq]; rfl
    cbv; (repeat ((first | rewrite [e1] | rewrite [hE.ntT] | rewrite [hE.ntF] | rewrite [hE.pkT] | rewrite [hE.pkF] | rewrite [hE.anT] | rewrite [hE.anF] | rewrite [hE.anT'] | rewrite [hE.anF']); (repeat (first | rewrite [e1] | rewrite [hE.ntT] | rewrite [hE.ntF] | rewrite [hE.pkT] | rewrite [hE.pkF] | rewrite [hE.anT] | rewrite [hE.anF] | rewrite [hE.anT'] | rewrite [hE.anF'])); cbv)); (repeat first | refine ⟨(fun h => absurd h Bool.false_ne_true), ?_⟩ | refine ⟨(hE.o (by simp only [Ob.den, hE.e_iN, hE.e_tn, hE.e_aN, hE.e_sN, hE.e_sI, hE.e_mn] <;> omega)), ?_⟩ | refine ⟨fun _ => (hE.o (by simp only [Ob.den, hE.e_iN, hE.e_tn, hE.e_aN, hE.e_sN, hE.e_sI, hE.e_mn] <;> omega)), ?_⟩ | refine ⟨fun h => h, ?_⟩ | refine ⟨fun _ => rfl, ?_⟩ | refine ⟨fun _ h => h, ?_⟩ | refine ⟨fun _ _ => True.intro, ?_⟩ | refine ⟨fun _ h => absurd h Bool.false_ne_true, ?_⟩ | refine ⟨fun _ => True.intro, ?_⟩ | refine ⟨fun _ _ => rfl, ?_⟩ | refine ⟨(fun h => Bool.noConfusion h), ?_⟩ | refine ⟨True.intro, ?_⟩)
    obtain ⟨q, hq, hs⟩ := h.place s
    obtain rfl := h.at hq hs hp he
    obtain ⟨z, hz⟩ : ∃ z : Int, IsN z p := ⟨_, ⟨rfl⟩⟩
    refine call_ct hX [] [] (ct47 o n nm id hn s p hq hs z hz true ⟨fun _ => ⟨hp, he⟩, fun _ => rfl⟩) (fits_nil ⟨fitU_refl _, fitU_refl _, trivial⟩) rfl trivial ?_
    obtain ⟨z2, hz2⟩ : ∃ z2 : Int, IsN z2 (p + 1) := ⟨_, ⟨rfl⟩⟩
    have e2 : ib .add .i64 z 1 = z2 := by rw [hE.add64 (by have := hz.e; omega), hz2.e, hz.e]; rfl
    cbv; (repeat ((first | rewrite [hE.ntT] | rewrite [hE.ntF] | rewrite [hE.pkT] | rewrite [hE.pkF] | rewrite [hE.anT] | rewrite [hE.anF] | rewrite [hE.anT'] | rewrite [hE.anF']); (repeat (first | rewrite [hE.ntT] | rewrite [hE.ntF] | rewrite [hE.pkT] | rewrite [hE.pkF] | rewrite [hE.anT] | rewrite [hE.anF] | rewrite [hE.anT'] | rewrite [hE.anF'])); cbv)); (repeat first | refine ⟨(fun h => absurd h Bool.false_ne_true), ?_⟩ | refine ⟨(hE.o (by simp only [Ob.den, hE.e_iN, hE.e_tn, hE.e_aN, hE.e_sN, hE.e_sI, hE.e_mn] <;> omega)), ?_⟩ | refine ⟨fun _ => (hE.o (by simp only [Ob.den, hE.e_iN, hE.e_tn, hE.e_aN, hE.e_sN, hE.e_sI, hE.e_mn] <;> omega)), ?_⟩ | refine ⟨fun h => h, ?_⟩ | refine ⟨fun _ => rfl, ?_⟩ | refine ⟨fun _ h => h, ?_⟩ | refine ⟨fun _ _ => True.intro, ?_⟩ | refine ⟨fun _ h => absurd h Bool.false_ne_true, ?_⟩ | refine ⟨fun _ => True.intro, ?_⟩ | refine ⟨fun _ _ => rfl, ?_⟩ | refine ⟨(fun h => Bool.noConfusion h), ?_⟩ | refine ⟨True.intro, ?_⟩)
    refine call_ct hX [] [] (ct51 o n (fun i => [.sc (.string (nm i)), .sc (.int .u64 (id i))]) hn) (fits_nil ⟨fitU_refl _, trivial⟩) rfl trivial ?_
    cbv; (repeat ((first | rewrite [e2] | rewrite [hE.ntT] | rewrite [hE.ntF] | rewrite [hE.pkT] | rewrite [hE.pkF] | rewrite [hE.anT] | rewrite [hE.anF] | rewrite [hE.anT'] | rewrite [hE.anF']); (repeat (first | rewrite [e2] | rewrite [hE.ntT] | rewrite [hE.ntF] | rewrite [hE.pkT] | rewrite [hE.pkF] | rewrite [hE.anT] | rewrite [hE.anF] | rewrite [hE.anT'] | rewrite [hE.anF'])); cbv)); (repeat first | refine ⟨(fun h => absurd h Bool.false_ne_true), ?_⟩ | refine ⟨(hE.o (by simp only [Ob.den, hE.e_iN, hE.e_tn, hE.e_aN, hE.e_sN, hE.e_sI, hE.e_mn] <;> omega)), ?_⟩ | refine ⟨fun _ => (hE.o (by simp only [Ob.den, hE.e_iN, hE.e_tn, hE.e_aN, hE.e_sN, hE.e_sI, hE.e_mn] <;> omega)), ?_⟩ | refine ⟨fun h => h, ?_⟩ | refine ⟨fun _ => rfl, ?_⟩ | refine ⟨fun _ h => h, ?_⟩ | refine ⟨fun _ _ => True.intro, ?_⟩ | refine ⟨fun _ h => absurd h Bool.false_ne_true, ?_⟩ | refine ⟨fun _ => True.intro, ?_⟩ | refine ⟨fun _ _ => rfl, ?_⟩ | refine ⟨(fun h => Bool.noConfusion h), ?_⟩ | refine ⟨True.intro, ?_⟩)
    refine call_ct hX [some 0] [] (ct53 n (fun i => [.sc (.string (nm i)), .sc (.int .u64 (id i))]) (fun i => [.sc (.string (nm' i)), .sc (.int .u64 (id' i))]) hn p hp z hz z2 hz2 fun i hi => ?_) ⟨⟨rfl, rfl, rfl, rfl, ?_⟩, ⟨⟨rfl, rfl, rfl, rfl⟩, fitU_refl _, fitU_refl _, trivial⟩, rfl⟩ rfl trivial ?_
    · show [U.sc (.string (nm' i)), U.sc (.int .u64 (id' i))] = _
      rw [ha, hb]
      unfold delF
      split <;> rfl
    · exact ⟨⟨rfl, rfl, rfl, rfl, fun _ _ => rfl⟩, trivial⟩
    · cbv; (repeat ((first | rewrite [hE.ntT] | rewrite [hE.ntF] | rewrite [hE.pkT] | rewrite [hE.pkF] | rewrite [hE.anT] | rewrite [hE.anF] | rewrite [hE.anT'] | rewrite [hE.anF']); (repeat (first | rewrite [hE.ntT] | rewrite [hE.ntF] | rewrite [hE.pkT] | rewrite [hE.pkF] | rewrite [hE.anT] | rewrite [hE.anF] | rewrite [hE.anT'] | rewrite [hE.anF'])); cbv)); (repeat first | refine ⟨(fun h => absurd h Bool.false_ne_true), ?_⟩ | refine ⟨(hE.o (by simp only [Ob.den, hE.e_iN, hE.e_tn, hE.e_aN, hE.e_sN, hE.e_sI, hE.e_mn] <;> omega)), ?_⟩ | refine ⟨fun _ => (hE.o (by simp only [Ob.den, hE.e_iN, hE.e_tn, hE.e_aN, hE.e_sN, hE.e_sI, hE.e_mn] <;> omega)), ?_⟩ | refine ⟨fun h => h, ?_⟩ | refine ⟨fun _ => rfl, ?_⟩ | refine ⟨fun _ h => h, ?_⟩ | refine ⟨fun _ _ => True.intro, ?_⟩ | refine ⟨fun _ h => absurd h Bool.false_ne_true, ?_⟩ | refine ⟨fun _ => True.intro, ?_⟩ | refine ⟨fun _ _ => rfl, ?_⟩ | refine ⟨(fun h => Bool.noConfusion h), ?_⟩ | refine ⟨True.intro, ?_⟩)
      exact ct_flat [] rfl ⟨fitU_refl _, fitU_refl _, trivial⟩
end Ytohkcdfjpgdfbaa
end
section
open Go Am
set_option maxRecDepth 100000
set_option maxHeartbeats 4000000
set_option linter.unusedVariables false
set_option linter.unusedSimpArgs false
namespace Ytohkcdfjpgdfbaa
inductive RenR (n : Nat) (nm : Nat → ByteArray) (id : Nat → Int) (s t : ByteArray) : Int → Nat → (Nat → ByteArray) → (Nat → Int) → Prop
  | wrong (a b) (h : ¬ Rt n nm id) : RenR n nm id s t 2 0 a b
  | name (a b) (h : Rt n nm id) (hn : (nmB s && nmB t) = false) : RenR n nm id s t 170 0 a b
  | none (a b) (h : Rt n nm id) (hs : nmB s = true) (ht : nmB t = true) (hne : ∀ p, p < n → nm p ≠ s) : RenR n nm id s t 80 0 a b
  | exist (a b) (h : Rt n nm id) (hs : nmB s = true) (ht : nmB t = true) (p : Nat) (hp : p < n) (e : nm p = s) (q : Nat) (hq : q < n) (e' : nm q = t) : RenR n nm id s t 81 0 a b
  | ok (a b) (h : Rt n nm id) (hs : nmB s = true) (ht : nmB t = true) (p : Nat) (hp : p < n) (e : nm p = s) (hne : ∀ q, q < n → nm q ≠ t) (q : Nat) (hq : q ≤ n - 1) (hl : ∀ i, i < n - 1 → bL (delF p nm i) t = decide (i < q)) (ha : ∀ i, a i = insF q (delF p nm) t i) (hb : ∀ i, b i = insF q (delF p id) (id p) i) : RenR n nm id s t 0 (n - 1 + 1) a b
theorem Rt.del {n : Nat} {nm : Nat → ByteArray} {id : Nat → Int} (h : Rt n nm id) {p : Nat} (hp : p < n) : Rt (n - 1) (delF p nm) (delF p id) := fun i hi => by
  unfold delF
  by_cases h1 : i < p
  · have := h i (by omega)
    simp only [h1, if_true]
    refine ⟨this.1, this.2.1, fun k hk => ?_⟩
    simp only [show k < p by omega, if_true]
    exact this.2.2 k hk
  · have := h (i + 1) (by omega)
    simp only [h1, if_false]
    refine ⟨this.1, this.2.1, fun k hk => ?_⟩
    by_cases h2 : k < p
    · simp only [h2, if_true]; exact this.2.2 k (by omega)
    · simp only [h2, if_false]; exact this.2.2 (k + 1) (by omega)
theorem delF_ne {α : Type} {n p : Nat} {f : Nat → α} {x : α} (h : ∀ i, i < n → i ≠ p → f i ≠ x) (i : Nat) (hi : i < n - 1) : delF p f i ≠ x := by
  unfold delF
  split
  · exact h i (by omega) (by omega)
  · exact h (i + 1) (by omega) (by omega)
theorem Rt.idne {n : Nat} {nm : Nat → ByteArray} {id : Nat → Int} (h : Rt n nm id) {p : Nat} (hp : p < n) (i : Nat) (hi : i < n) (hne : i ≠ p) : id i ≠ id p := by
  rcases Nat.lt_or_ge i p with h1 | h1
  · exact ((h p hp).2.2 i h1).2
  · exact fun e => ((h i hi).2.2 p (by omega)).2 e.symm
theorem renR_ex (n : Nat) (nm : Nat → ByteArray) (id : Nat → Int) (s t : ByteArray) : ∃ e m a b, RenR n nm id s t e m a b := by
  by_cases h : Rt n nm id
  · cases hs : nmB s
    · exact ⟨_, _, nm, id, .name _ _ h (by rw [hs]; rfl)⟩
    · cases ht : nmB t
      · exact ⟨_, _, nm, id, .name _ _ h (by rw [hs, ht]; rfl)⟩
      · by_cases hp : ∃ p, p < n ∧ nm p = s
        · obtain ⟨p, h1, h2⟩ := hp
          by_cases hq : ∃ q, q < n ∧ nm q = t
          · obtain ⟨q, h3, h4⟩ := hq
            exact ⟨_, _, nm, id, .exist _ _ h hs ht p h1 h2 q h3 h4⟩
          · obtain ⟨q, h3, h4⟩ := (h.del h1).place t
            exact ⟨_, _, _, _, .ok _ _ h hs ht p h1 h2 (fun q h5 h6 => hq ⟨q, h5, h6⟩) q h3 h4 (fun _ => rfl) fun _ => rfl⟩
        · exact ⟨_, _, nm, id, .none _ _ h hs ht fun p h1 h2 => hp ⟨p, h1, h2⟩⟩
  · exact ⟨_, _, nm, id, .wrong _ _ h⟩
theorem all2 {s t : ByteArray} : (nmB s && nmB t) = true ↔ ∀ i, i < 2 → nmB ((fun i => if i = 0 then s else t) i) = true := by
  constructor
  · intro h i hi
    rw [Bool.and_eq_true] at h
    match i, hi with
    | 0, _ => exact h.1
    | 1, _ => exact h.2
  · intro h
    rw [Bool.and_eq_true]
    exact ⟨h 0 (by omega), h 1 (by omega)⟩
theorem ct25 (o : Tg) (n : Nat) (nm : Nat → ByteArray) (id : Nat → Int) (hn : n ≤ 100000) (s t : ByteArray) (e : Int) (m : Nat) (nm' : Nat → ByteArray) (id' : Nat → Int) (hr : RenR n nm id s t e m nm' id') :
    CT Go.Proofs.Try.prog 25 [catS o n nm id, strV s, strV t] [] (.tp [catS (.new 75) m nm' id', scI .i64 e]) [] := by
  refine enter25 rfl rfl ?_
  intro ob ib ic sb cat iu nt an be pk wr tn iN aN sN lN eN bt sub sl rn ofB mn dc dn sI X hE hX
  cbv
  obtain ⟨b, hb⟩ : ∃ b : Bool, b = true ↔ Rt n nm id := by by_cases h : Rt n nm id; exact ⟨true, by simp [h]⟩; exact ⟨false, by simp [h]⟩
  refine call_ct hX [] [0] (ct46 o (.new 9) n nm id hn 2 (fun i => if i = 0 then s else t) (by omega) b hb (nmB s && nmB t) all2) (fits_fz rfl ⟨fitU_refl _, ⟨rfl, rfl, rfl, rfl, rfl, by omega, fun i hi => by match i, hi with | 0, _ => rfl | 1, _ => rfl⟩, trivial⟩) rfl ⟨trivial, trivial⟩ ?_
  have e1 : ic .neq 2 0 = true := by rw [hE.neq]; rfl
  have e2 : ic .neq 170 0 = true := by rw [hE.neq]; rfl
  have e3 : ic .neq 0 0 = false := by rw [hE.neq]; rfl
  have e4 : ic .neq 80 0 = true := by rw [hE.neq]; rfl
  cases hr with
  | wrong _ _ h =>
    rw [bfalse fun e => h (hb.1 e), show mayE false (nmB s && nmB t) = 2 by rfl]
    cbv; (repeat ((first | rewrite [e1] | rewrite [hE.ntT] | rewrite [hE.ntF] | rewrite [hE.pkT] | rewrite [hE.pkF] | rewrite [hE.anT] | rewrite [hE.anF] | rewrite [hE.anT'] | rewrite [hE.anF']); (repeat (first | rewrite [e1] | rewrite [hE.ntT] | rewrite [hE.ntF] | rewrite [hE.pkT] | rewrite [hE.pkF] | rewrite [hE.anT] | rewrite [hE.anF] | rewrite [hE.anT'] | rewrite [hE.anF'])); cbv)); (repeat first | refine ⟨(fun h => absurd h Bool.false_ne_true), ?_⟩ | refine ⟨(hE.o (by simp only [Ob.den, hE.e_iN, hE.e_tn, hE.e_aN, hE.e_sN, hE.e_sI, hE.e_mn] <;> omega)), ?_⟩ | refine ⟨fun _ => (hE.o (by simp only [Ob.den, hE.e_iN, hE.e_tn, hE.e_aN, hE.e_sN, hE.e_sI, hE.e_mn] <;> omega)), ?_⟩ | refine ⟨fun h => h, ?_⟩ | refine ⟨fun _ => rfl, ?_⟩ | refine ⟨fun _ h => h, ?_⟩ | refine ⟨fun _ _ => True.intro, ?_⟩ | refine ⟨fun _ h => absurd h Bool.false_ne_true, ?_⟩ | refine ⟨fun _ => True.intro, ?_⟩ | refine ⟨fun _ _ => rfl, ?_⟩ | refine ⟨(fun h => Bool.noConfusion h), ?_⟩ | refine ⟨True.intro, ?_⟩)
    exact ct_flat [] rfl ⟨rfl, fitU_refl _, trivial⟩
  | name _ _ h h1 =>
    rw [hb.2 h, h1, show mayE true false = 170 by rfl]
    cbv; (repeat ((first | rewrite [e2] | rewrite [hE.ntT] | rewrite [hE.ntF] | rewrite [hE.pkT] | rewrite [hE.pkF] | rewrite [hE.anT] | rewrite [hE.anF] | rewrite [hE.anT'] | rewrite [hE.anF']); (repeat (first | rewrite [e2] | rewrite [hE.ntT] | rewrite [hE.ntF] | rewrite [hE.pkT] | rewrite [hE.pkF] | rewrite [hE.anT] | rewrite [hE.anF] | rewrite [hE.anT'] | rewrite [hE.anF'])); cbv)); (repeat first | refine ⟨(fun h => absurd h Bool.false_ne_true), ?_⟩ | refine ⟨(hE.o (by simp only [Ob.den, hE.e_iN, hE.e_tn, hE.e_aN, hE.e_sN, hE.e_sI, hE.e_mn] <;> omega)), ?_⟩ | refine ⟨fun _ => (hE.o (by simp only [Ob.den, hE.e_iN, hE.e_tn, hE.e_aN, hE.e_sN, hE.e_sI, hE.e_mn] <;> omega)), ?_⟩ | refine ⟨fun h => h, ?_⟩ | refine ⟨fun _ => rfl, ?_⟩ | refine ⟨fun _ h => h, ?_⟩ | refine ⟨fun _ _ => True.intro, ?_⟩ | refine ⟨fun _ h => absurd h Bool.false_ne_true, ?_⟩ | refine ⟨fun _ => True.intro, ?_⟩ | refine ⟨fun _ _ => rfl, ?_⟩ | refine ⟨(fun h => Bool.noConfusion h), ?_⟩ | refine ⟨True.intro, ?_⟩)
    exact ct_flat [] rfl ⟨rfl, fitU_refl _, trivial⟩
  | none _ _ h h1 h2 hne =>
    rw [hb.2 h, h1, h2, show mayE true (true && true) = 0 by rfl]
    cbv; (repeat ((first | rewrite [e3] | rewrite [hE.ntT] | rewrite [hE.ntF] | rewrite [hE.pkT] | rewrite [hE.pkF] | rewrite [hE.anT] | rewrite [hE.anF] | rewrite [hE.anT'] | rewrite [hE.anF']); (repeat (first | rewrite [e3] | rewrite [hE.ntT] | rewrite [hE.ntF] | rewrite [hE.pkT] | rewrite [hE.pkF] | rewrite [hE.anT] | rewrite [hE.anF] | rewrite [hE.anT'] | rewrite [hE.anF'])); cbv)); (repeat first | refine ⟨(fun h => absurd h Bool.false_ne_true), ?_⟩ | refine ⟨(hE.o (by simp only [Ob.den, hE.e_iN, hE.e_tn, hE.e_aN, hE.e_sN, hE.e_sI, hE.e_mn] <;> omega)), ?_⟩ | refine ⟨fun _ => (hE.o (by simp only [Ob.den, hE.e_iN, hE.e_tn, hE.e_aN, hE.e_sN, hE.e_sI, hE.e_mn] <;> omega)), ?_⟩ | refine ⟨fun h => h, ?_⟩ | refine ⟨fun _ => rfl, ?_⟩ | refine ⟨fun _ h => h, ?_⟩ | refine ⟨fun _ _ => True.intro, ?_⟩ | refine ⟨fun _ h => absurd h Bool.false_ne_true, ?_⟩ | refine ⟨fun _ => True.intro, ?_⟩ | refine ⟨fun _ _ => rfl, ?_⟩ | refine ⟨(fun h => Bool.noConfusion h), ?_⟩ | refine ⟨True.intro, ?_⟩)
    refine call_ct hX [] [] (ct19 o n nm id hn s _ _ (.none h h1 hne)) (fits_nil ⟨fitU_refl _, fitU_refl _, trivial⟩) rfl trivial ?_
    cbv; (repeat ((first | rewrite [e4] | rewrite [hE.ntT] | rewrite [hE.ntF] | rewrite [hE.pkT] | rewrite [hE.pkF] | rewrite [hE.anT] | rewrite [hE.anF] | rewrite [hE.anT'] | rewrite [hE.anF']); (repeat (first | rewrite [e4] | rewrite [hE.ntT] | rewrite [hE.ntF] | rewrite [hE.pkT] | rewrite [hE.pkF] | rewrite [hE.anT] | rewrite [hE.anF] | rewrite [hE.anT'] | rewrite [hE.anF'])); cbv)); (repeat first | refine ⟨(fun h => absurd h Bool.false_ne_true), ?_⟩ | refine ⟨(hE.o (by simp only [Ob.den, hE.e_iN, hE.e_tn, hE.e_aN, hE.e_sN, hE.e_sI, hE.e_mn] <;> omega)), ?_⟩ | refine ⟨fun _ => (hE.o (by simp only [Ob.den, hE.e_iN, hE.e_tn, hE.e_aN, hE.e_sN, hE.e_sI, hE.e_mn] <;> omega)), ?_⟩ | refine ⟨fun h => h, ?_⟩ | refine ⟨fun _ => rfl, ?_⟩ | refine ⟨fun _ h => h, ?_⟩ | refine ⟨fun _ _ => True.intro, ?_⟩ | refine ⟨fun _ h => absurd h Bool.false_ne_true, ?_⟩ | refine ⟨fun _ => True.intro, ?_⟩ | refine ⟨fun _ _ => rfl, ?_⟩ | refine ⟨(fun h => Bool.noConfusion h), ?_⟩ | refine ⟨True.intro, ?_⟩)
    exact ct_flat [] rfl ⟨rfl, fitU_refl _, trivial⟩
  | exist _ _ h h1 h2 p hp he q hq he' =>
    rw [hb.2 h, h1, h2, show mayE true (true && true) = 0 by rfl]
    cbv; (repeat ((first | rewrite [e3] | rewrite [hE.ntT] | rewrite [hE.ntF] | rewrite [hE.pkT] | rewrite [hE.pkF] | rewrite [hE.anT] | rewrite [hE.anF] | rewrite [hE.anT'] | rewrite [hE.anF']); (repeat (first | rewrite [e3] | rewrite [hE.ntT] | rewrite [hE.ntF] | rewrite [hE.pkT] | rewrite [hE.pkF] | rewrite [hE.anT] | rewrite [hE.anF] | rewrite [hE.anT'] | rewrite [hE.anF'])); cbv)); (repeat first | refine ⟨(fun h => absurd h Bool.false_ne_true), ?_⟩ | refine ⟨(hE.o (by simp only [Ob.den, hE.e_iN, hE.e_tn, hE.e_aN, hE.e_sN, hE.e_sI, hE.e_mn] <;> omega)), ?_⟩ | refine ⟨fun _ => (hE.o (by simp only [Ob.den, hE.e_iN, hE.e_tn, hE.e_aN, hE.e_sN, hE.e_sI, hE.e_mn] <;> omega)), ?_⟩ | refine ⟨fun h => h, ?_⟩ | refine ⟨fun _ => rfl, ?_⟩ | refine ⟨fun _ h => h, ?_⟩ | refine ⟨fun _ _ => True.intro, ?_⟩ | refine ⟨fun _ h => absurd h Bool.false_ne_true, ?_⟩ | refine ⟨fun _ => True.intro, ?_⟩ | refine ⟨fun _ _ => rfl, ?_⟩ | refine ⟨(fun h => Bool.noConfusion h), ?_⟩ | refine ⟨True.intro, ?_⟩)
    refine call_ct hX [] [] (ct19 o n nm id hn s _ _ (.there h h1 p hp he)) (fits_nil ⟨fitU_refl _, fitU_refl _, trivial⟩) rfl trivial ?_
    cbv; (repeat ((first | rewrite [e3] | rewrite [hE.ntT] | rewrite [hE.ntF] | rewrite [hE.pkT] | rewrite [hE.pkF] | rewrite [hE.anT] | rewrite [hE.anF] | rewrite [hE.anT'] | rewrite [hE.anF']); (repeat (first | rewrite [e3] | rewrite [hE.ntT] | rewrite [hE.ntF] | rewrite [hE.pkT] | rewrite [hE.pkF] | rewrite [hE.anT] | rewrite [hE.anF] | rewrite [hE.anT'] | rewrite [hE.anF'])); cbv)); (repeat first | refine ⟨(fun h => absurd h Bool.false_ne_true), ?_⟩ | refine ⟨(hE.o (by simp only [Ob.den, hE.e_iN, hE.e_tn, hE.e_aN, hE.e_sN, hE.e_sI, hE.e_mn] <;> omega)), ?_⟩ | refine ⟨fun _ => (hE.o (by simp only [Ob.den, hE.e_iN, hE.e_tn, hE.e_aN, hE.e_sN, hE.e_sI, hE.e_mn] <;> omega)), ?_⟩ | refine ⟨fun h => h, ?_⟩ | refine ⟨fun _ => rfl, ?_⟩ | refine ⟨fun _ h => h, ?_⟩ | refine ⟨fun _ _ => True.intro, ?_⟩ | refine ⟨fun _ h => absurd h Bool.false_ne_true, ?_⟩ | refine ⟨fun _ => True.intro, ?_⟩ | refine ⟨fun _ _ => rfl, ?_⟩ | refine ⟨(fun h => Bool.noConfusion h), ?_⟩ | refine ⟨True.intro, ?_⟩)
    obtain ⟨r, hr, hs⟩ := h.place t
    obtain rfl := h.at hr hs hq he'
    obtain ⟨z, hz⟩ : ∃ z : Int, IsN z q := ⟨_, ⟨rfl⟩⟩
    refine call_ct hX [] [] (ct47 o n nm id hn t q hr hs z hz true ⟨fun _ => ⟨hq, he'⟩, fun _ => rfl⟩) (fits_nil ⟨fitU_refl _, fitU_refl _, trivial⟩) rfl trivial ?_
    cbv; (repeat ((first | rewrite [hE.ntT] | rewrite [hE.ntF] | rewrite [hE.pkT] | rewrite [hE.pkF] | rewrite [hE.anT] | rewrite [hE.anF] | rewrite [hE.anT'] | rewrite [hE.anF']); (repeat (first | rewrite [hE.ntT] | rewrite [hE.ntF] | rewrite [hE.pkT] | rewrite [hE.pkF] | rewrite [hE.anT] | rewrite [hE.anF] | rewrite [hE.anT'] | rewrite [hE.anF'])); cbv)); (repeat first | refine ⟨(fun h => absurd h Bool.false_ne_true), ?_⟩ | refine ⟨(hE.o (by simp only [Ob.den, hE.e_iN, hE.e_tn, hE.e_aN, hE.e_sN, hE.e_sI, hE.e_mn] <;> omega)), ?_⟩ | refine ⟨fun _ => (hE.o (by simp only [Ob.den, hE.e_iN, hE.e_tn, hE.e_aN, hE.e_sN, hE.e_sI, hE.e_mn] <;> omega)), ?_⟩ | refine ⟨fun h => h, ?_⟩ | refine ⟨fun _ => rfl, ?_⟩ | refine ⟨fun _ h => h, ?_⟩ | refine ⟨fun _ _ => True.intro, ?_⟩ | refine ⟨fun _ h => absurd h Bool.false_ne_true, ?_⟩ | refine ⟨fun _ => True.intro, ?_⟩ | refine ⟨fun _ _ => rfl, ?_⟩ | refine ⟨(fun h => Bool.noConfusion h), ?_⟩ | refine ⟨True.intro, ?_⟩)
    exact ct_flat [] rfl ⟨rfl, fitU_refl _, trivial⟩
  | ok _ _ h h1 h2 p hp he hne q hq hl ha hb' =>
    rw [hb.2 h, h1, h2, show mayE true (true && true) = 0 by rfl]
    cbv; (repeat ((first | rewrite [e3] | rewrite [hE.ntT] | rewrite [hE.ntF] | rewrite [hE.pkT] | rewrite [hE.pkF] | rewrite [hE.anT] | rewrite [hE.anF] | rewrite [hE.anT'] | rewrite [hE.anF']); (repeat (first | rewrite [e3] | rewrite [hE.ntT] | rewrite [hE.ntF] | rewrite [hE.pkT] | rewrite [hE.pkF] | rewrite [hE.anT] | rewrite [hE.anF] | rewrite [hE.anT'] | rewrite [hE.anF'])); cbv)); (repeat first | refine ⟨(fun h => absurd h Bool.false_ne_true), ?_⟩ | refine ⟨(hE.o (by simp only [Ob.den, hE.e_iN, hE.e_tn, hE.e_aN, hE.e_sN, hE.e_sI, hE.e_mn] <;> omega)), ?_⟩ | refine ⟨fun _ => (hE.o (by simp only [Ob.den, hE.e_iN, hE.e_tn, hE.e_aN, hE.e_sN, hE.e_sI, hE.e_mn] <;> omega)), ?_⟩ | refine ⟨fun h => h, ?_⟩ | refine ⟨fun _ => rfl, ?_⟩ | refine ⟨fun _ h => h, ?_⟩ | refine ⟨fun _ _ => True.intro, ?_⟩ | refine ⟨fun _ h => absurd h Bool.false_ne_true, ?_⟩ | refine ⟨fun _ => True.intro, ?_⟩ | refine ⟨fun _ _ => rfl, ?_⟩ | refine ⟨(fun h => Bool.noConfusion h), ?_⟩ | refine ⟨True.intro, ?_⟩)
    refine call_ct hX [] [] (ct19 o n nm id hn s _ _ (.there h h1 p hp he)) (fits_nil ⟨fitU_refl _, fitU_refl _, trivial⟩) rfl trivial ?_
    cbv; (repeat ((first | rewrite [e3] | rewrite [hE.ntT] | rewrite [hE.ntF] | rewrite [hE.pkT] | rewrite [hE.pkF] | rewrite [hE.anT] | rewrite [hE.anF] | rewrite [hE.anT'] | rewrite [hE.anF']); (repeat (first | rewrite [e3] | rewrite [hE.ntT] | rewrite [hE.ntF] | rewrite [hE.pkT] | rewrite [hE.pkF] | rewrite [hE.anT] | rewrite [hE.anF] | rewrite [hE.anT'] | rewrite [hE.anF'])); cbv)); (repeat first | refine ⟨(fun h => absurd h Bool.false_ne_true), ?_⟩ | refine ⟨(hE.o (by simp only [Ob.den, hE.e_iN, hE.e_tn, hE.e_aN, hE.e_sN, hE.e_sI, hE.e_mn] <;> omega)), ?_⟩ | refine ⟨fun _ => (hE.o (by simp only [Ob.den, hE.e_iN, hE.e_tn, hE.e_aN, hE.e_sN, hE.e_sI, hE.e_mn] <;> omega)), ?_⟩ | refine ⟨fun h => h, ?_⟩ | refine ⟨fun _ => rfl, ?_⟩ | refine ⟨fun _ h => h, ?_⟩ | refine ⟨fun _ _ => True.intro, ?_⟩ | refine ⟨fun _ h => absurd h Bool.false_ne_true, ?_⟩ | refine ⟨fun _ => True.intro, ?_⟩ | refine ⟨fun _ _ => rfl, ?_⟩ | refine ⟨(fun h => Bool.noConfusion h), ?_⟩ | refine ⟨True.intro, ?_⟩)
    obtain ⟨r, hr, hs⟩ := h.place t
    obtain ⟨z, hz⟩ : ∃ z : Int, IsN z r := ⟨_, ⟨rfl⟩⟩
    refine call_ct hX [] [] (ct47 o n nm id hn t r hr hs z hz false ⟨fun e => (by cases e), fun e => absurd e.2 (hne r e.1)⟩) (fits_nil ⟨fitU_refl _, fitU_refl _, trivial⟩) rfl trivial ?_
    cbv; (repeat ((first | rewrite [hE.ntT] | rewrite [hE.ntF] | rewrite [hE.pkT] | rewrite [hE.pkF] | rewrite [hE.anT] | rewrite [hE.anF] | rewrite [hE.anT'] | rewrite [hE.anF']); (repeat (first | rewrite [hE.ntT] | rewrite [hE.ntF] | rewrite [hE.pkT] | rewrite [hE.pkF] | rewrite [hE.anT] | rewrite [hE.anF] | rewrite [hE.anT'] | rewrite [hE.anF'])); cbv)); (repeat first | refine ⟨(fun h => absurd h Bool.false_ne_true), ?_⟩ | refine ⟨(hE.o (by simp only [Ob.den, hE.e_iN, hE.e_tn, hE.e_aN, hE.e_sN, hE.e_sI, hE.e_mn] <;> omega)), ?_⟩ | refine ⟨fun _ => (hE.o (by simp only [Ob.den, hE.e_iN, hE.e_tn, hE.e_aN, hE.e_sN, hE.e_sI, hE.e_mn] <;> omega)), ?_⟩ | refine ⟨fun h => h, ?_⟩ | refine ⟨fun _ => rfl, ?_⟩ | refine ⟨fun _ h => h, ?_⟩ | refine ⟨fun _ _ => True.intro, ?_⟩ | refine ⟨fun _ h => absurd h Bool.false_ne_true, ?_⟩ | refine ⟨fun _ => True.intro, ?_⟩ | refine ⟨fun _ _ => rfl, ?_⟩ | refine ⟨(fun h => Bool.noConfusion h), ?_⟩ | refine ⟨True.intro, ?_⟩)
    obtain ⟨nm1, hnm1⟩ : ∃ f, f = delF p nm := ⟨_, rfl⟩
    obtain ⟨id1, hid1⟩ : ∃ f, f = delF p id := ⟨_, rfl⟩
    refine call_ct hX [] [] (ct23 o n nm id hn s 0 (n - 1) nm1 id1 (.ok _ _ h h1 p hp he (fun i => by rw [hnm1]) fun i => by rw [hid1])) (fits_nil ⟨fitU_refl _, fitU_refl _, trivial⟩) rfl trivial ?_
    obtain ⟨n1, hn1⟩ : ∃ k, k = n - 1 := ⟨_, rfl⟩
    rw [← hn1] at hq hl ⊢
    cbv; (repeat ((first | rewrite [hE.ntT] | rewrite [hE.ntF] | rewrite [hE.pkT] | rewrite [hE.pkF] | rewrite [hE.anT] | rewrite [hE.anF] | rewrite [hE.anT'] | rewrite [hE.anF']); (repeat (first | rewrite [hE.ntT] | rewrite [hE.ntF] | rewrite [hE.pkT] | rewrite [hE.pkF] | rewrite [hE.anT] | rewrite [hE.anF] | rewrite [hE.anT'] | rewrite [hE.anF'])); cbv)); (repeat first | refine ⟨(fun h => absurd h Bool.false_ne_true), ?_⟩ | refine ⟨(hE.o (by simp only [Ob.den, hE.e_iN, hE.e_tn, hE.e_aN, hE.e_sN, hE.e_sI, hE.e_mn] <;> omega)), ?_⟩ | refine ⟨fun _ => (hE.o (by simp only [Ob.den, hE.e_iN, hE.e_tn, hE.e_aN, hE.e_sN, hE.e_sI, hE.e_mn] <;> omega)), ?_⟩ | refine ⟨fun h => h, ?_⟩ | refine ⟨fun _ => rfl, ?_⟩ | refine ⟨fun _ h => h, ?_⟩ | refine ⟨fun _ _ => True.intro, ?_⟩ | refine ⟨fun _ h => absurd h Bool.false_ne_true, ?_⟩ | refine ⟨fun _ => True.intro, ?_⟩ | refine ⟨fun _ _ => rfl, ?_⟩ | refine ⟨(fun h => Bool.noConfusion h), ?_⟩ | refine ⟨True.intro, ?_⟩)
    refine call_ct hX [] [] (ct21 (.new 75) n1 nm1 id1 (by omega) t (id p) 0 (n1 + 1) nm' id' (.ok _ _ (by rw [hn1, hnm1, hid1]; exact h.del hp) h2 (by rw [hn1, hnm1]; exact delF_ne fun i hi _ => hne i hi) (h p hp).2.1 (by rw [hn1, hid1]; exact delF_ne fun i hi hip => h.idne hp i hi hip) q hq (by rw [hnm1]; exact hl) (by rw [hnm1]; exact ha) (by rw [hid1]; exact hb'))) (fits_nil ⟨fitU_refl _, fitU_refl _, fitU_refl _, trivial⟩) rfl trivial ?_
    cbv; (repeat ((first | rewrite [hE.ntT] | rewrite [hE.ntF] | rewrite [hE.pkT] | rewrite [hE.pkF] | rewrite [hE.anT] | rewrite [hE.anF] | rewrite [hE.anT'] | rewrite [hE.anF']); (repeat (first | rewrite [hE.ntT] | rewrite [hE.ntF] | rewrite [hE.pkT] | rewrite [hE.pkF] | rewrite [hE.anT] | rewrite [hE.anF] | rewrite [hE.anT'] | rewrite [hE.anF'])); cbv)); (repeat first | refine ⟨(fun h => absurd h Bool.false_ne_true), ?_⟩ | refine ⟨(hE.o (by simp only [Ob.den, hE.e_iN, hE.e_tn, hE.e_aN, hE.e_sN, hE.e_sI, hE.e_mn] <;> omega)), ?_⟩ | refine ⟨fun _ => (hE.o (by simp only [Ob.den, hE.e_iN, hE.e_tn, hE.e_aN, hE.e_sN, hE.e_sI, hE.e_mn] <;> omega)), ?_⟩ | refine ⟨fun h => h, ?_⟩ | refine ⟨fun _ => rfl, ?_⟩ | refine ⟨fun _ h => h, ?_⟩ | refine ⟨fun _ _ => True.intro, ?_⟩ | refine ⟨fun _ h => absurd h Bool.false_ne_true, ?_⟩ | refine ⟨fun _ => True.intro, ?_⟩ | refine ⟨fun _ _ => rfl, ?_⟩ | refine ⟨(fun h => Bool.noConfusion h), ?_⟩ | refine ⟨True.intro, ?_⟩)
    exact ct_flat [] rfl ⟨fitU_refl _, fitU_refl _, trivial⟩
end Ytohkcdfjpgdfbaa
end
section
open Go Am
set_option maxRecDepth 100000
set_option maxHeartbeats 4000000
set_option linter.unusedVariables false
set_option linter.unusedSimpArgs false
namespace Ytohkcdfjpgdfbaa
theorem ct26 (o : Tg) (n : Nat) (nm : Nat → ByteArray) (id : Nat → Int) (hn : n ≤ 100000) (s t : ByteArray) (e : Int) (m : Nat) (nm' : Nat → ByteArray) (id' : Nat → Int) (hr : RenR n nm id s t e m nm' id') :
    CT Go.Proofs.Try.prog 26 [catS o n nm id, strV s, strV t] [] (.tp [catS (.new 100) m nm' id', scI .i64 e]) [] := by
  refine enter26 rfl rfl ?_
  intro ob ib ic sb cat iu nt an be pk wr tn iN aN sN lN eN bt sub sl rn ofB mn dc dn sI X hE hX
  cbv
  obtain ⟨b, hb⟩ : ∃ b : Bool, b = true ↔ Rt n nm id := by by_cases h : Rt n nm id; exact ⟨true, by simp [h]⟩; exact ⟨false, by simp [h]⟩
  refine call_ct hX [] [] (ct29 o n nm id hn b hb) (fits_nil ⟨fitU_refl _, trivial⟩) rfl trivial ?_
  have e1 : ic .neq 2 0 = true := by rw [hE.neq]; rfl
  have e2 : ic .neq 170 0 = true := by rw [hE.neq]; rfl
  have e3 : ic .neq 0 0 = false := by rw [hE.neq]; rfl
  have e4 : ic .neq 80 0 = true := by rw [hE.neq]; rfl
  have e5 : ic .eql 0 0 = true := by rw [hE.eql]; rfl
  have e6 : ic .eql 80 0 = false := by rw [hE.eql]; rfl
  cases hr with
  | wrong _ _ h =>
    rw [bfalse fun e => h (hb.1 e)]
    cbv; (repeat ((first | rewrite [hE.ntT] | rewrite [hE.ntF] | rewrite [hE.pkT] | rewrite [hE.pkF] | rewrite [hE.anT] | rewrite [hE.anF] | rewrite [hE.anT'] | rewrite [hE.anF']); (repeat (first | rewrite [hE.ntT] | rewrite [hE.ntF] | rewrite [hE.pkT] | rewrite [hE.pkF] | rewrite [hE.anT] | rewrite [hE.anF] | rewrite [hE.anT'] | rewrite [hE.anF'])); cbv)); (repeat first | refine ⟨(fun h => absurd h Bool.false_ne_true), ?_⟩ | refine ⟨(hE.o (by simp only [Ob.den, hE.e_iN, hE.e_tn, hE.e_aN, hE.e_sN, hE.e_sI, hE.e_mn] <;> omega)), ?_⟩ | refine ⟨fun _ => (hE.o (by simp only [Ob.den, hE.e_iN, hE.e_tn, hE.e_aN, hE.e_sN, hE.e_sI, hE.e_mn] <;> omega)), ?_⟩ | refine ⟨fun h => h, ?_⟩ | refine ⟨fun _ => rfl, ?_⟩ | refine ⟨fun _ h => h, ?_⟩ | refine ⟨fun _ _ => True.intro, ?_⟩ | refine ⟨fun _ h => absurd h Bool.false_ne_true, ?_⟩ | refine ⟨fun _ => True.intro, ?_⟩ | refine ⟨fun _ _ => rfl, ?_⟩ | refine ⟨(fun h => Bool.noConfusion h), ?_⟩ | refine ⟨True.intro, ?_⟩)
    refine call_ct hX [] [] (ct20 o n nm id hn s _ _ (.wrong h)) (fits_nil ⟨fitU_refl _, fitU_refl _, trivial⟩) rfl trivial ?_
    cbv; (repeat ((first | rewrite [e1] | rewrite [hE.ntT] | rewrite [hE.ntF] | rewrite [hE.pkT] | rewrite [hE.pkF] | rewrite [hE.anT] | rewrite [hE.anF] | rewrite [hE.anT'] | rewrite [hE.anF']); (repeat (first | rewrite [e1] | rewrite [hE.ntT] | rewrite [hE.ntF] | rewrite [hE.pkT] | rewrite [hE.pkF] | rewrite [hE.anT] | rewrite [hE.anF] | rewrite [hE.anT'] | rewrite [hE.anF'])); cbv)); (repeat first | refine ⟨(fun h => absurd h Bool.false_ne_true), ?_⟩ | refine ⟨(hE.o (by simp only [Ob.den, hE.e_iN, hE.e_tn, hE.e_aN, hE.e_sN, hE.e_sI, hE.e_mn] <;> omega)), ?_⟩ | refine ⟨fun _ => (hE.o (by simp only [Ob.den, hE.e_iN, hE.e_tn, hE.e_aN, hE.e_sN, hE.e_sI, hE.e_mn] <;> omega)), ?_⟩ | refine ⟨fun h => h, ?_⟩ | refine ⟨fun _ => rfl, ?_⟩ | refine ⟨fun _ h => h, ?_⟩ | refine ⟨fun _ _ => True.intro, ?_⟩ | refine ⟨fun _ h => absurd h Bool.false_ne_true, ?_⟩ | refine ⟨fun _ => True.intro, ?_⟩ | refine ⟨fun _ _ => rfl, ?_⟩ | refine ⟨(fun h => Bool.noConfusion h), ?_⟩ | refine ⟨True.intro, ?_⟩)
    exact ct_flat [] rfl ⟨rfl, fitU_refl _, trivial⟩
  | name _ _ h h1 =>
    rw [hb.2 h]
    cbv; (repeat ((first | rewrite [hE.ntT] | rewrite [hE.ntF] | rewrite [hE.pkT] | rewrite [hE.pkF] | rewrite [hE.anT] | rewrite [hE.anF] | rewrite [hE.anT'] | rewrite [hE.anF']); (repeat (first | rewrite [hE.ntT] | rewrite [hE.ntF] | rewrite [hE.pkT] | rewrite [hE.pkF] | rewrite [hE.anT] | rewrite [hE.anF] | rewrite [hE.anT'] | rewrite [hE.anF'])); cbv)); (repeat first | refine ⟨(fun h => absurd h Bool.false_ne_true), ?_⟩ | refine ⟨(hE.o (by simp only [Ob.den, hE.e_iN, hE.e_tn, hE.e_aN, hE.e_sN, hE.e_sI, hE.e_mn] <;> omega)), ?_⟩ | refine ⟨fun _ => (hE.o (by simp only [Ob.den, hE.e_iN, hE.e_tn, hE.e_aN, hE.e_sN, hE.e_sI, hE.e_mn] <;> omega)), ?_⟩ | refine ⟨fun h => h, ?_⟩ | refine ⟨fun _ => rfl, ?_⟩ | refine ⟨fun _ h => h, ?_⟩ | refine ⟨fun _ _ => True.intro, ?_⟩ | refine ⟨fun _ h => absurd h Bool.false_ne_true, ?_⟩ | refine ⟨fun _ => True.intro, ?_⟩ | refine ⟨fun _ _ => rfl, ?_⟩ | refine ⟨(fun h => Bool.noConfusion h), ?_⟩ | refine ⟨True.intro, ?_⟩)
    refine call_ct hX [] [] (ct34 s) (fits_nil ⟨fitU_refl _, trivial⟩) rfl trivial ?_
    cases h2 : nmB s
    · cbv; (repeat ((first | rewrite [hE.ntT] | rewrite [hE.ntF] | rewrite [hE.pkT] | rewrite [hE.pkF] | rewrite [hE.anT] | rewrite [hE.anF] | rewrite [hE.anT'] | rewrite [hE.anF']); (repeat (first | rewrite [hE.ntT] | rewrite [hE.ntF] | rewrite [hE.pkT] | rewrite [hE.pkF] | rewrite [hE.anT] | rewrite [hE.anF] | rewrite [hE.anT'] | rewrite [hE.anF'])); cbv)); (repeat first | refine ⟨(fun h => absurd h Bool.false_ne_true), ?_⟩ | refine ⟨(hE.o (by simp only [Ob.den, hE.e_iN, hE.e_tn, hE.e_aN, hE.e_sN, hE.e_sI, hE.e_mn] <;> omega)), ?_⟩ | refine ⟨fun _ => (hE.o (by simp only [Ob.den, hE.e_iN, hE.e_tn, hE.e_aN, hE.e_sN, hE.e_sI, hE.e_mn] <;> omega)), ?_⟩ | refine ⟨fun h => h, ?_⟩ | refine ⟨fun _ => rfl, ?_⟩ | refine ⟨fun _ h => h, ?_⟩ | refine ⟨fun _ _ => True.intro, ?_⟩ | refine ⟨fun _ h => absurd h Bool.false_ne_true, ?_⟩ | refine ⟨fun _ => True.intro, ?_⟩ | refine ⟨fun _ _ => rfl, ?_⟩ | refine ⟨(fun h => Bool.noConfusion h), ?_⟩ | refine ⟨True.intro, ?_⟩)
      exact ct_flat [] rfl ⟨rfl, fitU_refl _, trivial⟩
    · cbv; (repeat ((first | rewrite [hE.ntT] | rewrite [hE.ntF] | rewrite [hE.pkT] | rewrite [hE.pkF] | rewrite [hE.anT] | rewrite [hE.anF] | rewrite [hE.anT'] | rewrite [hE.anF']); (repeat (first | rewrite [hE.ntT] | rewrite [hE.ntF] | rewrite [hE.pkT] | rewrite [hE.pkF] | rewrite [hE.anT] | rewrite [hE.anF] | rewrite [hE.anT'] | rewrite [hE.anF'])); cbv)); (repeat first | refine ⟨(fun h => absurd h Bool.false_ne_true), ?_⟩ | refine ⟨(hE.o (by simp only [Ob.den, hE.e_iN, hE.e_tn, hE.e_aN, hE.e_sN, hE.e_sI, hE.e_mn] <;> omega)), ?_⟩ | refine ⟨fun _ => (hE.o (by simp only [Ob.den, hE.e_iN, hE.e_tn, hE.e_aN, hE.e_sN, hE.e_sI, hE.e_mn] <;> omega)), ?_⟩ | refine ⟨fun h => h, ?_⟩ | refine ⟨fun _ => rfl, ?_⟩ | refine ⟨fun _ h => h, ?_⟩ | refine ⟨fun _ _ => True.intro, ?_⟩ | refine ⟨fun _ h => absurd h Bool.false_ne_true, ?_⟩ | refine ⟨fun _ => True.intro, ?_⟩ | refine ⟨fun _ _ => rfl, ?_⟩ | refine ⟨(fun h => Bool.noConfusion h), ?_⟩ | refine ⟨True.intro, ?_⟩)
      rw [h2, Bool.true_and] at h1
      refine call_ct hX [] [] (ct34 t) (fits_nil ⟨fitU_refl _, trivial⟩) rfl trivial ?_
      rw [h1]
      cbv; (repeat ((first | rewrite [hE.ntT] | rewrite [hE.ntF] | rewrite [hE.pkT] | rewrite [hE.pkF] | rewrite [hE.anT] | rewrite [hE.anF] | rewrite [hE.anT'] | rewrite [hE.anF']); (repeat (first | rewrite [hE.ntT] | rewrite [hE.ntF] | rewrite [hE.pkT] | rewrite [hE.pkF] | rewrite [hE.anT] | rewrite [hE.anF] | rewrite [hE.anT'] | rewrite [hE.anF'])); cbv)); (repeat first | refine ⟨(fun h => absurd h Bool.false_ne_true), ?_⟩ | refine ⟨(hE.o (by simp only [Ob.den, hE.e_iN, hE.e_tn, hE.e_aN, hE.e_sN, hE.e_sI, hE.e_mn] <;> omega)), ?_⟩ | refine ⟨fun _ => (hE.o (by simp only [Ob.den, hE.e_iN, hE.e_tn, hE.e_aN, hE.e_sN, hE.e_sI, hE.e_mn] <;> omega)), ?_⟩ | refine ⟨fun h => h, ?_⟩ | refine ⟨fun _ => rfl, ?_⟩ | refine ⟨fun _ h => h, ?_⟩ | refine ⟨fun _ _ => True.intro, ?_⟩ | refine ⟨fun _ h => absurd h Bool.false_ne_true, ?_⟩ | refine ⟨fun _ => True.intro, ?_⟩ | refine ⟨fun _ _ => rfl, ?_⟩ | refine ⟨(fun h => Bool.noConfusion h), ?_⟩ | refine ⟨True.intro, ?_⟩)
      exact ct_flat [] rfl ⟨rfl, fitU_refl _, trivial⟩
  | none _ _ h h1 h2 hne =>
    rw [hb.2 h]
    cbv; (repeat ((first | rewrite [hE.ntT] | rewrite [hE.ntF] | rewrite [hE.pkT] | rewrite [hE.pkF] | rewrite [hE.anT] | rewrite [hE.anF] | rewrite [hE.anT'] | rewrite [hE.anF']); (repeat (first | rewrite [hE.ntT] | rewrite [hE.ntF] | rewrite [hE.pkT] | rewrite [hE.pkF] | rewrite [hE.anT] | rewrite [hE.anF] | rewrite [hE.anT'] | rewrite [hE.anF'])); cbv)); (repeat first | refine ⟨(fun h => absurd h Bool.false_ne_true), ?_⟩ | refine ⟨(hE.o (by simp only [Ob.den, hE.e_iN, hE.e_tn, hE.e_aN, hE.e_sN, hE.e_sI, hE.e_mn] <;> omega)), ?_⟩ | refine ⟨fun _ => (hE.o (by simp only [Ob.den, hE.e_iN, hE.e_tn, hE.e_aN, hE.e_sN, hE.e_sI, hE.e_mn] <;> omega)), ?_⟩ | refine ⟨fun h => h, ?_⟩ | refine ⟨fun _ => rfl, ?_⟩ | refine ⟨fun _ h => h, ?_⟩ | refine ⟨fun _ _ => True.intro, ?_⟩ | refine ⟨fun _ h => absurd h Bool.false_ne_true, ?_⟩ | refine ⟨fun _ => True.intro, ?_⟩ | refine ⟨fun _ _ => rfl, ?_⟩ | refine ⟨(fun h => Bool.noConfusion h), ?_⟩ | refine ⟨True.intro, ?_⟩)
    refine call_ct hX [] [] (ct34 s) (fits_nil ⟨fitU_refl _, trivial⟩) rfl trivial ?_
    rw [h1]
    cbv; (repeat ((first | rewrite [hE.ntT] | rewrite [hE.ntF] | rewrite [hE.pkT] | rewrite [hE.pkF] | rewrite [hE.anT] | rewrite [hE.anF] | rewrite [hE.anT'] | rewrite [hE.anF']); (repeat (first | rewrite [hE.ntT] | rewrite [hE.ntF] | rewrite [hE.pkT] | rewrite [hE.pkF] | rewrite [hE.anT] | rewrite [hE.anF] | rewrite [hE.anT'] | rewrite [hE.anF'])); cbv)); (repeat first | refine ⟨(fun h => absurd h Bool.false_ne_true), ?_⟩ | refine ⟨(hE.o (by simp only [Ob.den, hE.e_iN, hE.e_tn, hE.e_aN, hE.e_sN, hE.e_sI, hE.e_mn] <;> omega)), ?_⟩ | refine ⟨fun _ => (hE.o (by simp only [Ob.den, hE.e_iN, hE.e_tn, hE.e_aN, hE.e_sN, hE.e_sI, hE.e_mn] <;> omega)), ?_⟩ | refine ⟨fun h => h, ?_⟩ | refine ⟨fun _ => rfl, ?_⟩ | refine ⟨fun _ h => h, ?_⟩ | refine ⟨fun _ _ => True.intro, ?_⟩ | refine ⟨fun _ h => absurd h Bool.false_ne_true, ?_⟩ | refine ⟨fun _ => True.intro, ?_⟩ | refine ⟨fun _ _ => rfl, ?_⟩ | refine ⟨(fun h => Bool.noConfusion h), ?_⟩ | refine ⟨True.intro, ?_⟩)
    refine call_ct hX [] [] (ct34 t) (fits_nil ⟨fitU_refl _, trivial⟩) rfl trivial ?_
    rw [h2]
    cbv; (repeat ((first | rewrite [hE.ntT] | rewrite [hE.ntF] | rewrite [hE.pkT] | rewrite [hE.pkF] | rewrite [hE.anT] | rewrite [hE.anF] | rewrite [hE.anT'] | rewrite [hE.anF']); (repeat (first | rewrite [hE.ntT] | rewrite [hE.ntF] | rewrite [hE.pkT] | rewrite [hE.pkF] | rewrite [hE.anT] | rewrite [hE.anF] | rewrite [hE.anT'] | rewrite [hE.anF'])); cbv)); (repeat first | refine ⟨(fun h => absurd h Bool.false_ne_true), ?_⟩ | refine ⟨(hE.o (by simp only [Ob.den, hE.e_iN, hE.e_tn, hE.e_aN, hE.e_sN, hE.e_sI, hE.e_mn] <;> omega)), ?_⟩ | refine ⟨fun _ => (hE.o (by simp only [Ob.den, hE.e_iN, hE.e_tn, hE.e_aN, hE.e_sN, hE.e_sI, hE.e_mn] <;> omega)), ?_⟩ | refine ⟨fun h => h, ?_⟩ | refine ⟨fun _ => rfl, ?_⟩ | refine ⟨fun _ h => h, ?_⟩ | refine ⟨fun _ _ => True.intro, ?_⟩ | refine ⟨fun _ h => absurd h Bool.false_ne_true, ?_⟩ | refine ⟨fun _ => True.intro, ?_⟩ | refine ⟨fun _ _ => rfl, ?_⟩ | refine ⟨(fun h => Bool.noConfusion h), ?_⟩ | refine ⟨True.intro, ?_⟩)
    refine call_ct hX [] [] (ct20 o n nm id hn s _ _ (.none h h1 hne)) (fits_nil ⟨fitU_refl _, fitU_refl _, trivial⟩) rfl trivial ?_
    cbv; (repeat ((first | rewrite [e4] | rewrite [hE.ntT] | rewrite [hE.ntF] | rewrite [hE.pkT] | rewrite [hE.pkF] | rewrite [hE.anT] | rewrite [hE.anF] | rewrite [hE.anT'] | rewrite [hE.anF']); (repeat (first | rewrite [e4] | rewrite [hE.ntT] | rewrite [hE.ntF] | rewrite [hE.pkT] | rewrite [hE.pkF] | rewrite [hE.anT] | rewrite [hE.anF] | rewrite [hE.anT'] | rewrite [hE.anF'])); cbv)); (repeat first | refine ⟨(fun h => absurd h Bool.false_ne_true), ?_⟩ | refine ⟨(hE.o (by simp only [Ob.den, hE.e_iN, hE.e_tn, hE.e_aN, hE.e_sN, hE.e_sI, hE.e_mn] <;> omega)), ?_⟩ | refine ⟨fun _ => (hE.o (by simp only [Ob.den, hE.e_iN, hE.e_tn, hE.e_aN, hE.e_sN, hE.e_sI, hE.e_mn] <;> omega)), ?_⟩ | refine ⟨fun h => h, ?_⟩ | refine ⟨fun _ => rfl, ?_⟩ | refine ⟨fun _ h => h, ?_⟩ | refine ⟨fun _ _ => True.intro, ?_⟩ | refine ⟨fun _ h => absurd h Bool.false_ne_true, ?_⟩ | refine ⟨fun _ => True.intro, ?_⟩ | refine ⟨fun _ _ => rfl, ?_⟩ | refine ⟨(fun h => Bool.noConfusion h), ?_⟩ | refine ⟨True.intro, ?_⟩)
    exact ct_flat [] rfl ⟨rfl, fitU_refl _, trivial⟩
  | exist _ _ h h1 h2 p hp he q hq he' =>
    rw [hb.2 h]
    cbv; (repeat ((first | rewrite [hE.ntT] | rewrite [hE.ntF] | rewrite [hE.pkT] | rewrite [hE.pkF] | rewrite [hE.anT] | rewrite [hE.anF] | rewrite [hE.anT'] | rewrite [hE.anF']); (repeat (first | rewrite [hE.ntT] | rewrite [hE.ntF] | rewrite [hE.pkT] | rewrite [hE.pkF] | rewrite [hE.anT] | rewrite [hE.anF] | rewrite [hE.anT'] | rewrite [hE.anF'])); cbv)); (repeat first | refine ⟨(fun h => absurd h Bool.false_ne_true), ?_⟩ | refine ⟨(hE.o (by simp only [Ob.den, hE.e_iN, hE.e_tn, hE.e_aN, hE.e_sN, hE.e_sI, hE.e_mn] <;> omega)), ?_⟩ | refine ⟨fun _ => (hE.o (by simp only [Ob.den, hE.e_iN, hE.e_tn, hE.e_aN, hE.e_sN, hE.e_sI, hE.e_mn] <;> omega)), ?_⟩ | refine ⟨fun h => h, ?_⟩ | refine ⟨fun _ => rfl, ?_⟩ | refine ⟨fun _ h => h, ?_⟩ | refine ⟨fun _ _ => True.intro, ?_⟩ | refine ⟨fun _ h => absurd h Bool.false_ne_true, ?_⟩ | refine ⟨fun _ => True.intro, ?_⟩ | refine ⟨fun _ _ => rfl, ?_⟩ | refine ⟨(fun h => Bool.noConfusion h), ?_⟩ | refine ⟨True.intro, ?_⟩)
    refine call_ct hX [] [] (ct34 s) (fits_nil ⟨fitU_refl _, trivial⟩) rfl trivial ?_
    rw [h1]
    cbv; (repeat ((first | rewrite [hE.ntT] | rewrite [hE.ntF] | rewrite [hE.pkT] | rewrite [hE.pkF] | rewrite [hE.anT] | rewrite [hE.anF] | rewrite [hE.anT'] | rewrite [hE.anF']); (repeat (first | rewrite [hE.ntT] | rewrite [hE.ntF] | rewrite [hE.pkT] | rewrite [hE.pkF] | rewrite [hE.anT] | rewrite [hE.anF] | rewrite [hE.anT'] | rewrite [hE.anF'])); cbv)); (repeat first | refine ⟨(fun h => absurd h Bool.false_ne_true), ?_⟩ | refine ⟨(hE.o (by simp only [Ob.den, hE.e_iN, hE.e_tn, hE.e_aN, hE.e_sN, hE.e_sI, hE.e_mn] <;> omega)), ?_⟩ | refine ⟨fun _ => (hE.o (by simp only [Ob.den, hE.e_iN, hE.e_tn, hE.e_aN, hE.e_sN, hE.e_sI, hE.e_mn] <;> omega)), ?_⟩ | refine ⟨fun h => h, ?_⟩ | refine ⟨fun _ => rfl, ?_⟩ | refine ⟨fun _ h => h, ?_⟩ | refine ⟨fun _ _ => True.intro, ?_⟩ | refine ⟨fun _ h => absurd h Bool.false_ne_true, ?_⟩ | refine ⟨fun _ => True.intro, ?_⟩ | refine ⟨fun _ _ => rfl, ?_⟩ | refine ⟨(fun h => Bool.noConfusion h), ?_⟩ | refine ⟨True.intro, ?_⟩)
    refine call_ct hX [] [] (ct34 t) (fits_nil ⟨fitU_refl _, trivial⟩) rfl trivial ?_
    rw [h2]
    cbv; (repeat ((first | rewrite [hE.ntT] | rewrite [hE.ntF] | rewrite [hE.pkT] | rewrite [hE.pkF] | rewrite [hE.anT] | rewrite [hE.anF] | rewrite [hE.anT'] | rewrite [hE.anF']); (repeat (first | rewrite [hE.ntT] | rewrite [hE.ntF] | rewrite [hE.pkT] | rewrite [hE.pkF] | rewrite [hE.anT] | rewrite [hE.anF] | rewrite [hE.anT'] | rewrite [hE.anF'])); cbv)); (repeat first | refine ⟨(fun h => absurd h Bool.false_ne_true), ?_⟩ | refine ⟨(hE.o (by simp only [Ob.den, hE.e_iN, hE.e_tn, hE.e_aN, hE.e_sN, hE.e_sI, hE.e_mn] <;> omega)), ?_⟩ | refine ⟨fun _ => (hE.o (by simp only [Ob.den, hE.e_iN, hE.e_tn, hE.e_aN, hE.e_sN, hE.e_sI, hE.e_mn] <;> omega)), ?_⟩ | refine ⟨fun h => h, ?_⟩ | refine ⟨fun _ => rfl, ?_⟩ | refine ⟨fun _ h => h, ?_⟩ | refine ⟨fun _ _ => True.intro, ?_⟩ | refine ⟨fun _ h => absurd h Bool.false_ne_true, ?_⟩ | refine ⟨fun _ => True.intro, ?_⟩ | refine ⟨fun _ _ => rfl, ?_⟩ | refine ⟨(fun h => Bool.noConfusion h), ?_⟩ | refine ⟨True.intro, ?_⟩)
    refine call_ct hX [] [] (ct20 o n nm id hn s _ _ (.there h h1 p hp he)) (fits_nil ⟨fitU_refl _, fitU_refl _, trivial⟩) rfl trivial ?_
    cbv; (repeat ((first | rewrite [e3] | rewrite [hE.ntT] | rewrite [hE.ntF] | rewrite [hE.pkT] | rewrite [hE.pkF] | rewrite [hE.anT] | rewrite [hE.anF] | rewrite [hE.anT'] | rewrite [hE.anF']); (repeat (first | rewrite [e3] | rewrite [hE.ntT] | rewrite [hE.ntF] | rewrite [hE.pkT] | rewrite [hE.pkF] | rewrite [hE.anT] | rewrite [hE.anF] | rewrite [hE.anT'] | rewrite [hE.anF'])); cbv)); (repeat first | refine ⟨(fun h => absurd h Bool.false_ne_true), ?_⟩ | refine ⟨(hE.o (by simp only [Ob.den, hE.e_iN, hE.e_tn, hE.e_aN, hE.e_sN, hE.e_sI, hE.e_mn] <;> omega)), ?_⟩ | refine ⟨fun _ => (hE.o (by simp only [Ob.den, hE.e_iN, hE.e_tn, hE.e_aN, hE.e_sN, hE.e_sI, hE.e_mn] <;> omega)), ?_⟩ | refine ⟨fun h => h, ?_⟩ | refine ⟨fun _ => rfl, ?_⟩ | refine ⟨fun _ h => h, ?_⟩ | refine ⟨fun _ _ => True.intro, ?_⟩ | refine ⟨fun _ h => absurd h Bool.false_ne_true, ?_⟩ | refine ⟨fun _ => True.intro, ?_⟩ | refine ⟨fun _ _ => rfl, ?_⟩ | refine ⟨(fun h => Bool.noConfusion h), ?_⟩ | refine ⟨True.intro, ?_⟩)
    refine call_ct hX [] [] (ct20 o n nm id hn t _ _ (.there h h2 q hq he')) (fits_nil ⟨fitU_refl _, fitU_refl _, trivial⟩) rfl trivial ?_
    cbv; (repeat ((first | rewrite [e5] | rewrite [hE.ntT] | rewrite [hE.ntF] | rewrite [hE.pkT] | rewrite [hE.pkF] | rewrite [hE.anT] | rewrite [hE.anF] | rewrite [hE.anT'] | rewrite [hE.anF']); (repeat (first | rewrite [e5] | rewrite [hE.ntT] | rewrite [hE.ntF] | rewrite [hE.pkT] | rewrite [hE.pkF] | rewrite [hE.anT] | rewrite [hE.anF] | rewrite [hE.anT'] | rewrite [hE.anF'])); cbv)); (repeat first | refine ⟨(fun h => absurd h Bool.false_ne_true), ?_⟩ | refine ⟨(hE.o (by simp only [Ob.den, hE.e_iN, hE.e_tn, hE.e_aN, hE.e_sN, hE.e_sI, hE.e_mn] <;> omega)), ?_⟩ | refine ⟨fun _ => (hE.o (by simp only [Ob.den, hE.e_iN, hE.e_tn, hE.e_aN, hE.e_sN, hE.e_sI, hE.e_mn] <;> omega)), ?_⟩ | refine ⟨fun h => h, ?_⟩ | refine ⟨fun _ => rfl, ?_⟩ | refine ⟨fun _ h => h, ?_⟩ | refine ⟨fun _ _ => True.intro, ?_⟩ | refine ⟨fun _ h => absurd h Bool.false_ne_true, ?_⟩ | refine ⟨fun _ => True.intro, ?_⟩ | refine ⟨fun _ _ => rfl, ?_⟩ | refine ⟨(fun h => Bool.noConfusion h), ?_⟩ | refine ⟨True.intro, ?_⟩)
    exact ct_flat [] rfl ⟨rfl, fitU_refl _, trivial⟩
  | ok _ _ h h1 h2 p hp he hne q hq hl ha hb' =>
    rw [hb.2 h]
    cbv; (repeat ((first | rewrite [hE.ntT] | rewrite [hE.ntF] | rewrite [hE.pkT] | rewrite [hE.pkF] | rewrite [hE.anT] | rewrite [hE.anF] | rewrite [hE.anT'] | rewrite [hE.anF']); (repeat (first | rewrite [hE.ntT] | rewrite [hE.ntF] | rewrite [hE.pkT] | rewrite [hE.pkF] | rewrite [hE.anT] | rewrite [hE.anF] | rewrite [hE.anT'] | rewrite [hE.anF'])); cbv)); (repeat first | refine ⟨(fun h => absurd h Bool.false_ne_true), ?_⟩ | refine ⟨(hE.o (by simp only [Ob.den, hE.e_iN, hE.e_tn, hE.e_aN, hE.e_sN, hE.e_sI, hE.e_mn] <;> omega)), ?_⟩ | refine ⟨fun _ => (hE.o (by simp only [Ob.den, hE.e_iN, hE.e_tn, hE.e_aN, hE.e_sN, hE.e_sI, hE.e_mn] <;> omega)), ?_⟩ | refine ⟨fun h => h, ?_⟩ | refine ⟨fun _ => rfl, ?_⟩ | refine ⟨fun _ h => h, ?_⟩ | refine ⟨fun _ _ => True.intro, ?_⟩ | refine ⟨fun _ h => absurd h Bool.false_ne_true, ?_⟩ | refine ⟨fun _ => True.intro, ?_⟩ | refine ⟨fun _ _ => rfl, ?_⟩ | refine ⟨(fun h => Bool.noConfusion h), ?_⟩ | refine ⟨True.intro, ?_⟩)
    refine call_ct hX [] [] (ct34 s) (fits_nil ⟨fitU_refl _, trivial⟩) rfl trivial ?_
    rw [h1]
    cbv; (repeat ((first | rewrite [hE.ntT] | rewrite [hE.ntF] | rewrite [hE.pkT] | rewrite [hE.pkF] | rewrite [hE.anT] | rewrite [hE.anF] | rewrite [hE.anT'] | rewrite [hE.anF']); (repeat (first | rewrite [hE.ntT] | rewrite [hE.ntF] | rewrite [hE.pkT] | rewrite [hE.pkF] | rewrite [hE.anT] | rewrite [hE.anF] | rewrite [hE.anT'] | rewrite [hE.anF'])); cbv)); (repeat first | refine ⟨(fun h => absurd h Bool.false_ne_true), ?_⟩ | refine ⟨(hE.o (by simp only [Ob.den, hE.e_iN, hE.e_tn, hE.e_aN, hE.e_sN, hE.e_sI, hE.e_mn] <;> omega)), ?_⟩ | refine ⟨fun _ => (hE.o (by simp only [Ob.den, hE.e_iN, hE.e_tn, hE.e_aN, hE.e_sN, hE.e_sI, hE.e_mn] <;> omega)), ?_⟩ | refine ⟨fun h => h, ?_⟩ | refine ⟨fun _ => rfl, ?_⟩ | refine ⟨fun _ h => h, ?_⟩ | refine ⟨fun _ _ => True.intro, ?_⟩ | refine ⟨fun _ h => absurd h Bool.false_ne_true, ?_⟩ | refine ⟨fun _ => True.intro, ?_⟩ | refine ⟨fun _ _ => rfl, ?_⟩ | refine ⟨(fun h => Bool.noConfusion h), ?_⟩ | refine ⟨True.intro, ?_⟩)
    refine call_ct hX [] [] (ct34 t) (fits_nil ⟨fitU_refl _, trivial⟩) rfl trivial ?_
    rw [h2]
    cbv; (repeat ((first | rewrite [hE.ntT] | rewrite [hE.ntF] | rewrite [hE.pkT] | rewrite [hE.pkF] | rewrite [hE.anT] | rewrite [hE.anF] | rewrite [hE.anT'] | rewrite [hE.anF']); (repeat (first | rewrite [hE.ntT] | rewrite [hE.ntF] | rewrite [hE.pkT] | rewrite [hE.pkF] | rewrite [hE.anT] | rewrite [hE.anF] | rewrite [hE.anT'] | rewrite [hE.anF'])); cbv)); (repeat first | refine ⟨(fun h => absurd h Bool.false_ne_true), ?_⟩ | refine ⟨(hE.o (by simp only [Ob.den, hE.e_iN, hE.e_tn, hE.e_aN, hE.e_sN, hE.e_sI, hE.e_mn] <;> omega)), ?_⟩ | refine ⟨fun _ => (hE.o (by simp only [Ob.den, hE.e_iN, hE.e_tn, hE.e_aN, hE.e_sN, hE.e_sI, hE.e_mn] <;> omega)), ?_⟩ | refine ⟨fun h => h, ?_⟩ | refine ⟨fun _ => rfl, ?_⟩ | refine ⟨fun _ h => h, ?_⟩ | refine ⟨fun _ _ => True.intro, ?_⟩ | refine ⟨fun _ h => absurd h Bool.false_ne_true, ?_⟩ | refine ⟨fun _ => True.intro, ?_⟩ | refine ⟨fun _ _ => rfl, ?_⟩ | refine ⟨(fun h => Bool.noConfusion h), ?_⟩ | refine ⟨True.intro, ?_⟩)
    refine call_ct hX [] [] (ct20 o n nm id hn s _ _ (.there h h1 p hp he)) (fits_nil ⟨fitU_refl _, fitU_refl _, trivial⟩) rfl trivial ?_
    cbv; (repeat ((first | rewrite [e3] | rewrite [hE.ntT] | rewrite [hE.ntF] | rewrite [hE.pkT] | rewrite [hE.pkF] | rewrite [hE.anT] | rewrite [hE.anF] | rewrite [hE.anT'] | rewrite [hE.anF']); (repeat (first | rewrite [e3] | rewrite [hE.ntT] | rewrite [hE.ntF] | rewrite [hE.pkT] | rewrite [hE.pkF] | rewrite [hE.anT] | rewrite [hE.anF] | rewrite [hE.anT'] | rewrite [hE.anF'])); cbv)); (repeat first | refine ⟨(fun h => absurd h Bool.false_ne_true), ?_⟩ | refine ⟨(hE.o (by simp only [Ob.den, hE.e_iN, hE.e_tn, hE.e_aN, hE.e_sN, hE.e_sI, hE.e_mn] <;> omega)), ?_⟩ | refine ⟨fun _ => (hE.o (by simp only [Ob.den, hE.e_iN, hE.e_tn, hE.e_aN, hE.e_sN, hE.e_sI, hE.e_mn] <;> omega)), ?_⟩ | refine ⟨fun h => h, ?_⟩ | refine ⟨fun _ => rfl, ?_⟩ | refine ⟨fun _ h => h, ?_⟩ | refine ⟨fun _ _ => True.intro, ?_⟩ | refine ⟨fun _ h => absurd h Bool.false_ne_true, ?_⟩ | refine ⟨fun _ => True.intro, ?_⟩ | refine ⟨fun _ _ => rfl, ?_⟩ | refine ⟨(fun h => Bool.noConfusion h), ?_⟩ | refine ⟨True.intro, ?_⟩)
    refine call_ct hX [] [] (ct20 o n nm id hn t _ _ (.none h h2 hne)) (fits_nil ⟨fitU_refl _, fitU_refl _, trivial⟩) rfl trivial ?_
    cbv; (repeat ((first | rewrite [e6] | rewrite [hE.ntT] | rewrite [hE.ntF] | rewrite [hE.pkT] | rewrite [hE.pkF] | rewrite [hE.anT] | rewrite [hE.anF] | rewrite [hE.anT'] | rewrite [hE.anF']); (repeat (first | rewrite [e6] | rewrite [hE.ntT] | rewrite [hE.ntF] | rewrite [hE.pkT] | rewrite [hE.pkF] | rewrite [hE.anT] | rewrite [hE.anF] | rewrite [hE.anT'] | rewrite [hE.anF'])); cbv)); (repeat first | refine ⟨(fun h => absurd h Bool.false_ne_true), ?_⟩ | refine ⟨(hE.o (by simp only [Ob.den, hE.e_iN, hE.e_tn, hE.e_aN, hE.e_sN, hE.e_sI, hE.e_mn] <;> omega)), ?_⟩ | refine ⟨fun _ => (hE.o (by simp only [Ob.den, hE.e_iN, hE.e_tn, hE.e_aN, hE.e_sN, hE.e_sI, hE.e_mn] <;> omega)), ?_⟩ | refine ⟨fun h => h, ?_⟩ | refine ⟨fun _ => rfl, ?_⟩ | refine ⟨fun _ h => h, ?_⟩ | refine ⟨fun _ _ => True.intro, ?_⟩ | refine ⟨fun _ h => absurd h Bool.false_ne_true, ?_⟩ | refine ⟨fun _ => True.intro, ?_⟩ | refine ⟨fun _ _ => rfl, ?_⟩ | refine ⟨(fun h => Bool.noConfusion h), ?_⟩ | refine ⟨True.intro, ?_⟩)
    obtain ⟨nm1, hnm1⟩ : ∃ f, f = delF p nm := ⟨_, rfl⟩
    obtain ⟨id1, hid1⟩ : ∃ f, f = delF p id := ⟨_, rfl⟩
    refine call_ct hX [] [] (ct54 o n nm id hn s p hp (fun i hi => ⟨fun e' => h.same hp hi he e', fun e' => by rw [e', he]⟩) nm1 id1 (fun i => by rw [hnm1]) fun i => by rw [hid1]) (fits_nil ⟨fitU_refl _, fitU_refl _, trivial⟩) rfl trivial ?_
    obtain ⟨n1, hn1⟩ : ∃ k, k = n - 1 := ⟨_, rfl⟩
    rw [← hn1] at hq hl ⊢
    cbv; (repeat ((first | rewrite [hE.ntT] | rewrite [hE.ntF] | rewrite [hE.pkT] | rewrite [hE.pkF] | rewrite [hE.anT] | rewrite [hE.anF] | rewrite [hE.anT'] | rewrite [hE.anF']); (repeat (first | rewrite [hE.ntT] | rewrite [hE.ntF] | rewrite [hE.pkT] | rewrite [hE.pkF] | rewrite [hE.anT] | rewrite [hE.anF] | rewrite [hE.anT'] | rewrite [hE.anF'])); cbv)); (repeat first | refine ⟨(fun h => absurd h Bool.false_ne_true), ?_⟩ | refine ⟨(hE.o (by simp only [Ob.den, hE.e_iN, hE.e_tn, hE.e_aN, hE.e_sN, hE.e_sI, hE.e_mn] <;> omega)), ?_⟩ | refine ⟨fun _ => (hE.o (by simp only [Ob.den, hE.e_iN, hE.e_tn, hE.e_aN, hE.e_sN, hE.e_sI, hE.e_mn] <;> omega)), ?_⟩ | refine ⟨fun h => h, ?_⟩ | refine ⟨fun _ => rfl, ?_⟩ | refine ⟨fun _ h => h, ?_⟩ | refine ⟨fun _ _ => True.intro, ?_⟩ | refine ⟨fun _ h => absurd h Bool.false_ne_true, ?_⟩ | refine ⟨fun _ => True.intro, ?_⟩ | refine ⟨fun _ _ => rfl, ?_⟩ | refine ⟨(fun h => Bool.noConfusion h), ?_⟩ | refine ⟨True.intro, ?_⟩)
    refine call_ct hX [] [] (ct52 (.new 100) n1 nm1 id1 (by omega) t (id p) q hq (fun i hi => by
      have h6 := hl i hi
      rw [← hnm1] at h6
      have hne1 : nm1 i ≠ t := by rw [hnm1]; exact delF_ne (fun i hi _ => hne i hi) i (by omega)
      by_cases h7 : i < q
      · rw [decide_eq_true h7] at h6
        rw [bL_asymm h6]; exact (decide_eq_false (by omega)).symm
      · rw [decide_eq_false h7] at h6
        rw [decide_eq_true (show q ≤ i by omega)]
        rcases bL_tri (nm1 i) t with h8 | h8 | h8
        · rw [h8] at h6; cases h6
        · exact absurd h8 hne1
        · exact h8) nm' id' (by rw [hnm1]; exact ha) (by rw [hid1]; exact hb')) (fits_nil ⟨fitU_refl _, ⟨fitU_refl _, fitU_refl _, trivial⟩, trivial⟩) rfl trivial ?_
    cbv; (repeat ((first | rewrite [hE.ntT] | rewrite [hE.ntF] | rewrite [hE.pkT] | rewrite [hE.pkF] | rewrite [hE.anT] | rewrite [hE.anF] | rewrite [hE.anT'] | rewrite [hE.anF']); (repeat (first | rewrite [hE.ntT] | rewrite [hE.ntF] | rewrite [hE.pkT] | rewrite [hE.pkF] | rewrite [hE.anT] | rewrite [hE.anF] | rewrite [hE.anT'] | rewrite [hE.anF'])); cbv)); (repeat first | refine ⟨(fun h => absurd h Bool.false_ne_true), ?_⟩ | refine ⟨(hE.o (by simp only [Ob.den, hE.e_iN, hE.e_tn, hE.e_aN, hE.e_sN, hE.e_sI, hE.e_mn] <;> omega)), ?_⟩ | refine ⟨fun _ => (hE.o (by simp only [Ob.den, hE.e_iN, hE.e_tn, hE.e_aN, hE.e_sN, hE.e_sI, hE.e_mn] <;> omega)), ?_⟩ | refine ⟨fun h => h, ?_⟩ | refine ⟨fun _ => rfl, ?_⟩ | refine ⟨fun _ h => h, ?_⟩ | refine ⟨fun _ _ => True.intro, ?_⟩ | refine ⟨fun _ h => absurd h Bool.false_ne_true, ?_⟩ | refine ⟨fun _ => True.intro, ?_⟩ | refine ⟨fun _ _ => rfl, ?_⟩ | refine ⟨(fun h => Bool.noConfusion h), ?_⟩ | refine ⟨True.intro, ?_⟩)
    exact ct_flat [] rfl ⟨fitU_refl _, fitU_refl _, trivial⟩
end Ytohkcdfjpgdfbaa
end
section
open Go Am
set_option maxRecDepth 100000
set_option maxHeartbeats 4000000
set_option linter.unusedVariables false
set_option linter.unusedSimpArgs false
namespace Ytohkcdfjpgdfbaa
theorem ct18 (o : Tg) (n : Nat) (nm : Nat → ByteArray) (id : Nat → Int) (hn : n ≤ 100000) : CT Go.Proofs.Try.prog 18 [catS o n nm id] [] (catS (.new 100) n nm id) [] := by
  refine enter18 rfl rfl ?_
  intro ob ib ic sb cat iu nt an be pk wr tn iN aN sN lN eN bt sub sl rn ofB mn dc dn sI X hE hX
  cbv
  refine loop_at hE hX tabOK (by kernel_rfl) funcsOK rfl (α := Nat) (fun k => (sets (pad 26) [(0, catS o n nm id), (3, .sr 0 2 0 k), (4, scI .i64 (iN k))], [.arr 100 2 k fun i => [.sc (.string (nm i)), .sc (.int .u64 (id i))]])) (fun k => k ≤ n) (fun k => n - k) 0 (by omega) ?_ ?_
  · exact ⟨[none], [], ⟨rfl, rfl, rfl, rfl, by (cbv <;> (repeat' first | exact True.intro | exact ⟨.inr trivial, fun _ _ => rfl⟩ | exact rfl | exact fun _ _ => rfl | refine And.intro ?_ ?_ | rw [hE.iN0] | rw [hE.e_aN]))⟩, by (cbv <;> (repeat' first | exact True.intro | exact ⟨.inr trivial, fun _ _ => rfl⟩ | exact rfl | exact fun _ _ => rfl | refine And.intro ?_ ?_ | rw [hE.iN0] | rw [hE.e_aN]))⟩
  · rintro k hk
    by_cases hkn : k < n
    · have hc : ic .lss (iN k) (iN n) = true := by rw [hE.ltN]; exact decide_eq_true hkn
      have hi := hE.incN (a := k) (by omega)
      cbv; (repeat ((first | rewrite [hc] | rewrite [hi] | rewrite [hE.tnN] | rewrite [hE.ntT] | rewrite [hE.ntF] | rewrite [hE.pkT] | rewrite [hE.pkF] | rewrite [hE.anT] | rewrite [hE.anF] | rewrite [hE.anT'] | rewrite [hE.anF']); (repeat (first | rewrite [hc] | rewrite [hi] | rewrite [hE.tnN] | rewrite [hE.ntT] | rewrite [hE.ntF] | rewrite [hE.pkT] | rewrite [hE.pkF] | rewrite [hE.anT] | rewrite [hE.anF] | rewrite [hE.anT'] | rewrite [hE.anF'])); cbv)); (repeat first | refine ⟨(fun h => absurd h Bool.false_ne_true), ?_⟩ | refine ⟨(hE.o (by simp only [Ob.den, hE.e_iN, hE.e_tn, hE.e_aN, hE.e_sN, hE.e_sI, hE.e_mn] <;> omega)), ?_⟩ | refine ⟨fun _ => (hE.o (by simp only [Ob.den, hE.e_iN, hE.e_tn, hE.e_aN, hE.e_sN, hE.e_sI, hE.e_mn] <;> omega)), ?_⟩ | refine ⟨fun h => h, ?_⟩ | refine ⟨fun _ => rfl, ?_⟩ | refine ⟨fun _ h => h, ?_⟩ | refine ⟨fun _ _ => True.intro, ?_⟩ | refine ⟨fun _ h => absurd h Bool.false_ne_true, ?_⟩ | refine ⟨fun _ => True.intro, ?_⟩ | refine ⟨fun _ _ => rfl, ?_⟩ | refine ⟨(fun h => Bool.noConfusion h), ?_⟩ | refine ⟨True.intro, ?_⟩)
      exact ⟨k + 1, by omega, by omega, [some 2], [], ⟨rfl, rfl, rfl, rfl, ⟨rfl, rfl, rfl, by rw [hE.e_aN], hE.app1 rfl⟩, trivial⟩, by (cbv <;> (repeat' first | exact True.intro | exact ⟨.inr trivial, fun _ _ => rfl⟩ | exact rfl | exact fun _ _ => rfl | refine And.intro ?_ ?_ | rw [hE.iN0] | rw [hE.e_aN]))⟩
    · have hc : ic .lss (iN k) (iN n) = false := by rw [hE.ltN]; exact decide_eq_false hkn
      obtain rfl : k = n := by omega
      cbv; (repeat ((first | rewrite [hc] | rewrite [hE.ntT] | rewrite [hE.ntF] | rewrite [hE.pkT] | rewrite [hE.pkF] | rewrite [hE.anT] | rewrite [hE.anF] | rewrite [hE.anT'] | rewrite [hE.anF']); (repeat (first | rewrite [hc] | rewrite [hE.ntT] | rewrite [hE.ntF] | rewrite [hE.pkT] | rewrite [hE.pkF] | rewrite [hE.anT] | rewrite [hE.anF] | rewrite [hE.anT'] | rewrite [hE.anF'])); cbv)); (repeat first | refine ⟨(fun h => absurd h Bool.false_ne_true), ?_⟩ | refine ⟨(hE.o (by simp only [Ob.den, hE.e_iN, hE.e_tn, hE.e_aN, hE.e_sN, hE.e_sI, hE.e_mn] <;> omega)), ?_⟩ | refine ⟨fun _ => (hE.o (by simp only [Ob.den, hE.e_iN, hE.e_tn, hE.e_aN, hE.e_sN, hE.e_sI, hE.e_mn] <;> omega)), ?_⟩ | refine ⟨fun h => h, ?_⟩ | refine ⟨fun _ => rfl, ?_⟩ | refine ⟨fun _ h => h, ?_⟩ | refine ⟨fun _ _ => True.intro, ?_⟩ | refine ⟨fun _ h => absurd h Bool.false_ne_true, ?_⟩ | refine ⟨fun _ => True.intro, ?_⟩ | refine ⟨fun _ _ => rfl, ?_⟩ | refine ⟨(fun h => Bool.noConfusion h), ?_⟩ | refine ⟨True.intro, ?_⟩)
      exact ct_flat [0] rfl ⟨rfl, rfl, rfl, rfl, rfl, by omega, fun i _ => by rw [Nat.zero_add]⟩
theorem ct27 (o o' : Tg) (n : Nat) (nm nm' : Nat → ByteArray) (id id' : Nat → Int) (hn : n ≤ 100000) (h : ∀ i, i < n → nm i = nm' i ∧ id i = id' i) : CT Go.Proofs.Try.prog 27 [catS o n nm id, catS o' n nm' id'] [] (scB true) [] := by
  refine enter27 rfl rfl ?_
  intro ob ib ic sb cat iu nt an be pk wr tn iN aN sN lN eN bt sub sl rn ofB mn dc dn sI X hE hX
  cbv
  have h0 : ic .neq (iN n) (iN n) = false := by rw [hE.neN]; simp
  cbv; (repeat ((first | rewrite [h0] | rewrite [hE.ntT] | rewrite [hE.ntF] | rewrite [hE.pkT] | rewrite [hE.pkF] | rewrite [hE.anT] | rewrite [hE.anF] | rewrite [hE.anT'] | rewrite [hE.anF']); (repeat (first | rewrite [h0] | rewrite [hE.ntT] | rewrite [hE.ntF] | rewrite [hE.pkT] | rewrite [hE.pkF] | rewrite [hE.anT] | rewrite [hE.anF] | rewrite [hE.anT'] | rewrite [hE.anF'])); cbv)); (repeat first | refine ⟨(fun h => absurd h Bool.false_ne_true), ?_⟩ | refine ⟨(hE.o (by simp only [Ob.den, hE.e_iN, hE.e_tn, hE.e_aN, hE.e_sN, hE.e_sI, hE.e_mn] <;> omega)), ?_⟩ | refine ⟨fun _ => (hE.o (by simp only [Ob.den, hE.e_iN, hE.e_tn, hE.e_aN, hE.e_sN, hE.e_sI, hE.e_mn] <;> omega)), ?_⟩ | refine ⟨fun h => h, ?_⟩ | refine ⟨fun _ => rfl, ?_⟩ | refine ⟨fun _ h => h, ?_⟩ | refine ⟨fun _ _ => True.intro, ?_⟩ | refine ⟨fun _ h => absurd h Bool.false_ne_true, ?_⟩ | refine ⟨fun _ => True.intro, ?_⟩ | refine ⟨fun _ _ => rfl, ?_⟩ | refine ⟨(fun h => Bool.noConfusion h), ?_⟩ | refine ⟨True.intro, ?_⟩)
  refine loop_at hE hX tabOK (by kernel_rfl) funcsOK rfl (α := Nat) (fun k => (sets (pad 41) [(0, catS o n nm id), (1, catS o' n nm' id'), (5, scI .i64 (iN k))], [])) (fun k => k ≤ n) (fun k => n - k) 0 (by omega) ?_ ?_
  · exact ⟨[], [], ⟨rfl, rfl, rfl, rfl, trivial⟩, by (cbv <;> (repeat' first | exact True.intro | exact ⟨.inr trivial, fun _ _ => rfl⟩ | exact rfl | exact fun _ _ => rfl | refine And.intro ?_ ?_ | rw [hE.iN0] | rw [hE.e_aN]))⟩
  · rintro k hk
    by_cases hkn : k < n
    · have hc : ic .lss (iN k) (iN n) = true := by rw [hE.ltN]; exact decide_eq_true hkn
      have hi := hE.incN (a := k) (by omega)
      have h1 : sb .neq (nm k) (nm' k) = false := by rw [hE.sneq, (h k hkn).1]; simp
      have h2 : ic .neq (id k) (id' k) = false := by rw [hE.neq, (h k hkn).2]; simp
      cbv; (repeat ((first | rewrite [hc] | rewrite [hi] | rewrite [hE.tnN] | rewrite [h1] | rewrite [h2] | rewrite [hE.ntT] | rewrite [hE.ntF] | rewrite [hE.pkT] | rewrite [hE.pkF] | rewrite [hE.anT] | rewrite [hE.anF] | rewrite [hE.anT'] | rewrite [hE.anF']); (repeat (first | rewrite [hc] | rewrite [hi] | rewrite [hE.tnN] | rewrite [h1] | rewrite [h2] | rewrite [hE.ntT] | rewrite [hE.ntF] | rewrite [hE.pkT] | rewrite [hE.pkF] | rewrite [hE.anT] | rewrite [hE.anF] | rewrite [hE.anT'] | rewrite [hE.anF'])); cbv)); (repeat first | refine ⟨(fun h => absurd h Bool.false_ne_true), ?_⟩ | refine ⟨(hE.o (by simp only [Ob.den, hE.e_iN, hE.e_tn, hE.e_aN, hE.e_sN, hE.e_sI, hE.e_mn] <;> omega)), ?_⟩ | refine ⟨fun _ => (hE.o (by simp only [Ob.den, hE.e_iN, hE.e_tn, hE.e_aN, hE.e_sN, hE.e_sI, hE.e_mn] <;> omega)), ?_⟩ | refine ⟨fun h => h, ?_⟩ | refine ⟨fun _ => rfl, ?_⟩ | refine ⟨fun _ h => h, ?_⟩ | refine ⟨fun _ _ => True.intro, ?_⟩ | refine ⟨fun _ h => absurd h Bool.false_ne_true, ?_⟩ | refine ⟨fun _ => True.intro, ?_⟩ | refine ⟨fun _ _ => rfl, ?_⟩ | refine ⟨(fun h => Bool.noConfusion h), ?_⟩ | refine ⟨True.intro, ?_⟩)
      exact ⟨k + 1, by omega, by omega, [], [], ⟨rfl, rfl, rfl, rfl, trivial⟩, by (cbv <;> (repeat' first | exact True.intro | exact ⟨.inr trivial, fun _ _ => rfl⟩ | exact rfl | exact fun _ _ => rfl | refine And.intro ?_ ?_ | rw [hE.iN0] | rw [hE.e_aN]))⟩
    · have hc : ic .lss (iN k) (iN n) = false := by rw [hE.ltN]; exact decide_eq_false hkn
      cbv; (repeat ((first | rewrite [hc] | rewrite [hE.ntT] | rewrite [hE.ntF] | rewrite [hE.pkT] | rewrite [hE.pkF] | rewrite [hE.anT] | rewrite [hE.anF] | rewrite [hE.anT'] | rewrite [hE.anF']); (repeat (first | rewrite [hc] | rewrite [hE.ntT] | rewrite [hE.ntF] | rewrite [hE.pkT] | rewrite [hE.pkF] | rewrite [hE.anT] | rewrite [hE.anF] | rewrite [hE.anT'] | rewrite [hE.anF'])); cbv)); (repeat first | refine ⟨(fun h => absurd h Bool.false_ne_true), ?_⟩ | refine ⟨(hE.o (by simp only [Ob.den, hE.e_iN, hE.e_tn, hE.e_aN, hE.e_sN, hE.e_sI, hE.e_mn] <;> omega)), ?_⟩ | refine ⟨fun _ => (hE.o (by simp only [Ob.den, hE.e_iN, hE.e_tn, hE.e_aN, hE.e_sN, hE.e_sI, hE.e_mn] <;> omega)), ?_⟩ | refine ⟨fun h => h, ?_⟩ | refine ⟨fun _ => rfl, ?_⟩ | refine ⟨fun _ h => h, ?_⟩ | refine ⟨fun _ _ => True.intro, ?_⟩ | refine ⟨fun _ h => absurd h Bool.false_ne_true, ?_⟩ | refine ⟨fun _ => True.intro, ?_⟩ | refine ⟨fun _ _ => rfl, ?_⟩ | refine ⟨(fun h => Bool.noConfusion h), ?_⟩ | refine ⟨True.intro, ?_⟩)
      exact ct_u rfl
theorem ct16 (o : Tg) (n : Nat) (nm : Nat → ByteArray) (id : Nat → Int) (b : Bool) (hb : b = true ↔ n ≤ 20 ∧ ∀ i, i < n → i < 21 → (nm i).size ≤ 100) : CT Go.Proofs.Try.prog 16 [catS o n nm id] [] (scB b) [] := by
  refine enter16 rfl rfl ?_
  intro ob ib ic sb cat iu nt an be pk wr tn iN aN sN lN eN bt sub sl rn ofB mn dc dn sI X hE hX
  cbv
  refine loop_at hE hX tabOK (by kernel_rfl) funcsOK rfl (α := Nat) (fun k => (sets (pad 24) [(0, catS o n nm id), (3, scI .i64 (iN k))], [])) (fun k => k ≤ 21 ∧ k ≤ n ∧ ∀ i, i < k → (nm i).size ≤ 100) (fun k => 21 - k) 0 ⟨by omega, by omega, fun i hi => by omega⟩ ?_ ?_
  · exact ⟨[], [], ⟨rfl, rfl, rfl, rfl, trivial⟩, by (cbv <;> (repeat' first | exact True.intro | exact ⟨.inr trivial, fun _ _ => rfl⟩ | exact rfl | exact fun _ _ => rfl | refine And.intro ?_ ?_ | rw [hE.iN0] | rw [hE.e_aN]))⟩
  · rintro k ⟨hk, hkn, hs⟩
    by_cases h1 : k < n
    · have hc : ic .lss (iN k) (iN n) = true := by rw [hE.ltN]; exact decide_eq_true h1
      by_cases h2 : k < 21
      · have hc2 : ic .lss (iN k) 21 = true := by rw [hE.lss, hE.e_iN]; exact decide_eq_true (by omega)
        have hi := hE.incN (a := k) (by omega)
        by_cases h3 : (nm k).size ≤ 100
        · have h4 : ic .gtr (sl (nm k)) 100 = false := by rw [hE.gtr, hE.e_sl]; exact decide_eq_false (by omega)
          cbv; (repeat ((first | rewrite [hc] | rewrite [hc2] | rewrite [hE.tnN] | rewrite [h4] | rewrite [hi] | rewrite [hE.ntT] | rewrite [hE.ntF] | rewrite [hE.pkT] | rewrite [hE.pkF] | rewrite [hE.anT] | rewrite [hE.anF] | rewrite [hE.anT'] | rewrite [hE.anF']); (repeat (first | rewrite [hc] | rewrite [hc2] | rewrite [hE.tnN] | rewrite [h4] | rewrite [hi] | rewrite [hE.ntT] | rewrite [hE.ntF] | rewrite [hE.pkT] | rewrite [hE.pkF] | rewrite [hE.anT] | rewrite [hE.anF] | rewrite [hE.anT'] | rewrite [hE.anF'])); cbv)); (repeat first | refine ⟨(fun h => absurd h Bool.false_ne_true), ?_⟩ | refine ⟨(hE.o (by simp only [Ob.den, hE.e_iN, hE.e_tn, hE.e_aN, hE.e_sN, hE.e_sI, hE.e_mn] <;> omega)), ?_⟩ | refine ⟨fun _ => (hE.o (by simp only [Ob.den, hE.e_iN, hE.e_tn, hE.e_aN, hE.e_sN, hE.e_sI, hE.e_mn] <;> omega)), ?_⟩ | refine ⟨fun h => h, ?_⟩ | refine ⟨fun _ => rfl, ?_⟩ | refine ⟨fun _ h => h, ?_⟩ | refine ⟨fun _ _ => True.intro, ?_⟩ | refine ⟨fun _ h => absurd h Bool.false_ne_true, ?_⟩ | refine ⟨fun _ => True.intro, ?_⟩ | refine ⟨fun _ _ => rfl, ?_⟩ | refine ⟨(fun h => Bool.noConfusion h), ?_⟩ | refine ⟨True.intro, ?_⟩)
          exact ⟨k + 1, ⟨by omega, by omega, snoc hs h3⟩, by omega, [], [], ⟨rfl, rfl, rfl, rfl, trivial⟩, by (cbv <;> (repeat' first | exact True.intro | exact ⟨.inr trivial, fun _ _ => rfl⟩ | exact rfl | exact fun _ _ => rfl | refine And.intro ?_ ?_ | rw [hE.iN0] | rw [hE.e_aN]))⟩
        · have h4 : ic .gtr (sl (nm k)) 100 = true := by rw [hE.gtr, hE.e_sl]; exact decide_eq_true (by omega)
          cbv; (repeat ((first | rewrite [hc] | rewrite [hc2] | rewrite [hE.tnN] | rewrite [h4] | rewrite [hE.ntT] | rewrite [hE.ntF] | rewrite [hE.pkT] | rewrite [hE.pkF] | rewrite [hE.anT] | rewrite [hE.anF] | rewrite [hE.anT'] | rewrite [hE.anF']); (repeat (first | rewrite [hc] | rewrite [hc2] | rewrite [hE.tnN] | rewrite [h4] | rewrite [hE.ntT] | rewrite [hE.ntF] | rewrite [hE.pkT] | rewrite [hE.pkF] | rewrite [hE.anT] | rewrite [hE.anF] | rewrite [hE.anT'] | rewrite [hE.anF'])); cbv)); (repeat first | refine ⟨(fun h => absurd h Bool.false_ne_true), ?_⟩ | refine ⟨(hE.o (by simp only [Ob.den, hE.e_iN, hE.e_tn, hE.e_aN, hE.e_sN, hE.e_sI, hE.e_mn] <;> omega)), ?_⟩ | refine ⟨fun _ => (hE.o (by simp only [Ob.den, hE.e_iN, hE.e_tn, hE.e_aN, hE.e_sN, hE.e_sI, hE.e_mn] <;> omega)), ?_⟩ | refine ⟨fun h => h, ?_⟩ | refine ⟨fun _ => rfl, ?_⟩ | refine ⟨fun _ h => h, ?_⟩ | refine ⟨fun _ _ => True.intro, ?_⟩ | refine ⟨fun _ h => absurd h Bool.false_ne_true, ?_⟩ | refine ⟨fun _ => True.intro, ?_⟩ | refine ⟨fun _ _ => rfl, ?_⟩ | refine ⟨(fun h => Bool.noConfusion h), ?_⟩ | refine ⟨True.intro, ?_⟩)
          rw [show b = false from bfalse fun e => h3 ((hb.1 e).2 k h1 h2)]
          exact ct_u rfl
      · have hc2 : ic .lss (iN k) 21 = false := by rw [hE.lss, hE.e_iN]; exact decide_eq_false (by omega)
        have h5 : ic .leq (iN n) 20 = b := by
          rw [hE.leq, hE.e_iN, show b = false from bfalse fun e => (by have := (hb.1 e).1; omega)]
          exact decide_eq_false (by omega)
        cbv; (repeat ((first | rewrite [hc] | rewrite [hc2] | rewrite [h5] | rewrite [hE.ntT] | rewrite [hE.ntF] | rewrite [hE.pkT] | rewrite [hE.pkF] | rewrite [hE.anT] | rewrite [hE.anF] | rewrite [hE.anT'] | rewrite [hE.anF']); (repeat (first | rewrite [hc] | rewrite [hc2] | rewrite [h5] | rewrite [hE.ntT] | rewrite [hE.ntF] | rewrite [hE.pkT] | rewrite [hE.pkF] | rewrite [hE.anT] | rewrite [hE.anF] | rewrite [hE.anT'] | rewrite [hE.anF'])); cbv)); (repeat first | refine ⟨(fun h => absurd h Bool.false_ne_true), ?_⟩ | refine ⟨(hE.o (by simp only [Ob.den, hE.e_iN, hE.e_tn, hE.e_aN, hE.e_sN, hE.e_sI, hE.e_mn] <;> omega)), ?_⟩ | refine ⟨fun _ => (hE.o (by simp only [Ob.den, hE.e_iN, hE.e_tn, hE.e_aN, hE.e_sN, hE.e_sI, hE.e_mn] <;> omega)), ?_⟩ | refine ⟨fun h => h, ?_⟩ | refine ⟨fun _ => rfl, ?_⟩ | refine ⟨fun _ h => h, ?_⟩ | refine ⟨fun _ _ => True.intro, ?_⟩ | refine ⟨fun _ h => absurd h Bool.false_ne_true, ?_⟩ | refine ⟨fun _ => True.intro, ?_⟩ | refine ⟨fun _ _ => rfl, ?_⟩ | refine ⟨(fun h => Bool.noConfusion h), ?_⟩ | refine ⟨True.intro, ?_⟩)
        exact ct_u rfl
    · have hc : ic .lss (iN k) (iN n) = false := by rw [hE.ltN]; exact decide_eq_false h1
      have h5 : ic .leq (iN n) 20 = b := by
        rw [hE.leq, hE.e_iN]
        cases b
        · exact decide_eq_false fun h => by have := hb.2 ⟨by omega, fun i hi _ => hs i (by omega)⟩; cases this
        · exact decide_eq_true (by have := (hb.1 rfl).1; omega)
      cbv; (repeat ((first | rewrite [hc] | rewrite [h5] | rewrite [hE.ntT] | rewrite [hE.ntF] | rewrite [hE.pkT] | rewrite [hE.pkF] | rewrite [hE.anT] | rewrite [hE.anF] | rewrite [hE.anT'] | rewrite [hE.anF']); (repeat (first | rewrite [hc] | rewrite [h5] | rewrite [hE.ntT] | rewrite [hE.ntF] | rewrite [hE.pkT] | rewrite [hE.pkF] | rewrite [hE.anT] | rewrite [hE.anF] | rewrite [hE.anT'] | rewrite [hE.anF'])); cbv)); (repeat first | refine ⟨(fun h => absurd h Bool.false_ne_true), ?_⟩ | refine ⟨(hE.o (by simp only [Ob.den, hE.e_iN, hE.e_tn, hE.e_aN, hE.e_sN, hE.e_sI, hE.e_mn] <;> omega)), ?_⟩ | refine ⟨fun _ => (hE.o (by simp only [Ob.den, hE.e_iN, hE.e_tn, hE.e_aN, hE.e_sN, hE.e_sI, hE.e_mn] <;> omega)), ?_⟩ | refine ⟨fun h => h, ?_⟩ | refine ⟨fun _ => rfl, ?_⟩ | refine ⟨fun _ h => h, ?_⟩ | refine ⟨fun _ _ => True.intro, ?_⟩ | refine ⟨fun _ h => absurd h Bool.false_ne_true, ?_⟩ | refine ⟨fun _ => True.intro, ?_⟩ | refine ⟨fun _ _ => rfl, ?_⟩ | refine ⟨(fun h => Bool.noConfusion h), ?_⟩ | refine ⟨True.intro, ?_⟩)
      exact ct_u rfl
theorem ct31 (o : Tg) (n : Nat) (nm : Nat → ByteArray) (id : Nat → Int) (hn : n ≤ 100000) : CT Go.Proofs.Try.prog 31 [catS o n nm id] [] (strS (.new 9) n nm) [] := by
  refine enter31 rfl rfl ?_
  intro ob ib ic sb cat iu nt an be pk wr tn iN aN sN lN eN bt sub sl rn ofB mn dc dn sI X hE hX
  cbv
  refine loop_at hE hX tabOK (by kernel_rfl) funcsOK rfl (α := Nat) (fun k => (sets (pad 18) [(2, .sr 0 1 0 k), (5, catS o n nm id), (6, scI .i64 (iN n)), (7, scI .i64 (iN k))], [.arr 9 1 k fun i => [.sc (.string (nm i))]])) (fun k => k ≤ n) (fun k => n - k) 0 (by omega) ?_ ?_
  · exact ⟨[none], [], ⟨rfl, rfl, rfl, rfl, by (cbv <;> (repeat' first | exact True.intro | exact ⟨.inr trivial, fun _ _ => rfl⟩ | exact rfl | exact fun _ _ => rfl | refine And.intro ?_ ?_ | rw [hE.iN0] | rw [hE.e_aN]))⟩, by (cbv <;> (repeat' first | exact True.intro | exact ⟨.inr trivial, fun _ _ => rfl⟩ | exact rfl | exact fun _ _ => rfl | refine And.intro ?_ ?_ | rw [hE.iN0] | rw [hE.e_aN]))⟩
  · rintro k hk
    by_cases hkn : k < n
    · have hc : ic .lss (iN k) (iN n) = true := by rw [hE.ltN]; exact decide_eq_true hkn
      have hi := hE.incN (a := k) (by omega)
      cbv; (repeat ((first | rewrite [hc] | rewrite [hi] | rewrite [hE.tnN] | rewrite [hE.ntT] | rewrite [hE.ntF] | rewrite [hE.pkT] | rewrite [hE.pkF] | rewrite [hE.anT] | rewrite [hE.anF] | rewrite [hE.anT'] | rewrite [hE.anF']); (repeat (first | rewrite [hc] | rewrite [hi] | rewrite [hE.tnN] | rewrite [hE.ntT] | rewrite [hE.ntF] | rewrite [hE.pkT] | rewrite [hE.pkF] | rewrite [hE.anT] | rewrite [hE.anF] | rewrite [hE.anT'] | rewrite [hE.anF'])); cbv)); (repeat first | refine ⟨(fun h => absurd h Bool.false_ne_true), ?_⟩ | refine ⟨(hE.o (by simp only [Ob.den, hE.e_iN, hE.e_tn, hE.e_aN, hE.e_sN, hE.e_sI, hE.e_mn] <;> omega)), ?_⟩ | refine ⟨fun _ => (hE.o (by simp only [Ob.den, hE.e_iN, hE.e_tn, hE.e_aN, hE.e_sN, hE.e_sI, hE.e_mn] <;> omega)), ?_⟩ | refine ⟨fun h => h, ?_⟩ | refine ⟨fun _ => rfl, ?_⟩ | refine ⟨fun _ h => h, ?_⟩ | refine ⟨fun _ _ => True.intro, ?_⟩ | refine ⟨fun _ h => absurd h Bool.false_ne_true, ?_⟩ | refine ⟨fun _ => True.intro, ?_⟩ | refine ⟨fun _ _ => rfl, ?_⟩ | refine ⟨(fun h => Bool.noConfusion h), ?_⟩ | refine ⟨True.intro, ?_⟩)
      exact ⟨k + 1, by omega, by omega, [some 3], [], ⟨rfl, rfl, rfl, rfl, ⟨rfl, rfl, rfl, by rw [hE.e_aN], hE.app1 rfl⟩, trivial⟩, by (cbv <;> (repeat' first | exact True.intro | exact ⟨.inr trivial, fun _ _ => rfl⟩ | exact rfl | exact fun _ _ => rfl | refine And.intro ?_ ?_ | rw [hE.iN0] | rw [hE.e_aN]))⟩
    · have hc : ic .lss (iN k) (iN n) = false := by rw [hE.ltN]; exact decide_eq_false hkn
      obtain rfl : k = n := by omega
      cbv; (repeat ((first | rewrite [hc] | rewrite [hE.ntT] | rewrite [hE.ntF] | rewrite [hE.pkT] | rewrite [hE.pkF] | rewrite [hE.anT] | rewrite [hE.anF] | rewrite [hE.anT'] | rewrite [hE.anF']); (repeat (first | rewrite [hc] | rewrite [hE.ntT] | rewrite [hE.ntF] | rewrite [hE.pkT] | rewrite [hE.pkF] | rewrite [hE.anT] | rewrite [hE.anF] | rewrite [hE.anT'] | rewrite [hE.anF'])); cbv)); (repeat first | refine ⟨(fun h => absurd h Bool.false_ne_true), ?_⟩ | refine ⟨(hE.o (by simp only [Ob.den, hE.e_iN, hE.e_tn, hE.e_aN, hE.e_sN, hE.e_sI, hE.e_mn] <;> omega)), ?_⟩ | refine ⟨fun _ => (hE.o (by simp only [Ob.den, hE.e_iN, hE.e_tn, hE.e_aN, hE.e_sN, hE.e_sI, hE.e_mn] <;> omega)), ?_⟩ | refine ⟨fun h => h, ?_⟩ | refine ⟨fun _ => rfl, ?_⟩ | refine ⟨fun _ h => h, ?_⟩ | refine ⟨fun _ _ => True.intro, ?_⟩ | refine ⟨fun _ h => absurd h Bool.false_ne_true, ?_⟩ | refine ⟨fun _ => True.intro, ?_⟩ | refine ⟨fun _ _ => rfl, ?_⟩ | refine ⟨(fun h => Bool.noConfusion h), ?_⟩ | refine ⟨True.intro, ?_⟩)
      exact ct_flat [0] rfl ⟨rfl, rfl, rfl, rfl, rfl, by omega, fun i _ => by rw [Nat.zero_add]⟩
theorem ct32 (o : Tg) (n : Nat) (nm : Nat → ByteArray) (id : Nat → Int) (hn : n ≤ 100000) : CT Go.Proofs.Try.prog 32 [catS o n nm id] [] (strS (.new 9) n nm) [] := by
  refine enter32 rfl rfl ?_
  intro ob ib ic sb cat iu nt an be pk wr tn iN aN sN lN eN bt sub sl rn ofB mn dc dn sI X hE hX
  cbv
  refine loop_at hE hX tabOK (by kernel_rfl) funcsOK rfl (α := Nat) (fun k => (sets (pad 20) [(0, catS o n nm id), (3, .sr 0 1 0 k), (4, scI .i64 (iN k))], [.arr 9 1 k fun i => [.sc (.string (nm i))]])) (fun k => k ≤ n) (fun k => n - k) 0 (by omega) ?_ ?_
  · refine ⟨[none], [], ⟨rfl, rfl, rfl, rfl, by (cbv <;> (repeat' first | exact True.intro | exact ⟨.inr trivial, fun _ _ => rfl⟩ | exact rfl | exact fun _ _ => rfl | refine And.intro ?_ ?_ | rw [hE.iN0] | rw [hE.e_aN]))⟩, by (cbv <;> (repeat' first | exact True.intro | exact ⟨.inr trivial, fun _ _ => rfl⟩ | exact rfl | exact fun _ _ => rfl | refine And.intro ?_ ?_ | rw [hE.iN0] | rw [hE.e_aN]))⟩
  · rintro k hk
    by_cases hkn : k < n
    · have hc : ic .lss (iN k) (iN n) = true := by rw [hE.ltN]; exact decide_eq_true hkn
      have hi := hE.incN (a := k) (by omega)
      cbv; (repeat ((first | rewrite [hc] | rewrite [hi] | rewrite [hE.tnN] | rewrite [hE.ntT] | rewrite [hE.ntF] | rewrite [hE.pkT] | rewrite [hE.pkF] | rewrite [hE.anT] | rewrite [hE.anF] | rewrite [hE.anT'] | rewrite [hE.anF']); (repeat (first | rewrite [hc] | rewrite [hi] | rewrite [hE.tnN] | rewrite [hE.ntT] | rewrite [hE.ntF] | rewrite [hE.pkT] | rewrite [hE.pkF] | rewrite [hE.anT] | rewrite [hE.anF] | rewrite [hE.anT'] | rewrite [hE.anF'])); cbv)); (repeat first | refine ⟨(fun h => absurd h Bool.false_ne_true), ?_⟩ | refine ⟨(hE.o (by simp only [Ob.den, hE.e_iN, hE.e_tn, hE.e_aN, hE.e_sN, hE.e_sI, hE.e_mn] <;> omega)), ?_⟩ | refine ⟨fun _ => (hE.o (by simp only [Ob.den, hE.e_iN, hE.e_tn, hE.e_aN, hE.e_sN, hE.e_sI, hE.e_mn] <;> omega)), ?_⟩ | refine ⟨fun h => h, ?_⟩ | refine ⟨fun _ => rfl, ?_⟩ | refine ⟨fun _ h => h, ?_⟩ | refine ⟨fun _ _ => True.intro, ?_⟩ | refine ⟨fun _ h => absurd h Bool.false_ne_true, ?_⟩ | refine ⟨fun _ => True.intro, ?_⟩ | refine ⟨fun _ _ => rfl, ?_⟩ | refine ⟨(fun h => Bool.noConfusion h), ?_⟩ | refine ⟨True.intro, ?_⟩)
      exact ⟨k + 1, by omega, by omega, [some 2], [], ⟨rfl, rfl, rfl, rfl, ⟨rfl, rfl, rfl, by rw [hE.e_aN], hE.app1 rfl⟩, trivial⟩, by (cbv <;> (repeat' first | exact True.intro | exact ⟨.inr trivial, fun _ _ => rfl⟩ | exact rfl | exact fun _ _ => rfl | refine And.intro ?_ ?_ | rw [hE.iN0] | rw [hE.e_aN]))⟩
    · have hc : ic .lss (iN k) (iN n) = false := by rw [hE.ltN]; exact decide_eq_false hkn
      obtain rfl : k = n := by omega
      cbv; (repeat ((first | rewrite [hc] | rewrite [hE.ntT] | rewrite [hE.ntF] | rewrite [hE.pkT] | rewrite [hE.pkF] | rewrite [hE.anT] | rewrite [hE.anF] | rewrite [hE.anT'] | rewrite [hE.anF']); (repeat (first | rewrite [hc] | rewrite [hE.ntT] | rewrite [hE.ntF] | rewrite [hE.pkT] | rewrite [hE.pkF] | rewrite [hE.anT] | rewrite [hE.anF] | rewrite [hE.anT'] | rewrite [hE.anF'])); cbv)); (repeat first | refine ⟨(fun h => absurd h Bool.false_ne_true), ?_⟩ | refine ⟨(hE.o (by simp only [Ob.den, hE.e_iN, hE.e_tn, hE.e_aN, hE.e_sN, hE.e_sI, hE.e_mn] <;> omega)), ?_⟩ | refine ⟨fun _ => (hE.o (by simp only [Ob.den, hE.e_iN, hE.e_tn, hE.e_aN, hE.e_sN, hE.e_sI, hE.e_mn] <;> omega)), ?_⟩ | refine ⟨fun h => h, ?_⟩ | refine ⟨fun _ => rfl, ?_⟩ | refine ⟨fun _ h => h, ?_⟩ | refine ⟨fun _ _ => True.intro, ?_⟩ | refine ⟨fun _ h => absurd h Bool.false_ne_true, ?_⟩ | refine ⟨fun _ => True.intro, ?_⟩ | refine ⟨fun _ _ => rfl, ?_⟩ | refine ⟨(fun h => Bool.noConfusion h), ?_⟩ | refine ⟨True.intro, ?_⟩)
      exact ct_flat [0] rfl ⟨rfl, rfl, rfl, rfl, rfl, by omega, fun i _ => by rw [Nat.zero_add]⟩
theorem ct30 (o o' : Tg) (n : Nat) (S S' : Nat → ByteArray) (hn : n ≤ 100000) (h : ∀ i, i < n → S i = S' i) : CT Go.Proofs.Try.prog 30 [strS o n S, strS o' n S'] [] (scB true) [] := by
  refine enter30 rfl rfl ?_
  intro ob ib ic sb cat iu nt an be pk wr tn iN aN sN lN eN bt sub sl rn ofB mn dc dn sI X hE hX
  cbv
  have h0 : ic .neq (iN n) (iN n) = false := by rw [hE.neN]; simp
  cbv; (repeat ((first | rewrite [h0] | rewrite [hE.ntT] | rewrite [hE.ntF] | rewrite [hE.pkT] | rewrite [hE.pkF] | rewrite [hE.anT] | rewrite [hE.anF] | rewrite [hE.anT'] | rewrite [hE.anF']); (repeat (first | rewrite [h0] | rewrite [hE.ntT] | rewrite [hE.ntF] | rewrite [hE.pkT] | rewrite [hE.pkF] | rewrite [hE.anT] | rewrite [hE.anF] | rewrite [hE.anT'] | rewrite [hE.anF'])); cbv)); (repeat first | refine ⟨(fun h => absurd h Bool.false_ne_true), ?_⟩ | refine ⟨(hE.o (by simp only [Ob.den, hE.e_iN, hE.e_tn, hE.e_aN, hE.e_sN, hE.e_sI, hE.e_mn] <;> omega)), ?_⟩ | refine ⟨fun _ => (hE.o (by simp only [Ob.den, hE.e_iN, hE.e_tn, hE.e_aN, hE.e_sN, hE.e_sI, hE.e_mn] <;> omega)), ?_⟩ | refine ⟨fun h => h, ?_⟩ | refine ⟨fun _ => rfl, ?_⟩ | refine ⟨fun _ h => h, ?_⟩ | refine ⟨fun _ _ => True.intro, ?_⟩ | refine ⟨fun _ h => absurd h Bool.false_ne_true, ?_⟩ | refine ⟨fun _ => True.intro, ?_⟩ | refine ⟨fun _ _ => rfl, ?_⟩ | refine ⟨(fun h => Bool.noConfusion h), ?_⟩ | refine ⟨True.intro, ?_⟩)
  refine loop_at hE hX tabOK (by kernel_rfl) funcsOK rfl (α := Nat) (fun k => (sets (pad 26) [(0, strS o n S), (1, strS o' n S'), (5, scI .i64 (iN k))], [])) (fun k => k ≤ n) (fun k => n - k) 0 (by omega) ?_ ?_
  · exact ⟨[], [], ⟨rfl, rfl, rfl, rfl, trivial⟩, by (cbv <;> (repeat' first | exact True.intro | exact ⟨.inr trivial, fun _ _ => rfl⟩ | exact rfl | exact fun _ _ => rfl | refine And.intro ?_ ?_ | rw [hE.iN0] | rw [hE.e_aN]))⟩
  · rintro k hk
    by_cases hkn : k < n
    · have hc : ic .lss (iN k) (iN n) = true := by rw [hE.ltN]; exact decide_eq_true hkn
      have hi := hE.incN (a := k) (by omega)
      have h1 : sb .neq (S k) (S' k) = false := by rw [hE.sneq, h k hkn]; simp
      cbv; (repeat ((first | rewrite [hc] | rewrite [hi] | rewrite [hE.tnN] | rewrite [h1] | rewrite [hE.ntT] | rewrite [hE.ntF] | rewrite [hE.pkT] | rewrite [hE.pkF] | rewrite [hE.anT] | rewrite [hE.anF] | rewrite [hE.anT'] | rewrite [hE.anF']); (repeat (first | rewrite [hc] | rewrite [hi] | rewrite [hE.tnN] | rewrite [h1] | rewrite [hE.ntT] | rewrite [hE.ntF] | rewrite [hE.pkT] | rewrite [hE.pkF] | rewrite [hE.anT] | rewrite [hE.anF] | rewrite [hE.anT'] | rewrite [hE.anF'])); cbv)); (repeat first | refine ⟨(fun h => absurd h Bool.false_ne_true), ?_⟩ | refine ⟨(hE.o (by simp only [Ob.den, hE.e_iN, hE.e_tn, hE.e_aN, hE.e_sN, hE.e_sI, hE.e_mn] <;> omega)), ?_⟩ | refine ⟨fun _ => (hE.o (by simp only [Ob.den, hE.e_iN, hE.e_tn, hE.e_aN, hE.e_sN, hE.e_sI, hE.e_mn] <;> omega)), ?_⟩ | refine ⟨fun h => h, ?_⟩ | refine ⟨fun _ => rfl, ?_⟩ | refine ⟨fun _ h => h, ?_⟩ | refine ⟨fun _ _ => True.intro, ?_⟩ | refine ⟨fun _ h => absurd h Bool.false_ne_true, ?_⟩ | refine ⟨fun _ => True.intro, ?_⟩ | refine ⟨fun _ _ => rfl, ?_⟩ | refine ⟨(fun h => Bool.noConfusion h), ?_⟩ | refine ⟨True.intro, ?_⟩)
      exact ⟨k + 1, by omega, by omega, [], [], ⟨rfl, rfl, rfl, rfl, trivial⟩, by (cbv <;> (repeat' first | exact True.intro | exact ⟨.inr trivial, fun _ _ => rfl⟩ | exact rfl | exact fun _ _ => rfl | refine And.intro ?_ ?_ | rw [hE.iN0] | rw [hE.e_aN]))⟩
    · have hc : ic .lss (iN k) (iN n) = false := by rw [hE.ltN]; exact decide_eq_false hkn
      cbv; (repeat ((first | rewrite [hc] | rewrite [hE.ntT] | rewrite [hE.ntF] | rewrite [hE.pkT] | rewrite [hE.pkF] | rewrite [hE.anT] | rewrite [hE.anF] | rewrite [hE.anT'] | rewrite [hE.anF']); (repeat (first | rewrite [hc] | rewrite [hE.ntT] | rewrite [hE.ntF] | rewrite [hE.pkT] | rewrite [hE.pkF] | rewrite [hE.anT] | rewrite [hE.anF] | rewrite [hE.anT'] | rewrite [hE.anF'])); cbv)); (repeat first | refine ⟨(fun h => absurd h Bool.false_ne_true), ?_⟩ | refine ⟨(hE.o (by simp only [Ob.den, hE.e_iN, hE.e_tn, hE.e_aN, hE.e_sN, hE.e_sI, hE.e_mn] <;> omega)), ?_⟩ | refine ⟨fun _ => (hE.o (by simp only [Ob.den, hE.e_iN, hE.e_tn, hE.e_aN, hE.e_sN, hE.e_sI, hE.e_mn] <;> omega)), ?_⟩ | refine ⟨fun h => h, ?_⟩ | refine ⟨fun _ => rfl, ?_⟩ | refine ⟨fun _ h => h, ?_⟩ | refine ⟨fun _ _ => True.intro, ?_⟩ | refine ⟨fun _ h => absurd h Bool.false_ne_true, ?_⟩ | refine ⟨fun _ => True.intro, ?_⟩ | refine ⟨fun _ _ => rfl, ?_⟩ | refine ⟨(fun h => Bool.noConfusion h), ?_⟩ | refine ⟨True.intro, ?_⟩)
      exact ct_u rfl
end Ytohkcdfjpgdfbaa
end
section
open Go Am
set_option maxRecDepth 100000
set_option maxHeartbeats 4000000
set_option linter.unusedVariables false
set_option linter.unusedSimpArgs false
namespace Ytohkcdfjpgdfbaa
theorem bL_lit (x y : List UInt8) : bL ⟨⟨x⟩⟩ ⟨⟨y⟩⟩ = Op.bytesLess x y := by unfold bL; rw [ByteArray.toList_eq, ByteArray.toList_eq]
theorem ct17 : CT Go.Proofs.Try.prog 17 [] [] (scB true) [] := by
  obtain ⟨nm, hn0, hn1⟩ : ∃ nm : Nat → ByteArray, nm 0 = ⟨⟨[98]⟩⟩ ∧ nm 1 = ⟨⟨[100]⟩⟩ := ⟨fun i => if i = 0 then ⟨⟨[98]⟩⟩ else ⟨⟨[100]⟩⟩, rfl, rfl⟩
  obtain ⟨id, hi0, hi1⟩ : ∃ id : Nat → Int, id 0 = 2 ∧ id 1 = 4 := ⟨fun i => if i = 0 then 2 else 4, rfl, rfl⟩
  have two : ∀ {P : Nat → Prop}, P 0 → P 1 → ∀ i, i < 2 → P i := fun h0 h1 i hi => by
    match i, hi with
    | 0, _ => exact h0
    | 1, _ => exact h1
  have hR : Rt 2 nm id := two ⟨by rw [hn0]; decide, by rw [hi0]; decide, fun k hk => by omega⟩ ⟨by rw [hn1]; decide, by rw [hi1]; decide, fun k hk => by
    obtain rfl : k = 0 := by omega
    rw [hn0, hn1, hi0, hi1]
    exact ⟨by rw [bL_lit]; decide, by decide⟩⟩
  have hrow : ∀ i, i < 2 → listRow [[U.sc (.string ⟨⟨[98]⟩⟩), U.sc (.int .u64 2)], [U.sc (.string ⟨⟨[100]⟩⟩), U.sc (.int .u64 4)]] i = [U.sc (.string (nm i)), U.sc (.int .u64 (id i))] := two (by rw [hn0, hi0]; rfl) (by rw [hn1, hi1]; rfl)
  have nB : nmB ⟨⟨[98]⟩⟩ = true := by decide
  have nC : nmB ⟨⟨[99]⟩⟩ = true := by decide
  have nD : nmB ⟨⟨[100]⟩⟩ = true := by decide
  have nE : nmB ⟨⟨[101]⟩⟩ = true := by decide
  have nX : nmB ⟨⟨[120]⟩⟩ = true := by decide
  have ne : ∀ {x y : List UInt8}, x ≠ y → (⟨⟨x⟩⟩ : ByteArray) ≠ ⟨⟨y⟩⟩ := fun h e => h (by cases e; rfl)
  obtain ⟨nm1, hm1⟩ : ∃ f, f = insF 1 nm ⟨⟨[99]⟩⟩ := ⟨_, rfl⟩
  obtain ⟨id1, hd1⟩ : ∃ f, f = insF 1 id 3 := ⟨_, rfl⟩
  obtain ⟨nm4, hm4⟩ : ∃ f, f = insF 1 (delF 0 nm) ⟨⟨[101]⟩⟩ := ⟨_, rfl⟩
  obtain ⟨id4, hd4⟩ : ∃ f, f = insF 1 (delF 0 id) (id 0) := ⟨_, rfl⟩
  obtain ⟨nm7, hm7⟩ : ∃ f, f = delF 1 nm := ⟨_, rfl⟩
  obtain ⟨id7, hd7⟩ : ∃ f, f = delF 1 id := ⟨_, rfl⟩
  have b1 : BindR 2 nm id ⟨⟨[99]⟩⟩ 3 0 (2 + 1) nm1 id1 := .ok _ _ hR nC (two (by rw [hn0]; exact ne (by decide)) (by rw [hn1]; exact ne (by decide))) (by decide) (two (by rw [hi0]; decide) (by rw [hi1]; decide)) 1 (by omega) (two (by rw [hn0, bL_lit]; decide) (by rw [hn1, bL_lit]; decide)) (fun i => by rw [hm1]) fun i => by rw [hd1]
  have b2 : BindR 2 nm id ⟨⟨[98]⟩⟩ 5 81 0 nm id := .exist _ _ hR nB 0 (by omega) hn0
  have b3 : BindR 2 nm id ⟨⟨[101]⟩⟩ 4 2 0 nm id := .arg _ _ hR nE (two (by rw [hn0]; exact ne (by decide)) (by rw [hn1]; exact ne (by decide))) (.inr ⟨1, by omega, hi1⟩)
  have b4 : RenR 2 nm id ⟨⟨[98]⟩⟩ ⟨⟨[101]⟩⟩ 0 (2 - 1 + 1) nm4 id4 := .ok _ _ hR nB nE 0 (by omega) hn0 (two (by rw [hn0]; exact ne (by decide)) (by rw [hn1]; exact ne (by decide))) 1 (by omega) (fun i hi => by obtain rfl : i = 0 := (by omega); show bL (nm 1) _ = _; rw [hn1, bL_lit]; decide) (fun i => by rw [hm4]) fun i => by rw [hd4]
  have b5 : RenR 2 nm id ⟨⟨[98]⟩⟩ ⟨⟨[100]⟩⟩ 81 0 nm id := .exist _ _ hR nB nD 0 (by omega) hn0 1 (by omega) hn1
  have b6 : RenR 2 nm id ⟨⟨[120]⟩⟩ ⟨⟨[100]⟩⟩ 80 0 nm id := .none _ _ hR nX nD (two (by rw [hn0]; exact ne (by decide)) (by rw [hn1]; exact ne (by decide)))
  have b7 : UnbR 2 nm id ⟨⟨[100]⟩⟩ 0 (2 - 1) nm7 id7 := .ok _ _ hR nD 1 (by omega) hn1 (fun i => by rw [hm7]) fun i => by rw [hd7]
  have r1 : ∀ i, i < 3 → listRow [[U.sc (.string ⟨⟨[98]⟩⟩)], [U.sc (.string ⟨⟨[99]⟩⟩)], [U.sc (.string ⟨⟨[100]⟩⟩)]] i = [U.sc (.string (nm1 i))] := fun i hi => by
    rw [hm1]
    match i, hi with
    | 0, _ => show _ = [U.sc (.string (nm 0))]; rw [hn0]; rfl
    | 1, _ => rfl
    | 2, _ => show _ = [U.sc (.string (nm 1))]; rw [hn1]; rfl
  have r4 : ∀ i, i < 2 → listRow [[U.sc (.string ⟨⟨[100]⟩⟩), U.sc (.int .u64 4)], [U.sc (.string ⟨⟨[101]⟩⟩), U.sc (.int .u64 2)]] i = [U.sc (.string (nm4 i)), U.sc (.int .u64 (id4 i))] := by
    rw [hm4, hd4]
    refine two ?_ ?_
    · show _ = [U.sc (.string (nm 1)), U.sc (.int .u64 (id 1))]; rw [hn1, hi1]; rfl
    · show _ = [U.sc (.string ⟨⟨[101]⟩⟩), U.sc (.int .u64 (id 0))]; rw [hi0]; rfl
  have r7 : ∀ i, i < 1 → listRow [[U.sc (.string ⟨⟨[98]⟩⟩)]] i = [U.sc (.string (nm7 i))] := fun i hi => by
    obtain rfl : i = 0 := by omega
    rw [hm7]
    show _ = [U.sc (.string (nm 0))]; rw [hn0]; rfl
  clear hm1 hd1 hm4 hd4 hm7 hd7 hR nB nC nD nE nX hn0 hn1 hi0 hi1
  refine enter17 rfl rfl ?_
  intro ob ib ic sb cat iu nt an be pk wr tn iN aN sN lN eN bt sub sl rn ofB mn dc dn sI X hE hX
  cbv
  have e0 : ic .eql 0 0 = true := by rw [hE.eql]; rfl
  have e81 : ic .eql 81 81 = true := by rw [hE.eql]; rfl
  have e2 : ic .eql 2 2 = true := by rw [hE.eql]; rfl
  have e80 : ic .eql 80 80 = true := by rw [hE.eql]; rfl
  refine call_ct hX [] [] (ct21 (.new 75) 2 nm id (by omega) ⟨⟨[99]⟩⟩ 3 0 (2 + 1) nm1 id1 b1) (fits_nil ⟨⟨tgLe_refl _, rfl, rfl, hrow⟩, fitU_refl _, fitU_refl _, trivial⟩) rfl trivial ?_
  cbv; (repeat ((first | rewrite [hE.ntT] | rewrite [hE.ntF] | rewrite [hE.pkT] | rewrite [hE.pkF] | rewrite [hE.anT] | rewrite [hE.anF] | rewrite [hE.anT'] | rewrite [hE.anF']); (repeat (first | rewrite [hE.ntT] | rewrite [hE.ntF] | rewrite [hE.pkT] | rewrite [hE.pkF] | rewrite [hE.anT] | rewrite [hE.anF] | rewrite [hE.anT'] | rewrite [hE.anF'])); cbv)); (repeat first | refine ⟨(fun h => absurd h Bool.false_ne_true), ?_⟩ | refine ⟨(hE.o (by simp only [Ob.den, hE.e_iN, hE.e_tn, hE.e_aN, hE.e_sN, hE.e_sI, hE.e_mn] <;> omega)), ?_⟩ | refine ⟨fun _ => (hE.o (by simp only [Ob.den, hE.e_iN, hE.e_tn, hE.e_aN, hE.e_sN, hE.e_sI, hE.e_mn] <;> omega)), ?_⟩ | refine ⟨fun h => h, ?_⟩ | refine ⟨fun _ => rfl, ?_⟩ | refine ⟨fun _ h => h, ?_⟩ | refine ⟨fun _ _ => True.intro, ?_⟩ | refine ⟨fun _ h => absurd h Bool.false_ne_true, ?_⟩ | refine ⟨fun _ => True.intro, ?_⟩ | refine ⟨fun _ _ => rfl, ?_⟩ | refine ⟨(fun h => Bool.noConfusion h), ?_⟩ | refine ⟨True.intro, ?_⟩)
  refine call_ct hX [] [] (ct21 (.new 75) 2 nm id (by omega) ⟨⟨[98]⟩⟩ 5 81 0 nm id b2) (fits_nil ⟨⟨tgLe_refl _, rfl, rfl, hrow⟩, fitU_refl _, fitU_refl _, trivial⟩) rfl trivial ?_
  cbv; (repeat ((first | rewrite [hE.ntT] | rewrite [hE.ntF] | rewrite [hE.pkT] | rewrite [hE.pkF] | rewrite [hE.anT] | rewrite [hE.anF] | rewrite [hE.anT'] | rewrite [hE.anF']); (repeat (first | rewrite [hE.ntT] | rewrite [hE.ntF] | rewrite [hE.pkT] | rewrite [hE.pkF] | rewrite [hE.anT] | rewrite [hE.anF] | rewrite [hE.anT'] | rewrite [hE.anF'])); cbv)); (repeat first | refine ⟨(fun h => absurd h Bool.false_ne_true), ?_⟩ | refine ⟨(hE.o (by simp only [Ob.den, hE.e_iN, hE.e_tn, hE.e_aN, hE.e_sN, hE.e_sI, hE.e_mn] <;> omega)), ?_⟩ | refine ⟨fun _ => (hE.o (by simp only [Ob.den, hE.e_iN, hE.e_tn, hE.e_aN, hE.e_sN, hE.e_sI, hE.e_mn] <;> omega)), ?_⟩ | refine ⟨fun h => h, ?_⟩ | refine ⟨fun _ => rfl, ?_⟩ | refine ⟨fun _ h => h, ?_⟩ | refine ⟨fun _ _ => True.intro, ?_⟩ | refine ⟨fun _ h => absurd h Bool.false_ne_true, ?_⟩ | refine ⟨fun _ => True.intro, ?_⟩ | refine ⟨fun _ _ => rfl, ?_⟩ | refine ⟨(fun h => Bool.noConfusion h), ?_⟩ | refine ⟨True.intro, ?_⟩)
  refine call_ct hX [] [] (ct21 (.new 75) 2 nm id (by omega) ⟨⟨[101]⟩⟩ 4 2 0 nm id b3) (fits_nil ⟨⟨tgLe_refl _, rfl, rfl, hrow⟩, fitU_refl _, fitU_refl _, trivial⟩) rfl trivial ?_
  cbv; (repeat ((first | rewrite [hE.ntT] | rewrite [hE.ntF] | rewrite [hE.pkT] | rewrite [hE.pkF] | rewrite [hE.anT] | rewrite [hE.anF] | rewrite [hE.anT'] | rewrite [hE.anF']); (repeat (first | rewrite [hE.ntT] | rewrite [hE.ntF] | rewrite [hE.pkT] | rewrite [hE.pkF] | rewrite [hE.anT] | rewrite [hE.anF] | rewrite [hE.anT'] | rewrite [hE.anF'])); cbv)); (repeat first | refine ⟨(fun h => absurd h Bool.false_ne_true), ?_⟩ | refine ⟨(hE.o (by simp only [Ob.den, hE.e_iN, hE.e_tn, hE.e_aN, hE.e_sN, hE.e_sI, hE.e_mn] <;> omega)), ?_⟩ | refine ⟨fun _ => (hE.o (by simp only [Ob.den, hE.e_iN, hE.e_tn, hE.e_aN, hE.e_sN, hE.e_sI, hE.e_mn] <;> omega)), ?_⟩ | refine ⟨fun h => h, ?_⟩ | refine ⟨fun _ => rfl, ?_⟩ | refine ⟨fun _ h => h, ?_⟩ | refine ⟨fun _ _ => True.intro, ?_⟩ | refine ⟨fun _ h => absurd h Bool.false_ne_true, ?_⟩ | refine ⟨fun _ => True.intro, ?_⟩ | refine ⟨fun _ _ => rfl, ?_⟩ | refine ⟨(fun h => Bool.noConfusion h), ?_⟩ | refine ⟨True.intro, ?_⟩)
  refine call_ct hX [] [] (ct25 (.new 75) 2 nm id (by omega) ⟨⟨[98]⟩⟩ ⟨⟨[101]⟩⟩ 0 (2 - 1 + 1) nm4 id4 b4) (fits_nil ⟨⟨tgLe_refl _, rfl, rfl, hrow⟩, fitU_refl _, fitU_refl _, trivial⟩) rfl trivial ?_
  cbv; (repeat ((first | rewrite [hE.ntT] | rewrite [hE.ntF] | rewrite [hE.pkT] | rewrite [hE.pkF] | rewrite [hE.anT] | rewrite [hE.anF] | rewrite [hE.anT'] | rewrite [hE.anF']); (repeat (first | rewrite [hE.ntT] | rewrite [hE.ntF] | rewrite [hE.pkT] | rewrite [hE.pkF] | rewrite [hE.anT] | rewrite [hE.anF] | rewrite [hE.anT'] | rewrite [hE.anF'])); cbv)); (repeat first | refine ⟨(fun h => absurd h Bool.false_ne_true), ?_⟩ | refine ⟨(hE.o (by simp only [Ob.den, hE.e_iN, hE.e_tn, hE.e_aN, hE.e_sN, hE.e_sI, hE.e_mn] <;> omega)), ?_⟩ | refine ⟨fun _ => (hE.o (by simp only [Ob.den, hE.e_iN, hE.e_tn, hE.e_aN, hE.e_sN, hE.e_sI, hE.e_mn] <;> omega)), ?_⟩ | refine ⟨fun h => h, ?_⟩ | refine ⟨fun _ => rfl, ?_⟩ | refine ⟨fun _ h => h, ?_⟩ | refine ⟨fun _ _ => True.intro, ?_⟩ | refine ⟨fun _ h => absurd h Bool.false_ne_true, ?_⟩ | refine ⟨fun _ => True.intro, ?_⟩ | refine ⟨fun _ _ => rfl, ?_⟩ | refine ⟨(fun h => Bool.noConfusion h), ?_⟩ | refine ⟨True.intro, ?_⟩)
  refine call_ct hX [] [] (ct25 (.new 75) 2 nm id (by omega) ⟨⟨[98]⟩⟩ ⟨⟨[100]⟩⟩ 81 0 nm id b5) (fits_nil ⟨⟨tgLe_refl _, rfl, rfl, hrow⟩, fitU_refl _, fitU_refl _, trivial⟩) rfl trivial ?_
  cbv; (repeat ((first | rewrite [hE.ntT] | rewrite [hE.ntF] | rewrite [hE.pkT] | rewrite [hE.pkF] | rewrite [hE.anT] | rewrite [hE.anF] | rewrite [hE.anT'] | rewrite [hE.anF']); (repeat (first | rewrite [hE.ntT] | rewrite [hE.ntF] | rewrite [hE.pkT] | rewrite [hE.pkF] | rewrite [hE.anT] | rewrite [hE.anF] | rewrite [hE.anT'] | rewrite [hE.anF'])); cbv)); (repeat first | refine ⟨(fun h => absurd h Bool.false_ne_true), ?_⟩ | refine ⟨(hE.o (by simp only [Ob.den, hE.e_iN, hE.e_tn, hE.e_aN, hE.e_sN, hE.e_sI, hE.e_mn] <;> omega)), ?_⟩ | refine ⟨fun _ => (hE.o (by simp only [Ob.den, hE.e_iN, hE.e_tn, hE.e_aN, hE.e_sN, hE.e_sI, hE.e_mn] <;> omega)), ?_⟩ | refine ⟨fun h => h, ?_⟩ | refine ⟨fun _ => rfl, ?_⟩ | refine ⟨fun _ h => h, ?_⟩ | refine ⟨fun _ _ => True.intro, ?_⟩ | refine ⟨fun _ h => absurd h Bool.false_ne_true, ?_⟩ | refine ⟨fun _ => True.intro, ?_⟩ | refine ⟨fun _ _ => rfl, ?_⟩ | refine ⟨(fun h => Bool.noConfusion h), ?_⟩ | refine ⟨True.intro, ?_⟩)
  refine call_ct hX [] [] (ct25 (.new 75) 2 nm id (by omega) ⟨⟨[120]⟩⟩ ⟨⟨[100]⟩⟩ 80 0 nm id b6) (fits_nil ⟨⟨tgLe_refl _, rfl, rfl, hrow⟩, fitU_refl _, fitU_refl _, trivial⟩) rfl trivial ?_
  cbv; (repeat ((first | rewrite [hE.ntT] | rewrite [hE.ntF] | rewrite [hE.pkT] | rewrite [hE.pkF] | rewrite [hE.anT] | rewrite [hE.anF] | rewrite [hE.anT'] | rewrite [hE.anF']); (repeat (first | rewrite [hE.ntT] | rewrite [hE.ntF] | rewrite [hE.pkT] | rewrite [hE.pkF] | rewrite [hE.anT] | rewrite [hE.anF] | rewrite [hE.anT'] | rewrite [hE.anF'])); cbv)); (repeat first | refine ⟨(fun h => absurd h Bool.false_ne_true), ?_⟩ | refine ⟨(hE.o (by simp only [Ob.den, hE.e_iN, hE.e_tn, hE.e_aN, hE.e_sN, hE.e_sI, hE.e_mn] <;> omega)), ?_⟩ | refine ⟨fun _ => (hE.o (by simp only [Ob.den, hE.e_iN, hE.e_tn, hE.e_aN, hE.e_sN, hE.e_sI, hE.e_mn] <;> omega)), ?_⟩ | refine ⟨fun h => h, ?_⟩ | refine ⟨fun _ => rfl, ?_⟩ | refine ⟨fun _ h => h, ?_⟩ | refine ⟨fun _ _ => True.intro, ?_⟩ | refine ⟨fun _ h => absurd h Bool.false_ne_true, ?_⟩ | refine ⟨fun _ => True.intro, ?_⟩ | refine ⟨fun _ _ => rfl, ?_⟩ | refine ⟨(fun h => Bool.noConfusion h), ?_⟩ | refine ⟨True.intro, ?_⟩)
  refine call_ct hX [] [] (ct23 (.new 75) 2 nm id (by omega) ⟨⟨[100]⟩⟩ 0 (2 - 1) nm7 id7 b7) (fits_nil ⟨⟨tgLe_refl _, rfl, rfl, hrow⟩, fitU_refl _, trivial⟩) rfl trivial ?_
  cbv; (repeat ((first | rewrite [e0] | rewrite [hE.ntT] | rewrite [hE.ntF] | rewrite [hE.pkT] | rewrite [hE.pkF] | rewrite [hE.anT] | rewrite [hE.anF] | rewrite [hE.anT'] | rewrite [hE.anF']); (repeat (first | rewrite [e0] | rewrite [hE.ntT] | rewrite [hE.ntF] | rewrite [hE.pkT] | rewrite [hE.pkF] | rewrite [hE.anT] | rewrite [hE.anF] | rewrite [hE.anT'] | rewrite [hE.anF'])); cbv)); (repeat first | refine ⟨(fun h => absurd h Bool.false_ne_true), ?_⟩ | refine ⟨(hE.o (by simp only [Ob.den, hE.e_iN, hE.e_tn, hE.e_aN, hE.e_sN, hE.e_sI, hE.e_mn] <;> omega)), ?_⟩ | refine ⟨fun _ => (hE.o (by simp only [Ob.den, hE.e_iN, hE.e_tn, hE.e_aN, hE.e_sN, hE.e_sI, hE.e_mn] <;> omega)), ?_⟩ | refine ⟨fun h => h, ?_⟩ | refine ⟨fun _ => rfl, ?_⟩ | refine ⟨fun _ h => h, ?_⟩ | refine ⟨fun _ _ => True.intro, ?_⟩ | refine ⟨fun _ h => absurd h Bool.false_ne_true, ?_⟩ | refine ⟨fun _ => True.intro, ?_⟩ | refine ⟨fun _ _ => rfl, ?_⟩ | refine ⟨(fun h => Bool.noConfusion h), ?_⟩ | refine ⟨True.intro, ?_⟩)
  refine call_ct hX [] [] (ct31 (.new 75) 3 nm1 id1 (by omega)) (fits_nil ⟨fitU_refl _, trivial⟩) rfl trivial ?_
  cbv; (repeat ((first | rewrite [hE.ntT] | rewrite [hE.ntF] | rewrite [hE.pkT] | rewrite [hE.pkF] | rewrite [hE.anT] | rewrite [hE.anF] | rewrite [hE.anT'] | rewrite [hE.anF']); (repeat (first | rewrite [hE.ntT] | rewrite [hE.ntF] | rewrite [hE.pkT] | rewrite [hE.pkF] | rewrite [hE.anT] | rewrite [hE.anF] | rewrite [hE.anT'] | rewrite [hE.anF'])); cbv)); (repeat first | refine ⟨(fun h => absurd h Bool.false_ne_true), ?_⟩ | refine ⟨(hE.o (by simp only [Ob.den, hE.e_iN, hE.e_tn, hE.e_aN, hE.e_sN, hE.e_sI, hE.e_mn] <;> omega)), ?_⟩ | refine ⟨fun _ => (hE.o (by simp only [Ob.den, hE.e_iN, hE.e_tn, hE.e_aN, hE.e_sN, hE.e_sI, hE.e_mn] <;> omega)), ?_⟩ | refine ⟨fun h => h, ?_⟩ | refine ⟨fun _ => rfl, ?_⟩ | refine ⟨fun _ h => h, ?_⟩ | refine ⟨fun _ _ => True.intro, ?_⟩ | refine ⟨fun _ h => absurd h Bool.false_ne_true, ?_⟩ | refine ⟨fun _ => True.intro, ?_⟩ | refine ⟨fun _ _ => rfl, ?_⟩ | refine ⟨(fun h => Bool.noConfusion h), ?_⟩ | refine ⟨True.intro, ?_⟩)
  refine call_ct hX [] [] (ct30 (.new 9) (.new 9) 3 nm1 nm1 (by omega) fun _ _ => rfl) (fits_nil ⟨fitU_refl _, ⟨tgLe_refl _, rfl, rfl, r1⟩, trivial⟩) rfl trivial ?_
  cbv; (repeat ((first | rewrite [e81] | rewrite [e2] | rewrite [e0] | rewrite [hE.ntT] | rewrite [hE.ntF] | rewrite [hE.pkT] | rewrite [hE.pkF] | rewrite [hE.anT] | rewrite [hE.anF] | rewrite [hE.anT'] | rewrite [hE.anF']); (repeat (first | rewrite [e81] | rewrite [e2] | rewrite [e0] | rewrite [hE.ntT] | rewrite [hE.ntF] | rewrite [hE.pkT] | rewrite [hE.pkF] | rewrite [hE.anT] | rewrite [hE.anF] | rewrite [hE.anT'] | rewrite [hE.anF'])); cbv)); (repeat first | refine ⟨(fun h => absurd h Bool.false_ne_true), ?_⟩ | refine ⟨(hE.o (by simp only [Ob.den, hE.e_iN, hE.e_tn, hE.e_aN, hE.e_sN, hE.e_sI, hE.e_mn] <;> omega)), ?_⟩ | refine ⟨fun _ => (hE.o (by simp only [Ob.den, hE.e_iN, hE.e_tn, hE.e_aN, hE.e_sN, hE.e_sI, hE.e_mn] <;> omega)), ?_⟩ | refine ⟨fun h => h, ?_⟩ | refine ⟨fun _ => rfl, ?_⟩ | refine ⟨fun _ h => h, ?_⟩ | refine ⟨fun _ _ => True.intro, ?_⟩ | refine ⟨fun _ h => absurd h Bool.false_ne_true, ?_⟩ | refine ⟨fun _ => True.intro, ?_⟩ | refine ⟨fun _ _ => rfl, ?_⟩ | refine ⟨(fun h => Bool.noConfusion h), ?_⟩ | refine ⟨True.intro, ?_⟩)
  refine call_ct hX [] [] (ct27 (.new 75) (.new 100) 2 nm4 nm4 id4 id4 (by omega) fun _ _ => ⟨rfl, rfl⟩) (fits_nil ⟨fitU_refl _, ⟨tgLe_refl _, rfl, rfl, r4⟩, trivial⟩) rfl trivial ?_
  cbv; (repeat ((first | rewrite [e81] | rewrite [e80] | rewrite [e0] | rewrite [hE.ntT] | rewrite [hE.ntF] | rewrite [hE.pkT] | rewrite [hE.pkF] | rewrite [hE.anT] | rewrite [hE.anF] | rewrite [hE.anT'] | rewrite [hE.anF']); (repeat (first | rewrite [e81] | rewrite [e80] | rewrite [e0] | rewrite [hE.ntT] | rewrite [hE.ntF] | rewrite [hE.pkT] | rewrite [hE.pkF] | rewrite [hE.anT] | rewrite [hE.anF] | rewrite [hE.anT'] | rewrite [hE.anF'])); cbv)); (repeat first | refine ⟨(fun h => absurd h Bool.false_ne_true), ?_⟩ | refine ⟨(hE.o (by simp only [Ob.den, hE.e_iN, hE.e_tn, hE.e_aN, hE.e_sN, hE.e_sI, hE.e_mn] <;> omega)), ?_⟩ | refine ⟨fun _ => (hE.o (by simp only [Ob.den, hE.e_iN, hE.e_tn, hE.e_aN, hE.e_sN, hE.e_sI, hE.e_mn] <;> omega)), ?_⟩ | refine ⟨fun h => h, ?_⟩ | refine ⟨fun _ => rfl, ?_⟩ | refine ⟨fun _ h => h, ?_⟩ | refine ⟨fun _ _ => True.intro, ?_⟩ | refine ⟨fun _ h => absurd h Bool.false_ne_true, ?_⟩ | refine ⟨fun _ => True.intro, ?_⟩ | refine ⟨fun _ _ => rfl, ?_⟩ | refine ⟨(fun h => Bool.noConfusion h), ?_⟩ | refine ⟨True.intro, ?_⟩)
  refine call_ct hX [] [] (ct31 (.new 75) 1 nm7 id7 (by omega)) (fits_nil ⟨fitU_refl _, trivial⟩) rfl trivial ?_
  cbv; (repeat ((first | rewrite [hE.ntT] | rewrite [hE.ntF] | rewrite [hE.pkT] | rewrite [hE.pkF] | rewrite [hE.anT] | rewrite [hE.anF] | rewrite [hE.anT'] | rewrite [hE.anF']); (repeat (first | rewrite [hE.ntT] | rewrite [hE.ntF] | rewrite [hE.pkT] | rewrite [hE.pkF] | rewrite [hE.anT] | rewrite [hE.anF] | rewrite [hE.anT'] | rewrite [hE.anF'])); cbv)); (repeat first | refine ⟨(fun h => absurd h Bool.false_ne_true), ?_⟩ | refine ⟨(hE.o (by simp only [Ob.den, hE.e_iN, hE.e_tn, hE.e_aN, hE.e_sN, hE.e_sI, hE.e_mn] <;> omega)), ?_⟩ | refine ⟨fun _ => (hE.o (by simp only [Ob.den, hE.e_iN, hE.e_tn, hE.e_aN, hE.e_sN, hE.e_sI, hE.e_mn] <;> omega)), ?_⟩ | refine ⟨fun h => h, ?_⟩ | refine ⟨fun _ => rfl, ?_⟩ | refine ⟨fun _ h => h, ?_⟩ | refine ⟨fun _ _ => True.intro, ?_⟩ | refine ⟨fun _ h => absurd h Bool.false_ne_true, ?_⟩ | refine ⟨fun _ => True.intro, ?_⟩ | refine ⟨fun _ _ => rfl, ?_⟩ | refine ⟨(fun h => Bool.noConfusion h), ?_⟩ | refine ⟨True.intro, ?_⟩)
  refine call_ct hX [] [] (ct30 (.new 9) (.new 9) 1 nm7 nm7 (by omega) fun _ _ => rfl) (fits_nil ⟨fitU_refl _, ⟨tgLe_refl _, rfl, rfl, r7⟩, trivial⟩) rfl trivial ?_
  cbv; (repeat ((first | rewrite [hE.ntT] | rewrite [hE.ntF] | rewrite [hE.pkT] | rewrite [hE.pkF] | rewrite [hE.anT] | rewrite [hE.anF] | rewrite [hE.anT'] | rewrite [hE.anF']); (repeat (first | rewrite [hE.ntT] | rewrite [hE.ntF] | rewrite [hE.pkT] | rewrite [hE.pkF] | rewrite [hE.anT] | rewrite [hE.anF] | rewrite [hE.anT'] | rewrite [hE.anF'])); cbv)); (repeat first | refine ⟨(fun h => absurd h Bool.false_ne_true), ?_⟩ | refine ⟨(hE.o (by simp only [Ob.den, hE.e_iN, hE.e_tn, hE.e_aN, hE.e_sN, hE.e_sI, hE.e_mn] <;> omega)), ?_⟩ | refine ⟨fun _ => (hE.o (by simp only [Ob.den, hE.e_iN, hE.e_tn, hE.e_aN, hE.e_sN, hE.e_sI, hE.e_mn] <;> omega)), ?_⟩ | refine ⟨fun h => h, ?_⟩ | refine ⟨fun _ => rfl, ?_⟩ | refine ⟨fun _ h => h, ?_⟩ | refine ⟨fun _ _ => True.intro, ?_⟩ | refine ⟨fun _ h => absurd h Bool.false_ne_true, ?_⟩ | refine ⟨fun _ => True.intro, ?_⟩ | refine ⟨fun _ _ => rfl, ?_⟩ | refine ⟨(fun h => Bool.noConfusion h), ?_⟩ | refine ⟨True.intro, ?_⟩)
  exact ct_u rfl
end Ytohkcdfjpgdfbaa
end
section
open Go Am
set_option maxRecDepth 100000
set_option maxHeartbeats 4000000
set_option linter.unusedVariables false
set_option linter.unusedSimpArgs false
attribute [local irreducible] Am.vc Am.vcIns Am.vcD
namespace Ytohkcdfjpgdfbaa
theorem wf_u64 {x : Int} (h : (Lit.int .u64 x).wf = true) : 0 ≤ x ∧ x < 18446744073709551616 := by
  simp only [Lit.wf, IntKind.has, Bool.and_eq_true, decide_eq_true_eq] at h
  have h1 : IntKind.u64.min = 0 := rfl
  have h2 : IntKind.u64.max = 18446744073709551615 := rfl
  omega
theorem wf_u8 {x : Int} (h : (Lit.int .u8 x).wf = true) : 0 ≤ x ∧ x ≤ 255 := by
  simp only [Lit.wf, IntKind.has, Bool.and_eq_true, decide_eq_true_eq] at h
  have h1 : IntKind.u8.min = 0 := rfl
  have h2 : IntKind.u8.max = 255 := rfl
  omega
theorem cols {n : Nat} {f : Nat → List U} (h : ∀ i, i < n → shUs [.str, .int .u64] (f i)) : ∃ (nm : Nat → ByteArray) (id : Nat → Int), (∀ i, i < n → f i = [.sc (.string (nm i)), .sc (.int .u64 (id i))]) ∧ ∀ i, i < n → 0 ≤ id i ∧ id i < 18446744073709551616 := by
  have each : ∀ i, ∃ (a : ByteArray) (x : Int), i < n → f i = [.sc (.string a), .sc (.int .u64 x)] ∧ 0 ≤ x ∧ x < 18446744073709551616 := fun i => by
    by_cases hi : i < n
    · obtain ⟨u, us, e, ⟨a, rfl, _⟩, u2, us2, rfl, ⟨x, rfl, hx⟩, rfl⟩ := h i hi
      exact ⟨a, x, fun _ => ⟨e, wf_u64 hx⟩⟩
    · exact ⟨ByteArray.empty, 0, fun h => absurd h hi⟩
  exact ⟨fun i => Classical.choose (each i), fun i => Classical.choose (Classical.choose_spec (each i)), fun i hi => (Classical.choose_spec (Classical.choose_spec (each i)) hi).1, fun i hi => (Classical.choose_spec (Classical.choose_spec (each i)) hi).2⟩
theorem bytes_in {n : Nat} {f : Nat → List U} (h : ∀ i, i < n → shUs [.int .u8] (f i)) : ∃ B : Nat → Int, Byte B ∧ ∀ i, i < n → f i = rI B i := by
  have each : ∀ i, ∃ x : Int, (0 ≤ x ∧ x ≤ 255) ∧ (i < n → f i = [.sc (.int .u8 x)]) := fun i => by
    by_cases hi : i < n
    · obtain ⟨u, us, e, ⟨x, rfl, hx⟩, rfl⟩ := h i hi
      exact ⟨x, wf_u8 hx, fun _ => e⟩
    · exact ⟨0, by omega, fun h => absurd h hi⟩
  exact ⟨fun i => Classical.choose (each i), fun i => (Classical.choose_spec (each i)).1, fun i hi => (Classical.choose_spec (each i)).2 hi⟩
end Ytohkcdfjpgdfbaa
end
section
open Go Go.Lib Go.IntWalk
set_option linter.unusedVariables false
set_option linter.unusedSimpArgs false
set_option linter.unusedSectionVars false
namespace Am
theorem nat_or {k a b : Nat} (h : a < 2 ^ k) : a ||| (b * 2 ^ k) = a + b * 2 ^ k := by
  rw [Nat.mul_comm, Nat.or_comm, ← Nat.two_pow_add_eq_or_of_lt h b]; omega
theorem wrap_u8 (n : Int) : IntKind.u8.wrap n = n % 256 := rfl
theorem wrap_u64 (n : Int) : IntKind.u64.wrap n = n % 18446744073709551616 := rfl
theorem Ax.or64 {ob : Ob → Prop} {ib : BinOp → IntKind → Int → Int → Int} {ic : BinOp → Int → Int → Bool} {sb : BinOp → ByteArray → ByteArray → Bool} {cat : ByteArray → ByteArray → ByteArray} {iu : UnOp → IntKind → Int → Int} {nt : Bool → Bool} {an : Bool → Bool → Bool} {be : Bool → Bool → Bool} {pk : Bool → Bool → Bool → Bool} {wr : IntKind → Int → Int} {tn : Int → Nat} {iN : Nat → Int} {aN : Nat → Nat → Nat} {sN : Nat → Nat → Nat} {lN : Nat → Nat → Bool} {eN : Nat → Nat → Bool} {bt : ByteArray → Int → Int} {sub : ByteArray → Int → Int → ByteArray} {sl : ByteArray → Int} {rn : Int → ByteArray} {ofB : Nat → (Nat → List U) → ByteArray} {mn : Int → Int → Int} {dc : ByteArray → Nat → Int} {dn : ByteArray → Nat → Nat} {sI : Int → Int → Int} (hE : Ax ob ib ic sb cat iu nt an be pk wr tn iN aN sN lN eN bt sub sl rn ofB mn dc dn sI) {a b k : Nat} (h : a < 2 ^ k) (h2 : a + b * 2 ^ k < 18446744073709551616) : ib .or .u64 (iN a) (iN (b * 2 ^ k)) = iN (a + b * 2 ^ k) := by
  rw [hE.e_iN, hE.e_iN, hE.e_iN, ← hE.h_ib]
  show IntKind.u64.wrap ((BitVec.ofInt 64 (a : Int) ||| BitVec.ofInt 64 ((b * 2 ^ k : Nat) : Int)).toNat : Int) = _
  rw [BitVec.toNat_or, BitVec.ofInt_natCast, BitVec.ofInt_natCast, BitVec.toNat_ofNat, BitVec.toNat_ofNat, Nat.mod_eq_of_lt (a := a) (by omega), Nat.mod_eq_of_lt (by omega), nat_or h, wrap_u64]
  omega
theorem or128 : ∀ x : Nat, x < 256 → x ||| 128 = x % 128 + 128 := by decide +kernel
theorem not128 : ∀ x : Nat, x < 256 → (BitVec.ofNat 8 x &&& ~~~ BitVec.ofNat 8 128).toNat = x % 128 := by decide +kernel
theorem Ax.orU8 {ob : Ob → Prop} {ib : BinOp → IntKind → Int → Int → Int} {ic : BinOp → Int → Int → Bool} {sb : BinOp → ByteArray → ByteArray → Bool} {cat : ByteArray → ByteArray → ByteArray} {iu : UnOp → IntKind → Int → Int} {nt : Bool → Bool} {an : Bool → Bool → Bool} {be : Bool → Bool → Bool} {pk : Bool → Bool → Bool → Bool} {wr : IntKind → Int → Int} {tn : Int → Nat} {iN : Nat → Int} {aN : Nat → Nat → Nat} {sN : Nat → Nat → Nat} {lN : Nat → Nat → Bool} {eN : Nat → Nat → Bool} {bt : ByteArray → Int → Int} {sub : ByteArray → Int → Int → ByteArray} {sl : ByteArray → Int} {rn : Int → ByteArray} {ofB : Nat → (Nat → List U) → ByteArray} {mn : Int → Int → Int} {dc : ByteArray → Nat → Int} {dn : ByteArray → Nat → Nat} {sI : Int → Int → Int} (hE : Ax ob ib ic sb cat iu nt an be pk wr tn iN aN sN lN eN bt sub sl rn ofB mn dc dn sI) {a : Nat} : ib .or .u8 (wr .u8 (iN a)) 128 = iN (a % 128 + 128) := by
  rw [hE.e_iN, hE.e_iN, ← hE.h_wr, ← hE.h_ib]
  show IntKind.u8.wrap ((BitVec.ofInt 8 (IntKind.u8.wrap (a : Int)) ||| BitVec.ofInt 8 (128 : Int)).toNat : Int) = _
  rw [wrap_u8, wrap_u8, show ((a : Int) % 256) = ((a % 256 : Nat) : Int) by omega, BitVec.toNat_or, BitVec.ofInt_natCast, show BitVec.ofInt 8 128 = BitVec.ofNat 8 128 from rfl, BitVec.toNat_ofNat, BitVec.toNat_ofNat, show (a % 256) % 2 ^ 8 = a % 256 by omega, show 128 % 2 ^ 8 = 128 from rfl, or128 _ (by omega)]
  omega
theorem Ax.not8 {ob : Ob → Prop} {ib : BinOp → IntKind → Int → Int → Int} {ic : BinOp → Int → Int → Bool} {sb : BinOp → ByteArray → ByteArray → Bool} {cat : ByteArray → ByteArray → ByteArray} {iu : UnOp → IntKind → Int → Int} {nt : Bool → Bool} {an : Bool → Bool → Bool} {be : Bool → Bool → Bool} {pk : Bool → Bool → Bool → Bool} {wr : IntKind → Int → Int} {tn : Int → Nat} {iN : Nat → Int} {aN : Nat → Nat → Nat} {sN : Nat → Nat → Nat} {lN : Nat → Nat → Bool} {eN : Nat → Nat → Bool} {bt : ByteArray → Int → Int} {sub : ByteArray → Int → Int → ByteArray} {sl : ByteArray → Int} {rn : Int → ByteArray} {ofB : Nat → (Nat → List U) → ByteArray} {mn : Int → Int → Int} {dc : ByteArray → Nat → Int} {dn : ByteArray → Nat → Nat} {sI : Int → Int → Int} (hE : Ax ob ib ic sb cat iu nt an be pk wr tn iN aN sN lN eN bt sub sl rn ofB mn dc dn sI) {a : Int} (h : 0 ≤ a ∧ a ≤ 255) : ib .andNot .u8 a 128 = iN (a.toNat % 128) := by
  obtain ⟨n, rfl⟩ : ∃ n : Nat, a = n := ⟨a.toNat, by omega⟩
  rw [hE.e_iN, ← hE.h_ib]
  show IntKind.u8.wrap ((BitVec.ofInt 8 (n : Int) &&& ~~~ BitVec.ofInt 8 (128 : Int)).toNat : Int) = _
  rw [BitVec.ofInt_natCast, show BitVec.ofInt 8 128 = BitVec.ofNat 8 128 from rfl, not128 _ (by omega), wrap_u8]
  omega
theorem Ax.wr8N {ob : Ob → Prop} {ib : BinOp → IntKind → Int → Int → Int} {ic : BinOp → Int → Int → Bool} {sb : BinOp → ByteArray → ByteArray → Bool} {cat : ByteArray → ByteArray → ByteArray} {iu : UnOp → IntKind → Int → Int} {nt : Bool → Bool} {an : Bool → Bool → Bool} {be : Bool → Bool → Bool} {pk : Bool → Bool → Bool → Bool} {wr : IntKind → Int → Int} {tn : Int → Nat} {iN : Nat → Int} {aN : Nat → Nat → Nat} {sN : Nat → Nat → Nat} {lN : Nat → Nat → Bool} {eN : Nat → Nat → Bool} {bt : ByteArray → Int → Int} {sub : ByteArray → Int → Int → ByteArray} {sl : ByteArray → Int} {rn : Int → ByteArray} {ofB : Nat → (Nat → List U) → ByteArray} {mn : Int → Int → Int} {dc : ByteArray → Nat → Int} {dn : ByteArray → Nat → Nat} {sI : Int → Int → Int} (hE : Ax ob ib ic sb cat iu nt an be pk wr tn iN aN sN lN eN bt sub sl rn ofB mn dc dn sI) {a : Nat} : wr .u8 (iN a) = iN (a % 256) := by
  rw [hE.e_iN, hE.e_iN, ← hE.h_wr]
  show IntKind.u8.wrap _ = _
  rw [wrap_u8]; omega
theorem Ax.wr64N {ob : Ob → Prop} {ib : BinOp → IntKind → Int → Int → Int} {ic : BinOp → Int → Int → Bool} {sb : BinOp → ByteArray → ByteArray → Bool} {cat : ByteArray → ByteArray → ByteArray} {iu : UnOp → IntKind → Int → Int} {nt : Bool → Bool} {an : Bool → Bool → Bool} {be : Bool → Bool → Bool} {pk : Bool → Bool → Bool → Bool} {wr : IntKind → Int → Int} {tn : Int → Nat} {iN : Nat → Int} {aN : Nat → Nat → Nat} {sN : Nat → Nat → Nat} {lN : Nat → Nat → Bool} {eN : Nat → Nat → Bool} {bt : ByteArray → Int → Int} {sub : ByteArray → Int → Int → ByteArray} {sl : ByteArray → Int} {rn : Int → ByteArray} {ofB : Nat → (Nat → List U) → ByteArray} {mn : Int → Int → Int} {dc : ByteArray → Nat → Int} {dn : ByteArray → Nat → Nat} {sI : Int → Int → Int} (hE : Ax ob ib ic sb cat iu nt an be pk wr tn iN aN sN lN eN bt sub sl rn ofB mn dc dn sI) {a : Nat} (h : a < 18446744073709551616) : wr .u64 (iN a) = iN a := by
  rw [hE.e_iN, ← hE.h_wr]
  show IntKind.u64.wrap _ = _
  rw [wrap_u64]; omega
theorem Ax.wri64N {ob : Ob → Prop} {ib : BinOp → IntKind → Int → Int → Int} {ic : BinOp → Int → Int → Bool} {sb : BinOp → ByteArray → ByteArray → Bool} {cat : ByteArray → ByteArray → ByteArray} {iu : UnOp → IntKind → Int → Int} {nt : Bool → Bool} {an : Bool → Bool → Bool} {be : Bool → Bool → Bool} {pk : Bool → Bool → Bool → Bool} {wr : IntKind → Int → Int} {tn : Int → Nat} {iN : Nat → Int} {aN : Nat → Nat → Nat} {sN : Nat → Nat → Nat} {lN : Nat → Nat → Bool} {eN : Nat → Nat → Bool} {bt : ByteArray → Int → Int} {sub : ByteArray → Int → Int → ByteArray} {sl : ByteArray → Int} {rn : Int → ByteArray} {ofB : Nat → (Nat → List U) → ByteArray} {mn : Int → Int → Int} {dc : ByteArray → Nat → Int} {dn : ByteArray → Nat → Nat} {sI : Int → Int → Int} (hE : Ax ob ib ic sb cat iu nt an be pk wr tn iN aN sN lN eN bt sub sl rn ofB mn dc dn sI) {a : Nat} (h : a < 9223372036854775808) : wr .i64 (iN a) = iN a := by
  rw [hE.wr_i64 (by rw [hE.e_iN]; omega)]
theorem Ax.shrN {ob : Ob → Prop} {ib : BinOp → IntKind → Int → Int → Int} {ic : BinOp → Int → Int → Bool} {sb : BinOp → ByteArray → ByteArray → Bool} {cat : ByteArray → ByteArray → ByteArray} {iu : UnOp → IntKind → Int → Int} {nt : Bool → Bool} {an : Bool → Bool → Bool} {be : Bool → Bool → Bool} {pk : Bool → Bool → Bool → Bool} {wr : IntKind → Int → Int} {tn : Int → Nat} {iN : Nat → Int} {aN : Nat → Nat → Nat} {sN : Nat → Nat → Nat} {lN : Nat → Nat → Bool} {eN : Nat → Nat → Bool} {bt : ByteArray → Int → Int} {sub : ByteArray → Int → Int → ByteArray} {sl : ByteArray → Int} {rn : Int → ByteArray} {ofB : Nat → (Nat → List U) → ByteArray} {mn : Int → Int → Int} {dc : ByteArray → Nat → Int} {dn : ByteArray → Nat → Nat} {sI : Int → Int → Int} (hE : Ax ob ib ic sb cat iu nt an be pk wr tn iN aN sN lN eN bt sub sl rn ofB mn dc dn sI) {a k : Nat} (h : k < 64) : ib .shr .u64 (iN a) (iN k) = iN (a / 2 ^ k) := by
  rw [hE.e_iN, hE.e_iN, hE.e_iN, ← hE.h_ib]
  show Int.fdiv _ (2 ^ (min (k : Int).toNat 64)) = _
  rw [show min (k : Int).toNat 64 = k by omega, Int.fdiv_eq_ediv_of_nonneg _ (by have := Nat.two_pow_pos k; exact_mod_cast Nat.zero_le _)]
  norm_cast
theorem Ax.shlN {ob : Ob → Prop} {ib : BinOp → IntKind → Int → Int → Int} {ic : BinOp → Int → Int → Bool} {sb : BinOp → ByteArray → ByteArray → Bool} {cat : ByteArray → ByteArray → ByteArray} {iu : UnOp → IntKind → Int → Int} {nt : Bool → Bool} {an : Bool → Bool → Bool} {be : Bool → Bool → Bool} {pk : Bool → Bool → Bool → Bool} {wr : IntKind → Int → Int} {tn : Int → Nat} {iN : Nat → Int} {aN : Nat → Nat → Nat} {sN : Nat → Nat → Nat} {lN : Nat → Nat → Bool} {eN : Nat → Nat → Bool} {bt : ByteArray → Int → Int} {sub : ByteArray → Int → Int → ByteArray} {sl : ByteArray → Int} {rn : Int → ByteArray} {ofB : Nat → (Nat → List U) → ByteArray} {mn : Int → Int → Int} {dc : ByteArray → Nat → Int} {dn : ByteArray → Nat → Nat} {sI : Int → Int → Int} (hE : Ax ob ib ic sb cat iu nt an be pk wr tn iN aN sN lN eN bt sub sl rn ofB mn dc dn sI) {a k : Nat} (h : k < 64) (h2 : a * 2 ^ k < 18446744073709551616) : ib .shl .u64 (iN a) (iN k) = iN (a * 2 ^ k) := by
  rw [hE.e_iN, hE.e_iN, hE.e_iN, ← hE.h_ib]
  show IntKind.u64.wrap (_ * 2 ^ (min (k : Int).toNat 64)) = _
  rw [show min (k : Int).toNat 64 = k by omega, wrap_u64]
  have : ((a : Int) * 2 ^ k) = ((a * 2 ^ k : Nat) : Int) := by norm_cast
  rw [this]; omega
theorem Ax.quoN {ob : Ob → Prop} {ib : BinOp → IntKind → Int → Int → Int} {ic : BinOp → Int → Int → Bool} {sb : BinOp → ByteArray → ByteArray → Bool} {cat : ByteArray → ByteArray → ByteArray} {iu : UnOp → IntKind → Int → Int} {nt : Bool → Bool} {an : Bool → Bool → Bool} {be : Bool → Bool → Bool} {pk : Bool → Bool → Bool → Bool} {wr : IntKind → Int → Int} {tn : Int → Nat} {iN : Nat → Int} {aN : Nat → Nat → Nat} {sN : Nat → Nat → Nat} {lN : Nat → Nat → Bool} {eN : Nat → Nat → Bool} {bt : ByteArray → Int → Int} {sub : ByteArray → Int → Int → ByteArray} {sl : ByteArray → Int} {rn : Int → ByteArray} {ofB : Nat → (Nat → List U) → ByteArray} {mn : Int → Int → Int} {dc : ByteArray → Nat → Int} {dn : ByteArray → Nat → Nat} {sI : Int → Int → Int} (hE : Ax ob ib ic sb cat iu nt an be pk wr tn iN aN sN lN eN bt sub sl rn ofB mn dc dn sI) {a b : Nat} (hb : 1 ≤ b) (ha : a < 18446744073709551616) : ib .quo .u64 (iN a) (iN b) = iN (a / b) := by
  rw [hE.e_iN, hE.e_iN, hE.e_iN, ← hE.h_ib]
  show IntKind.u64.wrap (Int.tdiv _ _) = _
  have h2 := Nat.div_le_self a b
  have h3 : (a : Int) / (b : Int) = ((a / b : Nat) : Int) := by norm_cast
  rw [Int.tdiv_eq_ediv_of_nonneg (by omega), wrap_u64, h3]
  generalize a / b = q at *
  omega
theorem Ax.remN {ob : Ob → Prop} {ib : BinOp → IntKind → Int → Int → Int} {ic : BinOp → Int → Int → Bool} {sb : BinOp → ByteArray → ByteArray → Bool} {cat : ByteArray → ByteArray → ByteArray} {iu : UnOp → IntKind → Int → Int} {nt : Bool → Bool} {an : Bool → Bool → Bool} {be : Bool → Bool → Bool} {pk : Bool → Bool → Bool → Bool} {wr : IntKind → Int → Int} {tn : Int → Nat} {iN : Nat → Int} {aN : Nat → Nat → Nat} {sN : Nat → Nat → Nat} {lN : Nat → Nat → Bool} {eN : Nat → Nat → Bool} {bt : ByteArray → Int → Int} {sub : ByteArray → Int → Int → ByteArray} {sl : ByteArray → Int} {rn : Int → ByteArray} {ofB : Nat → (Nat → List U) → ByteArray} {mn : Int → Int → Int} {dc : ByteArray → Nat → Int} {dn : ByteArray → Nat → Nat} {sI : Int → Int → Int} (hE : Ax ob ib ic sb cat iu nt an be pk wr tn iN aN sN lN eN bt sub sl rn ofB mn dc dn sI) {a b : Nat} : ib .rem .u64 (iN a) (iN b) = iN (a % b) := by
  rw [hE.rem (by rw [hE.e_iN]; omega), hE.e_iN, hE.e_iN, hE.e_iN]; norm_cast
end Am
end
section
open Go Am
set_option maxRecDepth 100000
set_option maxHeartbeats 4000000
set_option linter.unusedVariables false
set_option linter.unusedSimpArgs false
namespace Ytohkcdfjpgdfbaa
def vput (n : Nat) : List Nat := if n < 128 then [n] else (n % 128 + 128) :: vput (n / 128)
termination_by n
decreasing_by omega
theorem vput_lt {n : Nat} (h : n < 128) : vput n = [n] := by rw [vput, if_pos h]
theorem vput_ge {n : Nat} (h : ¬ n < 128) : vput n = (n % 128 + 128) :: vput (n / 128) := by rw [vput, if_neg h]
theorem vput_pos (n : Nat) : 1 ≤ (vput n).length := by
  by_cases h : n < 128
  · rw [vput_lt h]; simp
  · rw [vput_ge h]; simp
theorem vput_len : ∀ (k n : Nat), n < 128 ^ (k + 1) → (vput n).length ≤ k + 1
  | 0, n, h => by rw [vput_lt (by omega)]; simp
  | k + 1, n, h => by
    by_cases h1 : n < 128
    · rw [vput_lt h1]; simp
    · rw [vput_ge h1]
      have := vput_len k (n / 128) (by rw [Nat.div_lt_iff_lt_mul (by omega)]; rw [Nat.pow_succ] at h; exact h)
      simp only [List.length_cons]; omega
theorem vput_byte : ∀ (k n : Nat), n ≤ k → ∀ x ∈ vput n, x < 256
  | k, n, h, x, hx => by
    by_cases h1 : n < 128
    · rw [vput_lt h1] at hx; simp at hx; omega
    · rw [vput_ge h1, List.mem_cons] at hx
      rcases hx with rfl | hx
      · omega
      · cases k with
        | zero => omega
        | succ k => exact vput_byte k (n / 128) (by omega) x hx
structure IsB (n : Nat) (B : Nat → Int) (L : List Nat) : Prop where
  len : n = L.length
  at_ : ∀ (i x : Nat), L[i]? = some x → B i = (x : Int)
theorem isB_ex (L : List Nat) : ∃ n B, IsB n B L := ⟨L.length, fun i => ((L[i]?).getD 0 : Nat), rfl, fun i x h => by simp [h]⟩
theorem ct55 (x : Nat) (hx : x < 18446744073709551616) (n : Nat) (B : Nat → Int) (hB : IsB n B (vput x)) (z : Int) (hz : IsN z x) : CT Go.Proofs.Try.prog 55 [scI .u64 z] [] (.sr 0 1 0 n) [.arr 5 1 n (rI B)] := by
  have hl := vput_len 9 x (by omega)
  refine enter55 rfl rfl ?_
  intro ob ib ic sb cat iu nt an be pk wr tn iN aN sN lN eN bt sub sl rn ofB mn dc dn sI X hE hX
  cbv
  have hz' : z = iN x := by rw [hE.e_iN, hz.e]
  subst hz'
  have h128 : (128 : Int) = iN 128 := by rw [hE.e_iN]; rfl
  have h7 : (7 : Int) = iN 7 := by rw [hE.e_iN]; rfl
  refine loop_at hE hX tabOK (by kernel_rfl) funcsOK rfl (α := Nat × Nat) (fun ⟨k, m⟩ => (sets (pad 19) [(0, scI .u64 (iN m)), (3, .sr 0 1 0 k)], [.arr 5 1 k (rI B)])) (fun a => a.2 ≤ x ∧ a.1 + (vput a.2).length = n ∧ ∀ (i y : Nat), (vput a.2)[i]? = some y → B (a.1 + i) = (y : Int)) (fun a => a.2) (0, x) ⟨Nat.le_refl _, by simp [hB.len], fun i y h => by simpa using hB.at_ i y h⟩ ?_ ?_
  · exact ⟨[none], [], ⟨rfl, rfl, rfl, rfl, by (cbv <;> (repeat' first | exact True.intro | exact ⟨.inr trivial, fun _ _ => rfl⟩ | exact rfl | exact fun _ _ => rfl | refine And.intro ?_ ?_ | rw [hE.iN0] | rw [hE.e_aN]))⟩, by (cbv <;> (repeat' first | exact True.intro | exact ⟨.inr trivial, fun _ _ => rfl⟩ | exact rfl | exact fun _ _ => rfl | refine And.intro ?_ ?_ | rw [hE.iN0] | rw [hE.e_aN]))⟩
  · rintro ⟨k, m⟩ ⟨hm, hk, hb⟩
    dsimp only at hm hk hb
    by_cases h : m < 128
    · rw [vput_lt h] at hk hb
      have h0 := hb 0 m rfl
      simp only [List.length_cons, List.length_nil] at hk
      have hn10 : n ≤ 10 := by rw [hB.len]; omega
      have hc : ic .geq (iN m) 128 = false := by rw [hE.geq, hE.e_iN]; exact decide_eq_false (by omega)
      have hw : wr .u8 (iN m) = iN m := by rw [hE.wr8N, Nat.mod_eq_of_lt (by omega)]
      cbv; (repeat ((first | rewrite [hc] | rewrite [hw] | rewrite [hE.ntT] | rewrite [hE.ntF] | rewrite [hE.pkT] | rewrite [hE.pkF] | rewrite [hE.anT] | rewrite [hE.anF] | rewrite [hE.anT'] | rewrite [hE.anF']); (repeat (first | rewrite [hc] | rewrite [hw] | rewrite [hE.ntT] | rewrite [hE.ntF] | rewrite [hE.pkT] | rewrite [hE.pkF] | rewrite [hE.anT] | rewrite [hE.anF] | rewrite [hE.anT'] | rewrite [hE.anF'])); cbv)); (repeat first | refine ⟨(fun h => absurd h Bool.false_ne_true), ?_⟩ | refine ⟨(hE.o (by simp only [Ob.den, hE.e_iN, hE.e_tn, hE.e_aN, hE.e_sN, hE.e_sI, hE.e_mn] <;> omega)), ?_⟩ | refine ⟨fun _ => (hE.o (by simp only [Ob.den, hE.e_iN, hE.e_tn, hE.e_aN, hE.e_sN, hE.e_sI, hE.e_mn] <;> omega)), ?_⟩ | refine ⟨fun h => h, ?_⟩ | refine ⟨fun _ => rfl, ?_⟩ | refine ⟨fun _ h => h, ?_⟩ | refine ⟨fun _ _ => True.intro, ?_⟩ | refine ⟨fun _ h => absurd h Bool.false_ne_true, ?_⟩ | refine ⟨fun _ => True.intro, ?_⟩ | refine ⟨fun _ _ => rfl, ?_⟩ | refine ⟨(fun h => Bool.noConfusion h), ?_⟩ | refine ⟨fun _ h => Bool.noConfusion h, ?_⟩ | refine ⟨fun _ h => by rw [h, hE.ntF], ?_⟩ | refine ⟨True.intro, ?_⟩)
      obtain rfl : k + 1 = n := hk
      exact ct_end ⟨[some 2], [], ⟨rfl, rfl, rfl, rfl, ⟨rfl, rfl, rfl, by rw [hE.e_aN], hE.app1 (by show [U.sc (.int .u8 (B k))] = _; rw [show B k = iN m by rw [hE.e_iN]; exact h0])⟩, trivial⟩, by (cbv <;> (repeat' first | exact True.intro | exact ⟨.inr trivial, fun _ _ => rfl⟩ | exact rfl | exact fun _ _ => rfl | refine And.intro ?_ ?_ | rw [hE.iN0] | rw [hE.e_aN]))⟩
    · rw [vput_ge h] at hk hb
      have h0 := hb 0 _ rfl
      simp only [List.length_cons] at hk
      have hn10 : n ≤ 10 := by rw [hB.len]; omega
      have hc : ic .geq (iN m) 128 = true := by rw [hE.geq, hE.e_iN]; exact decide_eq_true (by omega)
      have hw := hE.orU8 (a := m)
      have hs := hE.shrN (a := m) (k := 7) (by omega)
      obtain ⟨q, hq⟩ : ∃ q, q = m / 128 := ⟨_, rfl⟩
      rw [← h7, show m / 2 ^ 7 = q from hq.symm] at hs
      rw [← hq] at hk hb
      cbv; (repeat ((first | rewrite [hc] | rewrite [hw] | rewrite [hs] | rewrite [hE.ntT] | rewrite [hE.ntF] | rewrite [hE.pkT] | rewrite [hE.pkF] | rewrite [hE.anT] | rewrite [hE.anF] | rewrite [hE.anT'] | rewrite [hE.anF']); (repeat (first | rewrite [hc] | rewrite [hw] | rewrite [hs] | rewrite [hE.ntT] | rewrite [hE.ntF] | rewrite [hE.pkT] | rewrite [hE.pkF] | rewrite [hE.anT] | rewrite [hE.anF] | rewrite [hE.anT'] | rewrite [hE.anF'])); cbv)); (repeat first | refine ⟨(fun h => absurd h Bool.false_ne_true), ?_⟩ | refine ⟨(hE.o (by simp only [Ob.den, hE.e_iN, hE.e_tn, hE.e_aN, hE.e_sN, hE.e_sI, hE.e_mn] <;> omega)), ?_⟩ | refine ⟨fun _ => (hE.o (by simp only [Ob.den, hE.e_iN, hE.e_tn, hE.e_aN, hE.e_sN, hE.e_sI, hE.e_mn] <;> omega)), ?_⟩ | refine ⟨fun h => h, ?_⟩ | refine ⟨fun _ => rfl, ?_⟩ | refine ⟨fun _ h => h, ?_⟩ | refine ⟨fun _ _ => True.intro, ?_⟩ | refine ⟨fun _ h => absurd h Bool.false_ne_true, ?_⟩ | refine ⟨fun _ => True.intro, ?_⟩ | refine ⟨fun _ _ => rfl, ?_⟩ | refine ⟨(fun h => Bool.noConfusion h), ?_⟩ | refine ⟨fun _ h => Bool.noConfusion h, ?_⟩ | refine ⟨fun _ h => by rw [h, hE.ntF], ?_⟩ | refine ⟨True.intro, ?_⟩)
      exact ⟨(k + 1, q), ⟨by dsimp only; omega, by dsimp only; omega, fun i y hy => by dsimp only; rw [show k + 1 + i = k + (i + 1) by omega]; exact hb (i + 1) y (by simpa using hy)⟩, by dsimp only; omega, [some 2], [], ⟨rfl, rfl, rfl, rfl, ⟨rfl, rfl, rfl, by rw [hE.e_aN], hE.app1 (by show [U.sc (.int .u8 (B k))] = _; rw [show B k = iN (m % 128 + 128) by rw [hE.e_iN]; exact h0])⟩, trivial⟩, by (cbv <;> (repeat' first | exact True.intro | exact ⟨.inr trivial, fun _ _ => rfl⟩ | exact rfl | exact fun _ _ => rfl | refine And.intro ?_ ?_ | rw [hE.iN0] | rw [hE.e_aN]))⟩
end Ytohkcdfjpgdfbaa
end
section
open Go Am
set_option maxRecDepth 100000
set_option maxHeartbeats 4000000
set_option linter.unusedVariables false
set_option linter.unusedSimpArgs false
namespace Ytohkcdfjpgdfbaa
theorem ct75 (x : Nat) (hx : x < 18446744073709551616) (z : Int) (hz : IsN z x) : CT Go.Proofs.Try.prog 75 [scI .u64 z] [] (scI .i64 ((vput x).length : Nat)) [] := by
  have hl := vput_len 9 x (by omega)
  obtain ⟨n, hn⟩ : ∃ n, n = (vput x).length := ⟨_, rfl⟩
  obtain ⟨w, hw⟩ : ∃ w : Int, w = ((vput x).length : Nat) := ⟨_, rfl⟩
  rw [← hw]
  refine enter75 rfl rfl ?_
  intro ob ib ic sb cat iu nt an be pk wr tn iN aN sN lN eN bt sub sl rn ofB mn dc dn sI X hE hX
  cbv
  have hz' : z = iN x := by rw [hE.e_iN, hz.e]
  subst hz'
  have hw' : w = iN n := by rw [hE.e_iN, hw, hn]
  subst hw'
  have h128 : (128 : Int) = iN 128 := by rw [hE.e_iN]; rfl
  refine loop_at hE hX tabOK (by kernel_rfl) funcsOK rfl (α := Nat × Nat) (fun ⟨k, m⟩ => (sets (pad 12) [(0, scI .u64 (iN m)), (3, scI .i64 (iN k))], [])) (fun a => a.2 ≤ x ∧ a.1 + (vput a.2).length = n + 1) (fun a => a.2) (1, x) ⟨Nat.le_refl _, by dsimp only; omega⟩ ?_ ?_
  · refine ⟨[], [], ⟨rfl, rfl, rfl, rfl, trivial⟩, ?_⟩
    cbv
    (repeat' first | exact True.intro | exact ⟨.inr trivial, fun _ _ => rfl⟩ | exact rfl | exact fun _ _ => rfl | refine And.intro ?_ ?_ | rw [hE.iN0] | rw [hE.e_aN])
    exact congrArg _ hE.iN1.symm
  · rintro ⟨k, m⟩ ⟨hm, hk⟩
    dsimp only at hm hk
    obtain ⟨q, hq⟩ : ∃ q, q = m / 128 := ⟨_, rfl⟩
    have hs := hE.quoN (a := m) (b := 128) (by omega) (by omega)
    rw [← h128, ← hq] at hs
    by_cases h : m < 128
    · rw [vput_lt h] at hk
      simp only [List.length_cons, List.length_nil] at hk
      have hc : ic .gtr (iN q) 0 = false := by rw [hE.gtr, hE.e_iN]; exact decide_eq_false (by omega)
      cbv; (repeat ((first | rewrite [hs] | rewrite [hc] | rewrite [hE.ntT] | rewrite [hE.ntF] | rewrite [hE.pkT] | rewrite [hE.pkF] | rewrite [hE.anT] | rewrite [hE.anF] | rewrite [hE.anT'] | rewrite [hE.anF']); (repeat (first | rewrite [hs] | rewrite [hc] | rewrite [hE.ntT] | rewrite [hE.ntF] | rewrite [hE.pkT] | rewrite [hE.pkF] | rewrite [hE.anT] | rewrite [hE.anF] | rewrite [hE.anT'] | rewrite [hE.anF'])); cbv)); (repeat first | refine ⟨(fun h => absurd h Bool.false_ne_true), ?_⟩ | refine ⟨(hE.o (by simp only [Ob.den, hE.e_iN, hE.e_tn, hE.e_aN, hE.e_sN, hE.e_sI, hE.e_mn] <;> omega)), ?_⟩ | refine ⟨fun _ => (hE.o (by simp only [Ob.den, hE.e_iN, hE.e_tn, hE.e_aN, hE.e_sN, hE.e_sI, hE.e_mn] <;> omega)), ?_⟩ | refine ⟨fun h => h, ?_⟩ | refine ⟨fun _ => rfl, ?_⟩ | refine ⟨fun _ h => h, ?_⟩ | refine ⟨fun _ _ => True.intro, ?_⟩ | refine ⟨fun _ h => absurd h Bool.false_ne_true, ?_⟩ | refine ⟨fun _ => True.intro, ?_⟩ | refine ⟨fun _ _ => rfl, ?_⟩ | refine ⟨(fun h => Bool.noConfusion h), ?_⟩ | refine ⟨fun _ h => Bool.noConfusion h, ?_⟩ | refine ⟨fun _ h => by rw [h, hE.ntF], ?_⟩ | refine ⟨True.intro, ?_⟩)
      rw [show k = n by omega]
      exact ct_u rfl
    · rw [vput_ge h] at hk
      simp only [List.length_cons] at hk
      have hc : ic .gtr (iN q) 0 = true := by rw [hE.gtr, hE.e_iN]; exact decide_eq_true (by omega)
      have hi := hE.incN (a := k) (by omega)
      cbv; (repeat ((first | rewrite [hs] | rewrite [hc] | rewrite [hi] | rewrite [hE.ntT] | rewrite [hE.ntF] | rewrite [hE.pkT] | rewrite [hE.pkF] | rewrite [hE.anT] | rewrite [hE.anF] | rewrite [hE.anT'] | rewrite [hE.anF']); (repeat (first | rewrite [hs] | rewrite [hc] | rewrite [hi] | rewrite [hE.ntT] | rewrite [hE.ntF] | rewrite [hE.pkT] | rewrite [hE.pkF] | rewrite [hE.anT] | rewrite [hE.anF] | rewrite [hE.anT'] | rewrite [hE.anF'])); cbv)); (repeat first | refine ⟨(fun h => absurd h Bool.false_ne_true), ?_⟩ | refine ⟨(hE.o (by simp only [Ob.den, hE.e_iN, hE.e_tn, hE.e_aN, hE.e_sN, hE.e_sI, hE.e_mn] <;> omega)), ?_⟩ | refine ⟨fun _ => (hE.o (by simp only [Ob.den, hE.e_iN, hE.e_tn, hE.e_aN, hE.e_sN, hE.e_sI, hE.e_mn] <;> omega)), ?_⟩ | refine ⟨fun h => h, ?_⟩ | refine ⟨fun _ => rfl, ?_⟩ | refine ⟨fun _ h => h, ?_⟩ | refine ⟨fun _ _ => True.intro, ?_⟩ | refine ⟨fun _ h => absurd h Bool.false_ne_true, ?_⟩ | refine ⟨fun _ => True.intro, ?_⟩ | refine ⟨fun _ _ => rfl, ?_⟩ | refine ⟨(fun h => Bool.noConfusion h), ?_⟩ | refine ⟨fun _ h => Bool.noConfusion h, ?_⟩ | refine ⟨fun _ h => by rw [h, hE.ntF], ?_⟩ | refine ⟨True.intro, ?_⟩)
      exact ⟨(k + 1, q), ⟨by dsimp only; omega, by dsimp only; rw [hq]; omega⟩, by dsimp only; omega, [], [], ⟨rfl, rfl, rfl, rfl, trivial⟩, by (cbv <;> (repeat' first | exact True.intro | exact ⟨.inr trivial, fun _ _ => rfl⟩ | exact rfl | exact fun _ _ => rfl | refine And.intro ?_ ?_ | rw [hE.iN0] | rw [hE.e_aN]))⟩
theorem vput_one {m : Nat} : 1 < (vput m).length ↔ ¬ m < 128 := by
  by_cases h : m < 128
  · rw [vput_lt h]; simp [h]
  · rw [vput_ge h]; have := vput_pos (m / 128); simp [h]; omega
theorem ct57 (x : Nat) (hx : x < 18446744073709551616) (n : Nat) (B : Nat → Int) (hB : IsB n B (vput x)) (z : Int) (hz : IsN z x) : CT Go.Proofs.Try.prog 57 [scI .u64 z] [] (.sr 0 1 0 n) [.arr 5 1 n (rI B)] := by
  have hl := vput_len 9 x (by omega)
  have hct := ct75 x hx z hz
  rw [← hB.len] at hct
  obtain ⟨w, hw⟩ : ∃ w : Int, w = (n : Int) := ⟨_, rfl⟩
  rw [← hw] at hct
  have hn10 : n ≤ 10 := by rw [hB.len]; omega
  refine enter57 rfl rfl ?_
  intro ob ib ic sb cat iu nt an be pk wr tn iN aN sN lN eN bt sub sl rn ofB mn dc dn sI X hE hX
  cbv
  have hz' : z = iN x := by rw [hE.e_iN, hz.e]
  subst hz'
  have hw' : w = iN n := by rw [hE.e_iN, hw]
  subst hw'
  have h128 : (128 : Int) = iN 128 := by rw [hE.e_iN]; rfl
  refine call_ct hX [] [] hct (fits_nil ⟨fitU_refl _, trivial⟩) rfl trivial ?_
  cbv; (repeat ((first | rewrite [hE.ntT] | rewrite [hE.ntF] | rewrite [hE.pkT] | rewrite [hE.pkF] | rewrite [hE.anT] | rewrite [hE.anF] | rewrite [hE.anT'] | rewrite [hE.anF']); (repeat (first | rewrite [hE.ntT] | rewrite [hE.ntF] | rewrite [hE.pkT] | rewrite [hE.pkF] | rewrite [hE.anT] | rewrite [hE.anF] | rewrite [hE.anT'] | rewrite [hE.anF'])); cbv)); (repeat first | refine ⟨(fun h => absurd h Bool.false_ne_true), ?_⟩ | refine ⟨(hE.o (by simp only [Ob.den, hE.e_iN, hE.e_tn, hE.e_aN, hE.e_sN, hE.e_sI, hE.e_mn] <;> omega)), ?_⟩ | refine ⟨fun _ => (hE.o (by simp only [Ob.den, hE.e_iN, hE.e_tn, hE.e_aN, hE.e_sN, hE.e_sI, hE.e_mn] <;> omega)), ?_⟩ | refine ⟨fun h => h, ?_⟩ | refine ⟨fun _ => rfl, ?_⟩ | refine ⟨fun _ h => h, ?_⟩ | refine ⟨fun _ _ => True.intro, ?_⟩ | refine ⟨fun _ h => absurd h Bool.false_ne_true, ?_⟩ | refine ⟨fun _ => True.intro, ?_⟩ | refine ⟨fun _ _ => rfl, ?_⟩ | refine ⟨(fun h => Bool.noConfusion h), ?_⟩ | refine ⟨fun _ h => Bool.noConfusion h, ?_⟩ | refine ⟨fun _ h => by rw [h, hE.ntF], ?_⟩ | refine ⟨True.intro, ?_⟩)
  refine loop_at hE hX tabOK (by kernel_rfl) funcsOK rfl (α := Nat × Nat) (fun ⟨k, m⟩ => (sets (pad 30) [(0, scI .u64 (iN m)), (3, .sr 0 1 0 k), (4, scI .i64 (iN n)), (5, scI .i64 (iN k))], [.arr 5 1 k (rI B)])) (fun a => a.2 ≤ x ∧ ((a.1 = n ∧ a.2 = 0) ∨ (a.1 + (vput a.2).length = n ∧ ∀ (i y : Nat), (vput a.2)[i]? = some y → B (a.1 + i) = (y : Int)))) (fun a => n - a.1) (0, x) ⟨Nat.le_refl _, .inr ⟨by simp [hB.len], fun i y h => by simpa using hB.at_ i y h⟩⟩ ?_ ?_
  · exact ⟨[none], [], ⟨rfl, rfl, rfl, rfl, by (cbv <;> (repeat' first | exact True.intro | exact ⟨.inr trivial, fun _ _ => rfl⟩ | exact rfl | exact fun _ _ => rfl | refine And.intro ?_ ?_ | rw [hE.iN0] | rw [hE.e_aN]))⟩, by (cbv <;> (repeat' first | exact True.intro | exact ⟨.inr trivial, fun _ _ => rfl⟩ | exact rfl | exact fun _ _ => rfl | refine And.intro ?_ ?_ | rw [hE.iN0] | rw [hE.e_aN]))⟩
  · rintro ⟨k, m⟩ ⟨hm, hkm⟩
    dsimp only at hm hkm
    rcases hkm with ⟨rfl, rfl⟩ | ⟨hk, hb⟩
    · have hc : ic .lss (iN k) (iN k) = false := by rw [hE.ltN]; exact decide_eq_false (by omega)
      cbv; (repeat ((first | rewrite [hc] | rewrite [hE.ntT] | rewrite [hE.ntF] | rewrite [hE.pkT] | rewrite [hE.pkF] | rewrite [hE.anT] | rewrite [hE.anF] | rewrite [hE.anT'] | rewrite [hE.anF']); (repeat (first | rewrite [hc] | rewrite [hE.ntT] | rewrite [hE.ntF] | rewrite [hE.pkT] | rewrite [hE.pkF] | rewrite [hE.anT] | rewrite [hE.anF] | rewrite [hE.anT'] | rewrite [hE.anF'])); cbv)); (repeat first | refine ⟨(fun h => absurd h Bool.false_ne_true), ?_⟩ | refine ⟨(hE.o (by simp only [Ob.den, hE.e_iN, hE.e_tn, hE.e_aN, hE.e_sN, hE.e_sI, hE.e_mn] <;> omega)), ?_⟩ | refine ⟨fun _ => (hE.o (by simp only [Ob.den, hE.e_iN, hE.e_tn, hE.e_aN, hE.e_sN, hE.e_sI, hE.e_mn] <;> omega)), ?_⟩ | refine ⟨fun h => h, ?_⟩ | refine ⟨fun _ => rfl, ?_⟩ | refine ⟨fun _ h => h, ?_⟩ | refine ⟨fun _ _ => True.intro, ?_⟩ | refine ⟨fun _ h => absurd h Bool.false_ne_true, ?_⟩ | refine ⟨fun _ => True.intro, ?_⟩ | refine ⟨fun _ _ => rfl, ?_⟩ | refine ⟨(fun h => Bool.noConfusion h), ?_⟩ | refine ⟨fun _ h => Bool.noConfusion h, ?_⟩ | refine ⟨fun _ h => by rw [h, hE.ntF], ?_⟩ | refine ⟨True.intro, ?_⟩)
      exact ct_end ⟨[some 0], [], ⟨rfl, rfl, rfl, rfl, by (cbv <;> (repeat' first | exact True.intro | exact ⟨.inr trivial, fun _ _ => rfl⟩ | exact rfl | exact fun _ _ => rfl | refine And.intro ?_ ?_ | rw [hE.iN0] | rw [hE.e_aN]))⟩, by (cbv <;> (repeat' first | exact True.intro | exact ⟨.inr trivial, fun _ _ => rfl⟩ | exact rfl | exact fun _ _ => rfl | refine And.intro ?_ ?_ | rw [hE.iN0] | rw [hE.e_aN]))⟩
    obtain ⟨q, hq⟩ : ∃ q, q = m / 128 := ⟨_, rfl⟩
    obtain ⟨r, hr⟩ : ∃ r, r = m % 128 := ⟨_, rfl⟩
    have hs := hE.quoN (a := m) (b := 128) (by omega) (by omega)
    have hd := hE.remN (a := m) (b := 128)
    rw [← h128, ← hq] at hs
    rw [← h128, ← hr] at hd
    have hw : wr .u8 (iN r) = iN r := by rw [hE.wr8N, Nat.mod_eq_of_lt (by omega)]
    have hi := hE.incN (a := k) (by omega)
    have hpos := vput_pos m
    have hc : ic .lss (iN k) (iN n) = true := by rw [hE.ltN]; exact decide_eq_true (by omega)
    by_cases h : m < 128
    · rw [vput_lt h] at hk hb
      have h0 := hb 0 m rfl
      simp only [List.length_cons, List.length_nil] at hk
      have hc2 : ic .lss (iN (k + 1)) (iN n) = false := by rw [hE.ltN]; exact decide_eq_false (by omega)
      cbv; (repeat ((first | rewrite [hs] | rewrite [hd] | rewrite [hw] | rewrite [hi] | rewrite [hc] | rewrite [hc2] | rewrite [hE.ntT] | rewrite [hE.ntF] | rewrite [hE.pkT] | rewrite [hE.pkF] | rewrite [hE.anT] | rewrite [hE.anF] | rewrite [hE.anT'] | rewrite [hE.anF']); (repeat (first | rewrite [hs] | rewrite [hd] | rewrite [hw] | rewrite [hi] | rewrite [hc] | rewrite [hc2] | rewrite [hE.ntT] | rewrite [hE.ntF] | rewrite [hE.pkT] | rewrite [hE.pkF] | rewrite [hE.anT] | rewrite [hE.anF] | rewrite [hE.anT'] | rewrite [hE.anF'])); cbv)); (repeat first | refine ⟨(fun h => absurd h Bool.false_ne_true), ?_⟩ | refine ⟨(hE.o (by simp only [Ob.den, hE.e_iN, hE.e_tn, hE.e_aN, hE.e_sN, hE.e_sI, hE.e_mn] <;> omega)), ?_⟩ | refine ⟨fun _ => (hE.o (by simp only [Ob.den, hE.e_iN, hE.e_tn, hE.e_aN, hE.e_sN, hE.e_sI, hE.e_mn] <;> omega)), ?_⟩ | refine ⟨fun h => h, ?_⟩ | refine ⟨fun _ => rfl, ?_⟩ | refine ⟨fun _ h => h, ?_⟩ | refine ⟨fun _ _ => True.intro, ?_⟩ | refine ⟨fun _ h => absurd h Bool.false_ne_true, ?_⟩ | refine ⟨fun _ => True.intro, ?_⟩ | refine ⟨fun _ _ => rfl, ?_⟩ | refine ⟨(fun h => Bool.noConfusion h), ?_⟩ | refine ⟨fun _ h => Bool.noConfusion h, ?_⟩ | refine ⟨fun _ h => by rw [h, hE.ntF], ?_⟩ | refine ⟨True.intro, ?_⟩)
      exact ⟨(k + 1, q), ⟨by dsimp only; omega, .inl ⟨by dsimp only; omega, by dsimp only; omega⟩⟩, by dsimp only; omega, [some 2], [], ⟨rfl, rfl, rfl, rfl, ⟨rfl, rfl, rfl, by rw [hE.e_aN], hE.app1 (by show [U.sc (.int .u8 (B k))] = _; rw [show B k = iN r by rw [hE.e_iN, hr, Nat.mod_eq_of_lt h]; exact h0])⟩, trivial⟩, by (cbv <;> (repeat' first | exact True.intro | exact ⟨.inr trivial, fun _ _ => rfl⟩ | exact rfl | exact fun _ _ => rfl | refine And.intro ?_ ?_ | rw [hE.iN0] | rw [hE.e_aN]))⟩
    · rw [vput_ge h] at hk hb
      have h0 := hb 0 _ rfl
      simp only [List.length_cons] at hk
      have hpos := vput_pos (m / 128)
      have hc2 : ic .lss (iN (k + 1)) (iN n) = true := by rw [hE.ltN]; exact decide_eq_true (by omega)
      have ha : ib .add .u8 (iN r) 128 = iN (r + 128) := by rw [hE.addU8 (by rw [hE.e_iN]; omega), hE.e_iN, hE.e_iN]; rfl
      cbv; (repeat ((first | rewrite [hs] | rewrite [hd] | rewrite [hw] | rewrite [hi] | rewrite [hc] | rewrite [hc2] | rewrite [ha] | rewrite [hE.ntT] | rewrite [hE.ntF] | rewrite [hE.pkT] | rewrite [hE.pkF] | rewrite [hE.anT] | rewrite [hE.anF] | rewrite [hE.anT'] | rewrite [hE.anF']); (repeat (first | rewrite [hs] | rewrite [hd] | rewrite [hw] | rewrite [hi] | rewrite [hc] | rewrite [hc2] | rewrite [ha] | rewrite [hE.ntT] | rewrite [hE.ntF] | rewrite [hE.pkT] | rewrite [hE.pkF] | rewrite [hE.anT] | rewrite [hE.anF] | rewrite [hE.anT'] | rewrite [hE.anF'])); cbv)); (repeat first | refine ⟨(fun h => absurd h Bool.false_ne_true), ?_⟩ | refine ⟨(hE.o (by simp only [Ob.den, hE.e_iN, hE.e_tn, hE.e_aN, hE.e_sN, hE.e_sI, hE.e_mn] <;> omega)), ?_⟩ | refine ⟨fun _ => (hE.o (by simp only [Ob.den, hE.e_iN, hE.e_tn, hE.e_aN, hE.e_sN, hE.e_sI, hE.e_mn] <;> omega)), ?_⟩ | refine ⟨fun h => h, ?_⟩ | refine ⟨fun _ => rfl, ?_⟩ | refine ⟨fun _ h => h, ?_⟩ | refine ⟨fun _ _ => True.intro, ?_⟩ | refine ⟨fun _ h => absurd h Bool.false_ne_true, ?_⟩ | refine ⟨fun _ => True.intro, ?_⟩ | refine ⟨fun _ _ => rfl, ?_⟩ | refine ⟨(fun h => Bool.noConfusion h), ?_⟩ | refine ⟨fun _ h => Bool.noConfusion h, ?_⟩ | refine ⟨fun _ h => by rw [h, hE.ntF], ?_⟩ | refine ⟨True.intro, ?_⟩)
      exact ⟨(k + 1, q), ⟨by dsimp only; omega, .inr ⟨by dsimp only; rw [hq]; omega, fun i y hy => by dsimp only; rw [show k + 1 + i = k + (i + 1) by omega]; exact hb (i + 1) y (by simpa [hq] using hy)⟩⟩, by dsimp only; omega, [some 2], [], ⟨rfl, rfl, rfl, rfl, ⟨rfl, rfl, rfl, by rw [hE.e_aN], hE.app1 (by show [U.sc (.int .u8 (B k))] = _; rw [show B k = iN (r + 128) by rw [hE.e_iN, hr]; exact h0])⟩, trivial⟩, by (cbv <;> (repeat' first | exact True.intro | exact ⟨.inr trivial, fun _ _ => rfl⟩ | exact rfl | exact fun _ _ => rfl | refine And.intro ?_ ?_ | rw [hE.iN0] | rw [hE.e_aN]))⟩
end Ytohkcdfjpgdfbaa
end
