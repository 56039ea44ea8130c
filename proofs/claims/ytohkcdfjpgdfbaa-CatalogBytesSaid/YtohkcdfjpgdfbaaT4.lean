/- Part 4 of the proof of CatalogBytesSaid: K42, K43, K44, K45, K46, K47, K48, K49, K50, K51, K52, K53. -/
import Derived.Test.YtohkcdfjpgdfbaaT3
section
open Go Am
set_option maxRecDepth 100000
set_option maxHeartbeats 4000000
set_option linter.unusedVariables false
set_option linter.unusedSimpArgs false
namespace Ytohkcdfjpgdfbaa
theorem IsB.lt {n : Nat} {B : Nat → Int} {L : List Nat} (h : IsB n B L) {i : Nat} (hi : i < n) : ∃ x, L[i]? = some x ∧ B i = (x : Int) := by
  have hl := h.len
  have : L[i]? = some L[i] := List.getElem?_eq_getElem (by omega)
  exact ⟨_, this, h.at_ _ _ this⟩
theorem IsB.eq {n m : Nat} {B C : Nat → Int} {L : List Nat} (h : IsB n B L) (k : IsB m C L) : n = m ∧ ∀ i, i < n → B i = C i := by
  refine ⟨by rw [h.len, k.len], fun i hi => ?_⟩
  obtain ⟨x, h1, h2⟩ := h.lt hi
  rw [h2, k.at_ i x h1]
theorem _root_.Am.Ax.appB {ob : Ob → Prop} {ib : BinOp → IntKind → Int → Int → Int} {ic : BinOp → Int → Int → Bool} {sb : BinOp → ByteArray → ByteArray → Bool} {cat : ByteArray → ByteArray → ByteArray} {iu : UnOp → IntKind → Int → Int} {nt : Bool → Bool} {an : Bool → Bool → Bool} {be : Bool → Bool → Bool} {pk : Bool → Bool → Bool → Bool} {wr : IntKind → Int → Int} {tn : Int → Nat} {iN : Nat → Int} {aN : Nat → Nat → Nat} {sN : Nat → Nat → Nat} {lN : Nat → Nat → Bool} {eN : Nat → Nat → Bool} {bt : ByteArray → Int → Int} {sub : ByteArray → Int → Int → ByteArray} {sl : ByteArray → Int} {rn : Int → ByteArray} {ofB : Nat → (Nat → List U) → ByteArray} {mn : Int → Int → Int} {dc : ByteArray → Nat → Int} {dn : ByteArray → Nat → Nat} {sI : Int → Int → Int} (hE : Ax ob ib ic sb cat iu nt an be pk wr tn iN aN sN lN eN bt sub sl rn ofB mn dc dn sI) {n m k : Nat} {B C D : Nat → Int} {L M : List Nat} (hB : IsB n B (L ++ M)) (hC : IsB m C L) (hD : IsB k D M) : ∀ i, i < n → (if lN i m = true then rI C i else rI D (sN i m)) = rI B i := by
  intro i hi
  have h1 := hC.len
  have h2 := hD.len
  have h3 := hB.len
  rw [List.length_append] at h3
  rw [hE.e_lN, hE.e_sN]
  by_cases h : i < m
  · rw [decide_eq_true h, if_pos rfl]
    obtain ⟨x, q1, q2⟩ := hC.lt h
    show [U.sc (.int .u8 (C i))] = [U.sc (.int .u8 (B i))]
    rw [q2, hB.at_ i x (by rw [List.getElem?_append_left (by omega)]; exact q1)]
  · rw [decide_eq_false h, if_neg Bool.false_ne_true]
    obtain ⟨x, q1, q2⟩ := hD.lt (i := i - m) (by omega)
    show [U.sc (.int .u8 (D (i - m)))] = [U.sc (.int .u8 (B i))]
    rw [q2, hB.at_ i x (by rw [List.getElem?_append_right (by omega), ← h1]; exact q1)]
def sBytes (s : ByteArray) : List Nat := s.data.toList.map UInt8.toNat
def vtext (s : ByteArray) : List Nat := vput s.size ++ sBytes s
theorem sBytes_len (s : ByteArray) : (sBytes s).length = s.size := by simp [sBytes]
theorem isB_str (s : ByteArray) : IsB s.size (fun i => btI s (i : Nat)) (sBytes s) := ⟨(sBytes_len s).symm, fun i x h => by
  unfold sBytes at h
  rw [List.getElem?_map, Option.map_eq_some_iff] at h
  obtain ⟨y, h1, h2⟩ := h
  show ((s.data.toList.getD (i : Int).toNat 0).toNat : Int) = x
  rw [Int.toNat_natCast, List.getD_eq_getElem?_getD, h1, ← h2]
  rfl⟩
theorem _root_.Am.Ax.appStr {ob : Ob → Prop} {ib : BinOp → IntKind → Int → Int → Int} {ic : BinOp → Int → Int → Bool} {sb : BinOp → ByteArray → ByteArray → Bool} {cat : ByteArray → ByteArray → ByteArray} {iu : UnOp → IntKind → Int → Int} {nt : Bool → Bool} {an : Bool → Bool → Bool} {be : Bool → Bool → Bool} {pk : Bool → Bool → Bool → Bool} {wr : IntKind → Int → Int} {tn : Int → Nat} {iN : Nat → Int} {aN : Nat → Nat → Nat} {sN : Nat → Nat → Nat} {lN : Nat → Nat → Bool} {eN : Nat → Nat → Bool} {bt : ByteArray → Int → Int} {sub : ByteArray → Int → Int → ByteArray} {sl : ByteArray → Int} {rn : Int → ByteArray} {ofB : Nat → (Nat → List U) → ByteArray} {mn : Int → Int → Int} {dc : ByteArray → Nat → Int} {dn : ByteArray → Nat → Nat} {sI : Int → Int → Int} (hE : Ax ob ib ic sb cat iu nt an be pk wr tn iN aN sN lN eN bt sub sl rn ofB mn dc dn sI) {s : ByteArray} {n m : Nat} {B C : Nat → Int} {L : List Nat} (hB : IsB n B (L ++ sBytes s)) (hC : IsB m C L) : ∀ i, i < n → (if lN i m = true then rI C i else [U.sc (.int .u8 (bt s (iN (sN i m))))]) = rI B i := fun i hi => by
  have h := hE.appB hB hC (isB_str s) i hi
  rw [← h, hE.e_bt, hE.e_iN]
  rfl
theorem ct56 (s : ByteArray) (hs : s.size ≤ 100000) (n : Nat) (B : Nat → Int) (hB : IsB n B (vtext s)) : CT Go.Proofs.Try.prog 56 [strV s] [] (.sr 0 1 0 n) [.arr 5 1 n (rI B)] := by
  obtain ⟨m, C, hC⟩ := isB_ex (vput s.size)
  have hl := vput_len 9 s.size (by omega)
  have hm := hC.len
  have hn := hB.len
  rw [vtext, List.length_append, sBytes_len] at hn
  refine enter56 rfl rfl ?_
  intro ob ib ic sb cat iu nt an be pk wr tn iN aN sN lN eN bt sub sl rn ofB mn dc dn sI X hE hX
  cbv
  have hw := hE.wr64N (a := s.size) (by omega)
  have e1 : sl s = iN s.size := by rw [hE.e_sl, hE.e_iN]
  cbv; (repeat ((first | rewrite [e1] | rewrite [hw] | rewrite [hE.ntT] | rewrite [hE.ntF] | rewrite [hE.pkT] | rewrite [hE.pkF] | rewrite [hE.anT] | rewrite [hE.anF] | rewrite [hE.anT'] | rewrite [hE.anF']); (repeat (first | rewrite [e1] | rewrite [hw] | rewrite [hE.ntT] | rewrite [hE.ntF] | rewrite [hE.pkT] | rewrite [hE.pkF] | rewrite [hE.anT] | rewrite [hE.anF] | rewrite [hE.anT'] | rewrite [hE.anF'])); cbv)); (repeat first | refine ⟨(fun h => absurd h Bool.false_ne_true), ?_⟩ | refine ⟨(hE.o (by simp only [Ob.den, hE.e_iN, hE.e_tn, hE.e_aN, hE.e_sN, hE.e_sI, hE.e_mn] <;> omega)), ?_⟩ | refine ⟨fun _ => (hE.o (by simp only [Ob.den, hE.e_iN, hE.e_tn, hE.e_aN, hE.e_sN, hE.e_sI, hE.e_mn] <;> omega)), ?_⟩ | refine ⟨fun h => h, ?_⟩ | refine ⟨fun _ => rfl, ?_⟩ | refine ⟨fun _ h => h, ?_⟩ | refine ⟨fun _ _ => True.intro, ?_⟩ | refine ⟨fun _ h => absurd h Bool.false_ne_true, ?_⟩ | refine ⟨fun _ => True.intro, ?_⟩ | refine ⟨fun _ _ => rfl, ?_⟩ | refine ⟨(fun h => Bool.noConfusion h), ?_⟩ | refine ⟨fun _ h => Bool.noConfusion h, ?_⟩ | refine ⟨fun _ h => by rw [h, hE.ntF], ?_⟩ | refine ⟨True.intro, ?_⟩)
  refine call_ct hX [] [] (ct55 s.size (by omega) m C hC (iN s.size) ⟨hE.e_iN⟩) (fits_nil ⟨fitU_refl _, trivial⟩) rfl trivial ?_
  cbv
  rw [e1, hE.tnN]
  cbv; (repeat ((first | rewrite [hE.ntT] | rewrite [hE.ntF] | rewrite [hE.pkT] | rewrite [hE.pkF] | rewrite [hE.anT] | rewrite [hE.anF] | rewrite [hE.anT'] | rewrite [hE.anF']); (repeat (first | rewrite [hE.ntT] | rewrite [hE.ntF] | rewrite [hE.pkT] | rewrite [hE.pkF] | rewrite [hE.anT] | rewrite [hE.anF] | rewrite [hE.anT'] | rewrite [hE.anF'])); cbv)); (repeat first | refine ⟨(fun h => absurd h Bool.false_ne_true), ?_⟩ | refine ⟨(hE.o (by simp only [Ob.den, hE.e_iN, hE.e_tn, hE.e_aN, hE.e_sN, hE.e_sI, hE.e_mn] <;> omega)), ?_⟩ | refine ⟨fun _ => (hE.o (by simp only [Ob.den, hE.e_iN, hE.e_tn, hE.e_aN, hE.e_sN, hE.e_sI, hE.e_mn] <;> omega)), ?_⟩ | refine ⟨fun h => h, ?_⟩ | refine ⟨fun _ => rfl, ?_⟩ | refine ⟨fun _ h => h, ?_⟩ | refine ⟨fun _ _ => True.intro, ?_⟩ | refine ⟨fun _ h => absurd h Bool.false_ne_true, ?_⟩ | refine ⟨fun _ => True.intro, ?_⟩ | refine ⟨fun _ _ => rfl, ?_⟩ | refine ⟨(fun h => Bool.noConfusion h), ?_⟩ | refine ⟨fun _ h => Bool.noConfusion h, ?_⟩ | refine ⟨fun _ h => by rw [h, hE.ntF], ?_⟩ | refine ⟨True.intro, ?_⟩)
  exact ct_end ⟨[some 1], [], ⟨rfl, rfl, rfl, rfl, ⟨rfl, rfl, rfl, by rw [hE.e_aN]; omega, hE.appStr hB hC⟩, trivial⟩, ⟨rfl, rfl, rfl, by rw [hE.e_aN]; omega⟩⟩
theorem ct58 (s : ByteArray) (hs : s.size ≤ 100000) (n : Nat) (B : Nat → Int) (hB : IsB n B (vtext s)) : CT Go.Proofs.Try.prog 58 [strV s] [] (.sr 0 1 0 n) [.arr 5 1 n (rI B)] := by
  obtain ⟨m, C, hC⟩ := isB_ex (vput s.size)
  have hl := vput_len 9 s.size (by omega)
  have hm := hC.len
  have hn := hB.len
  rw [vtext, List.length_append, sBytes_len] at hn
  have hCB : ∀ i, i < m → B i = C i := fun i hi => by
    obtain ⟨x, h1, h2⟩ := hC.lt hi
    rw [h2, hB.at_ i x (by rw [vtext, List.getElem?_append_left (by omega)]; exact h1)]
  have hSB : ∀ i, i < s.size → B (m + i) = btI s (i : Nat) := fun i hi => by
    obtain ⟨x, h1, h2⟩ := (isB_str s).lt hi
    rw [h2, hB.at_ (m + i) x (by rw [vtext, List.getElem?_append_right (by omega), ← hm]; rw [show m + i - m = i by omega]; exact h1)]
  refine enter58 rfl rfl ?_
  intro ob ib ic sb cat iu nt an be pk wr tn iN aN sN lN eN bt sub sl rn ofB mn dc dn sI X hE hX
  cbv
  have hw := hE.wr64N (a := s.size) (by omega)
  have e1 : sl s = iN s.size := by rw [hE.e_sl, hE.e_iN]
  cbv; (repeat ((first | rewrite [e1] | rewrite [hw] | rewrite [hE.ntT] | rewrite [hE.ntF] | rewrite [hE.pkT] | rewrite [hE.pkF] | rewrite [hE.anT] | rewrite [hE.anF] | rewrite [hE.anT'] | rewrite [hE.anF']); (repeat (first | rewrite [e1] | rewrite [hw] | rewrite [hE.ntT] | rewrite [hE.ntF] | rewrite [hE.pkT] | rewrite [hE.pkF] | rewrite [hE.anT] | rewrite [hE.anF] | rewrite [hE.anT'] | rewrite [hE.anF'])); cbv)); (repeat first | refine ⟨(fun h => absurd h Bool.false_ne_true), ?_⟩ | refine ⟨(hE.o (by simp only [Ob.den, hE.e_iN, hE.e_tn, hE.e_aN, hE.e_sN, hE.e_sI, hE.e_mn] <;> omega)), ?_⟩ | refine ⟨fun _ => (hE.o (by simp only [Ob.den, hE.e_iN, hE.e_tn, hE.e_aN, hE.e_sN, hE.e_sI, hE.e_mn] <;> omega)), ?_⟩ | refine ⟨fun h => h, ?_⟩ | refine ⟨fun _ => rfl, ?_⟩ | refine ⟨fun _ h => h, ?_⟩ | refine ⟨fun _ _ => True.intro, ?_⟩ | refine ⟨fun _ h => absurd h Bool.false_ne_true, ?_⟩ | refine ⟨fun _ => True.intro, ?_⟩ | refine ⟨fun _ _ => rfl, ?_⟩ | refine ⟨(fun h => Bool.noConfusion h), ?_⟩ | refine ⟨fun _ h => Bool.noConfusion h, ?_⟩ | refine ⟨fun _ h => by rw [h, hE.ntF], ?_⟩ | refine ⟨True.intro, ?_⟩)
  refine call_ct hX [] [] (ct57 s.size (by omega) m C hC (iN s.size) ⟨hE.e_iN⟩) (fits_nil ⟨fitU_refl _, trivial⟩) rfl trivial ?_
  cbv; (repeat ((first | rewrite [hE.ntT] | rewrite [hE.ntF] | rewrite [hE.pkT] | rewrite [hE.pkF] | rewrite [hE.anT] | rewrite [hE.anF] | rewrite [hE.anT'] | rewrite [hE.anF']); (repeat (first | rewrite [hE.ntT] | rewrite [hE.ntF] | rewrite [hE.pkT] | rewrite [hE.pkF] | rewrite [hE.anT] | rewrite [hE.anF] | rewrite [hE.anT'] | rewrite [hE.anF'])); cbv)); (repeat first | refine ⟨(fun h => absurd h Bool.false_ne_true), ?_⟩ | refine ⟨(hE.o (by simp only [Ob.den, hE.e_iN, hE.e_tn, hE.e_aN, hE.e_sN, hE.e_sI, hE.e_mn] <;> omega)), ?_⟩ | refine ⟨fun _ => (hE.o (by simp only [Ob.den, hE.e_iN, hE.e_tn, hE.e_aN, hE.e_sN, hE.e_sI, hE.e_mn] <;> omega)), ?_⟩ | refine ⟨fun h => h, ?_⟩ | refine ⟨fun _ => rfl, ?_⟩ | refine ⟨fun _ h => h, ?_⟩ | refine ⟨fun _ _ => True.intro, ?_⟩ | refine ⟨fun _ h => absurd h Bool.false_ne_true, ?_⟩ | refine ⟨fun _ => True.intro, ?_⟩ | refine ⟨fun _ _ => rfl, ?_⟩ | refine ⟨(fun h => Bool.noConfusion h), ?_⟩ | refine ⟨fun _ h => Bool.noConfusion h, ?_⟩ | refine ⟨fun _ h => by rw [h, hE.ntF], ?_⟩ | refine ⟨True.intro, ?_⟩)
  refine loop_at hE hX tabOK (by kernel_rfl) funcsOK rfl (α := Nat × Nat) (fun ⟨k, j⟩ => (sets (pad 22) [(0, strV s), (3, .sr 0 1 0 j), (4, scI .i64 (iN k))], [.arr 5 1 j (rI B)])) (fun a => a.1 ≤ s.size ∧ a.2 = m + a.1) (fun a => s.size - a.1) (0, m) ⟨by simp, rfl⟩ ?_ ?_
  · exact ⟨[some 0], [], ⟨rfl, rfl, rfl, rfl, ⟨rfl, rfl, rfl, rfl, fun i hi => by show [U.sc (.int .u8 (C i))] = [U.sc (.int .u8 (B i))]; rw [hCB i hi]⟩, trivial⟩, by (cbv <;> (repeat' first | exact True.intro | exact ⟨.inr trivial, fun _ _ => rfl⟩ | exact rfl | exact fun _ _ => rfl | refine And.intro ?_ ?_ | rw [hE.iN0] | rw [hE.e_aN]))⟩
  · rintro ⟨k, j⟩ ⟨hk, hj⟩
    dsimp only at hk hj
    by_cases hkn : k < s.size
    · have hc : ic .lss (iN k) (iN s.size) = true := by rw [hE.ltN]; exact decide_eq_true hkn
      have hi := hE.incN (a := k) (by omega)
      cbv; (repeat ((first | rewrite [e1] | rewrite [hc] | rewrite [hi] | rewrite [hE.ntT] | rewrite [hE.ntF] | rewrite [hE.pkT] | rewrite [hE.pkF] | rewrite [hE.anT] | rewrite [hE.anF] | rewrite [hE.anT'] | rewrite [hE.anF']); (repeat (first | rewrite [e1] | rewrite [hc] | rewrite [hi] | rewrite [hE.ntT] | rewrite [hE.ntF] | rewrite [hE.pkT] | rewrite [hE.pkF] | rewrite [hE.anT] | rewrite [hE.anF] | rewrite [hE.anT'] | rewrite [hE.anF'])); cbv)); (repeat first | refine ⟨(fun h => absurd h Bool.false_ne_true), ?_⟩ | refine ⟨(hE.o (by simp only [Ob.den, hE.e_iN, hE.e_tn, hE.e_aN, hE.e_sN, hE.e_sI, hE.e_mn] <;> omega)), ?_⟩ | refine ⟨fun _ => (hE.o (by simp only [Ob.den, hE.e_iN, hE.e_tn, hE.e_aN, hE.e_sN, hE.e_sI, hE.e_mn] <;> omega)), ?_⟩ | refine ⟨fun h => h, ?_⟩ | refine ⟨fun _ => rfl, ?_⟩ | refine ⟨fun _ h => h, ?_⟩ | refine ⟨fun _ _ => True.intro, ?_⟩ | refine ⟨fun _ h => absurd h Bool.false_ne_true, ?_⟩ | refine ⟨fun _ => True.intro, ?_⟩ | refine ⟨fun _ _ => rfl, ?_⟩ | refine ⟨(fun h => Bool.noConfusion h), ?_⟩ | refine ⟨fun _ h => Bool.noConfusion h, ?_⟩ | refine ⟨fun _ h => by rw [h, hE.ntF], ?_⟩ | refine ⟨True.intro, ?_⟩)
      exact ⟨(k + 1, j + 1), ⟨by dsimp only; omega, by dsimp only; omega⟩, by dsimp only; omega, [some 2], [], ⟨rfl, rfl, rfl, rfl, ⟨rfl, rfl, rfl, by rw [hE.e_aN], hE.app1 (by show [U.sc (.int .u8 (B j))] = _; rw [hj, hSB k hkn, hE.e_bt, hE.e_iN])⟩, trivial⟩, by (cbv <;> (repeat' first | exact True.intro | exact ⟨.inr trivial, fun _ _ => rfl⟩ | exact rfl | exact fun _ _ => rfl | refine And.intro ?_ ?_ | rw [hE.iN0] | rw [hE.e_aN]))⟩
    · have hc : ic .lss (iN k) (iN s.size) = false := by rw [hE.ltN]; exact decide_eq_false hkn
      obtain rfl : j = n := by omega
      cbv; (repeat ((first | rewrite [e1] | rewrite [hc] | rewrite [hE.ntT] | rewrite [hE.ntF] | rewrite [hE.pkT] | rewrite [hE.pkF] | rewrite [hE.anT] | rewrite [hE.anF] | rewrite [hE.anT'] | rewrite [hE.anF']); (repeat (first | rewrite [e1] | rewrite [hc] | rewrite [hE.ntT] | rewrite [hE.ntF] | rewrite [hE.pkT] | rewrite [hE.pkF] | rewrite [hE.anT] | rewrite [hE.anF] | rewrite [hE.anT'] | rewrite [hE.anF'])); cbv)); (repeat first | refine ⟨(fun h => absurd h Bool.false_ne_true), ?_⟩ | refine ⟨(hE.o (by simp only [Ob.den, hE.e_iN, hE.e_tn, hE.e_aN, hE.e_sN, hE.e_sI, hE.e_mn] <;> omega)), ?_⟩ | refine ⟨fun _ => (hE.o (by simp only [Ob.den, hE.e_iN, hE.e_tn, hE.e_aN, hE.e_sN, hE.e_sI, hE.e_mn] <;> omega)), ?_⟩ | refine ⟨fun h => h, ?_⟩ | refine ⟨fun _ => rfl, ?_⟩ | refine ⟨fun _ h => h, ?_⟩ | refine ⟨fun _ _ => True.intro, ?_⟩ | refine ⟨fun _ h => absurd h Bool.false_ne_true, ?_⟩ | refine ⟨fun _ => True.intro, ?_⟩ | refine ⟨fun _ _ => rfl, ?_⟩ | refine ⟨(fun h => Bool.noConfusion h), ?_⟩ | refine ⟨fun _ h => Bool.noConfusion h, ?_⟩ | refine ⟨fun _ h => by rw [h, hE.ntF], ?_⟩ | refine ⟨True.intro, ?_⟩)
      exact ct_end ⟨[some 0], [], ⟨rfl, rfl, rfl, rfl, by (cbv <;> (repeat' first | exact True.intro | exact ⟨.inr trivial, fun _ _ => rfl⟩ | exact rfl | exact fun _ _ => rfl | refine And.intro ?_ ?_ | rw [hE.iN0] | rw [hE.e_aN]))⟩, by (cbv <;> (repeat' first | exact True.intro | exact ⟨.inr trivial, fun _ _ => rfl⟩ | exact rfl | exact fun _ _ => rfl | refine And.intro ?_ ?_ | rw [hE.iN0] | rw [hE.e_aN]))⟩
end Ytohkcdfjpgdfbaa
end
section
open Go Am
set_option maxRecDepth 100000
set_option maxHeartbeats 4000000
set_option linter.unusedVariables false
set_option linter.unusedSimpArgs false
namespace Ytohkcdfjpgdfbaa
def vents (nm : Nat → ByteArray) (id : Nat → Int) : Nat → List Nat
  | 0 => []
  | k + 1 => vents nm id k ++ (vtext (nm k) ++ vput (id k).toNat)
def vcat (n : Nat) (nm : Nat → ByteArray) (id : Nat → Int) : List Nat := vput n ++ vents nm id n
theorem vents_split (nm : Nat → ByteArray) (id : Nat → Int) (k : Nat) : ∀ d, ∃ R, vents nm id (k + d) = vents nm id k ++ R
  | 0 => ⟨[], by simp⟩
  | d + 1 => by
    obtain ⟨R, hR⟩ := vents_split nm id k d
    exact ⟨R ++ (vtext (nm (k + d)) ++ vput (id (k + d)).toNat), by rw [show k + (d + 1) = (k + d) + 1 by omega, vents, hR, List.append_assoc]⟩
theorem IsB.seg {N m : Nat} {B C : Nat → Int} {W P T R : List Nat} (hB : IsB N B W) (hw : W = P ++ (T ++ R)) (hC : IsB m C T) (j : Nat) (hj : j = P.length) : ∀ i, i < m → B (j + i) = C i := fun i hi => by
  subst hj
  have h1 := hC.len
  obtain ⟨x, q1, q2⟩ := hC.lt hi
  rw [q2]
  exact hB.at_ _ x (by rw [hw, List.getElem?_append_right (by omega), List.getElem?_append_left (by omega), show P.length + i - P.length = i by omega]; exact q1)
theorem _root_.Am.Ax.appP {ob : Ob → Prop} {ib : BinOp → IntKind → Int → Int → Int} {ic : BinOp → Int → Int → Bool} {sb : BinOp → ByteArray → ByteArray → Bool} {cat : ByteArray → ByteArray → ByteArray} {iu : UnOp → IntKind → Int → Int} {nt : Bool → Bool} {an : Bool → Bool → Bool} {be : Bool → Bool → Bool} {pk : Bool → Bool → Bool → Bool} {wr : IntKind → Int → Int} {tn : Int → Nat} {iN : Nat → Int} {aN : Nat → Nat → Nat} {sN : Nat → Nat → Nat} {lN : Nat → Nat → Bool} {eN : Nat → Nat → Bool} {bt : ByteArray → Int → Int} {sub : ByteArray → Int → Int → ByteArray} {sl : ByteArray → Int} {rn : Int → ByteArray} {ofB : Nat → (Nat → List U) → ByteArray} {mn : Int → Int → Int} {dc : ByteArray → Nat → Int} {dn : ByteArray → Nat → Nat} {sI : Int → Int → Int} (hE : Ax ob ib ic sb cat iu nt an be pk wr tn iN aN sN lN eN bt sub sl rn ofB mn dc dn sI) {j m : Nat} {B C : Nat → Int} (h : ∀ i, i < m → B (j + i) = C i) : ∀ i, i < j + m → (if lN i j = true then rI B i else rI C (sN i j)) = rI B i := fun i hi => by
  rw [hE.e_lN, hE.e_sN]
  by_cases h1 : i < j
  · rw [decide_eq_true h1, if_pos rfl]
  · rw [decide_eq_false h1, if_neg Bool.false_ne_true]
    show [U.sc (.int .u8 (C (i - j)))] = [U.sc (.int .u8 (B i))]
    rw [← h (i - j) (by omega), show j + (i - j) = i by omega]
theorem _root_.Am.Ax.appPP {ob : Ob → Prop} {ib : BinOp → IntKind → Int → Int → Int} {ic : BinOp → Int → Int → Bool} {sb : BinOp → ByteArray → ByteArray → Bool} {cat : ByteArray → ByteArray → ByteArray} {iu : UnOp → IntKind → Int → Int} {nt : Bool → Bool} {an : Bool → Bool → Bool} {be : Bool → Bool → Bool} {pk : Bool → Bool → Bool → Bool} {wr : IntKind → Int → Int} {tn : Int → Nat} {iN : Nat → Int} {aN : Nat → Nat → Nat} {sN : Nat → Nat → Nat} {lN : Nat → Nat → Bool} {eN : Nat → Nat → Bool} {bt : ByteArray → Int → Int} {sub : ByteArray → Int → Int → ByteArray} {sl : ByteArray → Int} {rn : Int → ByteArray} {ofB : Nat → (Nat → List U) → ByteArray} {mn : Int → Int → Int} {dc : ByteArray → Nat → Int} {dn : ByteArray → Nat → Nat} {sI : Int → Int → Int} (hE : Ax ob ib ic sb cat iu nt an be pk wr tn iN aN sN lN eN bt sub sl rn ofB mn dc dn sI) {j m q : Nat} {B C D : Nat → Int} (h : ∀ i, i < m → B (j + i) = C i) (h' : ∀ i, i < q → B (j + m + i) = D i) : ∀ i, i < j + m + q → (if lN i (aN j m) = true then (if lN i j = true then rI B i else rI C (sN i j)) else rI D (sN i (aN j m))) = rI B i := fun i hi => by
  rw [hE.e_aN, hE.e_lN (b := j + m), hE.e_sN (b := j + m)]
  by_cases h1 : i < j + m
  · rw [decide_eq_true h1, if_pos rfl]; exact hE.appP h i h1
  · rw [decide_eq_false h1, if_neg Bool.false_ne_true]
    show [U.sc (.int .u8 (D (i - (j + m))))] = [U.sc (.int .u8 (B i))]
    rw [← h' (i - (j + m)) (by omega), show j + m + (i - (j + m)) = i by omega]
structure Ids (n : Nat) (id : Nat → Int) : Prop where
  at_ : ∀ i, i < n → 0 ≤ id i ∧ id i < 18446744073709551616
theorem vents_le (nm : Nat → ByteArray) (id : Nat → Int) : ∀ k, (∀ i, i < k → (nm i).size ≤ 1000) → Ids k id → (vents nm id k).length ≤ 1020 * k
  | 0, _, _ => by simp [vents]
  | k + 1, h, hi => by
    have h1 := vents_le nm id k (fun i h' => h i (by omega)) ⟨fun i h' => hi.at_ i (by omega)⟩
    have h2 := h k (by omega)
    have h3 := hi.at_ k (by omega)
    have h4 := vput_len 9 (nm k).size (by omega)
    have h5 := vput_len 9 (id k).toNat (by omega)
    simp only [vents, vtext, List.length_append, sBytes_len]
    omega
theorem ct35 (o : Tg) (n : Nat) (nm : Nat → ByteArray) (id : Nat → Int) (hn : n ≤ 1000) (hs : ∀ i, i < n → (nm i).size ≤ 1000) (hid : Ids n id) (hR : Rt n nm id) (N : Nat) (B : Nat → Int) (hB : IsB N B (vcat n nm id)) :
    CT Go.Proofs.Try.prog 35 [catS o n nm id] [] (.tp [.sr 0 1 0 N, scI .i64 0]) [.arr 5 1 N (rI B)] := by
  obtain ⟨m, C, hC⟩ := isB_ex (vput n)
  have hCB := hB.seg (P := []) (by rfl) hC 0 rfl
  have hN := hB.len
  have hm := hC.len
  have hl := vput_len 9 n (by omega)
  have hl2 := vents_le nm id n hs hid
  rw [vcat, List.length_append] at hN
  refine enter35 rfl rfl ?_
  intro ob ib ic sb cat iu nt an be pk wr tn iN aN sN lN eN bt sub sl rn ofB mn dc dn sI X hE hX
  cbv
  refine call_ct hX [] [] (ct28 o n nm id (by omega) true ⟨fun _ => hR, fun _ => rfl⟩) (fits_nil ⟨fitU_refl _, trivial⟩) rfl trivial ?_
  have hw := hE.wr64N (a := n) (by omega)
  cbv; (repeat ((first | rewrite [hw] | rewrite [hE.ntT] | rewrite [hE.ntF] | rewrite [hE.pkT] | rewrite [hE.pkF] | rewrite [hE.anT] | rewrite [hE.anF] | rewrite [hE.anT'] | rewrite [hE.anF']); (repeat (first | rewrite [hw] | rewrite [hE.ntT] | rewrite [hE.ntF] | rewrite [hE.pkT] | rewrite [hE.pkF] | rewrite [hE.anT] | rewrite [hE.anF] | rewrite [hE.anT'] | rewrite [hE.anF'])); cbv)); (repeat first | refine ⟨(fun h => absurd h Bool.false_ne_true), ?_⟩ | refine ⟨(hE.o (by simp only [Ob.den, hE.e_iN, hE.e_tn, hE.e_aN, hE.e_sN, hE.e_sI, hE.e_mn] <;> omega)), ?_⟩ | refine ⟨fun _ => (hE.o (by simp only [Ob.den, hE.e_iN, hE.e_tn, hE.e_aN, hE.e_sN, hE.e_sI, hE.e_mn] <;> omega)), ?_⟩ | refine ⟨fun h => h, ?_⟩ | refine ⟨fun _ => rfl, ?_⟩ | refine ⟨fun _ h => h, ?_⟩ | refine ⟨fun _ _ => True.intro, ?_⟩ | refine ⟨fun _ h => absurd h Bool.false_ne_true, ?_⟩ | refine ⟨fun _ => True.intro, ?_⟩ | refine ⟨fun _ _ => rfl, ?_⟩ | refine ⟨(fun h => Bool.noConfusion h), ?_⟩ | refine ⟨fun _ h => Bool.noConfusion h, ?_⟩ | refine ⟨fun _ h => by rw [h, hE.ntF], ?_⟩ | refine ⟨True.intro, ?_⟩)
  refine call_ct hX [] [] (ct55 n (by omega) m C hC (iN n) ⟨hE.e_iN⟩) (fits_nil ⟨fitU_refl _, trivial⟩) rfl trivial ?_
  cbv; (repeat ((first | rewrite [hE.ntT] | rewrite [hE.ntF] | rewrite [hE.pkT] | rewrite [hE.pkF] | rewrite [hE.anT] | rewrite [hE.anF] | rewrite [hE.anT'] | rewrite [hE.anF']); (repeat (first | rewrite [hE.ntT] | rewrite [hE.ntF] | rewrite [hE.pkT] | rewrite [hE.pkF] | rewrite [hE.anT] | rewrite [hE.anF] | rewrite [hE.anT'] | rewrite [hE.anF'])); cbv)); (repeat first | refine ⟨(fun h => absurd h Bool.false_ne_true), ?_⟩ | refine ⟨(hE.o (by simp only [Ob.den, hE.e_iN, hE.e_tn, hE.e_aN, hE.e_sN, hE.e_sI, hE.e_mn] <;> omega)), ?_⟩ | refine ⟨fun _ => (hE.o (by simp only [Ob.den, hE.e_iN, hE.e_tn, hE.e_aN, hE.e_sN, hE.e_sI, hE.e_mn] <;> omega)), ?_⟩ | refine ⟨fun h => h, ?_⟩ | refine ⟨fun _ => rfl, ?_⟩ | refine ⟨fun _ h => h, ?_⟩ | refine ⟨fun _ _ => True.intro, ?_⟩ | refine ⟨fun _ h => absurd h Bool.false_ne_true, ?_⟩ | refine ⟨fun _ => True.intro, ?_⟩ | refine ⟨fun _ _ => rfl, ?_⟩ | refine ⟨(fun h => Bool.noConfusion h), ?_⟩ | refine ⟨fun _ h => Bool.noConfusion h, ?_⟩ | refine ⟨fun _ h => by rw [h, hE.ntF], ?_⟩ | refine ⟨True.intro, ?_⟩)
  refine loop_at hE hX tabOK (by kernel_rfl) funcsOK rfl (α := Nat × Nat) (fun ⟨k, j⟩ => (sets (pad 31) [(4, .sr 0 1 0 j), (14, catS o n nm id), (15, scI .i64 (iN n)), (16, scI .i64 (iN k))], [.arr 5 1 j (rI B)])) (fun a => a.1 ≤ n ∧ a.2 = m + (vents nm id a.1).length) (fun a => n - a.1) (0, m) ⟨by simp, by simp [vents]⟩ ?_ ?_
  · refine ⟨[some 0], [], ⟨rfl, rfl, rfl, rfl, ⟨rfl, rfl, rfl, rfl, fun i hi => by show [U.sc (.int .u8 (C i))] = [U.sc (.int .u8 (B i))]; rw [← hCB i hi, Nat.zero_add]⟩, trivial⟩, ?_⟩
    cbv
    (repeat' first | exact True.intro | exact ⟨.inr trivial, fun _ _ => rfl⟩ | exact rfl | exact fun _ _ => rfl | refine And.intro ?_ ?_ | rw [hE.iN0] | rw [hE.e_aN])
  · rintro ⟨k, j⟩ ⟨hk, hj⟩
    dsimp only at hk hj
    by_cases hkn : k < n
    · have hc : ic .lss (iN k) (iN n) = true := by rw [hE.ltN]; exact decide_eq_true hkn
      have hi := hE.incN (a := k) (by omega)
      obtain ⟨m1, C1, hC1⟩ := isB_ex (vtext (nm k))
      obtain ⟨m2, C2, hC2⟩ := isB_ex (vput (id k).toNat)
      have hidk := hid.at_ k hkn
      have hsk := hs k hkn
      have hl4 := vput_len 9 (nm k).size (by omega)
      have hl5 := vput_len 9 (id k).toNat (by omega)
      have hm1 := hC1.len
      have hm2 := hC2.len
      have hm1' := hm1
      rw [vtext, List.length_append, sBytes_len] at hm1'
      obtain ⟨R, hR'⟩ := vents_split nm id (k + 1) (n - (k + 1))
      rw [show k + 1 + (n - (k + 1)) = n by omega, vents] at hR'
      have hw1 : vcat n nm id = (vput n ++ vents nm id k) ++ (vtext (nm k) ++ (vput (id k).toNat ++ R)) := by rw [vcat, hR']; simp
      have hw2 : vcat n nm id = (vput n ++ vents nm id k ++ vtext (nm k)) ++ (vput (id k).toNat ++ R) := by rw [hw1]; simp
      have s1 := hB.seg hw1 hC1 j (by rw [List.length_append, hj, hm])
      have s2 := hB.seg hw2 hC2 (j + m1) (by rw [List.length_append, List.length_append, hj, hm, hm1])
      have hjN : j + m1 + m2 ≤ N := by
        rw [hB.len, hw2, List.length_append, List.length_append, List.length_append, List.length_append, hj, hm, hm1, hm2]; omega
      have hjv : j + m1 + m2 = m + (vents nm id (k + 1)).length := by
        rw [vents, List.length_append, List.length_append, hj, hm1, hm2]; omega
      clear hR' hw1 hw2 hl4 hl5 hm1' R
      cbv; (repeat ((first | rewrite [hc] | rewrite [hi] | rewrite [hE.tnN] | rewrite [hE.ntT] | rewrite [hE.ntF] | rewrite [hE.pkT] | rewrite [hE.pkF] | rewrite [hE.anT] | rewrite [hE.anF] | rewrite [hE.anT'] | rewrite [hE.anF']); (repeat (first | rewrite [hc] | rewrite [hi] | rewrite [hE.tnN] | rewrite [hE.ntT] | rewrite [hE.ntF] | rewrite [hE.pkT] | rewrite [hE.pkF] | rewrite [hE.anT] | rewrite [hE.anF] | rewrite [hE.anT'] | rewrite [hE.anF'])); cbv)); (repeat first | refine ⟨(fun h => absurd h Bool.false_ne_true), ?_⟩ | refine ⟨(hE.o (by simp only [Ob.den, hE.e_iN, hE.e_tn, hE.e_aN, hE.e_sN, hE.e_sI, hE.e_mn] <;> omega)), ?_⟩ | refine ⟨fun _ => (hE.o (by simp only [Ob.den, hE.e_iN, hE.e_tn, hE.e_aN, hE.e_sN, hE.e_sI, hE.e_mn] <;> omega)), ?_⟩ | refine ⟨fun h => h, ?_⟩ | refine ⟨fun _ => rfl, ?_⟩ | refine ⟨fun _ h => h, ?_⟩ | refine ⟨fun _ _ => True.intro, ?_⟩ | refine ⟨fun _ h => absurd h Bool.false_ne_true, ?_⟩ | refine ⟨fun _ => True.intro, ?_⟩ | refine ⟨fun _ _ => rfl, ?_⟩ | refine ⟨(fun h => Bool.noConfusion h), ?_⟩ | refine ⟨fun _ h => Bool.noConfusion h, ?_⟩ | refine ⟨fun _ h => by rw [h, hE.ntF], ?_⟩ | refine ⟨True.intro, ?_⟩)
      refine calld_ct hX [] [] (ct56 (nm k) (by omega) m1 C1 hC1) (fits_nil ⟨fitU_refl _, trivial⟩) rfl trivial ?_
      cbv; (repeat ((first | rewrite [hE.ntT] | rewrite [hE.ntF] | rewrite [hE.pkT] | rewrite [hE.pkF] | rewrite [hE.anT] | rewrite [hE.anF] | rewrite [hE.anT'] | rewrite [hE.anF']); (repeat (first | rewrite [hE.ntT] | rewrite [hE.ntF] | rewrite [hE.pkT] | rewrite [hE.pkF] | rewrite [hE.anT] | rewrite [hE.anF] | rewrite [hE.anT'] | rewrite [hE.anF'])); cbv)); (repeat first | refine ⟨(fun h => absurd h Bool.false_ne_true), ?_⟩ | refine ⟨(hE.o (by simp only [Ob.den, hE.e_iN, hE.e_tn, hE.e_aN, hE.e_sN, hE.e_sI, hE.e_mn] <;> omega)), ?_⟩ | refine ⟨fun _ => (hE.o (by simp only [Ob.den, hE.e_iN, hE.e_tn, hE.e_aN, hE.e_sN, hE.e_sI, hE.e_mn] <;> omega)), ?_⟩ | refine ⟨fun h => h, ?_⟩ | refine ⟨fun _ => rfl, ?_⟩ | refine ⟨fun _ h => h, ?_⟩ | refine ⟨fun _ _ => True.intro, ?_⟩ | refine ⟨fun _ h => absurd h Bool.false_ne_true, ?_⟩ | refine ⟨fun _ => True.intro, ?_⟩ | refine ⟨fun _ _ => rfl, ?_⟩ | refine ⟨(fun h => Bool.noConfusion h), ?_⟩ | refine ⟨fun _ h => Bool.noConfusion h, ?_⟩ | refine ⟨fun _ h => by rw [h, hE.ntF], ?_⟩ | refine ⟨True.intro, ?_⟩)
      refine calld_ct hX [] [] (ct55 (id k).toNat (by omega) m2 C2 hC2 (id k) ⟨by omega⟩) (fits_nil ⟨fitU_refl _, trivial⟩) rfl trivial ?_
      obtain ⟨J, hJ⟩ : ∃ J, J = j + m1 + m2 := ⟨_, rfl⟩
      rw [← hJ] at hjv hjN
      cbv; (repeat ((first | rewrite [hi] | rewrite [hE.ntT] | rewrite [hE.ntF] | rewrite [hE.pkT] | rewrite [hE.pkF] | rewrite [hE.anT] | rewrite [hE.anF] | rewrite [hE.anT'] | rewrite [hE.anF']); (repeat (first | rewrite [hi] | rewrite [hE.ntT] | rewrite [hE.ntF] | rewrite [hE.pkT] | rewrite [hE.pkF] | rewrite [hE.anT] | rewrite [hE.anF] | rewrite [hE.anT'] | rewrite [hE.anF'])); cbv)); (repeat first | refine ⟨(fun h => absurd h Bool.false_ne_true), ?_⟩ | refine ⟨(hE.o (by simp only [Ob.den, hE.e_iN, hE.e_tn, hE.e_aN, hE.e_sN, hE.e_sI, hE.e_mn] <;> omega)), ?_⟩ | refine ⟨fun _ => (hE.o (by simp only [Ob.den, hE.e_iN, hE.e_tn, hE.e_aN, hE.e_sN, hE.e_sI, hE.e_mn] <;> omega)), ?_⟩ | refine ⟨fun h => h, ?_⟩ | refine ⟨fun _ => rfl, ?_⟩ | refine ⟨fun _ h => h, ?_⟩ | refine ⟨fun _ _ => True.intro, ?_⟩ | refine ⟨fun _ h => absurd h Bool.false_ne_true, ?_⟩ | refine ⟨fun _ => True.intro, ?_⟩ | refine ⟨fun _ _ => rfl, ?_⟩ | refine ⟨(fun h => Bool.noConfusion h), ?_⟩ | refine ⟨fun _ h => Bool.noConfusion h, ?_⟩ | refine ⟨fun _ h => by rw [h, hE.ntF], ?_⟩ | refine ⟨True.intro, ?_⟩)
      exact ⟨(k + 1, J), ⟨by dsimp only; omega, hjv⟩, by dsimp only; omega, [some 5], [], ⟨rfl, rfl, rfl, rfl, ⟨rfl, rfl, rfl, by rw [hE.e_aN, hE.e_aN, hJ], by rw [hJ]; exact hE.appPP s1 s2⟩, trivial⟩, by (cbv <;> (repeat' first | exact True.intro | exact ⟨.inr trivial, fun _ _ => rfl⟩ | exact rfl | refine And.intro ?_ ?_ | rw [hE.e_aN, hE.e_aN, hJ]))⟩
    · have hc : ic .lss (iN k) (iN n) = false := by rw [hE.ltN]; exact decide_eq_false hkn
      obtain rfl : j = N := by rw [hj, hN, hm, show k = n by omega]
      cbv; (repeat ((first | rewrite [hc] | rewrite [hE.ntT] | rewrite [hE.ntF] | rewrite [hE.pkT] | rewrite [hE.pkF] | rewrite [hE.anT] | rewrite [hE.anF] | rewrite [hE.anT'] | rewrite [hE.anF']); (repeat (first | rewrite [hc] | rewrite [hE.ntT] | rewrite [hE.ntF] | rewrite [hE.pkT] | rewrite [hE.pkF] | rewrite [hE.anT] | rewrite [hE.anF] | rewrite [hE.anT'] | rewrite [hE.anF'])); cbv)); (repeat first | refine ⟨(fun h => absurd h Bool.false_ne_true), ?_⟩ | refine ⟨(hE.o (by simp only [Ob.den, hE.e_iN, hE.e_tn, hE.e_aN, hE.e_sN, hE.e_sI, hE.e_mn] <;> omega)), ?_⟩ | refine ⟨fun _ => (hE.o (by simp only [Ob.den, hE.e_iN, hE.e_tn, hE.e_aN, hE.e_sN, hE.e_sI, hE.e_mn] <;> omega)), ?_⟩ | refine ⟨fun h => h, ?_⟩ | refine ⟨fun _ => rfl, ?_⟩ | refine ⟨fun _ h => h, ?_⟩ | refine ⟨fun _ _ => True.intro, ?_⟩ | refine ⟨fun _ h => absurd h Bool.false_ne_true, ?_⟩ | refine ⟨fun _ => True.intro, ?_⟩ | refine ⟨fun _ _ => rfl, ?_⟩ | refine ⟨(fun h => Bool.noConfusion h), ?_⟩ | refine ⟨fun _ h => Bool.noConfusion h, ?_⟩ | refine ⟨fun _ h => by rw [h, hE.ntF], ?_⟩ | refine ⟨True.intro, ?_⟩)
      exact ct_end ⟨[some 0], [], ⟨rfl, rfl, rfl, rfl, by (cbv <;> (repeat' first | exact True.intro | exact ⟨.inr trivial, fun _ _ => rfl⟩ | exact rfl | exact fun _ _ => rfl | refine And.intro ?_ ?_ | rw [hE.iN0] | rw [hE.e_aN]))⟩, by (cbv <;> (repeat' first | exact True.intro | exact ⟨.inr trivial, fun _ _ => rfl⟩ | exact rfl | exact fun _ _ => rfl | refine And.intro ?_ ?_ | rw [hE.iN0] | rw [hE.e_aN]))⟩
theorem ct36 (o : Tg) (n : Nat) (nm : Nat → ByteArray) (id : Nat → Int) (hn : n ≤ 1000) (hs : ∀ i, i < n → (nm i).size ≤ 1000) (hid : Ids n id) (hR : Rt n nm id) (N : Nat) (B : Nat → Int) (hB : IsB N B (vcat n nm id)) :
    CT Go.Proofs.Try.prog 36 [catS o n nm id] [] (.tp [.sr 0 1 0 N, scI .i64 0]) [.arr 5 1 N (rI B)] := by
  obtain ⟨m, C, hC⟩ := isB_ex (vput n)
  have hCB := hB.seg (P := []) (by rfl) hC 0 rfl
  have hN := hB.len
  have hm := hC.len
  have hl := vput_len 9 n (by omega)
  have hl2 := vents_le nm id n hs hid
  rw [vcat, List.length_append] at hN
  refine enter36 rfl rfl ?_
  intro ob ib ic sb cat iu nt an be pk wr tn iN aN sN lN eN bt sub sl rn ofB mn dc dn sI X hE hX
  cbv
  refine call_ct hX [] [] (ct29 o n nm id (by omega) true ⟨fun _ => hR, fun _ => rfl⟩) (fits_nil ⟨fitU_refl _, trivial⟩) rfl trivial ?_
  have hw := hE.wr64N (a := n) (by omega)
  cbv; (repeat ((first | rewrite [hw] | rewrite [hE.ntT] | rewrite [hE.ntF] | rewrite [hE.pkT] | rewrite [hE.pkF] | rewrite [hE.anT] | rewrite [hE.anF] | rewrite [hE.anT'] | rewrite [hE.anF']); (repeat (first | rewrite [hw] | rewrite [hE.ntT] | rewrite [hE.ntF] | rewrite [hE.pkT] | rewrite [hE.pkF] | rewrite [hE.anT] | rewrite [hE.anF] | rewrite [hE.anT'] | rewrite [hE.anF'])); cbv)); (repeat first | refine ⟨(fun h => absurd h Bool.false_ne_true), ?_⟩ | refine ⟨(hE.o (by simp only [Ob.den, hE.e_iN, hE.e_tn, hE.e_aN, hE.e_sN, hE.e_sI, hE.e_mn] <;> omega)), ?_⟩ | refine ⟨fun _ => (hE.o (by simp only [Ob.den, hE.e_iN, hE.e_tn, hE.e_aN, hE.e_sN, hE.e_sI, hE.e_mn] <;> omega)), ?_⟩ | refine ⟨fun h => h, ?_⟩ | refine ⟨fun _ => rfl, ?_⟩ | refine ⟨fun _ h => h, ?_⟩ | refine ⟨fun _ _ => True.intro, ?_⟩ | refine ⟨fun _ h => absurd h Bool.false_ne_true, ?_⟩ | refine ⟨fun _ => True.intro, ?_⟩ | refine ⟨fun _ _ => rfl, ?_⟩ | refine ⟨(fun h => Bool.noConfusion h), ?_⟩ | refine ⟨fun _ h => Bool.noConfusion h, ?_⟩ | refine ⟨fun _ h => by rw [h, hE.ntF], ?_⟩ | refine ⟨True.intro, ?_⟩)
  refine call_ct hX [] [] (ct57 n (by omega) m C hC (iN n) ⟨hE.e_iN⟩) (fits_nil ⟨fitU_refl _, trivial⟩) rfl trivial ?_
  cbv; (repeat ((first | rewrite [hE.ntT] | rewrite [hE.ntF] | rewrite [hE.pkT] | rewrite [hE.pkF] | rewrite [hE.anT] | rewrite [hE.anF] | rewrite [hE.anT'] | rewrite [hE.anF']); (repeat (first | rewrite [hE.ntT] | rewrite [hE.ntF] | rewrite [hE.pkT] | rewrite [hE.pkF] | rewrite [hE.anT] | rewrite [hE.anF] | rewrite [hE.anT'] | rewrite [hE.anF'])); cbv)); (repeat first | refine ⟨(fun h => absurd h Bool.false_ne_true), ?_⟩ | refine ⟨(hE.o (by simp only [Ob.den, hE.e_iN, hE.e_tn, hE.e_aN, hE.e_sN, hE.e_sI, hE.e_mn] <;> omega)), ?_⟩ | refine ⟨fun _ => (hE.o (by simp only [Ob.den, hE.e_iN, hE.e_tn, hE.e_aN, hE.e_sN, hE.e_sI, hE.e_mn] <;> omega)), ?_⟩ | refine ⟨fun h => h, ?_⟩ | refine ⟨fun _ => rfl, ?_⟩ | refine ⟨fun _ h => h, ?_⟩ | refine ⟨fun _ _ => True.intro, ?_⟩ | refine ⟨fun _ h => absurd h Bool.false_ne_true, ?_⟩ | refine ⟨fun _ => True.intro, ?_⟩ | refine ⟨fun _ _ => rfl, ?_⟩ | refine ⟨(fun h => Bool.noConfusion h), ?_⟩ | refine ⟨fun _ h => Bool.noConfusion h, ?_⟩ | refine ⟨fun _ h => by rw [h, hE.ntF], ?_⟩ | refine ⟨True.intro, ?_⟩)
  refine loop_at hE hX tabOK (by kernel_rfl) funcsOK rfl (α := Nat × Nat) (fun ⟨k, j⟩ => (sets (pad 36) [(0, catS o n nm id), (4, .sr 0 1 0 j), (5, scI .i64 (iN k))], [.arr 5 1 j (rI B)])) (fun a => a.1 ≤ n ∧ a.2 = m + (vents nm id a.1).length) (fun a => n - a.1) (0, m) ⟨by simp, by simp [vents]⟩ ?_ ?_
  · refine ⟨[some 0], [], ⟨rfl, rfl, rfl, rfl, ⟨rfl, rfl, rfl, rfl, fun i hi => by show [U.sc (.int .u8 (C i))] = [U.sc (.int .u8 (B i))]; rw [← hCB i hi, Nat.zero_add]⟩, trivial⟩, ?_⟩
    cbv
    (repeat' first | exact True.intro | exact ⟨.inr trivial, fun _ _ => rfl⟩ | exact rfl | exact fun _ _ => rfl | refine And.intro ?_ ?_ | rw [hE.iN0] | rw [hE.e_aN])
  · rintro ⟨k, j⟩ ⟨hk, hj⟩
    dsimp only at hk hj
    by_cases hkn : k < n
    · have hc : ic .lss (iN k) (iN n) = true := by rw [hE.ltN]; exact decide_eq_true hkn
      have hi := hE.incN (a := k) (by omega)
      obtain ⟨m1, C1, hC1⟩ := isB_ex (vtext (nm k))
      obtain ⟨m2, C2, hC2⟩ := isB_ex (vput (id k).toNat)
      have hidk := hid.at_ k hkn
      have hsk := hs k hkn
      have hl4 := vput_len 9 (nm k).size (by omega)
      have hl5 := vput_len 9 (id k).toNat (by omega)
      have hm1 := hC1.len
      have hm2 := hC2.len
      have hm1' := hm1
      rw [vtext, List.length_append, sBytes_len] at hm1'
      obtain ⟨R, hR'⟩ := vents_split nm id (k + 1) (n - (k + 1))
      rw [show k + 1 + (n - (k + 1)) = n by omega, vents] at hR'
      have hw1 : vcat n nm id = (vput n ++ vents nm id k) ++ (vtext (nm k) ++ (vput (id k).toNat ++ R)) := by rw [vcat, hR']; simp
      have hw2 : vcat n nm id = (vput n ++ vents nm id k ++ vtext (nm k)) ++ (vput (id k).toNat ++ R) := by rw [hw1]; simp
      have s1 := hB.seg hw1 hC1 j (by rw [List.length_append, hj, hm])
      have s2 := hB.seg hw2 hC2 (j + m1) (by rw [List.length_append, List.length_append, hj, hm, hm1])
      have hjN : j + m1 + m2 ≤ N := by
        rw [hB.len, hw2, List.length_append, List.length_append, List.length_append, List.length_append, hj, hm, hm1, hm2]; omega
      have hjv : j + m1 + m2 = m + (vents nm id (k + 1)).length := by
        rw [vents, List.length_append, List.length_append, hj, hm1, hm2]; omega
      clear hR' hw1 hw2 hl4 hl5 hm1' R
      cbv; (repeat ((first | rewrite [hc] | rewrite [hi] | rewrite [hE.tnN] | rewrite [hE.ntT] | rewrite [hE.ntF] | rewrite [hE.pkT] | rewrite [hE.pkF] | rewrite [hE.anT] | rewrite [hE.anF] | rewrite [hE.anT'] | rewrite [hE.anF']); (repeat (first | rewrite [hc] | rewrite [hi] | rewrite [hE.tnN] | rewrite [hE.ntT] | rewrite [hE.ntF] | rewrite [hE.pkT] | rewrite [hE.pkF] | rewrite [hE.anT] | rewrite [hE.anF] | rewrite [hE.anT'] | rewrite [hE.anF'])); cbv)); (repeat first | refine ⟨(fun h => absurd h Bool.false_ne_true), ?_⟩ | refine ⟨(hE.o (by simp only [Ob.den, hE.e_iN, hE.e_tn, hE.e_aN, hE.e_sN, hE.e_sI, hE.e_mn] <;> omega)), ?_⟩ | refine ⟨fun _ => (hE.o (by simp only [Ob.den, hE.e_iN, hE.e_tn, hE.e_aN, hE.e_sN, hE.e_sI, hE.e_mn] <;> omega)), ?_⟩ | refine ⟨fun h => h, ?_⟩ | refine ⟨fun _ => rfl, ?_⟩ | refine ⟨fun _ h => h, ?_⟩ | refine ⟨fun _ _ => True.intro, ?_⟩ | refine ⟨fun _ h => absurd h Bool.false_ne_true, ?_⟩ | refine ⟨fun _ => True.intro, ?_⟩ | refine ⟨fun _ _ => rfl, ?_⟩ | refine ⟨(fun h => Bool.noConfusion h), ?_⟩ | refine ⟨fun _ h => Bool.noConfusion h, ?_⟩ | refine ⟨fun _ h => by rw [h, hE.ntF], ?_⟩ | refine ⟨True.intro, ?_⟩)
      refine call_ct hX [] [] (ct58 (nm k) (by omega) m1 C1 hC1) (fits_nil ⟨fitU_refl _, trivial⟩) rfl trivial ?_
      cbv; (repeat ((first | rewrite [hE.tnN] | rewrite [hE.ntT] | rewrite [hE.ntF] | rewrite [hE.pkT] | rewrite [hE.pkF] | rewrite [hE.anT] | rewrite [hE.anF] | rewrite [hE.anT'] | rewrite [hE.anF']); (repeat (first | rewrite [hE.tnN] | rewrite [hE.ntT] | rewrite [hE.ntF] | rewrite [hE.pkT] | rewrite [hE.pkF] | rewrite [hE.anT] | rewrite [hE.anF] | rewrite [hE.anT'] | rewrite [hE.anF'])); cbv)); (repeat first | refine ⟨(fun h => absurd h Bool.false_ne_true), ?_⟩ | refine ⟨(hE.o (by simp only [Ob.den, hE.e_iN, hE.e_tn, hE.e_aN, hE.e_sN, hE.e_sI, hE.e_mn] <;> omega)), ?_⟩ | refine ⟨fun _ => (hE.o (by simp only [Ob.den, hE.e_iN, hE.e_tn, hE.e_aN, hE.e_sN, hE.e_sI, hE.e_mn] <;> omega)), ?_⟩ | refine ⟨fun h => h, ?_⟩ | refine ⟨fun _ => rfl, ?_⟩ | refine ⟨fun _ h => h, ?_⟩ | refine ⟨fun _ _ => True.intro, ?_⟩ | refine ⟨fun _ h => absurd h Bool.false_ne_true, ?_⟩ | refine ⟨fun _ => True.intro, ?_⟩ | refine ⟨fun _ _ => rfl, ?_⟩ | refine ⟨(fun h => Bool.noConfusion h), ?_⟩ | refine ⟨fun _ h => Bool.noConfusion h, ?_⟩ | refine ⟨fun _ h => by rw [h, hE.ntF], ?_⟩ | refine ⟨True.intro, ?_⟩)
      refine call_ct hX [] [] (ct57 (id k).toNat (by omega) m2 C2 hC2 (id k) ⟨by omega⟩) (fits_nil ⟨fitU_refl _, trivial⟩) rfl trivial ?_
      obtain ⟨J, hJ⟩ : ∃ J, J = j + m1 + m2 := ⟨_, rfl⟩
      rw [← hJ] at hjv hjN
      cbv; (repeat ((first | rewrite [hi] | rewrite [hE.ntT] | rewrite [hE.ntF] | rewrite [hE.pkT] | rewrite [hE.pkF] | rewrite [hE.anT] | rewrite [hE.anF] | rewrite [hE.anT'] | rewrite [hE.anF']); (repeat (first | rewrite [hi] | rewrite [hE.ntT] | rewrite [hE.ntF] | rewrite [hE.pkT] | rewrite [hE.pkF] | rewrite [hE.anT] | rewrite [hE.anF] | rewrite [hE.anT'] | rewrite [hE.anF'])); cbv)); (repeat first | refine ⟨(fun h => absurd h Bool.false_ne_true), ?_⟩ | refine ⟨(hE.o (by simp only [Ob.den, hE.e_iN, hE.e_tn, hE.e_aN, hE.e_sN, hE.e_sI, hE.e_mn] <;> omega)), ?_⟩ | refine ⟨fun _ => (hE.o (by simp only [Ob.den, hE.e_iN, hE.e_tn, hE.e_aN, hE.e_sN, hE.e_sI, hE.e_mn] <;> omega)), ?_⟩ | refine ⟨fun h => h, ?_⟩ | refine ⟨fun _ => rfl, ?_⟩ | refine ⟨fun _ h => h, ?_⟩ | refine ⟨fun _ _ => True.intro, ?_⟩ | refine ⟨fun _ h => absurd h Bool.false_ne_true, ?_⟩ | refine ⟨fun _ => True.intro, ?_⟩ | refine ⟨fun _ _ => rfl, ?_⟩ | refine ⟨(fun h => Bool.noConfusion h), ?_⟩ | refine ⟨fun _ h => Bool.noConfusion h, ?_⟩ | refine ⟨fun _ h => by rw [h, hE.ntF], ?_⟩ | refine ⟨True.intro, ?_⟩)
      exact ⟨(k + 1, J), ⟨by dsimp only; omega, hjv⟩, by dsimp only; omega, [some 4], [], ⟨rfl, rfl, rfl, rfl, ⟨rfl, rfl, rfl, by rw [hE.e_aN, hE.e_aN, hJ], by rw [hJ]; exact hE.appPP s1 s2⟩, trivial⟩, by (cbv <;> (repeat' first | exact True.intro | exact ⟨.inr trivial, fun _ _ => rfl⟩ | exact rfl | refine And.intro ?_ ?_ | rw [hE.e_aN, hE.e_aN, hJ]))⟩
    · have hc : ic .lss (iN k) (iN n) = false := by rw [hE.ltN]; exact decide_eq_false hkn
      obtain rfl : j = N := by rw [hj, hN, hm, show k = n by omega]
      cbv; (repeat ((first | rewrite [hc] | rewrite [hE.ntT] | rewrite [hE.ntF] | rewrite [hE.pkT] | rewrite [hE.pkF] | rewrite [hE.anT] | rewrite [hE.anF] | rewrite [hE.anT'] | rewrite [hE.anF']); (repeat (first | rewrite [hc] | rewrite [hE.ntT] | rewrite [hE.ntF] | rewrite [hE.pkT] | rewrite [hE.pkF] | rewrite [hE.anT] | rewrite [hE.anF] | rewrite [hE.anT'] | rewrite [hE.anF'])); cbv)); (repeat first | refine ⟨(fun h => absurd h Bool.false_ne_true), ?_⟩ | refine ⟨(hE.o (by simp only [Ob.den, hE.e_iN, hE.e_tn, hE.e_aN, hE.e_sN, hE.e_sI, hE.e_mn] <;> omega)), ?_⟩ | refine ⟨fun _ => (hE.o (by simp only [Ob.den, hE.e_iN, hE.e_tn, hE.e_aN, hE.e_sN, hE.e_sI, hE.e_mn] <;> omega)), ?_⟩ | refine ⟨fun h => h, ?_⟩ | refine ⟨fun _ => rfl, ?_⟩ | refine ⟨fun _ h => h, ?_⟩ | refine ⟨fun _ _ => True.intro, ?_⟩ | refine ⟨fun _ h => absurd h Bool.false_ne_true, ?_⟩ | refine ⟨fun _ => True.intro, ?_⟩ | refine ⟨fun _ _ => rfl, ?_⟩ | refine ⟨(fun h => Bool.noConfusion h), ?_⟩ | refine ⟨fun _ h => Bool.noConfusion h, ?_⟩ | refine ⟨fun _ h => by rw [h, hE.ntF], ?_⟩ | refine ⟨True.intro, ?_⟩)
      exact ct_end ⟨[some 0], [], ⟨rfl, rfl, rfl, rfl, by (cbv <;> (repeat' first | exact True.intro | exact ⟨.inr trivial, fun _ _ => rfl⟩ | exact rfl | exact fun _ _ => rfl | refine And.intro ?_ ?_ | rw [hE.iN0] | rw [hE.e_aN]))⟩, by (cbv <;> (repeat' first | exact True.intro | exact ⟨.inr trivial, fun _ _ => rfl⟩ | exact rfl | exact fun _ _ => rfl | refine And.intro ?_ ?_ | rw [hE.iN0] | rw [hE.e_aN]))⟩
theorem ct35f (o : Tg) (n : Nat) (nm : Nat → ByteArray) (id : Nat → Int) (hn : n ≤ 1000) (hR : ¬ Rt n nm id) :
    CT Go.Proofs.Try.prog 35 [catS o n nm id] [] (.tp [.u (.sc (.slice none 0 0)), scI .i64 2]) [] := by
  refine enter35 rfl rfl ?_
  intro ob ib ic sb cat iu nt an be pk wr tn iN aN sN lN eN bt sub sl rn ofB mn dc dn sI X hE hX
  cbv
  refine call_ct hX [] [] (ct28 o n nm id (by omega) false ⟨fun e => Bool.noConfusion e, fun e => absurd e hR⟩) (fits_nil ⟨fitU_refl _, trivial⟩) rfl trivial ?_
  cbv; (repeat ((first | rewrite [hE.ntT] | rewrite [hE.ntF] | rewrite [hE.pkT] | rewrite [hE.pkF] | rewrite [hE.anT] | rewrite [hE.anF] | rewrite [hE.anT'] | rewrite [hE.anF']); (repeat (first | rewrite [hE.ntT] | rewrite [hE.ntF] | rewrite [hE.pkT] | rewrite [hE.pkF] | rewrite [hE.anT] | rewrite [hE.anF] | rewrite [hE.anT'] | rewrite [hE.anF'])); cbv)); (repeat first | refine ⟨(fun h => absurd h Bool.false_ne_true), ?_⟩ | refine ⟨(hE.o (by simp only [Ob.den, hE.e_iN, hE.e_tn, hE.e_aN, hE.e_sN, hE.e_sI, hE.e_mn] <;> omega)), ?_⟩ | refine ⟨fun _ => (hE.o (by simp only [Ob.den, hE.e_iN, hE.e_tn, hE.e_aN, hE.e_sN, hE.e_sI, hE.e_mn] <;> omega)), ?_⟩ | refine ⟨fun h => h, ?_⟩ | refine ⟨fun _ => rfl, ?_⟩ | refine ⟨fun _ h => h, ?_⟩ | refine ⟨fun _ _ => True.intro, ?_⟩ | refine ⟨fun _ h => absurd h Bool.false_ne_true, ?_⟩ | refine ⟨fun _ => True.intro, ?_⟩ | refine ⟨fun _ _ => rfl, ?_⟩ | refine ⟨(fun h => Bool.noConfusion h), ?_⟩ | refine ⟨fun _ h => Bool.noConfusion h, ?_⟩ | refine ⟨fun _ h => by rw [h, hE.ntF], ?_⟩ | refine ⟨True.intro, ?_⟩)
  exact ct_flat [] rfl ⟨rfl, fitU_refl _, trivial⟩
theorem ct36f (o : Tg) (n : Nat) (nm : Nat → ByteArray) (id : Nat → Int) (hn : n ≤ 1000) (hR : ¬ Rt n nm id) :
    CT Go.Proofs.Try.prog 36 [catS o n nm id] [] (.tp [.u (.sc (.slice none 0 0)), scI .i64 2]) [] := by
  refine enter36 rfl rfl ?_
  intro ob ib ic sb cat iu nt an be pk wr tn iN aN sN lN eN bt sub sl rn ofB mn dc dn sI X hE hX
  cbv
  refine call_ct hX [] [] (ct29 o n nm id (by omega) false ⟨fun e => Bool.noConfusion e, fun e => absurd e hR⟩) (fits_nil ⟨fitU_refl _, trivial⟩) rfl trivial ?_
  cbv; (repeat ((first | rewrite [hE.ntT] | rewrite [hE.ntF] | rewrite [hE.pkT] | rewrite [hE.pkF] | rewrite [hE.anT] | rewrite [hE.anF] | rewrite [hE.anT'] | rewrite [hE.anF']); (repeat (first | rewrite [hE.ntT] | rewrite [hE.ntF] | rewrite [hE.pkT] | rewrite [hE.pkF] | rewrite [hE.anT] | rewrite [hE.anF] | rewrite [hE.anT'] | rewrite [hE.anF'])); cbv)); (repeat first | refine ⟨(fun h => absurd h Bool.false_ne_true), ?_⟩ | refine ⟨(hE.o (by simp only [Ob.den, hE.e_iN, hE.e_tn, hE.e_aN, hE.e_sN, hE.e_sI, hE.e_mn] <;> omega)), ?_⟩ | refine ⟨fun _ => (hE.o (by simp only [Ob.den, hE.e_iN, hE.e_tn, hE.e_aN, hE.e_sN, hE.e_sI, hE.e_mn] <;> omega)), ?_⟩ | refine ⟨fun h => h, ?_⟩ | refine ⟨fun _ => rfl, ?_⟩ | refine ⟨fun _ h => h, ?_⟩ | refine ⟨fun _ _ => True.intro, ?_⟩ | refine ⟨fun _ h => absurd h Bool.false_ne_true, ?_⟩ | refine ⟨fun _ => True.intro, ?_⟩ | refine ⟨fun _ _ => rfl, ?_⟩ | refine ⟨(fun h => Bool.noConfusion h), ?_⟩ | refine ⟨fun _ h => Bool.noConfusion h, ?_⟩ | refine ⟨fun _ h => by rw [h, hE.ntF], ?_⟩ | refine ⟨True.intro, ?_⟩)
  exact ct_flat [] rfl ⟨rfl, fitU_refl _, trivial⟩
end Ytohkcdfjpgdfbaa
end
section
open Go Am
set_option maxRecDepth 100000
set_option maxHeartbeats 4000000
set_option linter.unusedVariables false
set_option linter.unusedSimpArgs false
namespace Ytohkcdfjpgdfbaa
def val (B : Nat → Int) : Nat → Nat → Nat
  | _, 0 => 0
  | p, k + 1 => (B p).toNat % 128 + 128 * val B (p + 1) k
theorem val_snoc (B : Nat → Int) : ∀ k p, val B p (k + 1) = val B p k + (B (p + k)).toNat % 128 * 128 ^ k
  | 0, p => by simp [val]
  | k + 1, p => by
    rw [val, val_snoc B k (p + 1), val, show p + 1 + k = p + (k + 1) by omega, Nat.pow_succ, Nat.mul_add]
    generalize (B (p + (k + 1))).toNat % 128 = a
    generalize 128 ^ k = b
    rw [show 128 * (a * b) = a * (b * 128) by rw [← Nat.mul_assoc, Nat.mul_comm 128 a, Nat.mul_assoc, Nat.mul_comm 128 b]]
    omega
theorem val_lt (B : Nat → Int) : ∀ k p, val B p k < 128 ^ k
  | 0, p => by simp [val]
  | k + 1, p => by
    have := val_lt B k (p + 1)
    rw [val, Nat.pow_succ]
    omega
theorem val_pos (B : Nat → Int) (hB : Byte B) : ∀ k p, B (p + k) < 128 → B (p + k) ≠ 0 → 1 ≤ val B p (k + 1)
  | 0, p, h, h0 => by
    have := hB p
    simp only [val, Nat.add_zero] at *
    omega
  | k + 1, p, h, h0 => by
    have := val_pos B hB k (p + 1) (by rwa [show p + 1 + k = p + (k + 1) by omega]) (by rwa [show p + 1 + k = p + (k + 1) by omega])
    rw [val]; omega
theorem vput_val (B : Nat → Int) (hB : Byte B) : ∀ k p, (∀ j, j < k → 128 ≤ B (p + j)) → B (p + k) < 128 → (k = 0 ∨ B (p + k) ≠ 0) → vput (val B p (k + 1)) = (List.range (k + 1)).map fun j => (B (p + j)).toNat
  | 0, p, _, h, _ => by
    have := hB p
    simp only [Nat.add_zero] at h
    have e : val B p (0 + 1) = (B p).toNat := by simp only [val]; omega
    rw [e, vput_lt (by omega)]; simp
  | k + 1, p, hm, h, h0 => by
    have h0 : B (p + (k + 1)) ≠ 0 := h0.resolve_left (by omega)
    have e1 : p + 1 + k = p + (k + 1) := by omega
    have ih := vput_val B hB k (p + 1) (fun j hj => by rw [show p + 1 + j = p + (j + 1) by omega]; exact hm (j + 1) (by omega)) (by rwa [e1]) (.inr (by rwa [e1]))
    have h1 := val_pos B hB k (p + 1) (by rwa [e1]) (by rwa [e1])
    have h2 := hm 0 (by omega)
    have h3 := hB p
    simp only [Nat.add_zero] at h2
    rw [val, vput_ge (by omega), show ((B p).toNat % 128 + 128 * val B (p + 1) (k + 1)) / 128 = val B (p + 1) (k + 1) by omega, ih, show ((B p).toNat % 128 + 128 * val B (p + 1) (k + 1)) % 128 + 128 = (B p).toNat by omega, List.range_succ_eq_map (n := k + 1)]
    simp only [List.map_cons, List.map_map, Nat.add_zero]
    congr 1
    apply List.map_congr_left
    intro j _
    show (B (p + 1 + j)).toNat = (B (p + (j + 1))).toNat
    rw [show p + 1 + j = p + (j + 1) by omega]
def takeF (n : Nat) (B : Nat → Int) (p : Nat) : Nat → Nat → Nat × Nat × Int
  | 0, _ => (0, p, 11)
  | f + 1, i => if n ≤ p + i then (0, p, 10) else if i = 9 ∧ 1 < B (p + i) then (0, p, 11) else if B (p + i) = 0 ∧ 0 < i then (0, p, 11) else if B (p + i) < 128 then (val B p (i + 1), p + i + 1, 0) else takeF n B p f (i + 1)
structure Take (n : Nat) (B : Nat → Int) (p v q : Nat) (e : Int) : Prop where
  e : takeF n B p 10 0 = (v, q, e)
theorem take_ex (n : Nat) (B : Nat → Int) (p : Nat) : ∃ v q e, Take n B p v q e := ⟨_, _, _, ⟨rfl⟩⟩
theorem takeF_val {n : Nat} {B : Nat → Int} {p v q : Nat} {e : Int} (hB : Byte B) : ∀ f i, f + i ≤ 10 → takeF n B p f i = (v, q, e) → v < 18446744073709551616 ∧ q ≤ p + 10 ∧ (e = 0 → p + 1 ≤ q ∧ q ≤ n) ∧ (e ≠ 0 → v = 0 ∧ q = p)
  | 0, i, hi, h => by cases h; exact ⟨by omega, by omega, fun h => by omega, fun _ => ⟨rfl, rfl⟩⟩
  | f + 1, i, hi, h => by
    unfold takeF at h
    split at h
    · cases h; exact ⟨by omega, by omega, fun h => by omega, fun _ => ⟨rfl, rfl⟩⟩
    · split at h
      · cases h; exact ⟨by omega, by omega, fun h => by omega, fun _ => ⟨rfl, rfl⟩⟩
      · rename_i h9
        split at h
        · cases h; exact ⟨by omega, by omega, fun h => by omega, fun _ => ⟨rfl, rfl⟩⟩
        · split at h
          · cases h
            refine ⟨?_, by omega, fun _ => by omega, fun h => absurd rfl h⟩
            by_cases hi9 : i = 9
            · subst hi9
              have h1 := val_lt B 9 p
              have h2 := hB (p + 9)
              have h3 : ¬ 1 < B (p + 9) := fun h => h9 ⟨rfl, h⟩
              rw [val_snoc]
              omega
            · have h1 := val_lt B (i + 1) p
              have h2 : 128 ^ (i + 1) ≤ 128 ^ 9 := Nat.pow_le_pow_right (by omega) (by omega)
              omega
          · exact takeF_val hB f (i + 1) (by omega) h
theorem Take.val {n : Nat} {B : Nat → Int} {p v q : Nat} {e : Int} (h : Take n B p v q e) (hB : Byte B) : v < 18446744073709551616 ∧ q ≤ p + 10 ∧ (e = 0 → p + 1 ≤ q ∧ q ≤ n) ∧ (e ≠ 0 → v = 0 ∧ q = p) := takeF_val hB 10 0 (by omega) h.e
end Ytohkcdfjpgdfbaa
end
section
open Go Am
set_option maxRecDepth 100000
set_option maxHeartbeats 4000000
set_option linter.unusedVariables false
set_option linter.unusedSimpArgs false
namespace Ytohkcdfjpgdfbaa
theorem pow7 (i : Nat) : (2 : Nat) ^ (7 * i) = 128 ^ i := by rw [Nat.pow_mul]
theorem val_next {B : Nat → Int} (hB : Byte B) {p i : Nat} (hi : i ≤ 9) (h9 : i = 9 → B (p + i) ≤ 1) : (B (p + i)).toNat % 128 * 2 ^ (7 * i) < 18446744073709551616 ∧ val B p i < 2 ^ (7 * i) ∧ val B p i + (B (p + i)).toNat % 128 * 2 ^ (7 * i) = val B p (i + 1) ∧ val B p (i + 1) < 18446744073709551616 := by
  have h1 := val_lt B i p
  have h2 := hB (p + i)
  have h3 := val_snoc B i p
  rw [pow7]
  refine ⟨?_, h1, h3.symm, ?_⟩
  · by_cases h : i = 9
    · subst h; have := h9 rfl; omega
    · have h4 : 128 ^ i ≤ 128 ^ 8 := Nat.pow_le_pow_right (by omega) (by omega)
      have h5 : (B (p + i)).toNat % 128 * 128 ^ i ≤ 127 * 128 ^ i := Nat.mul_le_mul_right _ (by omega)
      omega
  · by_cases h : i = 9
    · subst h; have := h9 rfl; omega
    · have h4 := val_lt B (i + 1) p
      have h5 : 128 ^ (i + 1) ≤ 128 ^ 9 := Nat.pow_le_pow_right (by omega) (by omega)
      omega
theorem ct59 (o : Tg) (n : Nat) (B : Nat → Int) (hB : Byte B) (hn : n ≤ 1000000) (p : Nat) (z : Int) (hz : IsN z p) (hp : p ≤ 1000000) (v q : Nat) (e : Int) (h : Take n B p v q e) (vz qz : Int) (hv : IsN vz v) (hq : IsN qz q) :
    CT Go.Proofs.Try.prog 59 [bS o n B, scI .i64 z] [] (.tp [scI .u64 vz, scI .i64 qz, scI .i64 e]) [] := by
  have h := h.e
  obtain ⟨d, hd⟩ : ∃ d, d = n - p := ⟨_, rfl⟩
  obtain ⟨Bp, hBp⟩ : ∃ Bp : Nat → Int, ∀ j, Bp j = B (p + j) := ⟨fun j => B (p + j), fun _ => rfl⟩
  refine enter59 rfl rfl ?_
  intro ob ib ic sb cat iu nt an be pk wr tn iN aN sN lN eN bt sub sl rn ofB mn dc dn sI X hE hX
  cbv
  have hz' : z = iN p := by rw [hE.e_iN, hz.e]
  subst hz'
  have hv' : vz = iN v := by rw [hE.e_iN, hv.e]
  subst hv'
  have hq' : qz = iN q := by rw [hE.e_iN, hq.e]
  subst hq'
  have c0 : ic .lss (iN p) 0 = false := by rw [hE.lss, hE.e_iN]; exact decide_eq_false (by omega)
  by_cases hpn : n ≤ p
  · have c1 : ic .geq (iN p) (iN n) = true := by rw [hE.geN]; exact decide_eq_true hpn
    unfold takeF at h
    rw [if_pos (by omega)] at h
    cases h
    cbv; (repeat ((first | rewrite [c0] | rewrite [c1] | rewrite [hE.ntT] | rewrite [hE.ntF] | rewrite [hE.pkT] | rewrite [hE.pkF] | rewrite [hE.anT] | rewrite [hE.anF] | rewrite [hE.anT'] | rewrite [hE.anF']); (repeat (first | rewrite [c0] | rewrite [c1] | rewrite [hE.ntT] | rewrite [hE.ntF] | rewrite [hE.pkT] | rewrite [hE.pkF] | rewrite [hE.anT] | rewrite [hE.anF] | rewrite [hE.anT'] | rewrite [hE.anF'])); cbv)); (repeat first | refine ⟨(fun h => absurd h Bool.false_ne_true), ?_⟩ | refine ⟨(hE.o (by simp only [Ob.den, hE.e_iN, hE.e_tn, hE.e_aN, hE.e_sN, hE.e_sI, hE.e_mn] <;> omega)), ?_⟩ | refine ⟨fun _ => (hE.o (by simp only [Ob.den, hE.e_iN, hE.e_tn, hE.e_aN, hE.e_sN, hE.e_sI, hE.e_mn] <;> omega)), ?_⟩ | refine ⟨fun h => h, ?_⟩ | refine ⟨fun _ => rfl, ?_⟩ | refine ⟨fun _ h => h, ?_⟩ | refine ⟨fun _ _ => True.intro, ?_⟩ | refine ⟨fun _ h => absurd h Bool.false_ne_true, ?_⟩ | refine ⟨fun _ => True.intro, ?_⟩ | refine ⟨fun _ _ => rfl, ?_⟩ | refine ⟨(fun h => Bool.noConfusion h), ?_⟩ | refine ⟨fun _ h => Bool.noConfusion h, ?_⟩ | refine ⟨fun _ h => by rw [h, hE.ntF], ?_⟩ | refine ⟨True.intro, ?_⟩)
    rw [← hE.iN0]
    exact ct_flat [] rfl ⟨fitU_refl _, fitU_refl _, fitU_refl _, trivial⟩
  have c1 : ic .geq (iN p) (iN n) = false := by rw [hE.geN]; exact decide_eq_false hpn
  cbv; (repeat ((first | rewrite [c0] | rewrite [c1] | rewrite [hE.ntT] | rewrite [hE.ntF] | rewrite [hE.pkT] | rewrite [hE.pkF] | rewrite [hE.anT] | rewrite [hE.anF] | rewrite [hE.anT'] | rewrite [hE.anF']); (repeat (first | rewrite [c0] | rewrite [c1] | rewrite [hE.ntT] | rewrite [hE.ntF] | rewrite [hE.pkT] | rewrite [hE.pkF] | rewrite [hE.anT] | rewrite [hE.anF] | rewrite [hE.anT'] | rewrite [hE.anF'])); cbv)); (repeat first | refine ⟨(fun h => absurd h Bool.false_ne_true), ?_⟩ | refine ⟨(hE.o (by simp only [Ob.den, hE.e_iN, hE.e_tn, hE.e_aN, hE.e_sN, hE.e_sI, hE.e_mn] <;> omega)), ?_⟩ | refine ⟨fun _ => (hE.o (by simp only [Ob.den, hE.e_iN, hE.e_tn, hE.e_aN, hE.e_sN, hE.e_sI, hE.e_mn] <;> omega)), ?_⟩ | refine ⟨fun h => h, ?_⟩ | refine ⟨fun _ => rfl, ?_⟩ | refine ⟨fun _ h => h, ?_⟩ | refine ⟨fun _ _ => True.intro, ?_⟩ | refine ⟨fun _ h => absurd h Bool.false_ne_true, ?_⟩ | refine ⟨fun _ => True.intro, ?_⟩ | refine ⟨fun _ _ => rfl, ?_⟩ | refine ⟨(fun h => Bool.noConfusion h), ?_⟩ | refine ⟨fun _ h => Bool.noConfusion h, ?_⟩ | refine ⟨fun _ h => by rw [h, hE.ntF], ?_⟩ | refine ⟨True.intro, ?_⟩)
  refine loop_at hE hX tabOK (by kernel_rfl) funcsOK rfl (α := Nat × Nat × Nat) (fun ⟨i, f, a⟩ => (sets (pad 63) [(1, scI .i64 (iN p)), (4, scI .u64 (iN a)), (6, scI .i64 10), (21, bS o d Bp), (22, scI .i64 (iN d)), (23, scI .i64 (iN i))], [])) (fun x => x.1 + x.2.1 = 9 ∧ takeF n B p (x.2.1 + 1) x.1 = (v, q, e) ∧ x.2.2 = val B p x.1) (fun x => x.2.1) (0, 9, 0) ⟨rfl, h, rfl⟩ ?_ ?_
  · refine ⟨[], [], ⟨rfl, rfl, rfl, rfl, trivial⟩, ?_⟩
    cbv
    have t1 : tn (sI (iN n) (iN p)) = d := by rw [hE.e_sI, hE.e_tn, hE.e_iN, hE.e_iN, hd]; omega
    rw [t1]
    have er : ∀ i, i < d → rI B (aN (tn (iN p)) i) = rI Bp i := fun i _ => by show [U.sc (.int .u8 (B (aN (tn (iN p)) i)))] = [U.sc (.int .u8 (Bp i))]; rw [hBp, hE.e_aN, hE.tnN]
    have e0 : (0 : Int) = iN 0 := hE.iN0.symm
    (repeat' first | exact True.intro | exact ⟨.inr trivial, rfl, er⟩ | exact rfl | exact congrArg _ e0 | refine And.intro ?_ ?_)
  · rintro ⟨i, f, a⟩ ⟨hi, h, ha⟩
    dsimp only at hi h ha
    unfold takeF at h
    have hbi := hB (p + i)
    rw [← hBp] at hbi
    by_cases h1 : n ≤ p + i
    · rw [if_pos h1] at h
      cases h
      have k0 : ic .lss (iN i) (iN d) = false := by rw [hE.ltN]; exact decide_eq_false (by omega)
      cbv; (repeat ((first | rewrite [k0] | rewrite [hE.ntT] | rewrite [hE.ntF] | rewrite [hE.pkT] | rewrite [hE.pkF] | rewrite [hE.anT] | rewrite [hE.anF] | rewrite [hE.anT'] | rewrite [hE.anF']); (repeat (first | rewrite [k0] | rewrite [hE.ntT] | rewrite [hE.ntF] | rewrite [hE.pkT] | rewrite [hE.pkF] | rewrite [hE.anT] | rewrite [hE.anF] | rewrite [hE.anT'] | rewrite [hE.anF'])); cbv)); (repeat first | refine ⟨(fun h => absurd h Bool.false_ne_true), ?_⟩ | refine ⟨(hE.o (by simp only [Ob.den, hE.e_iN, hE.e_tn, hE.e_aN, hE.e_sN, hE.e_sI, hE.e_mn] <;> omega)), ?_⟩ | refine ⟨fun _ => (hE.o (by simp only [Ob.den, hE.e_iN, hE.e_tn, hE.e_aN, hE.e_sN, hE.e_sI, hE.e_mn] <;> omega)), ?_⟩ | refine ⟨fun h => h, ?_⟩ | refine ⟨fun _ => rfl, ?_⟩ | refine ⟨fun _ h => h, ?_⟩ | refine ⟨fun _ _ => True.intro, ?_⟩ | refine ⟨fun _ h => absurd h Bool.false_ne_true, ?_⟩ | refine ⟨fun _ => True.intro, ?_⟩ | refine ⟨fun _ _ => rfl, ?_⟩ | refine ⟨(fun h => Bool.noConfusion h), ?_⟩ | refine ⟨fun _ h => Bool.noConfusion h, ?_⟩ | refine ⟨fun _ h => by rw [h, hE.ntF], ?_⟩ | refine ⟨True.intro, ?_⟩)
      rw [← hE.iN0]
      exact ct_flat [] rfl ⟨fitU_refl _, fitU_refl _, fitU_refl _, trivial⟩
    rw [if_neg h1] at h
    have k0 : ic .lss (iN i) (iN d) = true := by rw [hE.ltN]; exact decide_eq_true (by omega)
    by_cases h9 : i = 9 ∧ 1 < B (p + i)
    · rw [if_pos h9] at h
      cases h
      have k1 : ic .eql (iN i) 9 = true := by rw [hE.eql, hE.e_iN]; exact decide_eq_true (by omega)
      have k2 : ic .gtr (Bp i) 1 = true := by rw [hE.gtr, hBp]; exact decide_eq_true h9.2
      cbv; (repeat ((first | rewrite [k0] | rewrite [k1] | rewrite [k2] | rewrite [hE.tnN] | rewrite [hE.ntT] | rewrite [hE.ntF] | rewrite [hE.pkT] | rewrite [hE.pkF] | rewrite [hE.anT] | rewrite [hE.anF] | rewrite [hE.anT'] | rewrite [hE.anF']); (repeat (first | rewrite [k0] | rewrite [k1] | rewrite [k2] | rewrite [hE.tnN] | rewrite [hE.ntT] | rewrite [hE.ntF] | rewrite [hE.pkT] | rewrite [hE.pkF] | rewrite [hE.anT] | rewrite [hE.anF] | rewrite [hE.anT'] | rewrite [hE.anF'])); cbv)); (repeat first | refine ⟨(fun h => absurd h Bool.false_ne_true), ?_⟩ | refine ⟨(hE.o (by simp only [Ob.den, hE.e_iN, hE.e_tn, hE.e_aN, hE.e_sN, hE.e_sI, hE.e_mn] <;> omega)), ?_⟩ | refine ⟨fun _ => (hE.o (by simp only [Ob.den, hE.e_iN, hE.e_tn, hE.e_aN, hE.e_sN, hE.e_sI, hE.e_mn] <;> omega)), ?_⟩ | refine ⟨fun h => h, ?_⟩ | refine ⟨fun _ => rfl, ?_⟩ | refine ⟨fun _ h => h, ?_⟩ | refine ⟨fun _ _ => True.intro, ?_⟩ | refine ⟨fun _ h => absurd h Bool.false_ne_true, ?_⟩ | refine ⟨fun _ => True.intro, ?_⟩ | refine ⟨fun _ _ => rfl, ?_⟩ | refine ⟨(fun h => Bool.noConfusion h), ?_⟩ | refine ⟨fun _ h => Bool.noConfusion h, ?_⟩ | refine ⟨fun _ h => by rw [h, hE.ntF], ?_⟩ | refine ⟨True.intro, ?_⟩)
      rw [← hE.iN0]
      exact ct_flat [] rfl ⟨fitU_refl _, fitU_refl _, fitU_refl _, trivial⟩
    rw [if_neg h9] at h
    have h9' : i = 9 → B (p + i) ≤ 1 := fun h => by have : ¬ 1 < B (p + i) := fun h' => h9 ⟨h, h'⟩; omega
    obtain ⟨x9, k1, k2⟩ : ∃ x9, ic .eql (iN i) 9 = x9 ∧ (x9 = true → ic .gtr (Bp i) 1 = false) := by
      by_cases hi9 : i = 9
      · exact ⟨true, by rw [hE.eql, hE.e_iN]; exact decide_eq_true (by omega), fun _ => by rw [hE.gtr, hBp]; exact decide_eq_false (by have := h9' hi9; omega)⟩
      · exact ⟨false, by rw [hE.eql, hE.e_iN]; exact decide_eq_false (by omega), fun e => Bool.noConfusion e⟩
    have kp : ic .gtr (iN i) 0 = decide (0 < i) := hE.gt0
    by_cases hz : B (p + i) = 0 ∧ 0 < i
    · rw [if_pos hz] at h
      cases h
      have kl : ic .lss (Bp i) 128 = true := by rw [hE.lss, hBp]; exact decide_eq_true (by omega)
      have kz : ic .eql (Bp i) 0 = true := by rw [hE.eql, hBp]; exact decide_eq_true hz.1
      rw [decide_eq_true hz.2] at kp
      cases x9
      · cbv; (repeat ((first | rewrite [k0] | rewrite [k1] | rewrite [kl] | rewrite [kz] | rewrite [kp] | rewrite [hE.tnN] | rewrite [hE.ntT] | rewrite [hE.ntF] | rewrite [hE.pkT] | rewrite [hE.pkF] | rewrite [hE.anT] | rewrite [hE.anF] | rewrite [hE.anT'] | rewrite [hE.anF']); (repeat (first | rewrite [k0] | rewrite [k1] | rewrite [kl] | rewrite [kz] | rewrite [kp] | rewrite [hE.tnN] | rewrite [hE.ntT] | rewrite [hE.ntF] | rewrite [hE.pkT] | rewrite [hE.pkF] | rewrite [hE.anT] | rewrite [hE.anF] | rewrite [hE.anT'] | rewrite [hE.anF'])); cbv)); (repeat first | refine ⟨(fun h => absurd h Bool.false_ne_true), ?_⟩ | refine ⟨(hE.o (by simp only [Ob.den, hE.e_iN, hE.e_tn, hE.e_aN, hE.e_sN, hE.e_sI, hE.e_mn] <;> omega)), ?_⟩ | refine ⟨fun _ => (hE.o (by simp only [Ob.den, hE.e_iN, hE.e_tn, hE.e_aN, hE.e_sN, hE.e_sI, hE.e_mn] <;> omega)), ?_⟩ | refine ⟨fun h => h, ?_⟩ | refine ⟨fun _ => rfl, ?_⟩ | refine ⟨fun _ h => h, ?_⟩ | refine ⟨fun _ _ => True.intro, ?_⟩ | refine ⟨fun _ h => absurd h Bool.false_ne_true, ?_⟩ | refine ⟨fun _ => True.intro, ?_⟩ | refine ⟨fun _ _ => rfl, ?_⟩ | refine ⟨(fun h => Bool.noConfusion h), ?_⟩ | refine ⟨fun _ h => Bool.noConfusion h, ?_⟩ | refine ⟨fun _ h => by rw [h, hE.ntF], ?_⟩ | refine ⟨True.intro, ?_⟩)
        rw [← hE.iN0]
        exact ct_flat [] rfl ⟨fitU_refl _, fitU_refl _, fitU_refl _, trivial⟩
      · have k2 := k2 rfl
        cbv; (repeat ((first | rewrite [k0] | rewrite [k1] | rewrite [k2] | rewrite [kl] | rewrite [kz] | rewrite [kp] | rewrite [hE.tnN] | rewrite [hE.ntT] | rewrite [hE.ntF] | rewrite [hE.pkT] | rewrite [hE.pkF] | rewrite [hE.anT] | rewrite [hE.anF] | rewrite [hE.anT'] | rewrite [hE.anF']); (repeat (first | rewrite [k0] | rewrite [k1] | rewrite [k2] | rewrite [kl] | rewrite [kz] | rewrite [kp] | rewrite [hE.tnN] | rewrite [hE.ntT] | rewrite [hE.ntF] | rewrite [hE.pkT] | rewrite [hE.pkF] | rewrite [hE.anT] | rewrite [hE.anF] | rewrite [hE.anT'] | rewrite [hE.anF'])); cbv)); (repeat first | refine ⟨(fun h => absurd h Bool.false_ne_true), ?_⟩ | refine ⟨(hE.o (by simp only [Ob.den, hE.e_iN, hE.e_tn, hE.e_aN, hE.e_sN, hE.e_sI, hE.e_mn] <;> omega)), ?_⟩ | refine ⟨fun _ => (hE.o (by simp only [Ob.den, hE.e_iN, hE.e_tn, hE.e_aN, hE.e_sN, hE.e_sI, hE.e_mn] <;> omega)), ?_⟩ | refine ⟨fun h => h, ?_⟩ | refine ⟨fun _ => rfl, ?_⟩ | refine ⟨fun _ h => h, ?_⟩ | refine ⟨fun _ _ => True.intro, ?_⟩ | refine ⟨fun _ h => absurd h Bool.false_ne_true, ?_⟩ | refine ⟨fun _ => True.intro, ?_⟩ | refine ⟨fun _ _ => rfl, ?_⟩ | refine ⟨(fun h => Bool.noConfusion h), ?_⟩ | refine ⟨fun _ h => Bool.noConfusion h, ?_⟩ | refine ⟨fun _ h => by rw [h, hE.ntF], ?_⟩ | refine ⟨True.intro, ?_⟩)
        rw [← hE.iN0]
        exact ct_flat [] rfl ⟨fitU_refl _, fitU_refl _, fitU_refl _, trivial⟩
    rw [if_neg hz] at h
    obtain ⟨hw1, hw2, hw3, hw4⟩ := val_next hB (p := p) (i := i) (by omega) h9'
    obtain ⟨s, hs⟩ : ∃ s, s = 7 * i := ⟨_, rfl⟩
    obtain ⟨r, hr⟩ : ∃ r, r = (Bp i).toNat % 128 := ⟨_, rfl⟩
    rw [← hs, ← hBp, ← hr] at hw1
    rw [← hs, ← ha] at hw2
    rw [← hs, ← hBp, ← hr, ← ha] at hw3
    obtain ⟨a2, ha2⟩ : ∃ a2, a2 = val B p (i + 1) := ⟨_, rfl⟩
    rw [← ha2] at hw3 hw4 h
    have m1 : ib .andNot .u8 (Bp i) 128 = iN r := by rw [hE.not8 hbi, hr]
    have m2 : wr .u64 (iN r) = iN r := hE.wr64N (by omega)
    have m3 : ib .mul .i64 7 (iN i) = iN s := by rw [hE.mul64 (by rw [hE.e_iN]; omega), hE.e_iN, hE.e_iN, hs]; omega
    have m4 : ib .shl .u64 (iN r) (iN s) = iN (r * 2 ^ s) := hE.shlN (by omega) hw1
    have m5 : ib .or .u64 (iN a) (iN (r * 2 ^ s)) = iN a2 := by rw [hE.or64 hw2 (by rw [hw3]; exact hw4), hw3]
    generalize r * 2 ^ s = w at m4 m5 hw1 hw3
    by_cases hl : Bp i < 128
    · rw [if_pos (by rw [← hBp]; exact hl)] at h
      cases h
      have kl : ic .lss (Bp i) 128 = true := by rw [hE.lss]; exact decide_eq_true hl
      have n1 : ib .add .i64 (iN p) (iN i) = iN (p + i) := hE.addN (by omega)
      have n2 : ib .add .i64 (iN (p + i)) 1 = iN (p + i + 1) := hE.incN (by omega)
      generalize p + i + 1 = pi1 at n2
      generalize p + i = pi at n1 n2
      obtain ⟨xz, kz, kz2⟩ : ∃ xz, ic .eql (Bp i) 0 = xz ∧ (xz = true → ic .gtr (iN i) 0 = false) := by
        by_cases hz0 : Bp i = 0
        · exact ⟨true, by rw [hE.eql]; exact decide_eq_true hz0, fun _ => by rw [kp]; exact decide_eq_false fun h' => hz ⟨by rw [← hBp]; exact hz0, h'⟩⟩
        · exact ⟨false, by rw [hE.eql]; exact decide_eq_false hz0, fun e => Bool.noConfusion e⟩
      cases x9 <;> cases xz
      · cbv; (repeat ((first | rewrite [k0] | rewrite [k1] | rewrite [kl] | rewrite [kz] | rewrite [m1] | rewrite [m2] | rewrite [m3] | rewrite [m4] | rewrite [m5] | rewrite [n1] | rewrite [n2] | rewrite [hE.tnN] | rewrite [hE.ntT] | rewrite [hE.ntF] | rewrite [hE.pkT] | rewrite [hE.pkF] | rewrite [hE.anT] | rewrite [hE.anF] | rewrite [hE.anT'] | rewrite [hE.anF']); (repeat (first | rewrite [k0] | rewrite [k1] | rewrite [kl] | rewrite [kz] | rewrite [m1] | rewrite [m2] | rewrite [m3] | rewrite [m4] | rewrite [m5] | rewrite [n1] | rewrite [n2] | rewrite [hE.tnN] | rewrite [hE.ntT] | rewrite [hE.ntF] | rewrite [hE.pkT] | rewrite [hE.pkF] | rewrite [hE.anT] | rewrite [hE.anF] | rewrite [hE.anT'] | rewrite [hE.anF'])); cbv)); (repeat first | refine ⟨(fun h => absurd h Bool.false_ne_true), ?_⟩ | refine ⟨(hE.o (by simp only [Ob.den, hE.e_iN, hE.e_tn, hE.e_aN, hE.e_sN, hE.e_sI, hE.e_mn] <;> omega)), ?_⟩ | refine ⟨fun _ => (hE.o (by simp only [Ob.den, hE.e_iN, hE.e_tn, hE.e_aN, hE.e_sN, hE.e_sI, hE.e_mn] <;> omega)), ?_⟩ | refine ⟨fun h => h, ?_⟩ | refine ⟨fun _ => rfl, ?_⟩ | refine ⟨fun _ h => h, ?_⟩ | refine ⟨fun _ _ => True.intro, ?_⟩ | refine ⟨fun _ h => absurd h Bool.false_ne_true, ?_⟩ | refine ⟨fun _ => True.intro, ?_⟩ | refine ⟨fun _ _ => rfl, ?_⟩ | refine ⟨(fun h => Bool.noConfusion h), ?_⟩ | refine ⟨fun _ h => Bool.noConfusion h, ?_⟩ | refine ⟨fun _ h => by rw [h, hE.ntF], ?_⟩ | refine ⟨True.intro, ?_⟩)
        exact ct_flat [] rfl ⟨fitU_refl _, fitU_refl _, fitU_refl _, trivial⟩
      · have kz2 := kz2 rfl
        cbv; (repeat ((first | rewrite [k0] | rewrite [k1] | rewrite [kl] | rewrite [kz] | rewrite [kz2] | rewrite [m1] | rewrite [m2] | rewrite [m3] | rewrite [m4] | rewrite [m5] | rewrite [n1] | rewrite [n2] | rewrite [hE.tnN] | rewrite [hE.ntT] | rewrite [hE.ntF] | rewrite [hE.pkT] | rewrite [hE.pkF] | rewrite [hE.anT] | rewrite [hE.anF] | rewrite [hE.anT'] | rewrite [hE.anF']); (repeat (first | rewrite [k0] | rewrite [k1] | rewrite [kl] | rewrite [kz] | rewrite [kz2] | rewrite [m1] | rewrite [m2] | rewrite [m3] | rewrite [m4] | rewrite [m5] | rewrite [n1] | rewrite [n2] | rewrite [hE.tnN] | rewrite [hE.ntT] | rewrite [hE.ntF] | rewrite [hE.pkT] | rewrite [hE.pkF] | rewrite [hE.anT] | rewrite [hE.anF] | rewrite [hE.anT'] | rewrite [hE.anF'])); cbv)); (repeat first | refine ⟨(fun h => absurd h Bool.false_ne_true), ?_⟩ | refine ⟨(hE.o (by simp only [Ob.den, hE.e_iN, hE.e_tn, hE.e_aN, hE.e_sN, hE.e_sI, hE.e_mn] <;> omega)), ?_⟩ | refine ⟨fun _ => (hE.o (by simp only [Ob.den, hE.e_iN, hE.e_tn, hE.e_aN, hE.e_sN, hE.e_sI, hE.e_mn] <;> omega)), ?_⟩ | refine ⟨fun h => h, ?_⟩ | refine ⟨fun _ => rfl, ?_⟩ | refine ⟨fun _ h => h, ?_⟩ | refine ⟨fun _ _ => True.intro, ?_⟩ | refine ⟨fun _ h => absurd h Bool.false_ne_true, ?_⟩ | refine ⟨fun _ => True.intro, ?_⟩ | refine ⟨fun _ _ => rfl, ?_⟩ | refine ⟨(fun h => Bool.noConfusion h), ?_⟩ | refine ⟨fun _ h => Bool.noConfusion h, ?_⟩ | refine ⟨fun _ h => by rw [h, hE.ntF], ?_⟩ | refine ⟨True.intro, ?_⟩)
        exact ct_flat [] rfl ⟨fitU_refl _, fitU_refl _, fitU_refl _, trivial⟩
      · have k2 := k2 rfl
        cbv; (repeat ((first | rewrite [k0] | rewrite [k1] | rewrite [k2] | rewrite [kl] | rewrite [kz] | rewrite [m1] | rewrite [m2] | rewrite [m3] | rewrite [m4] | rewrite [m5] | rewrite [n1] | rewrite [n2] | rewrite [hE.tnN] | rewrite [hE.ntT] | rewrite [hE.ntF] | rewrite [hE.pkT] | rewrite [hE.pkF] | rewrite [hE.anT] | rewrite [hE.anF] | rewrite [hE.anT'] | rewrite [hE.anF']); (repeat (first | rewrite [k0] | rewrite [k1] | rewrite [k2] | rewrite [kl] | rewrite [kz] | rewrite [m1] | rewrite [m2] | rewrite [m3] | rewrite [m4] | rewrite [m5] | rewrite [n1] | rewrite [n2] | rewrite [hE.tnN] | rewrite [hE.ntT] | rewrite [hE.ntF] | rewrite [hE.pkT] | rewrite [hE.pkF] | rewrite [hE.anT] | rewrite [hE.anF] | rewrite [hE.anT'] | rewrite [hE.anF'])); cbv)); (repeat first | refine ⟨(fun h => absurd h Bool.false_ne_true), ?_⟩ | refine ⟨(hE.o (by simp only [Ob.den, hE.e_iN, hE.e_tn, hE.e_aN, hE.e_sN, hE.e_sI, hE.e_mn] <;> omega)), ?_⟩ | refine ⟨fun _ => (hE.o (by simp only [Ob.den, hE.e_iN, hE.e_tn, hE.e_aN, hE.e_sN, hE.e_sI, hE.e_mn] <;> omega)), ?_⟩ | refine ⟨fun h => h, ?_⟩ | refine ⟨fun _ => rfl, ?_⟩ | refine ⟨fun _ h => h, ?_⟩ | refine ⟨fun _ _ => True.intro, ?_⟩ | refine ⟨fun _ h => absurd h Bool.false_ne_true, ?_⟩ | refine ⟨fun _ => True.intro, ?_⟩ | refine ⟨fun _ _ => rfl, ?_⟩ | refine ⟨(fun h => Bool.noConfusion h), ?_⟩ | refine ⟨fun _ h => Bool.noConfusion h, ?_⟩ | refine ⟨fun _ h => by rw [h, hE.ntF], ?_⟩ | refine ⟨True.intro, ?_⟩)
        exact ct_flat [] rfl ⟨fitU_refl _, fitU_refl _, fitU_refl _, trivial⟩
      · have k2 := k2 rfl
        have kz2 := kz2 rfl
        cbv; (repeat ((first | rewrite [k0] | rewrite [k1] | rewrite [k2] | rewrite [kl] | rewrite [kz] | rewrite [kz2] | rewrite [m1] | rewrite [m2] | rewrite [m3] | rewrite [m4] | rewrite [m5] | rewrite [n1] | rewrite [n2] | rewrite [hE.tnN] | rewrite [hE.ntT] | rewrite [hE.ntF] | rewrite [hE.pkT] | rewrite [hE.pkF] | rewrite [hE.anT] | rewrite [hE.anF] | rewrite [hE.anT'] | rewrite [hE.anF']); (repeat (first | rewrite [k0] | rewrite [k1] | rewrite [k2] | rewrite [kl] | rewrite [kz] | rewrite [kz2] | rewrite [m1] | rewrite [m2] | rewrite [m3] | rewrite [m4] | rewrite [m5] | rewrite [n1] | rewrite [n2] | rewrite [hE.tnN] | rewrite [hE.ntT] | rewrite [hE.ntF] | rewrite [hE.pkT] | rewrite [hE.pkF] | rewrite [hE.anT] | rewrite [hE.anF] | rewrite [hE.anT'] | rewrite [hE.anF'])); cbv)); (repeat first | refine ⟨(fun h => absurd h Bool.false_ne_true), ?_⟩ | refine ⟨(hE.o (by simp only [Ob.den, hE.e_iN, hE.e_tn, hE.e_aN, hE.e_sN, hE.e_sI, hE.e_mn] <;> omega)), ?_⟩ | refine ⟨fun _ => (hE.o (by simp only [Ob.den, hE.e_iN, hE.e_tn, hE.e_aN, hE.e_sN, hE.e_sI, hE.e_mn] <;> omega)), ?_⟩ | refine ⟨fun h => h, ?_⟩ | refine ⟨fun _ => rfl, ?_⟩ | refine ⟨fun _ h => h, ?_⟩ | refine ⟨fun _ _ => True.intro, ?_⟩ | refine ⟨fun _ h => absurd h Bool.false_ne_true, ?_⟩ | refine ⟨fun _ => True.intro, ?_⟩ | refine ⟨fun _ _ => rfl, ?_⟩ | refine ⟨(fun h => Bool.noConfusion h), ?_⟩ | refine ⟨fun _ h => Bool.noConfusion h, ?_⟩ | refine ⟨fun _ h => by rw [h, hE.ntF], ?_⟩ | refine ⟨True.intro, ?_⟩)
        exact ct_flat [] rfl ⟨fitU_refl _, fitU_refl _, fitU_refl _, trivial⟩
    · rw [if_neg (by rw [← hBp]; exact hl)] at h
      have kl : ic .lss (Bp i) 128 = false := by rw [hE.lss]; exact decide_eq_false hl
      have ni := hE.incN (a := i) (by omega)
      have hi9 : i ≠ 9 := fun h => by have := h9' h; rw [← hBp] at this; omega
      have k1 : ic .eql (iN i) 9 = false := by rw [hE.eql, hE.e_iN]; exact decide_eq_false (by omega)
      cases f with
      | zero => omega
      | succ f =>
        cbv; (repeat ((first | rewrite [k0] | rewrite [k1] | rewrite [kl] | rewrite [m1] | rewrite [m2] | rewrite [m3] | rewrite [m4] | rewrite [m5] | rewrite [ni] | rewrite [hE.tnN] | rewrite [hE.ntT] | rewrite [hE.ntF] | rewrite [hE.pkT] | rewrite [hE.pkF] | rewrite [hE.anT] | rewrite [hE.anF] | rewrite [hE.anT'] | rewrite [hE.anF']); (repeat (first | rewrite [k0] | rewrite [k1] | rewrite [kl] | rewrite [m1] | rewrite [m2] | rewrite [m3] | rewrite [m4] | rewrite [m5] | rewrite [ni] | rewrite [hE.tnN] | rewrite [hE.ntT] | rewrite [hE.ntF] | rewrite [hE.pkT] | rewrite [hE.pkF] | rewrite [hE.anT] | rewrite [hE.anF] | rewrite [hE.anT'] | rewrite [hE.anF'])); cbv)); (repeat first | refine ⟨(fun h => absurd h Bool.false_ne_true), ?_⟩ | refine ⟨(hE.o (by simp only [Ob.den, hE.e_iN, hE.e_tn, hE.e_aN, hE.e_sN, hE.e_sI, hE.e_mn] <;> omega)), ?_⟩ | refine ⟨fun _ => (hE.o (by simp only [Ob.den, hE.e_iN, hE.e_tn, hE.e_aN, hE.e_sN, hE.e_sI, hE.e_mn] <;> omega)), ?_⟩ | refine ⟨fun h => h, ?_⟩ | refine ⟨fun _ => rfl, ?_⟩ | refine ⟨fun _ h => h, ?_⟩ | refine ⟨fun _ _ => True.intro, ?_⟩ | refine ⟨fun _ h => absurd h Bool.false_ne_true, ?_⟩ | refine ⟨fun _ => True.intro, ?_⟩ | refine ⟨fun _ _ => rfl, ?_⟩ | refine ⟨(fun h => Bool.noConfusion h), ?_⟩ | refine ⟨fun _ h => Bool.noConfusion h, ?_⟩ | refine ⟨fun _ h => by rw [h, hE.ntF], ?_⟩ | refine ⟨True.intro, ?_⟩)
        exact ⟨(i + 1, f, a2), ⟨by dsimp only; omega, h, ha2⟩, by dsimp only; omega, [], [], ⟨rfl, rfl, rfl, rfl, trivial⟩, by (cbv <;> (repeat' first | exact True.intro | exact ⟨.inr trivial, fun _ _ => rfl⟩ | exact rfl | exact fun _ _ => rfl | refine And.intro ?_ ?_ | rw [hE.iN0] | rw [hE.e_aN]))⟩
end Ytohkcdfjpgdfbaa
end
section
open Go Am
set_option maxRecDepth 100000
set_option maxHeartbeats 4000000
set_option linter.unusedVariables false
set_option linter.unusedSimpArgs false
namespace Ytohkcdfjpgdfbaa
theorem ct76 (o o' : Tg) (n m : Nat) (B C : Nat → Int) (hn : n ≤ 1000000) (hm : m ≤ 1000000) (p : Nat) (z : Int) (hz : IsN z p) (hp : p ≤ 1000000) (t : Bool) (ht : t = true ↔ p + m ≤ n ∧ ∀ j, j < m → B (p + j) = C j) :
    CT Go.Proofs.Try.prog 76 [bS o n B, scI .i64 z, bS o' m C] [] (scB t) [] := by
  refine enter76 rfl rfl ?_
  intro ob ib ic sb cat iu nt an be pk wr tn iN aN sN lN eN bt sub sl rn ofB mn dc dn sI X hE hX
  cbv
  have hz' : z = iN p := by rw [hE.e_iN, hz.e]
  subst hz'
  have a1 : ib .add .i64 (iN p) (iN m) = iN (p + m) := hE.addN (by omega)
  by_cases h1 : n < p + m
  · have c1 : ic .gtr (iN (p + m)) (iN n) = true := by rw [hE.gtN]; exact decide_eq_true h1
    obtain rfl : t = false := bfalse fun e => by have := (ht.1 e).1; omega
    generalize p + m = pm at a1 c1
    cbv; (repeat ((first | rewrite [a1] | rewrite [c1] | rewrite [hE.ntT] | rewrite [hE.ntF] | rewrite [hE.pkT] | rewrite [hE.pkF] | rewrite [hE.anT] | rewrite [hE.anF] | rewrite [hE.anT'] | rewrite [hE.anF']); (repeat (first | rewrite [a1] | rewrite [c1] | rewrite [hE.ntT] | rewrite [hE.ntF] | rewrite [hE.pkT] | rewrite [hE.pkF] | rewrite [hE.anT] | rewrite [hE.anF] | rewrite [hE.anT'] | rewrite [hE.anF'])); cbv)); (repeat first | refine ⟨(fun h => absurd h Bool.false_ne_true), ?_⟩ | refine ⟨(hE.o (by simp only [Ob.den, hE.e_iN, hE.e_tn, hE.e_aN, hE.e_sN, hE.e_sI, hE.e_mn] <;> omega)), ?_⟩ | refine ⟨fun _ => (hE.o (by simp only [Ob.den, hE.e_iN, hE.e_tn, hE.e_aN, hE.e_sN, hE.e_sI, hE.e_mn] <;> omega)), ?_⟩ | refine ⟨fun h => h, ?_⟩ | refine ⟨fun _ => rfl, ?_⟩ | refine ⟨fun _ h => h, ?_⟩ | refine ⟨fun _ _ => True.intro, ?_⟩ | refine ⟨fun _ h => absurd h Bool.false_ne_true, ?_⟩ | refine ⟨fun _ => True.intro, ?_⟩ | refine ⟨fun _ _ => rfl, ?_⟩ | refine ⟨(fun h => Bool.noConfusion h), ?_⟩ | refine ⟨fun _ h => Bool.noConfusion h, ?_⟩ | refine ⟨fun _ h => by rw [h, hE.ntF], ?_⟩ | refine ⟨True.intro, ?_⟩)
    exact ct_u rfl
  have c1 : ic .gtr (iN (p + m)) (iN n) = false := by rw [hE.gtN]; exact decide_eq_false h1
  generalize hpm : p + m = pm at a1 c1
  cbv; (repeat ((first | rewrite [a1] | rewrite [c1] | rewrite [hE.ntT] | rewrite [hE.ntF] | rewrite [hE.pkT] | rewrite [hE.pkF] | rewrite [hE.anT] | rewrite [hE.anF] | rewrite [hE.anT'] | rewrite [hE.anF']); (repeat (first | rewrite [a1] | rewrite [c1] | rewrite [hE.ntT] | rewrite [hE.ntF] | rewrite [hE.pkT] | rewrite [hE.pkF] | rewrite [hE.anT] | rewrite [hE.anF] | rewrite [hE.anT'] | rewrite [hE.anF'])); cbv)); (repeat first | refine ⟨(fun h => absurd h Bool.false_ne_true), ?_⟩ | refine ⟨(hE.o (by simp only [Ob.den, hE.e_iN, hE.e_tn, hE.e_aN, hE.e_sN, hE.e_sI, hE.e_mn] <;> omega)), ?_⟩ | refine ⟨fun _ => (hE.o (by simp only [Ob.den, hE.e_iN, hE.e_tn, hE.e_aN, hE.e_sN, hE.e_sI, hE.e_mn] <;> omega)), ?_⟩ | refine ⟨fun h => h, ?_⟩ | refine ⟨fun _ => rfl, ?_⟩ | refine ⟨fun _ h => h, ?_⟩ | refine ⟨fun _ _ => True.intro, ?_⟩ | refine ⟨fun _ h => absurd h Bool.false_ne_true, ?_⟩ | refine ⟨fun _ => True.intro, ?_⟩ | refine ⟨fun _ _ => rfl, ?_⟩ | refine ⟨(fun h => Bool.noConfusion h), ?_⟩ | refine ⟨fun _ h => Bool.noConfusion h, ?_⟩ | refine ⟨fun _ h => by rw [h, hE.ntF], ?_⟩ | refine ⟨True.intro, ?_⟩)
  refine loop_at hE hX tabOK (by kernel_rfl) funcsOK rfl (α := Nat) (fun k => (sets (pad 32) [(0, bS o n B), (1, scI .i64 (iN p)), (2, bS o' m C), (7, scI .i64 (iN k))], [])) (fun k => k ≤ m ∧ ∀ j, j < k → B (p + j) = C j) (fun k => m - k) 0 ⟨by omega, fun j hj => by omega⟩ ?_ ?_
  · refine ⟨[], [], ⟨rfl, rfl, rfl, rfl, trivial⟩, ?_⟩
    have e0 : (0 : Int) = iN 0 := hE.iN0.symm
    cbv
    (repeat' first | exact True.intro | exact ⟨.inr trivial, fun _ _ => rfl⟩ | exact rfl | exact fun _ _ => rfl | refine And.intro ?_ ?_ | rw [hE.iN0] | rw [hE.e_aN])
  · rintro k ⟨hk, hb⟩
    by_cases hkm : k < m
    · have k0 : ic .lss (iN k) (iN m) = true := by rw [hE.ltN]; exact decide_eq_true hkm
      obtain ⟨pk', hpk⟩ : ∃ x, x = p + k := ⟨_, rfl⟩
      have a2 : ib .add .i64 (iN p) (iN k) = iN pk' := by rw [hpk]; exact hE.addN (by omega)
      have ni := hE.incN (a := k) (by omega)
      by_cases hbc : B (p + k) = C k
      · have k1 : ic .neq (B pk') (C k) = false := by rw [hE.neq, hpk]; simp [hbc]
        cbv; (repeat ((first | rewrite [k0] | rewrite [a2] | rewrite [k1] | rewrite [ni] | rewrite [hE.tnN] | rewrite [hE.ntT] | rewrite [hE.ntF] | rewrite [hE.pkT] | rewrite [hE.pkF] | rewrite [hE.anT] | rewrite [hE.anF] | rewrite [hE.anT'] | rewrite [hE.anF']); (repeat (first | rewrite [k0] | rewrite [a2] | rewrite [k1] | rewrite [ni] | rewrite [hE.tnN] | rewrite [hE.ntT] | rewrite [hE.ntF] | rewrite [hE.pkT] | rewrite [hE.pkF] | rewrite [hE.anT] | rewrite [hE.anF] | rewrite [hE.anT'] | rewrite [hE.anF'])); cbv)); (repeat first | refine ⟨(fun h => absurd h Bool.false_ne_true), ?_⟩ | refine ⟨(hE.o (by simp only [Ob.den, hE.e_iN, hE.e_tn, hE.e_aN, hE.e_sN, hE.e_sI, hE.e_mn] <;> omega)), ?_⟩ | refine ⟨fun _ => (hE.o (by simp only [Ob.den, hE.e_iN, hE.e_tn, hE.e_aN, hE.e_sN, hE.e_sI, hE.e_mn] <;> omega)), ?_⟩ | refine ⟨fun h => h, ?_⟩ | refine ⟨fun _ => rfl, ?_⟩ | refine ⟨fun _ h => h, ?_⟩ | refine ⟨fun _ _ => True.intro, ?_⟩ | refine ⟨fun _ h => absurd h Bool.false_ne_true, ?_⟩ | refine ⟨fun _ => True.intro, ?_⟩ | refine ⟨fun _ _ => rfl, ?_⟩ | refine ⟨(fun h => Bool.noConfusion h), ?_⟩ | refine ⟨fun _ h => Bool.noConfusion h, ?_⟩ | refine ⟨fun _ h => by rw [h, hE.ntF], ?_⟩ | refine ⟨True.intro, ?_⟩)
        exact ⟨k + 1, ⟨by omega, fun j hj => by rcases Nat.lt_or_ge j k with h | h; exact hb j h; (obtain rfl : j = k := by omega); exact hbc⟩, by omega, [], [], ⟨rfl, rfl, rfl, rfl, trivial⟩, by (cbv <;> (repeat' first | exact True.intro | exact ⟨.inr trivial, fun _ _ => rfl⟩ | exact rfl | exact fun _ _ => rfl | refine And.intro ?_ ?_ | rw [hE.iN0] | rw [hE.e_aN]))⟩
      · have k1 : ic .neq (B pk') (C k) = true := by rw [hE.neq, hpk]; simp [hbc]
        obtain rfl : t = false := bfalse fun e => hbc ((ht.1 e).2 k hkm)
        cbv; (repeat ((first | rewrite [k0] | rewrite [a2] | rewrite [k1] | rewrite [ni] | rewrite [hE.tnN] | rewrite [hE.ntT] | rewrite [hE.ntF] | rewrite [hE.pkT] | rewrite [hE.pkF] | rewrite [hE.anT] | rewrite [hE.anF] | rewrite [hE.anT'] | rewrite [hE.anF']); (repeat (first | rewrite [k0] | rewrite [a2] | rewrite [k1] | rewrite [ni] | rewrite [hE.tnN] | rewrite [hE.ntT] | rewrite [hE.ntF] | rewrite [hE.pkT] | rewrite [hE.pkF] | rewrite [hE.anT] | rewrite [hE.anF] | rewrite [hE.anT'] | rewrite [hE.anF'])); cbv)); (repeat first | refine ⟨(fun h => absurd h Bool.false_ne_true), ?_⟩ | refine ⟨(hE.o (by simp only [Ob.den, hE.e_iN, hE.e_tn, hE.e_aN, hE.e_sN, hE.e_sI, hE.e_mn] <;> omega)), ?_⟩ | refine ⟨fun _ => (hE.o (by simp only [Ob.den, hE.e_iN, hE.e_tn, hE.e_aN, hE.e_sN, hE.e_sI, hE.e_mn] <;> omega)), ?_⟩ | refine ⟨fun h => h, ?_⟩ | refine ⟨fun _ => rfl, ?_⟩ | refine ⟨fun _ h => h, ?_⟩ | refine ⟨fun _ _ => True.intro, ?_⟩ | refine ⟨fun _ h => absurd h Bool.false_ne_true, ?_⟩ | refine ⟨fun _ => True.intro, ?_⟩ | refine ⟨fun _ _ => rfl, ?_⟩ | refine ⟨(fun h => Bool.noConfusion h), ?_⟩ | refine ⟨fun _ h => Bool.noConfusion h, ?_⟩ | refine ⟨fun _ h => by rw [h, hE.ntF], ?_⟩ | refine ⟨True.intro, ?_⟩)
        exact ct_u rfl
    · have k0 : ic .lss (iN k) (iN m) = false := by rw [hE.ltN]; exact decide_eq_false hkm
      obtain rfl : t = true := ht.2 ⟨by omega, fun j hj => hb j (by omega)⟩
      cbv; (repeat ((first | rewrite [k0] | rewrite [hE.ntT] | rewrite [hE.ntF] | rewrite [hE.pkT] | rewrite [hE.pkF] | rewrite [hE.anT] | rewrite [hE.anF] | rewrite [hE.anT'] | rewrite [hE.anF']); (repeat (first | rewrite [k0] | rewrite [hE.ntT] | rewrite [hE.ntF] | rewrite [hE.pkT] | rewrite [hE.pkF] | rewrite [hE.anT] | rewrite [hE.anF] | rewrite [hE.anT'] | rewrite [hE.anF'])); cbv)); (repeat first | refine ⟨(fun h => absurd h Bool.false_ne_true), ?_⟩ | refine ⟨(hE.o (by simp only [Ob.den, hE.e_iN, hE.e_tn, hE.e_aN, hE.e_sN, hE.e_sI, hE.e_mn] <;> omega)), ?_⟩ | refine ⟨fun _ => (hE.o (by simp only [Ob.den, hE.e_iN, hE.e_tn, hE.e_aN, hE.e_sN, hE.e_sI, hE.e_mn] <;> omega)), ?_⟩ | refine ⟨fun h => h, ?_⟩ | refine ⟨fun _ => rfl, ?_⟩ | refine ⟨fun _ h => h, ?_⟩ | refine ⟨fun _ _ => True.intro, ?_⟩ | refine ⟨fun _ h => absurd h Bool.false_ne_true, ?_⟩ | refine ⟨fun _ => True.intro, ?_⟩ | refine ⟨fun _ _ => rfl, ?_⟩ | refine ⟨(fun h => Bool.noConfusion h), ?_⟩ | refine ⟨fun _ h => Bool.noConfusion h, ?_⟩ | refine ⟨fun _ h => by rw [h, hE.ntF], ?_⟩ | refine ⟨True.intro, ?_⟩)
      exact ct_u rfl
end Ytohkcdfjpgdfbaa
end
section
open Go Am
set_option maxRecDepth 100000
set_option maxHeartbeats 4000000
set_option linter.unusedVariables false
set_option linter.unusedSimpArgs false
namespace Ytohkcdfjpgdfbaa
theorem ct61 (o : Tg) (n : Nat) (B : Nat → Int) (hB : Byte B) (hn : n ≤ 1000000) (p : Nat) (z : Int) (hz : IsN z p) (hp : p ≤ 1000000) (v q : Nat) (e : Int) (h : Take n B p v q e) (vz qz : Int) (hv : IsN vz v) (hq : IsN qz q) :
    CT Go.Proofs.Try.prog 61 [bS o n B, scI .i64 z] [] (.tp [scI .u64 vz, scI .i64 qz, scI .i64 e]) [] := by
  have h := h.e
  refine enter61 rfl rfl ?_
  intro ob ib ic sb cat iu nt an be pk wr tn iN aN sN lN eN bt sub sl rn ofB mn dc dn sI X hE hX
  cbv
  have hz' : z = iN p := by rw [hE.e_iN, hz.e]
  subst hz'
  have hv' : vz = iN v := by rw [hE.e_iN, hv.e]
  subst hv'
  have hq' : qz = iN q := by rw [hE.e_iN, hq.e]
  subst hq'
  have c0 : ic .lss (iN p) 0 = false := by rw [hE.lss, hE.e_iN]; exact decide_eq_false (by omega)
  by_cases hpn : n ≤ p
  · have c1 : ic .geq (iN p) (iN n) = true := by rw [hE.geN]; exact decide_eq_true hpn
    unfold takeF at h
    rw [if_pos (by omega)] at h
    cases h
    cbv; (repeat ((first | rewrite [c0] | rewrite [c1] | rewrite [hE.ntT] | rewrite [hE.ntF] | rewrite [hE.pkT] | rewrite [hE.pkF] | rewrite [hE.anT] | rewrite [hE.anF] | rewrite [hE.anT'] | rewrite [hE.anF']); (repeat (first | rewrite [c0] | rewrite [c1] | rewrite [hE.ntT] | rewrite [hE.ntF] | rewrite [hE.pkT] | rewrite [hE.pkF] | rewrite [hE.anT] | rewrite [hE.anF] | rewrite [hE.anT'] | rewrite [hE.anF'])); cbv)); (repeat first | refine ⟨(fun h => absurd h Bool.false_ne_true), ?_⟩ | refine ⟨(hE.o (by simp only [Ob.den, hE.e_iN, hE.e_tn, hE.e_aN, hE.e_sN, hE.e_sI, hE.e_mn] <;> omega)), ?_⟩ | refine ⟨fun _ => (hE.o (by simp only [Ob.den, hE.e_iN, hE.e_tn, hE.e_aN, hE.e_sN, hE.e_sI, hE.e_mn] <;> omega)), ?_⟩ | refine ⟨fun h => h, ?_⟩ | refine ⟨fun _ => rfl, ?_⟩ | refine ⟨fun _ h => h, ?_⟩ | refine ⟨fun _ _ => True.intro, ?_⟩ | refine ⟨fun _ h => absurd h Bool.false_ne_true, ?_⟩ | refine ⟨fun _ => True.intro, ?_⟩ | refine ⟨fun _ _ => rfl, ?_⟩ | refine ⟨(fun h => Bool.noConfusion h), ?_⟩ | refine ⟨fun _ h => Bool.noConfusion h, ?_⟩ | refine ⟨fun _ h => by rw [h, hE.ntF], ?_⟩ | refine ⟨True.intro, ?_⟩)
    rw [← hE.iN0]
    exact ct_flat [] rfl ⟨fitU_refl _, fitU_refl _, fitU_refl _, trivial⟩
  have c1 : ic .geq (iN p) (iN n) = false := by rw [hE.geN]; exact decide_eq_false hpn
  cbv; (repeat ((first | rewrite [c0] | rewrite [c1] | rewrite [hE.ntT] | rewrite [hE.ntF] | rewrite [hE.pkT] | rewrite [hE.pkF] | rewrite [hE.anT] | rewrite [hE.anF] | rewrite [hE.anT'] | rewrite [hE.anF']); (repeat (first | rewrite [c0] | rewrite [c1] | rewrite [hE.ntT] | rewrite [hE.ntF] | rewrite [hE.pkT] | rewrite [hE.pkF] | rewrite [hE.anT] | rewrite [hE.anF] | rewrite [hE.anT'] | rewrite [hE.anF'])); cbv)); (repeat first | refine ⟨(fun h => absurd h Bool.false_ne_true), ?_⟩ | refine ⟨(hE.o (by simp only [Ob.den, hE.e_iN, hE.e_tn, hE.e_aN, hE.e_sN, hE.e_sI, hE.e_mn] <;> omega)), ?_⟩ | refine ⟨fun _ => (hE.o (by simp only [Ob.den, hE.e_iN, hE.e_tn, hE.e_aN, hE.e_sN, hE.e_sI, hE.e_mn] <;> omega)), ?_⟩ | refine ⟨fun h => h, ?_⟩ | refine ⟨fun _ => rfl, ?_⟩ | refine ⟨fun _ h => h, ?_⟩ | refine ⟨fun _ _ => True.intro, ?_⟩ | refine ⟨fun _ h => absurd h Bool.false_ne_true, ?_⟩ | refine ⟨fun _ => True.intro, ?_⟩ | refine ⟨fun _ _ => rfl, ?_⟩ | refine ⟨(fun h => Bool.noConfusion h), ?_⟩ | refine ⟨fun _ h => Bool.noConfusion h, ?_⟩ | refine ⟨fun _ h => by rw [h, hE.ntF], ?_⟩ | refine ⟨True.intro, ?_⟩)
  refine loop_at hE hX tabOK (by kernel_rfl) funcsOK rfl (α := Nat × Nat × Nat) (fun ⟨i, f, a⟩ => (sets (pad 77) [(0, bS o n B), (1, scI .i64 (iN p)), (7, scI .u64 (iN a)), (8, scI .i64 (iN i))], [])) (fun x => x.1 + x.2.1 = 9 ∧ takeF n B p (x.2.1 + 1) x.1 = (v, q, e) ∧ x.2.2 = val B p x.1 ∧ ∀ j, j < x.1 → 128 ≤ B (p + j)) (fun x => x.2.1) (0, 9, 0) ⟨rfl, h, rfl, fun j hj => by dsimp only at hj; omega⟩ ?_ ?_
  · refine ⟨[], [], ⟨rfl, rfl, rfl, rfl, trivial⟩, ?_⟩
    have e0 : (0 : Int) = iN 0 := hE.iN0.symm
    cbv
    (repeat' first | exact True.intro | exact ⟨.inr trivial, fun _ _ => rfl⟩ | exact rfl | exact congrArg _ e0 | refine And.intro ?_ ?_)
  · rintro ⟨i, f, a⟩ ⟨hi, h, ha, hm⟩
    dsimp only at hi h ha hm
    unfold takeF at h
    obtain ⟨P, hP⟩ : ∃ P, P = p + i := ⟨_, rfl⟩
    have hbi := hB P
    have k0 : ic .lss (iN i) 10 = true := by rw [hE.lss, hE.e_iN]; exact decide_eq_true (by omega)
    have n1 : ib .add .i64 (iN p) (iN i) = iN P := by rw [hP]; exact hE.addN (by omega)
    rw [← hP] at h
    by_cases h1 : n ≤ P
    · rw [if_pos h1] at h
      cases h
      have k3 : ic .geq (iN P) (iN n) = true := by rw [hE.geN]; exact decide_eq_true h1
      cbv; (repeat ((first | rewrite [k0] | rewrite [n1] | rewrite [k3] | rewrite [hE.ntT] | rewrite [hE.ntF] | rewrite [hE.pkT] | rewrite [hE.pkF] | rewrite [hE.anT] | rewrite [hE.anF] | rewrite [hE.anT'] | rewrite [hE.anF']); (repeat (first | rewrite [k0] | rewrite [n1] | rewrite [k3] | rewrite [hE.ntT] | rewrite [hE.ntF] | rewrite [hE.pkT] | rewrite [hE.pkF] | rewrite [hE.anT] | rewrite [hE.anF] | rewrite [hE.anT'] | rewrite [hE.anF'])); cbv)); (repeat first | refine ⟨(fun h => absurd h Bool.false_ne_true), ?_⟩ | refine ⟨(hE.o (by simp only [Ob.den, hE.e_iN, hE.e_tn, hE.e_aN, hE.e_sN, hE.e_sI, hE.e_mn] <;> omega)), ?_⟩ | refine ⟨fun _ => (hE.o (by simp only [Ob.den, hE.e_iN, hE.e_tn, hE.e_aN, hE.e_sN, hE.e_sI, hE.e_mn] <;> omega)), ?_⟩ | refine ⟨fun h => h, ?_⟩ | refine ⟨fun _ => rfl, ?_⟩ | refine ⟨fun _ h => h, ?_⟩ | refine ⟨fun _ _ => True.intro, ?_⟩ | refine ⟨fun _ h => absurd h Bool.false_ne_true, ?_⟩ | refine ⟨fun _ => True.intro, ?_⟩ | refine ⟨fun _ _ => rfl, ?_⟩ | refine ⟨(fun h => Bool.noConfusion h), ?_⟩ | refine ⟨fun _ h => Bool.noConfusion h, ?_⟩ | refine ⟨fun _ h => by rw [h, hE.ntF], ?_⟩ | refine ⟨True.intro, ?_⟩)
      rw [← hE.iN0]
      exact ct_flat [] rfl ⟨fitU_refl _, fitU_refl _, fitU_refl _, trivial⟩
    rw [if_neg h1] at h
    have k3 : ic .geq (iN P) (iN n) = false := by rw [hE.geN]; exact decide_eq_false h1
    obtain ⟨s, hs⟩ : ∃ s, s = 7 * i := ⟨_, rfl⟩
    obtain ⟨w, hw⟩ : ∃ w, w = 2 ^ s := ⟨_, rfl⟩
    have m3 : ib .mul .i64 7 (iN i) = iN s := by rw [hE.mul64 (by rw [hE.e_iN]; omega), hE.e_iN, hE.e_iN, hs]; omega
    have m4 : ib .shl .u64 1 (iN s) = iN w := by
      have := hE.shlN (a := 1) (k := s) (by omega) (by
        have : 2 ^ s ≤ 2 ^ 63 := Nat.pow_le_pow_right (by omega) (by omega)
        omega)
      rw [hE.iN1, Nat.one_mul, ← hw] at this
      exact this
    have m6 : wr .u64 (B P) = B P := hE.wr_u64 (by omega)
    by_cases h9 : i = 9 ∧ 1 < B P
    · rw [if_pos h9] at h
      cases h
      have k1 : ic .eql (iN i) 9 = true := by rw [hE.eql, hE.e_iN]; exact decide_eq_true (by omega)
      have k2 : ic .gtr (B P) 1 = true := by rw [hE.gtr]; exact decide_eq_true h9.2
      cbv; (repeat ((first | rewrite [k0] | rewrite [n1] | rewrite [k3] | rewrite [m3] | rewrite [m4] | rewrite [m6] | rewrite [k1] | rewrite [k2] | rewrite [hE.tnN] | rewrite [hE.ntT] | rewrite [hE.ntF] | rewrite [hE.pkT] | rewrite [hE.pkF] | rewrite [hE.anT] | rewrite [hE.anF] | rewrite [hE.anT'] | rewrite [hE.anF']); (repeat (first | rewrite [k0] | rewrite [n1] | rewrite [k3] | rewrite [m3] | rewrite [m4] | rewrite [m6] | rewrite [k1] | rewrite [k2] | rewrite [hE.tnN] | rewrite [hE.ntT] | rewrite [hE.ntF] | rewrite [hE.pkT] | rewrite [hE.pkF] | rewrite [hE.anT] | rewrite [hE.anF] | rewrite [hE.anT'] | rewrite [hE.anF'])); cbv)); (repeat first | refine ⟨(fun h => absurd h Bool.false_ne_true), ?_⟩ | refine ⟨(hE.o (by simp only [Ob.den, hE.e_iN, hE.e_tn, hE.e_aN, hE.e_sN, hE.e_sI, hE.e_mn] <;> omega)), ?_⟩ | refine ⟨fun _ => (hE.o (by simp only [Ob.den, hE.e_iN, hE.e_tn, hE.e_aN, hE.e_sN, hE.e_sI, hE.e_mn] <;> omega)), ?_⟩ | refine ⟨fun h => h, ?_⟩ | refine ⟨fun _ => rfl, ?_⟩ | refine ⟨fun _ h => h, ?_⟩ | refine ⟨fun _ _ => True.intro, ?_⟩ | refine ⟨fun _ h => absurd h Bool.false_ne_true, ?_⟩ | refine ⟨fun _ => True.intro, ?_⟩ | refine ⟨fun _ _ => rfl, ?_⟩ | refine ⟨(fun h => Bool.noConfusion h), ?_⟩ | refine ⟨fun _ h => Bool.noConfusion h, ?_⟩ | refine ⟨fun _ h => by rw [h, hE.ntF], ?_⟩ | refine ⟨True.intro, ?_⟩)
      rw [← hE.iN0]
      exact ct_flat [] rfl ⟨fitU_refl _, fitU_refl _, fitU_refl _, trivial⟩
    rw [if_neg h9] at h
    have h9' : i = 9 → B P ≤ 1 := fun h => by have : ¬ 1 < B P := fun h' => h9 ⟨h, h'⟩; omega
    obtain ⟨x9, k1, k2⟩ : ∃ x9, ic .eql (iN i) 9 = x9 ∧ (x9 = true → ic .gtr (B P) 1 = false) := by
      by_cases hi9 : i = 9
      · exact ⟨true, by rw [hE.eql, hE.e_iN]; exact decide_eq_true (by omega), fun _ => by rw [hE.gtr]; exact decide_eq_false (by have := h9' hi9; omega)⟩
      · exact ⟨false, by rw [hE.eql, hE.e_iN]; exact decide_eq_false (by omega), fun e => Bool.noConfusion e⟩
    obtain ⟨hw1, hw2, hw3, hw4⟩ := val_next hB (p := p) (i := i) (by omega) (by rw [← hP]; exact h9')
    obtain ⟨r, hr⟩ : ∃ r, r = (B P).toNat % 128 := ⟨_, rfl⟩
    obtain ⟨a2, ha2⟩ : ∃ a2, a2 = val B p (i + 1) := ⟨_, rfl⟩
    rw [← hs, ← hP, ← hr, ← hw] at hw1
    rw [← hs, ← ha] at hw2
    rw [← hs, ← hP, ← hr, ← ha, ← hw, ← ha2] at hw3
    rw [← ha2] at hw4
    rw [show val B p (i + 1) = a2 from ha2.symm] at h
    have m1 : ib .rem .u64 (B P) 128 = iN r := by rw [hE.rem (by omega), hE.e_iN, hr]; omega
    have m2 : ib .mul .u64 (iN r) (iN w) = iN (r * w) := by
      rw [hE.mulU64 (by rw [hE.e_iN, hE.e_iN]; rw [← Int.natCast_mul]; omega), hE.e_iN, hE.e_iN, hE.e_iN, ← Int.natCast_mul]
    have m5 : ib .add .u64 (iN a) (iN (r * w)) = iN a2 := by rw [hE.addU64 (by rw [hE.e_iN, hE.e_iN]; omega), hE.e_iN, hE.e_iN, hE.e_iN]; omega
    generalize r * w = rw_ at m2 m5 hw1 hw3
    have ni := hE.incN (a := i) (by omega)
    by_cases hl : B P < 128
    · have kl : ic .lss (B P) 128 = true := by rw [hE.lss]; exact decide_eq_true hl
      have hlen := vput_len 9 a2 (by omega)
      obtain ⟨m, C, hC⟩ := isB_ex (vput a2)
      have hmC := hC.len
      obtain ⟨t, ht⟩ : ∃ t : Bool, t = true ↔ p + m ≤ n ∧ ∀ j, j < m → B (p + j) = C j := by
        by_cases h : p + m ≤ n ∧ ∀ j, j < m → B (p + j) = C j
        · exact ⟨true, fun _ => h, fun _ => rfl⟩
        · exact ⟨false, fun e => Bool.noConfusion e, fun e => absurd e h⟩
      by_cases hzz : B P = 0 ∧ 0 < i
      · rw [if_pos hzz] at h
        cases h
        have hne : i + 1 ≠ m := by
          obtain ⟨i', rfl⟩ : ∃ i', i = i' + 1 := ⟨i - 1, by omega⟩
          have h0 : a2 = a := by
            have := val_snoc B (i' + 1) p
            rw [← ha2, ← hP, ← ha, hzz.1] at this
            rw [show (0 : Int).toNat % 128 = 0 from rfl, Nat.zero_mul, Nat.add_zero] at this
            exact this
          have := vput_len i' a2 (by rw [h0, ha]; exact val_lt B (i' + 1) p)
          omega
        have kn : ic .neq (iN (i + 1)) (iN m) = true := by rw [hE.neN]; exact decide_eq_true hne
        cases x9
        · cbv; (repeat ((first | rewrite [k0] | rewrite [n1] | rewrite [k3] | rewrite [m3] | rewrite [m4] | rewrite [m6] | rewrite [k1] | rewrite [m1] | rewrite [m2] | rewrite [m5] | rewrite [kl] | rewrite [hE.tnN] | rewrite [hE.ntT] | rewrite [hE.ntF] | rewrite [hE.pkT] | rewrite [hE.pkF] | rewrite [hE.anT] | rewrite [hE.anF] | rewrite [hE.anT'] | rewrite [hE.anF']); (repeat (first | rewrite [k0] | rewrite [n1] | rewrite [k3] | rewrite [m3] | rewrite [m4] | rewrite [m6] | rewrite [k1] | rewrite [m1] | rewrite [m2] | rewrite [m5] | rewrite [kl] | rewrite [hE.tnN] | rewrite [hE.ntT] | rewrite [hE.ntF] | rewrite [hE.pkT] | rewrite [hE.pkF] | rewrite [hE.anT] | rewrite [hE.anF] | rewrite [hE.anT'] | rewrite [hE.anF'])); cbv)); (repeat first | refine ⟨(fun h => absurd h Bool.false_ne_true), ?_⟩ | refine ⟨(hE.o (by simp only [Ob.den, hE.e_iN, hE.e_tn, hE.e_aN, hE.e_sN, hE.e_sI, hE.e_mn] <;> omega)), ?_⟩ | refine ⟨fun _ => (hE.o (by simp only [Ob.den, hE.e_iN, hE.e_tn, hE.e_aN, hE.e_sN, hE.e_sI, hE.e_mn] <;> omega)), ?_⟩ | refine ⟨fun h => h, ?_⟩ | refine ⟨fun _ => rfl, ?_⟩ | refine ⟨fun _ h => h, ?_⟩ | refine ⟨fun _ _ => True.intro, ?_⟩ | refine ⟨fun _ h => absurd h Bool.false_ne_true, ?_⟩ | refine ⟨fun _ => True.intro, ?_⟩ | refine ⟨fun _ _ => rfl, ?_⟩ | refine ⟨(fun h => Bool.noConfusion h), ?_⟩ | refine ⟨fun _ h => Bool.noConfusion h, ?_⟩ | refine ⟨fun _ h => by rw [h, hE.ntF], ?_⟩ | refine ⟨True.intro, ?_⟩)
          refine call_ct hX [] [] (ct57 a2 hw4 m C hC (iN a2) ⟨hE.e_iN⟩) (fits_nil ⟨fitU_refl _, trivial⟩) rfl trivial ?_
          cbv; (repeat ((first | rewrite [hE.ntT] | rewrite [hE.ntF] | rewrite [hE.pkT] | rewrite [hE.pkF] | rewrite [hE.anT] | rewrite [hE.anF] | rewrite [hE.anT'] | rewrite [hE.anF']); (repeat (first | rewrite [hE.ntT] | rewrite [hE.ntF] | rewrite [hE.pkT] | rewrite [hE.pkF] | rewrite [hE.anT] | rewrite [hE.anF] | rewrite [hE.anT'] | rewrite [hE.anF'])); cbv)); (repeat first | refine ⟨(fun h => absurd h Bool.false_ne_true), ?_⟩ | refine ⟨(hE.o (by simp only [Ob.den, hE.e_iN, hE.e_tn, hE.e_aN, hE.e_sN, hE.e_sI, hE.e_mn] <;> omega)), ?_⟩ | refine ⟨fun _ => (hE.o (by simp only [Ob.den, hE.e_iN, hE.e_tn, hE.e_aN, hE.e_sN, hE.e_sI, hE.e_mn] <;> omega)), ?_⟩ | refine ⟨fun h => h, ?_⟩ | refine ⟨fun _ => rfl, ?_⟩ | refine ⟨fun _ h => h, ?_⟩ | refine ⟨fun _ _ => True.intro, ?_⟩ | refine ⟨fun _ h => absurd h Bool.false_ne_true, ?_⟩ | refine ⟨fun _ => True.intro, ?_⟩ | refine ⟨fun _ _ => rfl, ?_⟩ | refine ⟨(fun h => Bool.noConfusion h), ?_⟩ | refine ⟨fun _ h => Bool.noConfusion h, ?_⟩ | refine ⟨fun _ h => by rw [h, hE.ntF], ?_⟩ | refine ⟨True.intro, ?_⟩)
          refine call_ct hX [] [0] (ct76 o (.new 5) n m B C hn (by omega) p (iN p) ⟨hE.e_iN⟩ hp t ht) (fits_fz rfl ⟨fitU_refl _, fitU_refl _, ⟨rfl, rfl, rfl, rfl, rfl, by omega, fun i hi => by rw [Nat.zero_add]⟩, trivial⟩) rfl ⟨trivial, trivial⟩ ?_
          cases t
          · cbv; (repeat ((first | rewrite [hE.ntT] | rewrite [hE.ntF] | rewrite [hE.pkT] | rewrite [hE.pkF] | rewrite [hE.anT] | rewrite [hE.anF] | rewrite [hE.anT'] | rewrite [hE.anF']); (repeat (first | rewrite [hE.ntT] | rewrite [hE.ntF] | rewrite [hE.pkT] | rewrite [hE.pkF] | rewrite [hE.anT] | rewrite [hE.anF] | rewrite [hE.anT'] | rewrite [hE.anF'])); cbv)); (repeat first | refine ⟨(fun h => absurd h Bool.false_ne_true), ?_⟩ | refine ⟨(hE.o (by simp only [Ob.den, hE.e_iN, hE.e_tn, hE.e_aN, hE.e_sN, hE.e_sI, hE.e_mn] <;> omega)), ?_⟩ | refine ⟨fun _ => (hE.o (by simp only [Ob.den, hE.e_iN, hE.e_tn, hE.e_aN, hE.e_sN, hE.e_sI, hE.e_mn] <;> omega)), ?_⟩ | refine ⟨fun h => h, ?_⟩ | refine ⟨fun _ => rfl, ?_⟩ | refine ⟨fun _ h => h, ?_⟩ | refine ⟨fun _ _ => True.intro, ?_⟩ | refine ⟨fun _ h => absurd h Bool.false_ne_true, ?_⟩ | refine ⟨fun _ => True.intro, ?_⟩ | refine ⟨fun _ _ => rfl, ?_⟩ | refine ⟨(fun h => Bool.noConfusion h), ?_⟩ | refine ⟨fun _ h => Bool.noConfusion h, ?_⟩ | refine ⟨fun _ h => by rw [h, hE.ntF], ?_⟩ | refine ⟨True.intro, ?_⟩)
            rw [← hE.iN0]
            exact ct_flat [] rfl ⟨fitU_refl _, fitU_refl _, fitU_refl _, trivial⟩
          · cbv; (repeat ((first | rewrite [ni] | rewrite [hE.ntT] | rewrite [hE.ntF] | rewrite [hE.pkT] | rewrite [hE.pkF] | rewrite [hE.anT] | rewrite [hE.anF] | rewrite [hE.anT'] | rewrite [hE.anF']); (repeat (first | rewrite [ni] | rewrite [hE.ntT] | rewrite [hE.ntF] | rewrite [hE.pkT] | rewrite [hE.pkF] | rewrite [hE.anT] | rewrite [hE.anF] | rewrite [hE.anT'] | rewrite [hE.anF'])); cbv)); (repeat first | refine ⟨(fun h => absurd h Bool.false_ne_true), ?_⟩ | refine ⟨(hE.o (by simp only [Ob.den, hE.e_iN, hE.e_tn, hE.e_aN, hE.e_sN, hE.e_sI, hE.e_mn] <;> omega)), ?_⟩ | refine ⟨fun _ => (hE.o (by simp only [Ob.den, hE.e_iN, hE.e_tn, hE.e_aN, hE.e_sN, hE.e_sI, hE.e_mn] <;> omega)), ?_⟩ | refine ⟨fun h => h, ?_⟩ | refine ⟨fun _ => rfl, ?_⟩ | refine ⟨fun _ h => h, ?_⟩ | refine ⟨fun _ _ => True.intro, ?_⟩ | refine ⟨fun _ h => absurd h Bool.false_ne_true, ?_⟩ | refine ⟨fun _ => True.intro, ?_⟩ | refine ⟨fun _ _ => rfl, ?_⟩ | refine ⟨(fun h => Bool.noConfusion h), ?_⟩ | refine ⟨fun _ h => Bool.noConfusion h, ?_⟩ | refine ⟨fun _ h => by rw [h, hE.ntF], ?_⟩ | refine ⟨True.intro, ?_⟩)
            refine call_ct hX [] [] (ct57 a2 hw4 m C hC (iN a2) ⟨hE.e_iN⟩) (fits_nil ⟨fitU_refl _, trivial⟩) rfl trivial ?_
            cbv; (repeat ((first | rewrite [kn] | rewrite [hE.ntT] | rewrite [hE.ntF] | rewrite [hE.pkT] | rewrite [hE.pkF] | rewrite [hE.anT] | rewrite [hE.anF] | rewrite [hE.anT'] | rewrite [hE.anF']); (repeat (first | rewrite [kn] | rewrite [hE.ntT] | rewrite [hE.ntF] | rewrite [hE.pkT] | rewrite [hE.pkF] | rewrite [hE.anT] | rewrite [hE.anF] | rewrite [hE.anT'] | rewrite [hE.anF'])); cbv)); (repeat first | refine ⟨(fun h => absurd h Bool.false_ne_true), ?_⟩ | refine ⟨(hE.o (by simp only [Ob.den, hE.e_iN, hE.e_tn, hE.e_aN, hE.e_sN, hE.e_sI, hE.e_mn] <;> omega)), ?_⟩ | refine ⟨fun _ => (hE.o (by simp only [Ob.den, hE.e_iN, hE.e_tn, hE.e_aN, hE.e_sN, hE.e_sI, hE.e_mn] <;> omega)), ?_⟩ | refine ⟨fun h => h, ?_⟩ | refine ⟨fun _ => rfl, ?_⟩ | refine ⟨fun _ h => h, ?_⟩ | refine ⟨fun _ _ => True.intro, ?_⟩ | refine ⟨fun _ h => absurd h Bool.false_ne_true, ?_⟩ | refine ⟨fun _ => True.intro, ?_⟩ | refine ⟨fun _ _ => rfl, ?_⟩ | refine ⟨(fun h => Bool.noConfusion h), ?_⟩ | refine ⟨fun _ h => Bool.noConfusion h, ?_⟩ | refine ⟨fun _ h => by rw [h, hE.ntF], ?_⟩ | refine ⟨True.intro, ?_⟩)
            rw [← hE.iN0]
            exact ct_flat [] rfl ⟨fitU_refl _, fitU_refl _, fitU_refl _, trivial⟩
        · have k2 := k2 rfl
          cbv; (repeat ((first | rewrite [k0] | rewrite [n1] | rewrite [k3] | rewrite [m3] | rewrite [m4] | rewrite [m6] | rewrite [k1] | rewrite [k2] | rewrite [m1] | rewrite [m2] | rewrite [m5] | rewrite [kl] | rewrite [hE.tnN] | rewrite [hE.ntT] | rewrite [hE.ntF] | rewrite [hE.pkT] | rewrite [hE.pkF] | rewrite [hE.anT] | rewrite [hE.anF] | rewrite [hE.anT'] | rewrite [hE.anF']); (repeat (first | rewrite [k0] | rewrite [n1] | rewrite [k3] | rewrite [m3] | rewrite [m4] | rewrite [m6] | rewrite [k1] | rewrite [k2] | rewrite [m1] | rewrite [m2] | rewrite [m5] | rewrite [kl] | rewrite [hE.tnN] | rewrite [hE.ntT] | rewrite [hE.ntF] | rewrite [hE.pkT] | rewrite [hE.pkF] | rewrite [hE.anT] | rewrite [hE.anF] | rewrite [hE.anT'] | rewrite [hE.anF'])); cbv)); (repeat first | refine ⟨(fun h => absurd h Bool.false_ne_true), ?_⟩ | refine ⟨(hE.o (by simp only [Ob.den, hE.e_iN, hE.e_tn, hE.e_aN, hE.e_sN, hE.e_sI, hE.e_mn] <;> omega)), ?_⟩ | refine ⟨fun _ => (hE.o (by simp only [Ob.den, hE.e_iN, hE.e_tn, hE.e_aN, hE.e_sN, hE.e_sI, hE.e_mn] <;> omega)), ?_⟩ | refine ⟨fun h => h, ?_⟩ | refine ⟨fun _ => rfl, ?_⟩ | refine ⟨fun _ h => h, ?_⟩ | refine ⟨fun _ _ => True.intro, ?_⟩ | refine ⟨fun _ h => absurd h Bool.false_ne_true, ?_⟩ | refine ⟨fun _ => True.intro, ?_⟩ | refine ⟨fun _ _ => rfl, ?_⟩ | refine ⟨(fun h => Bool.noConfusion h), ?_⟩ | refine ⟨fun _ h => Bool.noConfusion h, ?_⟩ | refine ⟨fun _ h => by rw [h, hE.ntF], ?_⟩ | refine ⟨True.intro, ?_⟩)
          refine call_ct hX [] [] (ct57 a2 hw4 m C hC (iN a2) ⟨hE.e_iN⟩) (fits_nil ⟨fitU_refl _, trivial⟩) rfl trivial ?_
          cbv; (repeat ((first | rewrite [hE.ntT] | rewrite [hE.ntF] | rewrite [hE.pkT] | rewrite [hE.pkF] | rewrite [hE.anT] | rewrite [hE.anF] | rewrite [hE.anT'] | rewrite [hE.anF']); (repeat (first | rewrite [hE.ntT] | rewrite [hE.ntF] | rewrite [hE.pkT] | rewrite [hE.pkF] | rewrite [hE.anT] | rewrite [hE.anF] | rewrite [hE.anT'] | rewrite [hE.anF'])); cbv)); (repeat first | refine ⟨(fun h => absurd h Bool.false_ne_true), ?_⟩ | refine ⟨(hE.o (by simp only [Ob.den, hE.e_iN, hE.e_tn, hE.e_aN, hE.e_sN, hE.e_sI, hE.e_mn] <;> omega)), ?_⟩ | refine ⟨fun _ => (hE.o (by simp only [Ob.den, hE.e_iN, hE.e_tn, hE.e_aN, hE.e_sN, hE.e_sI, hE.e_mn] <;> omega)), ?_⟩ | refine ⟨fun h => h, ?_⟩ | refine ⟨fun _ => rfl, ?_⟩ | refine ⟨fun _ h => h, ?_⟩ | refine ⟨fun _ _ => True.intro, ?_⟩ | refine ⟨fun _ h => absurd h Bool.false_ne_true, ?_⟩ | refine ⟨fun _ => True.intro, ?_⟩ | refine ⟨fun _ _ => rfl, ?_⟩ | refine ⟨(fun h => Bool.noConfusion h), ?_⟩ | refine ⟨fun _ h => Bool.noConfusion h, ?_⟩ | refine ⟨fun _ h => by rw [h, hE.ntF], ?_⟩ | refine ⟨True.intro, ?_⟩)
          refine call_ct hX [] [0] (ct76 o (.new 5) n m B C hn (by omega) p (iN p) ⟨hE.e_iN⟩ hp t ht) (fits_fz rfl ⟨fitU_refl _, fitU_refl _, ⟨rfl, rfl, rfl, rfl, rfl, by omega, fun i hi => by rw [Nat.zero_add]⟩, trivial⟩) rfl ⟨trivial, trivial⟩ ?_
          cases t
          · cbv; (repeat ((first | rewrite [hE.ntT] | rewrite [hE.ntF] | rewrite [hE.pkT] | rewrite [hE.pkF] | rewrite [hE.anT] | rewrite [hE.anF] | rewrite [hE.anT'] | rewrite [hE.anF']); (repeat (first | rewrite [hE.ntT] | rewrite [hE.ntF] | rewrite [hE.pkT] | rewrite [hE.pkF] | rewrite [hE.anT] | rewrite [hE.anF] | rewrite [hE.anT'] | rewrite [hE.anF'])); cbv)); (repeat first | refine ⟨(fun h => absurd h Bool.false_ne_true), ?_⟩ | refine ⟨(hE.o (by simp only [Ob.den, hE.e_iN, hE.e_tn, hE.e_aN, hE.e_sN, hE.e_sI, hE.e_mn] <;> omega)), ?_⟩ | refine ⟨fun _ => (hE.o (by simp only [Ob.den, hE.e_iN, hE.e_tn, hE.e_aN, hE.e_sN, hE.e_sI, hE.e_mn] <;> omega)), ?_⟩ | refine ⟨fun h => h, ?_⟩ | refine ⟨fun _ => rfl, ?_⟩ | refine ⟨fun _ h => h, ?_⟩ | refine ⟨fun _ _ => True.intro, ?_⟩ | refine ⟨fun _ h => absurd h Bool.false_ne_true, ?_⟩ | refine ⟨fun _ => True.intro, ?_⟩ | refine ⟨fun _ _ => rfl, ?_⟩ | refine ⟨(fun h => Bool.noConfusion h), ?_⟩ | refine ⟨fun _ h => Bool.noConfusion h, ?_⟩ | refine ⟨fun _ h => by rw [h, hE.ntF], ?_⟩ | refine ⟨True.intro, ?_⟩)
            rw [← hE.iN0]
            exact ct_flat [] rfl ⟨fitU_refl _, fitU_refl _, fitU_refl _, trivial⟩
          · cbv; (repeat ((first | rewrite [ni] | rewrite [hE.ntT] | rewrite [hE.ntF] | rewrite [hE.pkT] | rewrite [hE.pkF] | rewrite [hE.anT] | rewrite [hE.anF] | rewrite [hE.anT'] | rewrite [hE.anF']); (repeat (first | rewrite [ni] | rewrite [hE.ntT] | rewrite [hE.ntF] | rewrite [hE.pkT] | rewrite [hE.pkF] | rewrite [hE.anT] | rewrite [hE.anF] | rewrite [hE.anT'] | rewrite [hE.anF'])); cbv)); (repeat first | refine ⟨(fun h => absurd h Bool.false_ne_true), ?_⟩ | refine ⟨(hE.o (by simp only [Ob.den, hE.e_iN, hE.e_tn, hE.e_aN, hE.e_sN, hE.e_sI, hE.e_mn] <;> omega)), ?_⟩ | refine ⟨fun _ => (hE.o (by simp only [Ob.den, hE.e_iN, hE.e_tn, hE.e_aN, hE.e_sN, hE.e_sI, hE.e_mn] <;> omega)), ?_⟩ | refine ⟨fun h => h, ?_⟩ | refine ⟨fun _ => rfl, ?_⟩ | refine ⟨fun _ h => h, ?_⟩ | refine ⟨fun _ _ => True.intro, ?_⟩ | refine ⟨fun _ h => absurd h Bool.false_ne_true, ?_⟩ | refine ⟨fun _ => True.intro, ?_⟩ | refine ⟨fun _ _ => rfl, ?_⟩ | refine ⟨(fun h => Bool.noConfusion h), ?_⟩ | refine ⟨fun _ h => Bool.noConfusion h, ?_⟩ | refine ⟨fun _ h => by rw [h, hE.ntF], ?_⟩ | refine ⟨True.intro, ?_⟩)
            refine call_ct hX [] [] (ct57 a2 hw4 m C hC (iN a2) ⟨hE.e_iN⟩) (fits_nil ⟨fitU_refl _, trivial⟩) rfl trivial ?_
            cbv; (repeat ((first | rewrite [kn] | rewrite [hE.ntT] | rewrite [hE.ntF] | rewrite [hE.pkT] | rewrite [hE.pkF] | rewrite [hE.anT] | rewrite [hE.anF] | rewrite [hE.anT'] | rewrite [hE.anF']); (repeat (first | rewrite [kn] | rewrite [hE.ntT] | rewrite [hE.ntF] | rewrite [hE.pkT] | rewrite [hE.pkF] | rewrite [hE.anT] | rewrite [hE.anF] | rewrite [hE.anT'] | rewrite [hE.anF'])); cbv)); (repeat first | refine ⟨(fun h => absurd h Bool.false_ne_true), ?_⟩ | refine ⟨(hE.o (by simp only [Ob.den, hE.e_iN, hE.e_tn, hE.e_aN, hE.e_sN, hE.e_sI, hE.e_mn] <;> omega)), ?_⟩ | refine ⟨fun _ => (hE.o (by simp only [Ob.den, hE.e_iN, hE.e_tn, hE.e_aN, hE.e_sN, hE.e_sI, hE.e_mn] <;> omega)), ?_⟩ | refine ⟨fun h => h, ?_⟩ | refine ⟨fun _ => rfl, ?_⟩ | refine ⟨fun _ h => h, ?_⟩ | refine ⟨fun _ _ => True.intro, ?_⟩ | refine ⟨fun _ h => absurd h Bool.false_ne_true, ?_⟩ | refine ⟨fun _ => True.intro, ?_⟩ | refine ⟨fun _ _ => rfl, ?_⟩ | refine ⟨(fun h => Bool.noConfusion h), ?_⟩ | refine ⟨fun _ h => Bool.noConfusion h, ?_⟩ | refine ⟨fun _ h => by rw [h, hE.ntF], ?_⟩ | refine ⟨True.intro, ?_⟩)
            rw [← hE.iN0]
            exact ct_flat [] rfl ⟨fitU_refl _, fitU_refl _, fitU_refl _, trivial⟩
      rw [if_neg hzz, if_pos hl] at h
      cases h
      have hvv := vput_val B hB i p hm (by rw [← hP]; exact hl) (by by_cases h0 : i = 0; exact .inl h0; exact .inr fun h => hzz ⟨by rw [hP]; exact h, by omega⟩)
      rw [← ha2] at hvv
      have hmi : m = i + 1 := by rw [hmC, hvv]; simp
      obtain rfl : t = true := ht.2 ⟨by omega, fun j hj => by
        have h1 := hB (p + j)
        rw [hC.at_ j (B (p + j)).toNat (by rw [hvv, List.getElem?_map, List.getElem?_range (by omega)]; rfl)]
        omega⟩
      have kn : ic .neq (iN (i + 1)) (iN m) = false := by rw [hE.neN, hmi]; simp
      have n2 : ib .add .i64 (iN P) 1 = iN (P + 1) := hE.incN (by omega)
      clear hvv
      generalize P + 1 = P1 at n2 ⊢
      cases x9
      · cbv; (repeat ((first | rewrite [k0] | rewrite [n1] | rewrite [k3] | rewrite [m3] | rewrite [m4] | rewrite [m6] | rewrite [k1] | rewrite [m1] | rewrite [m2] | rewrite [m5] | rewrite [kl] | rewrite [hE.tnN] | rewrite [hE.ntT] | rewrite [hE.ntF] | rewrite [hE.pkT] | rewrite [hE.pkF] | rewrite [hE.anT] | rewrite [hE.anF] | rewrite [hE.anT'] | rewrite [hE.anF']); (repeat (first | rewrite [k0] | rewrite [n1] | rewrite [k3] | rewrite [m3] | rewrite [m4] | rewrite [m6] | rewrite [k1] | rewrite [m1] | rewrite [m2] | rewrite [m5] | rewrite [kl] | rewrite [hE.tnN] | rewrite [hE.ntT] | rewrite [hE.ntF] | rewrite [hE.pkT] | rewrite [hE.pkF] | rewrite [hE.anT] | rewrite [hE.anF] | rewrite [hE.anT'] | rewrite [hE.anF'])); cbv)); (repeat first | refine ⟨(fun h => absurd h Bool.false_ne_true), ?_⟩ | refine ⟨(hE.o (by simp only [Ob.den, hE.e_iN, hE.e_tn, hE.e_aN, hE.e_sN, hE.e_sI, hE.e_mn] <;> omega)), ?_⟩ | refine ⟨fun _ => (hE.o (by simp only [Ob.den, hE.e_iN, hE.e_tn, hE.e_aN, hE.e_sN, hE.e_sI, hE.e_mn] <;> omega)), ?_⟩ | refine ⟨fun h => h, ?_⟩ | refine ⟨fun _ => rfl, ?_⟩ | refine ⟨fun _ h => h, ?_⟩ | refine ⟨fun _ _ => True.intro, ?_⟩ | refine ⟨fun _ h => absurd h Bool.false_ne_true, ?_⟩ | refine ⟨fun _ => True.intro, ?_⟩ | refine ⟨fun _ _ => rfl, ?_⟩ | refine ⟨(fun h => Bool.noConfusion h), ?_⟩ | refine ⟨fun _ h => Bool.noConfusion h, ?_⟩ | refine ⟨fun _ h => by rw [h, hE.ntF], ?_⟩ | refine ⟨True.intro, ?_⟩)
        refine call_ct hX [] [] (ct57 v hw4 m C hC (iN v) ⟨hE.e_iN⟩) (fits_nil ⟨fitU_refl _, trivial⟩) rfl trivial ?_
        cbv; (repeat ((first | rewrite [hE.ntT] | rewrite [hE.ntF] | rewrite [hE.pkT] | rewrite [hE.pkF] | rewrite [hE.anT] | rewrite [hE.anF] | rewrite [hE.anT'] | rewrite [hE.anF']); (repeat (first | rewrite [hE.ntT] | rewrite [hE.ntF] | rewrite [hE.pkT] | rewrite [hE.pkF] | rewrite [hE.anT] | rewrite [hE.anF] | rewrite [hE.anT'] | rewrite [hE.anF'])); cbv)); (repeat first | refine ⟨(fun h => absurd h Bool.false_ne_true), ?_⟩ | refine ⟨(hE.o (by simp only [Ob.den, hE.e_iN, hE.e_tn, hE.e_aN, hE.e_sN, hE.e_sI, hE.e_mn] <;> omega)), ?_⟩ | refine ⟨fun _ => (hE.o (by simp only [Ob.den, hE.e_iN, hE.e_tn, hE.e_aN, hE.e_sN, hE.e_sI, hE.e_mn] <;> omega)), ?_⟩ | refine ⟨fun h => h, ?_⟩ | refine ⟨fun _ => rfl, ?_⟩ | refine ⟨fun _ h => h, ?_⟩ | refine ⟨fun _ _ => True.intro, ?_⟩ | refine ⟨fun _ h => absurd h Bool.false_ne_true, ?_⟩ | refine ⟨fun _ => True.intro, ?_⟩ | refine ⟨fun _ _ => rfl, ?_⟩ | refine ⟨(fun h => Bool.noConfusion h), ?_⟩ | refine ⟨fun _ h => Bool.noConfusion h, ?_⟩ | refine ⟨fun _ h => by rw [h, hE.ntF], ?_⟩ | refine ⟨True.intro, ?_⟩)
        refine call_ct hX [] [0] (ct76 o (.new 5) n m B C hn (by omega) p (iN p) ⟨hE.e_iN⟩ hp true ht) (fits_fz rfl ⟨fitU_refl _, fitU_refl _, ⟨rfl, rfl, rfl, rfl, rfl, by omega, fun i hi => by rw [Nat.zero_add]⟩, trivial⟩) rfl ⟨trivial, trivial⟩ ?_
        cbv; (repeat ((first | rewrite [ni] | rewrite [hE.ntT] | rewrite [hE.ntF] | rewrite [hE.pkT] | rewrite [hE.pkF] | rewrite [hE.anT] | rewrite [hE.anF] | rewrite [hE.anT'] | rewrite [hE.anF']); (repeat (first | rewrite [ni] | rewrite [hE.ntT] | rewrite [hE.ntF] | rewrite [hE.pkT] | rewrite [hE.pkF] | rewrite [hE.anT] | rewrite [hE.anF] | rewrite [hE.anT'] | rewrite [hE.anF'])); cbv)); (repeat first | refine ⟨(fun h => absurd h Bool.false_ne_true), ?_⟩ | refine ⟨(hE.o (by simp only [Ob.den, hE.e_iN, hE.e_tn, hE.e_aN, hE.e_sN, hE.e_sI, hE.e_mn] <;> omega)), ?_⟩ | refine ⟨fun _ => (hE.o (by simp only [Ob.den, hE.e_iN, hE.e_tn, hE.e_aN, hE.e_sN, hE.e_sI, hE.e_mn] <;> omega)), ?_⟩ | refine ⟨fun h => h, ?_⟩ | refine ⟨fun _ => rfl, ?_⟩ | refine ⟨fun _ h => h, ?_⟩ | refine ⟨fun _ _ => True.intro, ?_⟩ | refine ⟨fun _ h => absurd h Bool.false_ne_true, ?_⟩ | refine ⟨fun _ => True.intro, ?_⟩ | refine ⟨fun _ _ => rfl, ?_⟩ | refine ⟨(fun h => Bool.noConfusion h), ?_⟩ | refine ⟨fun _ h => Bool.noConfusion h, ?_⟩ | refine ⟨fun _ h => by rw [h, hE.ntF], ?_⟩ | refine ⟨True.intro, ?_⟩)
        refine call_ct hX [] [] (ct57 v hw4 m C hC (iN v) ⟨hE.e_iN⟩) (fits_nil ⟨fitU_refl _, trivial⟩) rfl trivial ?_
        cbv; (repeat ((first | rewrite [kn] | rewrite [n1] | rewrite [n2] | rewrite [hE.ntT] | rewrite [hE.ntF] | rewrite [hE.pkT] | rewrite [hE.pkF] | rewrite [hE.anT] | rewrite [hE.anF] | rewrite [hE.anT'] | rewrite [hE.anF']); (repeat (first | rewrite [kn] | rewrite [n1] | rewrite [n2] | rewrite [hE.ntT] | rewrite [hE.ntF] | rewrite [hE.pkT] | rewrite [hE.pkF] | rewrite [hE.anT] | rewrite [hE.anF] | rewrite [hE.anT'] | rewrite [hE.anF'])); cbv)); (repeat first | refine ⟨(fun h => absurd h Bool.false_ne_true), ?_⟩ | refine ⟨(hE.o (by simp only [Ob.den, hE.e_iN, hE.e_tn, hE.e_aN, hE.e_sN, hE.e_sI, hE.e_mn] <;> omega)), ?_⟩ | refine ⟨fun _ => (hE.o (by simp only [Ob.den, hE.e_iN, hE.e_tn, hE.e_aN, hE.e_sN, hE.e_sI, hE.e_mn] <;> omega)), ?_⟩ | refine ⟨fun h => h, ?_⟩ | refine ⟨fun _ => rfl, ?_⟩ | refine ⟨fun _ h => h, ?_⟩ | refine ⟨fun _ _ => True.intro, ?_⟩ | refine ⟨fun _ h => absurd h Bool.false_ne_true, ?_⟩ | refine ⟨fun _ => True.intro, ?_⟩ | refine ⟨fun _ _ => rfl, ?_⟩ | refine ⟨(fun h => Bool.noConfusion h), ?_⟩ | refine ⟨fun _ h => Bool.noConfusion h, ?_⟩ | refine ⟨fun _ h => by rw [h, hE.ntF], ?_⟩ | refine ⟨True.intro, ?_⟩)
        exact ct_flat [] rfl ⟨fitU_refl _, fitU_refl _, fitU_refl _, trivial⟩
      · have k2 := k2 rfl
        cbv; (repeat ((first | rewrite [k0] | rewrite [n1] | rewrite [k3] | rewrite [m3] | rewrite [m4] | rewrite [m6] | rewrite [k1] | rewrite [k2] | rewrite [m1] | rewrite [m2] | rewrite [m5] | rewrite [kl] | rewrite [hE.tnN] | rewrite [hE.ntT] | rewrite [hE.ntF] | rewrite [hE.pkT] | rewrite [hE.pkF] | rewrite [hE.anT] | rewrite [hE.anF] | rewrite [hE.anT'] | rewrite [hE.anF']); (repeat (first | rewrite [k0] | rewrite [n1] | rewrite [k3] | rewrite [m3] | rewrite [m4] | rewrite [m6] | rewrite [k1] | rewrite [k2] | rewrite [m1] | rewrite [m2] | rewrite [m5] | rewrite [kl] | rewrite [hE.tnN] | rewrite [hE.ntT] | rewrite [hE.ntF] | rewrite [hE.pkT] | rewrite [hE.pkF] | rewrite [hE.anT] | rewrite [hE.anF] | rewrite [hE.anT'] | rewrite [hE.anF'])); cbv)); (repeat first | refine ⟨(fun h => absurd h Bool.false_ne_true), ?_⟩ | refine ⟨(hE.o (by simp only [Ob.den, hE.e_iN, hE.e_tn, hE.e_aN, hE.e_sN, hE.e_sI, hE.e_mn] <;> omega)), ?_⟩ | refine ⟨fun _ => (hE.o (by simp only [Ob.den, hE.e_iN, hE.e_tn, hE.e_aN, hE.e_sN, hE.e_sI, hE.e_mn] <;> omega)), ?_⟩ | refine ⟨fun h => h, ?_⟩ | refine ⟨fun _ => rfl, ?_⟩ | refine ⟨fun _ h => h, ?_⟩ | refine ⟨fun _ _ => True.intro, ?_⟩ | refine ⟨fun _ h => absurd h Bool.false_ne_true, ?_⟩ | refine ⟨fun _ => True.intro, ?_⟩ | refine ⟨fun _ _ => rfl, ?_⟩ | refine ⟨(fun h => Bool.noConfusion h), ?_⟩ | refine ⟨fun _ h => Bool.noConfusion h, ?_⟩ | refine ⟨fun _ h => by rw [h, hE.ntF], ?_⟩ | refine ⟨True.intro, ?_⟩)
        refine call_ct hX [] [] (ct57 v hw4 m C hC (iN v) ⟨hE.e_iN⟩) (fits_nil ⟨fitU_refl _, trivial⟩) rfl trivial ?_
        cbv; (repeat ((first | rewrite [hE.ntT] | rewrite [hE.ntF] | rewrite [hE.pkT] | rewrite [hE.pkF] | rewrite [hE.anT] | rewrite [hE.anF] | rewrite [hE.anT'] | rewrite [hE.anF']); (repeat (first | rewrite [hE.ntT] | rewrite [hE.ntF] | rewrite [hE.pkT] | rewrite [hE.pkF] | rewrite [hE.anT] | rewrite [hE.anF] | rewrite [hE.anT'] | rewrite [hE.anF'])); cbv)); (repeat first | refine ⟨(fun h => absurd h Bool.false_ne_true), ?_⟩ | refine ⟨(hE.o (by simp only [Ob.den, hE.e_iN, hE.e_tn, hE.e_aN, hE.e_sN, hE.e_sI, hE.e_mn] <;> omega)), ?_⟩ | refine ⟨fun _ => (hE.o (by simp only [Ob.den, hE.e_iN, hE.e_tn, hE.e_aN, hE.e_sN, hE.e_sI, hE.e_mn] <;> omega)), ?_⟩ | refine ⟨fun h => h, ?_⟩ | refine ⟨fun _ => rfl, ?_⟩ | refine ⟨fun _ h => h, ?_⟩ | refine ⟨fun _ _ => True.intro, ?_⟩ | refine ⟨fun _ h => absurd h Bool.false_ne_true, ?_⟩ | refine ⟨fun _ => True.intro, ?_⟩ | refine ⟨fun _ _ => rfl, ?_⟩ | refine ⟨(fun h => Bool.noConfusion h), ?_⟩ | refine ⟨fun _ h => Bool.noConfusion h, ?_⟩ | refine ⟨fun _ h => by rw [h, hE.ntF], ?_⟩ | refine ⟨True.intro, ?_⟩)
        refine call_ct hX [] [0] (ct76 o (.new 5) n m B C hn (by omega) p (iN p) ⟨hE.e_iN⟩ hp true ht) (fits_fz rfl ⟨fitU_refl _, fitU_refl _, ⟨rfl, rfl, rfl, rfl, rfl, by omega, fun i hi => by rw [Nat.zero_add]⟩, trivial⟩) rfl ⟨trivial, trivial⟩ ?_
        cbv; (repeat ((first | rewrite [ni] | rewrite [hE.ntT] | rewrite [hE.ntF] | rewrite [hE.pkT] | rewrite [hE.pkF] | rewrite [hE.anT] | rewrite [hE.anF] | rewrite [hE.anT'] | rewrite [hE.anF']); (repeat (first | rewrite [ni] | rewrite [hE.ntT] | rewrite [hE.ntF] | rewrite [hE.pkT] | rewrite [hE.pkF] | rewrite [hE.anT] | rewrite [hE.anF] | rewrite [hE.anT'] | rewrite [hE.anF'])); cbv)); (repeat first | refine ⟨(fun h => absurd h Bool.false_ne_true), ?_⟩ | refine ⟨(hE.o (by simp only [Ob.den, hE.e_iN, hE.e_tn, hE.e_aN, hE.e_sN, hE.e_sI, hE.e_mn] <;> omega)), ?_⟩ | refine ⟨fun _ => (hE.o (by simp only [Ob.den, hE.e_iN, hE.e_tn, hE.e_aN, hE.e_sN, hE.e_sI, hE.e_mn] <;> omega)), ?_⟩ | refine ⟨fun h => h, ?_⟩ | refine ⟨fun _ => rfl, ?_⟩ | refine ⟨fun _ h => h, ?_⟩ | refine ⟨fun _ _ => True.intro, ?_⟩ | refine ⟨fun _ h => absurd h Bool.false_ne_true, ?_⟩ | refine ⟨fun _ => True.intro, ?_⟩ | refine ⟨fun _ _ => rfl, ?_⟩ | refine ⟨(fun h => Bool.noConfusion h), ?_⟩ | refine ⟨fun _ h => Bool.noConfusion h, ?_⟩ | refine ⟨fun _ h => by rw [h, hE.ntF], ?_⟩ | refine ⟨True.intro, ?_⟩)
        refine call_ct hX [] [] (ct57 v hw4 m C hC (iN v) ⟨hE.e_iN⟩) (fits_nil ⟨fitU_refl _, trivial⟩) rfl trivial ?_
        cbv; (repeat ((first | rewrite [kn] | rewrite [n1] | rewrite [n2] | rewrite [hE.ntT] | rewrite [hE.ntF] | rewrite [hE.pkT] | rewrite [hE.pkF] | rewrite [hE.anT] | rewrite [hE.anF] | rewrite [hE.anT'] | rewrite [hE.anF']); (repeat (first | rewrite [kn] | rewrite [n1] | rewrite [n2] | rewrite [hE.ntT] | rewrite [hE.ntF] | rewrite [hE.pkT] | rewrite [hE.pkF] | rewrite [hE.anT] | rewrite [hE.anF] | rewrite [hE.anT'] | rewrite [hE.anF'])); cbv)); (repeat first | refine ⟨(fun h => absurd h Bool.false_ne_true), ?_⟩ | refine ⟨(hE.o (by simp only [Ob.den, hE.e_iN, hE.e_tn, hE.e_aN, hE.e_sN, hE.e_sI, hE.e_mn] <;> omega)), ?_⟩ | refine ⟨fun _ => (hE.o (by simp only [Ob.den, hE.e_iN, hE.e_tn, hE.e_aN, hE.e_sN, hE.e_sI, hE.e_mn] <;> omega)), ?_⟩ | refine ⟨fun h => h, ?_⟩ | refine ⟨fun _ => rfl, ?_⟩ | refine ⟨fun _ h => h, ?_⟩ | refine ⟨fun _ _ => True.intro, ?_⟩ | refine ⟨fun _ h => absurd h Bool.false_ne_true, ?_⟩ | refine ⟨fun _ => True.intro, ?_⟩ | refine ⟨fun _ _ => rfl, ?_⟩ | refine ⟨(fun h => Bool.noConfusion h), ?_⟩ | refine ⟨fun _ h => Bool.noConfusion h, ?_⟩ | refine ⟨fun _ h => by rw [h, hE.ntF], ?_⟩ | refine ⟨True.intro, ?_⟩)
        exact ct_flat [] rfl ⟨fitU_refl _, fitU_refl _, fitU_refl _, trivial⟩
    · have hi9 : i ≠ 9 := fun h => by have := h9' h; omega
      rw [if_neg (fun h => by omega), if_neg hl] at h
      have kl : ic .lss (B P) 128 = false := by rw [hE.lss]; exact decide_eq_false hl
      have k1 : ic .eql (iN i) 9 = false := by rw [hE.eql, hE.e_iN]; exact decide_eq_false (by omega)
      cases f with
      | zero => omega
      | succ f =>
        cbv; (repeat ((first | rewrite [k0] | rewrite [n1] | rewrite [k3] | rewrite [m3] | rewrite [m4] | rewrite [m6] | rewrite [k1] | rewrite [m1] | rewrite [m2] | rewrite [m5] | rewrite [kl] | rewrite [ni] | rewrite [hE.tnN] | rewrite [hE.ntT] | rewrite [hE.ntF] | rewrite [hE.pkT] | rewrite [hE.pkF] | rewrite [hE.anT] | rewrite [hE.anF] | rewrite [hE.anT'] | rewrite [hE.anF']); (repeat (first | rewrite [k0] | rewrite [n1] | rewrite [k3] | rewrite [m3] | rewrite [m4] | rewrite [m6] | rewrite [k1] | rewrite [m1] | rewrite [m2] | rewrite [m5] | rewrite [kl] | rewrite [ni] | rewrite [hE.tnN] | rewrite [hE.ntT] | rewrite [hE.ntF] | rewrite [hE.pkT] | rewrite [hE.pkF] | rewrite [hE.anT] | rewrite [hE.anF] | rewrite [hE.anT'] | rewrite [hE.anF'])); cbv)); (repeat first | refine ⟨(fun h => absurd h Bool.false_ne_true), ?_⟩ | refine ⟨(hE.o (by simp only [Ob.den, hE.e_iN, hE.e_tn, hE.e_aN, hE.e_sN, hE.e_sI, hE.e_mn] <;> omega)), ?_⟩ | refine ⟨fun _ => (hE.o (by simp only [Ob.den, hE.e_iN, hE.e_tn, hE.e_aN, hE.e_sN, hE.e_sI, hE.e_mn] <;> omega)), ?_⟩ | refine ⟨fun h => h, ?_⟩ | refine ⟨fun _ => rfl, ?_⟩ | refine ⟨fun _ h => h, ?_⟩ | refine ⟨fun _ _ => True.intro, ?_⟩ | refine ⟨fun _ h => absurd h Bool.false_ne_true, ?_⟩ | refine ⟨fun _ => True.intro, ?_⟩ | refine ⟨fun _ _ => rfl, ?_⟩ | refine ⟨(fun h => Bool.noConfusion h), ?_⟩ | refine ⟨fun _ h => Bool.noConfusion h, ?_⟩ | refine ⟨fun _ h => by rw [h, hE.ntF], ?_⟩ | refine ⟨True.intro, ?_⟩)
        exact ⟨(i + 1, f, a2), ⟨by dsimp only; omega, h, ha2, fun j hj => by rcases Nat.lt_or_ge j i with h | h; exact hm j h; (obtain rfl : j = i := by dsimp only at hj; omega); rw [← hP]; omega⟩, by dsimp only; omega, [], [], ⟨rfl, rfl, rfl, rfl, trivial⟩, by (cbv <;> (repeat' first | exact True.intro | exact ⟨.inr trivial, fun _ _ => rfl⟩ | exact rfl | exact fun _ _ => rfl | refine And.intro ?_ ?_ | rw [hE.iN0] | rw [hE.e_aN]))⟩
end Ytohkcdfjpgdfbaa
end
section
open Go Am
set_option maxRecDepth 100000
set_option maxHeartbeats 4000000
set_option linter.unusedVariables false
set_option linter.unusedSimpArgs false
namespace Ytohkcdfjpgdfbaa
inductive TakeT (n : Nat) (B : Nat → Int) (p : Nat) : ByteArray → Nat → Int → Prop
  | fail (v q e) (h : Take n B p v q e) (he : e ≠ 0) : TakeT n B p ⟨⟨[]⟩⟩ p e
  | short (v q) (h : Take n B p v q 0) (hv : n < q + v) : TakeT n B p ⟨⟨[]⟩⟩ p 10
  | ok (v q) (h : Take n B p v q 0) (hv : q + v ≤ n) : TakeT n B p (bytesOf v fun j => B (q + j)) (q + v) 0
theorem takeT_ex (n : Nat) (B : Nat → Int) (p : Nat) : ∃ s q e, TakeT n B p s q e := by
  obtain ⟨v, q, e, h⟩ := take_ex n B p
  by_cases he : e = 0
  · subst he
    by_cases hv : q + v ≤ n
    · exact ⟨_, _, _, .ok v q h hv⟩
    · exact ⟨_, _, _, .short v q h (by omega)⟩
  · exact ⟨_, _, _, .fail v q e h he⟩
theorem TakeT.q {n : Nat} {B : Nat → Int} {p q : Nat} {s : ByteArray} {e : Int} (h : TakeT n B p s q e) (hB : Byte B) : (e = 0 → p + 1 ≤ q ∧ q ≤ n ∧ s.size ≤ n) ∧ (e ≠ 0 → q = p ∧ s = ⟨⟨[]⟩⟩) := by
  cases h with
  | fail v q e h he => exact ⟨fun h => absurd h he, fun _ => ⟨rfl, rfl⟩⟩
  | short v q h hv => exact ⟨fun h => by omega, fun _ => ⟨rfl, rfl⟩⟩
  | ok v q h hv =>
    have := (h.val hB).2.2.1 rfl
    refine ⟨fun _ => ⟨by omega, hv, ?_⟩, fun h => absurd rfl h⟩
    show (List.toArray _).size ≤ n
    simp; omega
theorem bytesOf_congr {v : Nat} {f g : Nat → Int} (h : ∀ j, f j = g j) : bytesOf v f = bytesOf v g := by rw [funext h]
theorem _root_.Am.Ax.ofB_sub {ob : Ob → Prop} {ib : BinOp → IntKind → Int → Int → Int} {ic : BinOp → Int → Int → Bool} {sb : BinOp → ByteArray → ByteArray → Bool} {cat : ByteArray → ByteArray → ByteArray} {iu : UnOp → IntKind → Int → Int} {nt : Bool → Bool} {an : Bool → Bool → Bool} {be : Bool → Bool → Bool} {pk : Bool → Bool → Bool → Bool} {wr : IntKind → Int → Int} {tn : Int → Nat} {iN : Nat → Int} {aN : Nat → Nat → Nat} {sN : Nat → Nat → Nat} {lN : Nat → Nat → Bool} {eN : Nat → Nat → Bool} {bt : ByteArray → Int → Int} {sub : ByteArray → Int → Int → ByteArray} {sl : ByteArray → Int} {rn : Int → ByteArray} {ofB : Nat → (Nat → List U) → ByteArray} {mn : Int → Int → Int} {dc : ByteArray → Nat → Int} {dn : ByteArray → Nat → Nat} {sI : Int → Int → Int} (hE : Ax ob ib ic sb cat iu nt an be pk wr tn iN aN sN lN eN bt sub sl rn ofB mn dc dn sI) {B : Nat → Int} {q v w : Nat} (h : w = q + v) : ofB (tn (sI (iN w) (iN q))) (fun k => rI B (aN (tn (iN q)) k)) = bytesOf v fun j => B (q + j) := by
  have h1 : tn (sI (iN w) (iN q)) = v := by rw [hE.e_sI, hE.e_tn, hE.e_iN, hE.e_iN]; omega
  have h2 : (fun k => rI B (aN (tn (iN q)) k)) = rI fun j => B (q + j) := funext fun k => by
    show [U.sc (.int .u8 (B (aN (tn (iN q)) k)))] = [U.sc (.int .u8 (B (q + k)))]
    rw [hE.e_aN, hE.tnN]
  rw [h1, h2, hE.ofB_rI]
theorem ct60 (o : Tg) (n : Nat) (B : Nat → Int) (hB : Byte B) (hn : n ≤ 1000000) (p : Nat) (z : Int) (hz : IsN z p) (hp : p ≤ 1000000) (s : ByteArray) (q : Nat) (e : Int) (h : TakeT n B p s q e) (qz : Int) (hq : IsN qz q) :
    CT Go.Proofs.Try.prog 60 [bS o n B, scI .i64 z] [] (.tp [strV s, scI .i64 qz, scI .i64 e]) [] := by
  obtain ⟨v, q1, e1, h1⟩ := take_ex n B p
  have hv := h1.val hB
  obtain ⟨vz, hvz⟩ : ∃ z : Int, IsN z v := ⟨_, ⟨rfl⟩⟩
  obtain ⟨qz1, hqz1⟩ : ∃ z : Int, IsN z q1 := ⟨_, ⟨rfl⟩⟩
  have hct := ct59 o n B hB hn p z hz hp v q1 e1 h1 vz qz1 hvz hqz1
  obtain ⟨S, hS⟩ : ∃ S, S = bytesOf v fun j => B (q1 + j) := ⟨_, rfl⟩
  have hcase : (e1 ≠ 0 ∧ s = ⟨⟨[]⟩⟩ ∧ q = p ∧ e = e1) ∨ (e1 = 0 ∧ n < q1 + v ∧ s = ⟨⟨[]⟩⟩ ∧ q = p ∧ e = 10) ∨ (e1 = 0 ∧ q1 + v ≤ n ∧ s = S ∧ q = q1 + v ∧ e = 0) := by
    have u : ∀ {v' q' e'}, Take n B p v' q' e' → v' = v ∧ q' = q1 ∧ e' = e1 := fun h' => by
      have := h'.e.symm.trans h1.e
      exact ⟨congrArg (·.1) this, congrArg (·.2.1) this, congrArg (·.2.2) this⟩
    cases h with
    | fail v' q' e' h he => obtain ⟨rfl, rfl, rfl⟩ := u h; exact .inl ⟨he, rfl, rfl, rfl⟩
    | short v' q' h hv' => obtain ⟨rfl, rfl, rfl⟩ := u h; exact .inr (.inl ⟨rfl, hv', rfl, rfl, rfl⟩)
    | ok v' q' h hv' => obtain ⟨rfl, rfl, rfl⟩ := u h; exact .inr (.inr ⟨rfl, hv', hS.symm, rfl, rfl⟩)
  rcases hcase with ⟨he1, rfl, rfl, rfl⟩ | ⟨rfl, hlt, rfl, rfl, rfl⟩ | ⟨rfl, hle, hs, rfl, rfl⟩
  · refine enter60 rfl rfl ?_
    intro ob ib ic sb cat iu nt an be pk wr tn iN aN sN lN eN bt sub sl rn ofB mn dc dn sI X hE hX
    cbv
    rw [show vz = iN v by rw [hE.e_iN, hvz.e], show qz1 = iN q1 by rw [hE.e_iN, hqz1.e]] at hct
    refine call_ct hX [] [] hct (fits_nil ⟨fitU_refl _, fitU_refl _, trivial⟩) rfl trivial ?_
    have c1 : ic .neq e 0 = true := by rw [hE.neq]; simp [he1]
    rw [show qz = z by rw [hq.e, hz.e]]
    cbv; (repeat ((first | rewrite [c1] | rewrite [hE.ntT] | rewrite [hE.ntF] | rewrite [hE.pkT] | rewrite [hE.pkF] | rewrite [hE.anT] | rewrite [hE.anF] | rewrite [hE.anT'] | rewrite [hE.anF']); (repeat (first | rewrite [c1] | rewrite [hE.ntT] | rewrite [hE.ntF] | rewrite [hE.pkT] | rewrite [hE.pkF] | rewrite [hE.anT] | rewrite [hE.anF] | rewrite [hE.anT'] | rewrite [hE.anF'])); cbv)); (repeat first | refine ⟨(fun h => absurd h Bool.false_ne_true), ?_⟩ | refine ⟨hE.o (q := .bts _ _) (fun i _ => ⟨_, rfl⟩), ?_⟩ | refine ⟨(hE.o (by simp only [Ob.den, hE.e_iN, hE.e_tn, hE.e_aN, hE.e_sN, hE.e_sI, hE.e_mn] <;> omega)), ?_⟩ | refine ⟨fun _ => (hE.o (by simp only [Ob.den, hE.e_iN, hE.e_tn, hE.e_aN, hE.e_sN, hE.e_sI, hE.e_mn] <;> omega)), ?_⟩ | refine ⟨fun h => h, ?_⟩ | refine ⟨fun _ => rfl, ?_⟩ | refine ⟨fun _ h => h, ?_⟩ | refine ⟨fun _ _ => True.intro, ?_⟩ | refine ⟨fun _ h => absurd h Bool.false_ne_true, ?_⟩ | refine ⟨fun _ => True.intro, ?_⟩ | refine ⟨fun _ _ => rfl, ?_⟩ | refine ⟨(fun h => Bool.noConfusion h), ?_⟩ | refine ⟨fun _ h => Bool.noConfusion h, ?_⟩ | refine ⟨fun _ h => by rw [h, hE.ntF], ?_⟩ | refine ⟨True.intro, ?_⟩)
    exact ct_flat [] rfl ⟨fitU_refl _, fitU_refl _, fitU_refl _, trivial⟩
  · have hv3 := hv.2.2.1 rfl
    refine enter60 rfl rfl ?_
    intro ob ib ic sb cat iu nt an be pk wr tn iN aN sN lN eN bt sub sl rn ofB mn dc dn sI X hE hX
    cbv
    rw [show vz = iN v by rw [hE.e_iN, hvz.e], show qz1 = iN q1 by rw [hE.e_iN, hqz1.e]] at hct
    refine call_ct hX [] [] hct (fits_nil ⟨fitU_refl _, fitU_refl _, trivial⟩) rfl trivial ?_
    rw [show qz = z by rw [hq.e, hz.e]]
    have c1 : ic .neq 0 0 = false := by rw [hE.neq]; rfl
    have a1 : ib .sub .i64 (iN n) (iN q1) = iN (n - q1) := hE.subN (by omega) (by omega)
    have a2 : wr .u64 (iN (n - q1)) = iN (n - q1) := hE.wr64N (by omega)
    have c2 : ic .gtr (iN v) (iN (n - q1)) = true := by rw [hE.gtN]; exact decide_eq_true (by omega)
    generalize n - q1 = d at a1 a2 c2
    cbv; (repeat ((first | rewrite [c1] | rewrite [a1] | rewrite [a2] | rewrite [c2] | rewrite [hE.ntT] | rewrite [hE.ntF] | rewrite [hE.pkT] | rewrite [hE.pkF] | rewrite [hE.anT] | rewrite [hE.anF] | rewrite [hE.anT'] | rewrite [hE.anF']); (repeat (first | rewrite [c1] | rewrite [a1] | rewrite [a2] | rewrite [c2] | rewrite [hE.ntT] | rewrite [hE.ntF] | rewrite [hE.pkT] | rewrite [hE.pkF] | rewrite [hE.anT] | rewrite [hE.anF] | rewrite [hE.anT'] | rewrite [hE.anF'])); cbv)); (repeat first | refine ⟨(fun h => absurd h Bool.false_ne_true), ?_⟩ | refine ⟨hE.o (q := .bts _ _) (fun i _ => ⟨_, rfl⟩), ?_⟩ | refine ⟨(hE.o (by simp only [Ob.den, hE.e_iN, hE.e_tn, hE.e_aN, hE.e_sN, hE.e_sI, hE.e_mn] <;> omega)), ?_⟩ | refine ⟨fun _ => (hE.o (by simp only [Ob.den, hE.e_iN, hE.e_tn, hE.e_aN, hE.e_sN, hE.e_sI, hE.e_mn] <;> omega)), ?_⟩ | refine ⟨fun h => h, ?_⟩ | refine ⟨fun _ => rfl, ?_⟩ | refine ⟨fun _ h => h, ?_⟩ | refine ⟨fun _ _ => True.intro, ?_⟩ | refine ⟨fun _ h => absurd h Bool.false_ne_true, ?_⟩ | refine ⟨fun _ => True.intro, ?_⟩ | refine ⟨fun _ _ => rfl, ?_⟩ | refine ⟨(fun h => Bool.noConfusion h), ?_⟩ | refine ⟨fun _ h => Bool.noConfusion h, ?_⟩ | refine ⟨fun _ h => by rw [h, hE.ntF], ?_⟩ | refine ⟨True.intro, ?_⟩)
    exact ct_flat [] rfl ⟨fitU_refl _, fitU_refl _, fitU_refl _, trivial⟩
  · have hv3 := hv.2.2.1 rfl
    obtain ⟨w, hw⟩ : ∃ w, w = q1 + v := ⟨_, rfl⟩
    rw [← hw] at hle hq
    refine enter60 rfl rfl ?_
    intro ob ib ic sb cat iu nt an be pk wr tn iN aN sN lN eN bt sub sl rn ofB mn dc dn sI X hE hX
    cbv
    rw [show vz = iN v by rw [hE.e_iN, hvz.e], show qz1 = iN q1 by rw [hE.e_iN, hqz1.e]] at hct
    refine call_ct hX [] [] hct (fits_nil ⟨fitU_refl _, fitU_refl _, trivial⟩) rfl trivial ?_
    have c1 : ic .neq 0 0 = false := by rw [hE.neq]; rfl
    have a3 : wr .i64 (iN v) = iN v := hE.wri64N (by omega)
    have a4 : ib .add .i64 (iN q1) (iN v) = iN w := by rw [hw]; exact hE.addN (by omega)
    have hx := hE.ofB_sub (B := B) (q := q1) (v := v) hw
    rw [← hS, ← hs] at hx
    rw [show qz = iN w by rw [hE.e_iN, hq.e]]
    have a1 : ib .sub .i64 (iN n) (iN q1) = iN (n - q1) := hE.subN (by omega) (by omega)
    have a2 : wr .u64 (iN (n - q1)) = iN (n - q1) := hE.wr64N (by omega)
    have c2 : ic .gtr (iN v) (iN (n - q1)) = false := by rw [hE.gtN]; exact decide_eq_false (by omega)
    generalize n - q1 = d at a1 a2 c2
    cbv; (repeat ((first | rewrite [c1] | rewrite [a1] | rewrite [a2] | rewrite [c2] | rewrite [a3] | rewrite [a4] | rewrite [hE.ntT] | rewrite [hE.ntF] | rewrite [hE.pkT] | rewrite [hE.pkF] | rewrite [hE.anT] | rewrite [hE.anF] | rewrite [hE.anT'] | rewrite [hE.anF']); (repeat (first | rewrite [c1] | rewrite [a1] | rewrite [a2] | rewrite [c2] | rewrite [a3] | rewrite [a4] | rewrite [hE.ntT] | rewrite [hE.ntF] | rewrite [hE.pkT] | rewrite [hE.pkF] | rewrite [hE.anT] | rewrite [hE.anF] | rewrite [hE.anT'] | rewrite [hE.anF'])); cbv)); (repeat first | refine ⟨(fun h => absurd h Bool.false_ne_true), ?_⟩ | refine ⟨hE.o (q := .bts _ _) (fun i _ => ⟨_, rfl⟩), ?_⟩ | refine ⟨(hE.o (by simp only [Ob.den, hE.e_iN, hE.e_tn, hE.e_aN, hE.e_sN, hE.e_sI, hE.e_mn] <;> omega)), ?_⟩ | refine ⟨fun _ => (hE.o (by simp only [Ob.den, hE.e_iN, hE.e_tn, hE.e_aN, hE.e_sN, hE.e_sI, hE.e_mn] <;> omega)), ?_⟩ | refine ⟨fun h => h, ?_⟩ | refine ⟨fun _ => rfl, ?_⟩ | refine ⟨fun _ h => h, ?_⟩ | refine ⟨fun _ _ => True.intro, ?_⟩ | refine ⟨fun _ h => absurd h Bool.false_ne_true, ?_⟩ | refine ⟨fun _ => True.intro, ?_⟩ | refine ⟨fun _ _ => rfl, ?_⟩ | refine ⟨(fun h => Bool.noConfusion h), ?_⟩ | refine ⟨fun _ h => Bool.noConfusion h, ?_⟩ | refine ⟨fun _ h => by rw [h, hE.ntF], ?_⟩ | refine ⟨True.intro, ?_⟩)
    rw [hx]
    exact ct_flat [] rfl ⟨fitU_refl _, fitU_refl _, fitU_refl _, trivial⟩
theorem ct62 (o : Tg) (n : Nat) (B : Nat → Int) (hB : Byte B) (hn : n ≤ 1000000) (p : Nat) (z : Int) (hz : IsN z p) (hp : p ≤ 1000000) (s : ByteArray) (q : Nat) (e : Int) (h : TakeT n B p s q e) (qz : Int) (hq : IsN qz q) :
    CT Go.Proofs.Try.prog 62 [bS o n B, scI .i64 z] [] (.tp [strV s, scI .i64 qz, scI .i64 e]) [] := by
  obtain ⟨v, q1, e1, h1⟩ := take_ex n B p
  have hv := h1.val hB
  obtain ⟨vz, hvz⟩ : ∃ z : Int, IsN z v := ⟨_, ⟨rfl⟩⟩
  obtain ⟨qz1, hqz1⟩ : ∃ z : Int, IsN z q1 := ⟨_, ⟨rfl⟩⟩
  have hct := ct61 o n B hB hn p z hz hp v q1 e1 h1 vz qz1 hvz hqz1
  obtain ⟨S, hS⟩ : ∃ S, S = bytesOf v fun j => B (q1 + j) := ⟨_, rfl⟩
  have hcase : (e1 ≠ 0 ∧ s = ⟨⟨[]⟩⟩ ∧ q = p ∧ e = e1) ∨ (e1 = 0 ∧ n < q1 + v ∧ s = ⟨⟨[]⟩⟩ ∧ q = p ∧ e = 10) ∨ (e1 = 0 ∧ q1 + v ≤ n ∧ s = S ∧ q = q1 + v ∧ e = 0) := by
    have u : ∀ {v' q' e'}, Take n B p v' q' e' → v' = v ∧ q' = q1 ∧ e' = e1 := fun h' => by
      have := h'.e.symm.trans h1.e
      exact ⟨congrArg (·.1) this, congrArg (·.2.1) this, congrArg (·.2.2) this⟩
    cases h with
    | fail v' q' e' h he => obtain ⟨rfl, rfl, rfl⟩ := u h; exact .inl ⟨he, rfl, rfl, rfl⟩
    | short v' q' h hv' => obtain ⟨rfl, rfl, rfl⟩ := u h; exact .inr (.inl ⟨rfl, hv', rfl, rfl, rfl⟩)
    | ok v' q' h hv' => obtain ⟨rfl, rfl, rfl⟩ := u h; exact .inr (.inr ⟨rfl, hv', hS.symm, rfl, rfl⟩)
  rcases hcase with ⟨he1, rfl, rfl, rfl⟩ | ⟨rfl, hlt, rfl, rfl, rfl⟩ | ⟨rfl, hle, hs, rfl, rfl⟩
  · refine enter62 rfl rfl ?_
    intro ob ib ic sb cat iu nt an be pk wr tn iN aN sN lN eN bt sub sl rn ofB mn dc dn sI X hE hX
    cbv
    rw [show vz = iN v by rw [hE.e_iN, hvz.e], show qz1 = iN q1 by rw [hE.e_iN, hqz1.e]] at hct
    refine call_ct hX [] [] hct (fits_nil ⟨fitU_refl _, fitU_refl _, trivial⟩) rfl trivial ?_
    have c1 : ic .neq e 0 = true := by rw [hE.neq]; simp [he1]
    rw [show qz = z by rw [hq.e, hz.e]]
    cbv; (repeat ((first | rewrite [c1] | rewrite [hE.ntT] | rewrite [hE.ntF] | rewrite [hE.pkT] | rewrite [hE.pkF] | rewrite [hE.anT] | rewrite [hE.anF] | rewrite [hE.anT'] | rewrite [hE.anF']); (repeat (first | rewrite [c1] | rewrite [hE.ntT] | rewrite [hE.ntF] | rewrite [hE.pkT] | rewrite [hE.pkF] | rewrite [hE.anT] | rewrite [hE.anF] | rewrite [hE.anT'] | rewrite [hE.anF'])); cbv)); (repeat first | refine ⟨(fun h => absurd h Bool.false_ne_true), ?_⟩ | refine ⟨hE.o (q := .bts _ _) (fun i _ => ⟨_, rfl⟩), ?_⟩ | refine ⟨(hE.o (by simp only [Ob.den, hE.e_iN, hE.e_tn, hE.e_aN, hE.e_sN, hE.e_sI, hE.e_mn] <;> omega)), ?_⟩ | refine ⟨fun _ => (hE.o (by simp only [Ob.den, hE.e_iN, hE.e_tn, hE.e_aN, hE.e_sN, hE.e_sI, hE.e_mn] <;> omega)), ?_⟩ | refine ⟨fun h => h, ?_⟩ | refine ⟨fun _ => rfl, ?_⟩ | refine ⟨fun _ h => h, ?_⟩ | refine ⟨fun _ _ => True.intro, ?_⟩ | refine ⟨fun _ h => absurd h Bool.false_ne_true, ?_⟩ | refine ⟨fun _ => True.intro, ?_⟩ | refine ⟨fun _ _ => rfl, ?_⟩ | refine ⟨(fun h => Bool.noConfusion h), ?_⟩ | refine ⟨fun _ h => Bool.noConfusion h, ?_⟩ | refine ⟨fun _ h => by rw [h, hE.ntF], ?_⟩ | refine ⟨True.intro, ?_⟩)
    exact ct_flat [] rfl ⟨fitU_refl _, fitU_refl _, fitU_refl _, trivial⟩
  · have hv3 := hv.2.2.1 rfl
    refine enter62 rfl rfl ?_
    intro ob ib ic sb cat iu nt an be pk wr tn iN aN sN lN eN bt sub sl rn ofB mn dc dn sI X hE hX
    cbv
    rw [show vz = iN v by rw [hE.e_iN, hvz.e], show qz1 = iN q1 by rw [hE.e_iN, hqz1.e]] at hct
    refine call_ct hX [] [] hct (fits_nil ⟨fitU_refl _, fitU_refl _, trivial⟩) rfl trivial ?_
    rw [show qz = z by rw [hq.e, hz.e]]
    have c1 : ic .neq 0 0 = false := by rw [hE.neq]; rfl
    have a2 : wr .u64 (iN n) = iN n := hE.wr64N (by omega)
    by_cases hvn : n < v
    · have c2 : ic .gtr (iN v) (iN n) = true := by rw [hE.gtN]; exact decide_eq_true hvn
      cbv; (repeat ((first | rewrite [c1] | rewrite [a2] | rewrite [c2] | rewrite [hE.ntT] | rewrite [hE.ntF] | rewrite [hE.pkT] | rewrite [hE.pkF] | rewrite [hE.anT] | rewrite [hE.anF] | rewrite [hE.anT'] | rewrite [hE.anF']); (repeat (first | rewrite [c1] | rewrite [a2] | rewrite [c2] | rewrite [hE.ntT] | rewrite [hE.ntF] | rewrite [hE.pkT] | rewrite [hE.pkF] | rewrite [hE.anT] | rewrite [hE.anF] | rewrite [hE.anT'] | rewrite [hE.anF'])); cbv)); (repeat first | refine ⟨(fun h => absurd h Bool.false_ne_true), ?_⟩ | refine ⟨hE.o (q := .bts _ _) (fun i _ => ⟨_, rfl⟩), ?_⟩ | refine ⟨(hE.o (by simp only [Ob.den, hE.e_iN, hE.e_tn, hE.e_aN, hE.e_sN, hE.e_sI, hE.e_mn] <;> omega)), ?_⟩ | refine ⟨fun _ => (hE.o (by simp only [Ob.den, hE.e_iN, hE.e_tn, hE.e_aN, hE.e_sN, hE.e_sI, hE.e_mn] <;> omega)), ?_⟩ | refine ⟨fun h => h, ?_⟩ | refine ⟨fun _ => rfl, ?_⟩ | refine ⟨fun _ h => h, ?_⟩ | refine ⟨fun _ _ => True.intro, ?_⟩ | refine ⟨fun _ h => absurd h Bool.false_ne_true, ?_⟩ | refine ⟨fun _ => True.intro, ?_⟩ | refine ⟨fun _ _ => rfl, ?_⟩ | refine ⟨(fun h => Bool.noConfusion h), ?_⟩ | refine ⟨fun _ h => Bool.noConfusion h, ?_⟩ | refine ⟨fun _ h => by rw [h, hE.ntF], ?_⟩ | refine ⟨True.intro, ?_⟩)
      exact ct_flat [] rfl ⟨fitU_refl _, fitU_refl _, fitU_refl _, trivial⟩
    have c2 : ic .gtr (iN v) (iN n) = false := by rw [hE.gtN]; exact decide_eq_false hvn
    have a3 : wr .i64 (iN v) = iN v := hE.wri64N (by omega)
    have a4 : ib .add .i64 (iN q1) (iN v) = iN (q1 + v) := hE.addN (by omega)
    have c3 : ic .gtr (iN (q1 + v)) (iN n) = true := by rw [hE.gtN]; exact decide_eq_true hlt
    generalize q1 + v = w at a4 c3
    cbv; (repeat ((first | rewrite [c1] | rewrite [a2] | rewrite [c2] | rewrite [a3] | rewrite [a4] | rewrite [c3] | rewrite [hE.ntT] | rewrite [hE.ntF] | rewrite [hE.pkT] | rewrite [hE.pkF] | rewrite [hE.anT] | rewrite [hE.anF] | rewrite [hE.anT'] | rewrite [hE.anF']); (repeat (first | rewrite [c1] | rewrite [a2] | rewrite [c2] | rewrite [a3] | rewrite [a4] | rewrite [c3] | rewrite [hE.ntT] | rewrite [hE.ntF] | rewrite [hE.pkT] | rewrite [hE.pkF] | rewrite [hE.anT] | rewrite [hE.anF] | rewrite [hE.anT'] | rewrite [hE.anF'])); cbv)); (repeat first | refine ⟨(fun h => absurd h Bool.false_ne_true), ?_⟩ | refine ⟨hE.o (q := .bts _ _) (fun i _ => ⟨_, rfl⟩), ?_⟩ | refine ⟨(hE.o (by simp only [Ob.den, hE.e_iN, hE.e_tn, hE.e_aN, hE.e_sN, hE.e_sI, hE.e_mn] <;> omega)), ?_⟩ | refine ⟨fun _ => (hE.o (by simp only [Ob.den, hE.e_iN, hE.e_tn, hE.e_aN, hE.e_sN, hE.e_sI, hE.e_mn] <;> omega)), ?_⟩ | refine ⟨fun h => h, ?_⟩ | refine ⟨fun _ => rfl, ?_⟩ | refine ⟨fun _ h => h, ?_⟩ | refine ⟨fun _ _ => True.intro, ?_⟩ | refine ⟨fun _ h => absurd h Bool.false_ne_true, ?_⟩ | refine ⟨fun _ => True.intro, ?_⟩ | refine ⟨fun _ _ => rfl, ?_⟩ | refine ⟨(fun h => Bool.noConfusion h), ?_⟩ | refine ⟨fun _ h => Bool.noConfusion h, ?_⟩ | refine ⟨fun _ h => by rw [h, hE.ntF], ?_⟩ | refine ⟨True.intro, ?_⟩)
    exact ct_flat [] rfl ⟨fitU_refl _, fitU_refl _, fitU_refl _, trivial⟩
  · have hv3 := hv.2.2.1 rfl
    obtain ⟨w, hw⟩ : ∃ w, w = q1 + v := ⟨_, rfl⟩
    rw [← hw] at hle hq
    refine enter62 rfl rfl ?_
    intro ob ib ic sb cat iu nt an be pk wr tn iN aN sN lN eN bt sub sl rn ofB mn dc dn sI X hE hX
    cbv
    rw [show vz = iN v by rw [hE.e_iN, hvz.e], show qz1 = iN q1 by rw [hE.e_iN, hqz1.e]] at hct
    refine call_ct hX [] [] hct (fits_nil ⟨fitU_refl _, fitU_refl _, trivial⟩) rfl trivial ?_
    have c1 : ic .neq 0 0 = false := by rw [hE.neq]; rfl
    have a3 : wr .i64 (iN v) = iN v := hE.wri64N (by omega)
    have a4 : ib .add .i64 (iN q1) (iN v) = iN w := by rw [hw]; exact hE.addN (by omega)
    have hx := hE.ofB_sub (B := B) (q := q1) (v := v) hw
    rw [← hS, ← hs] at hx
    rw [show qz = iN w by rw [hE.e_iN, hq.e]]
    have a2 : wr .u64 (iN n) = iN n := hE.wr64N (by omega)
    have c2 : ic .gtr (iN v) (iN n) = false := by rw [hE.gtN]; exact decide_eq_false (by omega)
    have c3 : ic .gtr (iN w) (iN n) = false := by rw [hE.gtN]; exact decide_eq_false (by omega)
    cbv; (repeat ((first | rewrite [c1] | rewrite [a2] | rewrite [c2] | rewrite [a3] | rewrite [a4] | rewrite [c3] | rewrite [hE.ntT] | rewrite [hE.ntF] | rewrite [hE.pkT] | rewrite [hE.pkF] | rewrite [hE.anT] | rewrite [hE.anF] | rewrite [hE.anT'] | rewrite [hE.anF']); (repeat (first | rewrite [c1] | rewrite [a2] | rewrite [c2] | rewrite [a3] | rewrite [a4] | rewrite [c3] | rewrite [hE.ntT] | rewrite [hE.ntF] | rewrite [hE.pkT] | rewrite [hE.pkF] | rewrite [hE.anT] | rewrite [hE.anF] | rewrite [hE.anT'] | rewrite [hE.anF'])); cbv)); (repeat first | refine ⟨(fun h => absurd h Bool.false_ne_true), ?_⟩ | refine ⟨hE.o (q := .bts _ _) (fun i _ => ⟨_, rfl⟩), ?_⟩ | refine ⟨(hE.o (by simp only [Ob.den, hE.e_iN, hE.e_tn, hE.e_aN, hE.e_sN, hE.e_sI, hE.e_mn] <;> omega)), ?_⟩ | refine ⟨fun _ => (hE.o (by simp only [Ob.den, hE.e_iN, hE.e_tn, hE.e_aN, hE.e_sN, hE.e_sI, hE.e_mn] <;> omega)), ?_⟩ | refine ⟨fun h => h, ?_⟩ | refine ⟨fun _ => rfl, ?_⟩ | refine ⟨fun _ h => h, ?_⟩ | refine ⟨fun _ _ => True.intro, ?_⟩ | refine ⟨fun _ h => absurd h Bool.false_ne_true, ?_⟩ | refine ⟨fun _ => True.intro, ?_⟩ | refine ⟨fun _ _ => rfl, ?_⟩ | refine ⟨(fun h => Bool.noConfusion h), ?_⟩ | refine ⟨fun _ h => Bool.noConfusion h, ?_⟩ | refine ⟨fun _ h => by rw [h, hE.ntF], ?_⟩ | refine ⟨True.intro, ?_⟩)
    rw [hx]
    exact ct_flat [] rfl ⟨fitU_refl _, fitU_refl _, fitU_refl _, trivial⟩
end Ytohkcdfjpgdfbaa
end
section
open Go Am
set_option maxRecDepth 100000
set_option maxHeartbeats 4000000
set_option linter.unusedVariables false
set_option linter.unusedSimpArgs false
attribute [local irreducible] Am.vc Am.vcIns Am.vcD
namespace Ytohkcdfjpgdfbaa
inductive Prs (n : Nat) (B : Nat → Int) (many : Nat) : Nat → Nat → List (ByteArray × Nat) → Nat → Int → Prop
  | done (k p) (h : many ≤ k) : Prs n B many k p [] p 0
  | ft (k p s q e) (h : k < many) (ht : TakeT n B p s q e) (he : e ≠ 0) : Prs n B many k p [] p e
  | fn (k p s q v q2 e) (h : k < many) (ht : TakeT n B p s q 0) (hk : Take n B q v q2 e) (he : e ≠ 0) : Prs n B many k p [] q e
  | step (k p s q v q2 L P e) (h : k < many) (ht : TakeT n B p s q 0) (hk : Take n B q v q2 0) (hr : Prs n B many (k + 1) q2 L P e) : Prs n B many k p ((s, v) :: L) P e
theorem prs_ex {n : Nat} {B : Nat → Int} (hB : Byte B) (many : Nat) : ∀ (d k p : Nat), p + d = n → ∃ L P e, Prs n B many k p L P e := by
  intro d
  induction d using Nat.strongRecOn with
  | ind d ih =>
    intro k p hd
    by_cases h : k < many
    · obtain ⟨s, q, e, ht⟩ := takeT_ex n B p
      by_cases he : e = 0
      · subst he
        obtain ⟨v, q2, e2, hk⟩ := take_ex n B q
        by_cases he2 : e2 = 0
        · subst he2
          have h1 := (ht.q hB).1 rfl
          have h2 := (hk.val hB).2.2.1 rfl
          obtain ⟨L, P, e, hr⟩ := ih (n - q2) (by omega) (k + 1) q2 (by omega)
          exact ⟨_, _, _, .step k p s q v q2 L P e h ht hk hr⟩
        · exact ⟨_, _, _, .fn k p s q v q2 e2 h ht hk he2⟩
      · exact ⟨_, _, _, .ft k p s q e h ht he⟩
    · exact ⟨_, _, _, .done k p (by omega)⟩
structure Cols (L : List (ByteArray × Nat)) (k : Nat) (nm : Nat → ByteArray) (id : Nat → Int) : Prop where
  at_ : ∀ (i : Nat) (x : ByteArray × Nat), L[i]? = some x → nm (k + i) = x.1 ∧ id (k + i) = (x.2 : Int)
theorem Prs.inv {n : Nat} {B : Nat → Int} {many k p P : Nat} {L : List (ByteArray × Nat)} {e : Int} (h : Prs n B many k p L P e) :
    (many ≤ k ∧ L = [] ∧ P = p ∧ e = 0) ∨ (∃ s q, k < many ∧ TakeT n B p s q e ∧ e ≠ 0 ∧ L = [] ∧ P = p) ∨ (∃ s q v q2, k < many ∧ TakeT n B p s q 0 ∧ Take n B q v q2 e ∧ e ≠ 0 ∧ L = [] ∧ P = q) ∨
      ∃ s q v q2 L', k < many ∧ TakeT n B p s q 0 ∧ Take n B q v q2 0 ∧ L = (s, v) :: L' ∧ Prs n B many (k + 1) q2 L' P e := by
  cases h with
  | done k p h => exact .inl ⟨h, rfl, rfl, rfl⟩
  | ft k p s q e h ht he => exact .inr (.inl ⟨s, q, h, ht, he, rfl, rfl⟩)
  | fn k p s q v q2 e h ht hk he => exact .inr (.inr (.inl ⟨s, _, v, q2, h, ht, hk, he, rfl, rfl⟩))
  | step k p s q v q2 L P e h ht hk hr => exact .inr (.inr (.inr ⟨s, q, v, q2, L, h, ht, hk, rfl, hr⟩))
def Fin (n : Nat) (e : Int) (m : Nat) (nm : Nat → ByteArray) (id : Nat → Int) (K P : Nat) (e2 : Int) : Prop :=
  (e2 ≠ 0 ∧ e = e2 ∧ m = 0) ∨ (e2 = 0 ∧ e = 2 ∧ m = 0 ∧ (P ≠ n ∨ ¬ Rt K nm id)) ∨ (e2 = 0 ∧ e = 0 ∧ m = K ∧ P = n ∧ Rt K nm id)
def ParseR (n : Nat) (B : Nat → Int) (e : Int) (m : Nat) (nm : Nat → ByteArray) (id : Nat → Int) : Prop :=
  ∃ v q e1, Take n B 0 v q e1 ∧ ((e1 ≠ 0 ∧ e = e1 ∧ m = 0) ∨ (e1 = 0 ∧ ∃ L P e2, Prs n B v 0 q L P e2 ∧ Cols L 0 nm id ∧ Fin n e m nm id L.length P e2))
theorem parseR_ex (n : Nat) (B : Nat → Int) (hB : Byte B) : ∃ e m a b, ParseR n B e m a b := by
  obtain ⟨v, q, e, h⟩ := take_ex n B 0
  by_cases he : e = 0
  · subst he
    have h1 := (h.val hB).2.2.1 rfl
    obtain ⟨L, P, e, hp⟩ := prs_ex (n := n) hB v (n - q) 0 q (by omega)
    have hc : Cols L 0 (fun i => ((L[i]?).getD (default, 0)).1) (fun i => (((L[i]?).getD (default, 0)).2 : Nat)) := ⟨fun i x hx => by simp [hx]⟩
    suffices hf : ∃ e' m, Fin n e' m (fun i => ((L[i]?).getD (default, 0)).1) (fun i => (((L[i]?).getD (default, 0)).2 : Nat)) L.length P e by
      obtain ⟨e', m, hf⟩ := hf
      exact ⟨e', m, _, _, v, q, 0, h, .inr ⟨rfl, L, P, e, hp, hc, hf⟩⟩
    by_cases he : e = 0
    · by_cases hP : P = n ∧ Rt L.length (fun i => ((L[i]?).getD (default, 0)).1) (fun i => (((L[i]?).getD (default, 0)).2 : Nat))
      · exact ⟨0, L.length, .inr (.inr ⟨he, rfl, rfl, hP.1, hP.2⟩)⟩
      · exact ⟨2, 0, .inr (.inl ⟨he, rfl, rfl, by by_cases h1 : P = n; exact .inr fun h2 => hP ⟨h1, h2⟩; exact .inl h1⟩)⟩
    · exact ⟨e, 0, .inl ⟨he, rfl, rfl⟩⟩
  · exact ⟨e, 0, fun _ => default, fun _ => 0, v, q, e, h, .inl ⟨he, rfl, rfl⟩⟩
theorem Prs.le {n : Nat} {B : Nat → Int} (hB : Byte B) {many k p P : Nat} {L : List (ByteArray × Nat)} {e : Int} (h : Prs n B many k p L P e) : p ≤ n → 2 * L.length + p ≤ n := by
  induction h with
  | done k p h => intro hp; simpa using hp
  | ft k p s q e h ht he => intro hp; simpa using hp
  | fn k p s q v q2 e h ht hk he => intro hp; simpa using hp
  | step k p s q v q2 L P e h ht hk hr ih =>
    intro hp
    have h1 := (ht.q hB).1 rfl
    have h2 := (hk.val hB).2.2.1 rfl
    have := ih h2.2
    simp only [List.length_cons]; omega
theorem _root_.Am.Ax.incU {ob : Ob → Prop} {ib : BinOp → IntKind → Int → Int → Int} {ic : BinOp → Int → Int → Bool} {sb : BinOp → ByteArray → ByteArray → Bool} {cat : ByteArray → ByteArray → ByteArray} {iu : UnOp → IntKind → Int → Int} {nt : Bool → Bool} {an : Bool → Bool → Bool} {be : Bool → Bool → Bool} {pk : Bool → Bool → Bool → Bool} {wr : IntKind → Int → Int} {tn : Int → Nat} {iN : Nat → Int} {aN : Nat → Nat → Nat} {sN : Nat → Nat → Nat} {lN : Nat → Nat → Bool} {eN : Nat → Nat → Bool} {bt : ByteArray → Int → Int} {sub : ByteArray → Int → Int → ByteArray} {sl : ByteArray → Int} {rn : Int → ByteArray} {ofB : Nat → (Nat → List U) → ByteArray} {mn : Int → Int → Int} {dc : ByteArray → Nat → Int} {dn : ByteArray → Nat → Nat} {sI : Int → Int → Int} (hE : Ax ob ib ic sb cat iu nt an be pk wr tn iN aN sN lN eN bt sub sl rn ofB mn dc dn sI) {a : Nat} (h : a + 1 < 18446744073709551616) : ib .add .u64 (iN a) 1 = iN (a + 1) := by
  rw [hE.addU64 (by rw [hE.e_iN]; omega), hE.e_iN, hE.e_iN]; rfl
abbrev catR (nm : Nat → ByteArray) (id : Nat → Int) : Nat → List U := fun i => [.sc (.string (nm i)), .sc (.int .u64 (id i))]
theorem ct37 (o : Tg) (n : Nat) (B : Nat → Int) (hB : Byte B) (hn : n ≤ 100000) (e : Int) (m : Nat) (nm : Nat → ByteArray) (id : Nat → Int) (h : ParseR n B e m nm id) :
    CT Go.Proofs.Try.prog 37 [bS o n B] [] (.tp [catS (.new 75) m nm id, scI .i64 e]) [] := by
  obtain ⟨v, q, e1, h1, hcase⟩ := h
  have hv := h1.val hB
  have ct1 : ∀ (p v q : Nat) (e : Int), p ≤ 100000 → Take n B p v q e → ∀ (pz vz qz : Int), IsN pz p → IsN vz v → IsN qz q → CT Go.Proofs.Try.prog 59 [bS o n B, scI .i64 pz] [] (.tp [scI .u64 vz, scI .i64 qz, scI .i64 e]) [] := fun p v q e hp h pz vz qz h1 h2 h3 => ct59 o n B hB (by omega) p pz h1 (by omega) v q e h vz qz h2 h3
  have ct2 : ∀ (p q : Nat) (s : ByteArray) (e : Int), p ≤ 100000 → TakeT n B p s q e → ∀ (pz qz : Int), IsN pz p → IsN qz q → CT Go.Proofs.Try.prog 60 [bS o n B, scI .i64 pz] [] (.tp [strV s, scI .i64 qz, scI .i64 e]) [] := fun p q s e hp h pz qz h1 h2 => ct60 o n B hB (by omega) p pz h1 (by omega) s q e h qz h2
  have hpre : (e1 ≠ 0 ∧ e = e1 ∧ m = 0) ∨ (e1 = 0 ∧ catR nm id = catR nm id ∧ 2 * 0 ≤ q ∧ q ≤ n ∧ ∃ L P e2, Prs n B v 0 q L P e2 ∧ Cols L 0 nm id ∧ Fin n e m nm id (0 + L.length) P e2) := by
    rcases hcase with h | ⟨rfl, L, P, e2, h⟩
    · exact .inl h
    · exact .inr ⟨rfl, rfl, by omega, (hv.2.2.1 rfl).2, L, P, e2, by rw [Nat.zero_add]; exact h⟩
  obtain ⟨R, hR⟩ : ∃ R, R = catR nm id := ⟨_, rfl⟩
  rw [show (catR nm id = catR nm id) = (R = catR nm id) by rw [hR]] at hpre
  refine enter37 rfl rfl ?_
  intro ob ib ic sb cat iu nt an be pk wr tn iN aN sN lN eN bt sub sl rn ofB mn dc dn sI X hE hX
  cbv
  refine call_ct hX [] [] (ct1 0 v q e1 (by omega) h1 0 (iN v) (iN q) ⟨rfl⟩ ⟨hE.e_iN⟩ ⟨hE.e_iN⟩) (fits_nil ⟨fitU_refl _, fitU_refl _, trivial⟩) rfl trivial ?_
  have z0 : ic .eql 0 0 = true := by rw [hE.eql]; rfl
  have z1 : ic .neq 0 0 = false := by rw [hE.neq]; rfl
  cbv; (repeat ((first | rewrite [hE.ntT] | rewrite [hE.ntF] | rewrite [hE.pkT] | rewrite [hE.pkF] | rewrite [hE.anT] | rewrite [hE.anF] | rewrite [hE.anT'] | rewrite [hE.anF']); (repeat (first | rewrite [hE.ntT] | rewrite [hE.ntF] | rewrite [hE.pkT] | rewrite [hE.pkF] | rewrite [hE.anT] | rewrite [hE.anF] | rewrite [hE.anT'] | rewrite [hE.anF'])); cbv)); (repeat first | refine ⟨(fun h => absurd h Bool.false_ne_true), ?_⟩ | refine ⟨hE.o (q := .bts _ _) (fun i _ => ⟨_, rfl⟩), ?_⟩ | refine ⟨(hE.o (by simp only [Ob.den, hE.e_iN, hE.e_tn, hE.e_aN, hE.e_sN, hE.e_sI, hE.e_mn] <;> omega)), ?_⟩ | refine ⟨fun _ => (hE.o (by simp only [Ob.den, hE.e_iN, hE.e_tn, hE.e_aN, hE.e_sN, hE.e_sI, hE.e_mn] <;> omega)), ?_⟩ | refine ⟨fun h => h, ?_⟩ | refine ⟨fun _ => rfl, ?_⟩ | refine ⟨fun _ h => h, ?_⟩ | refine ⟨fun _ _ => True.intro, ?_⟩ | refine ⟨fun _ h => absurd h Bool.false_ne_true, ?_⟩ | refine ⟨fun _ => True.intro, ?_⟩ | refine ⟨fun _ _ => rfl, ?_⟩ | refine ⟨(fun h => Bool.noConfusion h), ?_⟩ | refine ⟨fun _ h => Bool.noConfusion h, ?_⟩ | refine ⟨fun _ h => by rw [h, hE.ntF], ?_⟩ | refine ⟨True.intro, ?_⟩)
  refine loop_at hE hX tabOK (by kernel_rfl) funcsOK rfl (α := Nat × Nat × Int × (Nat → List U)) (fun ⟨k, p, e', F⟩ => (sets (pad 62) [(0, bS o n B), (4, scI .u64 (iN v)), (5, scI .i64 (iN p)), (6, scI .i64 e'), (7, .sr 0 2 0 k), (8, scI .u64 (iN k))], [.arr 75 2 k F])) (fun x => (x.2.2.1 ≠ 0 ∧ e = x.2.2.1 ∧ m = 0) ∨ (x.2.2.1 = 0 ∧ x.2.2.2 = catR nm id ∧ 2 * x.1 ≤ x.2.1 ∧ x.2.1 ≤ n ∧ ∃ L P e2, Prs n B v x.1 x.2.1 L P e2 ∧ Cols L x.1 nm id ∧ Fin n e m nm id (x.1 + L.length) P e2)) (fun x => if x.2.2.1 = 0 then n + 1 - x.2.1 else 0) (0, q, e1, R) hpre ?_ ?_
  · refine ⟨[none], [], ⟨rfl, rfl, rfl, rfl, by (cbv <;> (repeat' first | exact True.intro | exact ⟨.inr trivial, fun _ _ => rfl⟩ | exact rfl | exact fun _ _ => rfl | refine And.intro ?_ ?_ | rw [hE.iN0] | rw [hE.e_aN]))⟩, ?_⟩
    have e0 : (0 : Int) = iN 0 := hE.iN0.symm
    cbv
    (repeat' first | exact True.intro | exact ⟨.inr trivial, fun _ _ => rfl⟩ | exact rfl | exact congrArg _ e0 | refine And.intro ?_ ?_)
  · rintro ⟨k, p, e', F⟩ hx
    dsimp only at hx
    refine hx.elim (fun hx => ?_) (fun hx => ?_)
    · have c1 : ic .eql e' 0 = false := by rw [hE.eql]; exact decide_eq_false hx.1
      have c2 : ic .neq e' 0 = true := by rw [hE.neq]; simp [hx.1]
      rw [hx.2.1, hx.2.2]
      cases hb : ic .lss (iN k) (iN v)
      · cbv; (repeat ((first | rewrite [hb] | rewrite [c1] | rewrite [c2] | rewrite [hE.ntT] | rewrite [hE.ntF] | rewrite [hE.pkT] | rewrite [hE.pkF] | rewrite [hE.anT] | rewrite [hE.anF] | rewrite [hE.anT'] | rewrite [hE.anF']); (repeat (first | rewrite [hb] | rewrite [c1] | rewrite [c2] | rewrite [hE.ntT] | rewrite [hE.ntF] | rewrite [hE.pkT] | rewrite [hE.pkF] | rewrite [hE.anT] | rewrite [hE.anF] | rewrite [hE.anT'] | rewrite [hE.anF'])); cbv)); (repeat first | refine ⟨(fun h => absurd h Bool.false_ne_true), ?_⟩ | refine ⟨hE.o (q := .bts _ _) (fun i _ => ⟨_, rfl⟩), ?_⟩ | refine ⟨(hE.o (by simp only [Ob.den, hE.e_iN, hE.e_tn, hE.e_aN, hE.e_sN, hE.e_sI, hE.e_mn] <;> omega)), ?_⟩ | refine ⟨fun _ => (hE.o (by simp only [Ob.den, hE.e_iN, hE.e_tn, hE.e_aN, hE.e_sN, hE.e_sI, hE.e_mn] <;> omega)), ?_⟩ | refine ⟨fun h => h, ?_⟩ | refine ⟨fun _ => rfl, ?_⟩ | refine ⟨fun _ h => h, ?_⟩ | refine ⟨fun _ _ => True.intro, ?_⟩ | refine ⟨fun _ h => absurd h Bool.false_ne_true, ?_⟩ | refine ⟨fun _ => True.intro, ?_⟩ | refine ⟨fun _ _ => rfl, ?_⟩ | refine ⟨(fun h => Bool.noConfusion h), ?_⟩ | refine ⟨fun _ h => Bool.noConfusion h, ?_⟩ | refine ⟨fun _ h => by rw [h, hE.ntF], ?_⟩ | refine ⟨True.intro, ?_⟩)
        exact ct_flat [] rfl ⟨rfl, fitU_refl _, trivial⟩
      · cbv; (repeat ((first | rewrite [hb] | rewrite [c1] | rewrite [c2] | rewrite [hE.ntT] | rewrite [hE.ntF] | rewrite [hE.pkT] | rewrite [hE.pkF] | rewrite [hE.anT] | rewrite [hE.anF] | rewrite [hE.anT'] | rewrite [hE.anF']); (repeat (first | rewrite [hb] | rewrite [c1] | rewrite [c2] | rewrite [hE.ntT] | rewrite [hE.ntF] | rewrite [hE.pkT] | rewrite [hE.pkF] | rewrite [hE.anT] | rewrite [hE.anF] | rewrite [hE.anT'] | rewrite [hE.anF'])); cbv)); (repeat first | refine ⟨(fun h => absurd h Bool.false_ne_true), ?_⟩ | refine ⟨hE.o (q := .bts _ _) (fun i _ => ⟨_, rfl⟩), ?_⟩ | refine ⟨(hE.o (by simp only [Ob.den, hE.e_iN, hE.e_tn, hE.e_aN, hE.e_sN, hE.e_sI, hE.e_mn] <;> omega)), ?_⟩ | refine ⟨fun _ => (hE.o (by simp only [Ob.den, hE.e_iN, hE.e_tn, hE.e_aN, hE.e_sN, hE.e_sI, hE.e_mn] <;> omega)), ?_⟩ | refine ⟨fun h => h, ?_⟩ | refine ⟨fun _ => rfl, ?_⟩ | refine ⟨fun _ h => h, ?_⟩ | refine ⟨fun _ _ => True.intro, ?_⟩ | refine ⟨fun _ h => absurd h Bool.false_ne_true, ?_⟩ | refine ⟨fun _ => True.intro, ?_⟩ | refine ⟨fun _ _ => rfl, ?_⟩ | refine ⟨(fun h => Bool.noConfusion h), ?_⟩ | refine ⟨fun _ h => Bool.noConfusion h, ?_⟩ | refine ⟨fun _ h => by rw [h, hE.ntF], ?_⟩ | refine ⟨True.intro, ?_⟩)
        exact ct_flat [] rfl ⟨rfl, fitU_refl _, trivial⟩
    · obtain ⟨rfl, rfl, hk, hp, L, P, e2, hprs, hc, hf⟩ := hx
      have hle := hprs.le hB hp
      have hi := hE.incU (a := k) (by omega)
      rcases hprs.inv with ⟨h, rfl, rfl, rfl⟩ | ⟨s, q', h, ht, he, rfl, rfl⟩ | ⟨s, q', v', q2, h, ht, hk2, he, rfl, rfl⟩ | ⟨s, q', v', q2, L', h, ht, hk2, rfl, hr⟩
      · have hb : ic .lss (iN k) (iN v) = false := by rw [hE.ltN]; exact decide_eq_false (by omega)
        rw [show k + [].length = k from rfl] at hf
        rcases hf with ⟨h1, _, _⟩ | ⟨_, rfl, rfl, hne⟩ | ⟨_, rfl, hmk, rfl, hRt⟩
        · exact absurd rfl h1
        · by_cases hpn : P = n
          · have c3 : ic .neq (iN P) (iN n) = false := by rw [hE.neN]; simp [hpn]
            have hR := hne.resolve_left fun h => h hpn
            cbv; (repeat ((first | rewrite [hb] | rewrite [z1] | rewrite [c3] | rewrite [hE.ntT] | rewrite [hE.ntF] | rewrite [hE.pkT] | rewrite [hE.pkF] | rewrite [hE.anT] | rewrite [hE.anF] | rewrite [hE.anT'] | rewrite [hE.anF']); (repeat (first | rewrite [hb] | rewrite [z1] | rewrite [c3] | rewrite [hE.ntT] | rewrite [hE.ntF] | rewrite [hE.pkT] | rewrite [hE.pkF] | rewrite [hE.anT] | rewrite [hE.anF] | rewrite [hE.anT'] | rewrite [hE.anF'])); cbv)); (repeat first | refine ⟨(fun h => absurd h Bool.false_ne_true), ?_⟩ | refine ⟨hE.o (q := .bts _ _) (fun i _ => ⟨_, rfl⟩), ?_⟩ | refine ⟨(hE.o (by simp only [Ob.den, hE.e_iN, hE.e_tn, hE.e_aN, hE.e_sN, hE.e_sI, hE.e_mn] <;> omega)), ?_⟩ | refine ⟨fun _ => (hE.o (by simp only [Ob.den, hE.e_iN, hE.e_tn, hE.e_aN, hE.e_sN, hE.e_sI, hE.e_mn] <;> omega)), ?_⟩ | refine ⟨fun h => h, ?_⟩ | refine ⟨fun _ => rfl, ?_⟩ | refine ⟨fun _ h => h, ?_⟩ | refine ⟨fun _ _ => True.intro, ?_⟩ | refine ⟨fun _ h => absurd h Bool.false_ne_true, ?_⟩ | refine ⟨fun _ => True.intro, ?_⟩ | refine ⟨fun _ _ => rfl, ?_⟩ | refine ⟨(fun h => Bool.noConfusion h), ?_⟩ | refine ⟨fun _ h => Bool.noConfusion h, ?_⟩ | refine ⟨fun _ h => by rw [h, hE.ntF], ?_⟩ | refine ⟨True.intro, ?_⟩)
            refine call_ct hX [] [0] (ct28 (.new 75) k nm id (by omega) false ⟨fun e => Bool.noConfusion e, fun e => absurd e hR⟩) (fits_fz rfl ⟨⟨rfl, rfl, rfl, rfl, rfl, by omega, fun i hi => by rw [Nat.zero_add]⟩, trivial⟩) rfl ⟨trivial, trivial⟩ ?_
            cbv; (repeat ((first | rewrite [hE.ntT] | rewrite [hE.ntF] | rewrite [hE.pkT] | rewrite [hE.pkF] | rewrite [hE.anT] | rewrite [hE.anF] | rewrite [hE.anT'] | rewrite [hE.anF']); (repeat (first | rewrite [hE.ntT] | rewrite [hE.ntF] | rewrite [hE.pkT] | rewrite [hE.pkF] | rewrite [hE.anT] | rewrite [hE.anF] | rewrite [hE.anT'] | rewrite [hE.anF'])); cbv)); (repeat first | refine ⟨(fun h => absurd h Bool.false_ne_true), ?_⟩ | refine ⟨hE.o (q := .bts _ _) (fun i _ => ⟨_, rfl⟩), ?_⟩ | refine ⟨(hE.o (by simp only [Ob.den, hE.e_iN, hE.e_tn, hE.e_aN, hE.e_sN, hE.e_sI, hE.e_mn] <;> omega)), ?_⟩ | refine ⟨fun _ => (hE.o (by simp only [Ob.den, hE.e_iN, hE.e_tn, hE.e_aN, hE.e_sN, hE.e_sI, hE.e_mn] <;> omega)), ?_⟩ | refine ⟨fun h => h, ?_⟩ | refine ⟨fun _ => rfl, ?_⟩ | refine ⟨fun _ h => h, ?_⟩ | refine ⟨fun _ _ => True.intro, ?_⟩ | refine ⟨fun _ h => absurd h Bool.false_ne_true, ?_⟩ | refine ⟨fun _ => True.intro, ?_⟩ | refine ⟨fun _ _ => rfl, ?_⟩ | refine ⟨(fun h => Bool.noConfusion h), ?_⟩ | refine ⟨fun _ h => Bool.noConfusion h, ?_⟩ | refine ⟨fun _ h => by rw [h, hE.ntF], ?_⟩ | refine ⟨True.intro, ?_⟩)
            exact ct_flat [] rfl ⟨rfl, fitU_refl _, trivial⟩
          · have c3 : ic .neq (iN P) (iN n) = true := by rw [hE.neN]; simp [hpn]
            cbv; (repeat ((first | rewrite [hb] | rewrite [z1] | rewrite [c3] | rewrite [hE.ntT] | rewrite [hE.ntF] | rewrite [hE.pkT] | rewrite [hE.pkF] | rewrite [hE.anT] | rewrite [hE.anF] | rewrite [hE.anT'] | rewrite [hE.anF']); (repeat (first | rewrite [hb] | rewrite [z1] | rewrite [c3] | rewrite [hE.ntT] | rewrite [hE.ntF] | rewrite [hE.pkT] | rewrite [hE.pkF] | rewrite [hE.anT] | rewrite [hE.anF] | rewrite [hE.anT'] | rewrite [hE.anF'])); cbv)); (repeat first | refine ⟨(fun h => absurd h Bool.false_ne_true), ?_⟩ | refine ⟨hE.o (q := .bts _ _) (fun i _ => ⟨_, rfl⟩), ?_⟩ | refine ⟨(hE.o (by simp only [Ob.den, hE.e_iN, hE.e_tn, hE.e_aN, hE.e_sN, hE.e_sI, hE.e_mn] <;> omega)), ?_⟩ | refine ⟨fun _ => (hE.o (by simp only [Ob.den, hE.e_iN, hE.e_tn, hE.e_aN, hE.e_sN, hE.e_sI, hE.e_mn] <;> omega)), ?_⟩ | refine ⟨fun h => h, ?_⟩ | refine ⟨fun _ => rfl, ?_⟩ | refine ⟨fun _ h => h, ?_⟩ | refine ⟨fun _ _ => True.intro, ?_⟩ | refine ⟨fun _ h => absurd h Bool.false_ne_true, ?_⟩ | refine ⟨fun _ => True.intro, ?_⟩ | refine ⟨fun _ _ => rfl, ?_⟩ | refine ⟨(fun h => Bool.noConfusion h), ?_⟩ | refine ⟨fun _ h => Bool.noConfusion h, ?_⟩ | refine ⟨fun _ h => by rw [h, hE.ntF], ?_⟩ | refine ⟨True.intro, ?_⟩)
            exact ct_flat [] rfl ⟨rfl, fitU_refl _, trivial⟩
        · rw [hmk]
          have c3 : ic .neq (iN P) (iN P) = false := by rw [hE.neN]; simp
          cbv; (repeat ((first | rewrite [hb] | rewrite [z1] | rewrite [c3] | rewrite [hE.ntT] | rewrite [hE.ntF] | rewrite [hE.pkT] | rewrite [hE.pkF] | rewrite [hE.anT] | rewrite [hE.anF] | rewrite [hE.anT'] | rewrite [hE.anF']); (repeat (first | rewrite [hb] | rewrite [z1] | rewrite [c3] | rewrite [hE.ntT] | rewrite [hE.ntF] | rewrite [hE.pkT] | rewrite [hE.pkF] | rewrite [hE.anT] | rewrite [hE.anF] | rewrite [hE.anT'] | rewrite [hE.anF'])); cbv)); (repeat first | refine ⟨(fun h => absurd h Bool.false_ne_true), ?_⟩ | refine ⟨hE.o (q := .bts _ _) (fun i _ => ⟨_, rfl⟩), ?_⟩ | refine ⟨(hE.o (by simp only [Ob.den, hE.e_iN, hE.e_tn, hE.e_aN, hE.e_sN, hE.e_sI, hE.e_mn] <;> omega)), ?_⟩ | refine ⟨fun _ => (hE.o (by simp only [Ob.den, hE.e_iN, hE.e_tn, hE.e_aN, hE.e_sN, hE.e_sI, hE.e_mn] <;> omega)), ?_⟩ | refine ⟨fun h => h, ?_⟩ | refine ⟨fun _ => rfl, ?_⟩ | refine ⟨fun _ h => h, ?_⟩ | refine ⟨fun _ _ => True.intro, ?_⟩ | refine ⟨fun _ h => absurd h Bool.false_ne_true, ?_⟩ | refine ⟨fun _ => True.intro, ?_⟩ | refine ⟨fun _ _ => rfl, ?_⟩ | refine ⟨(fun h => Bool.noConfusion h), ?_⟩ | refine ⟨fun _ h => Bool.noConfusion h, ?_⟩ | refine ⟨fun _ h => by rw [h, hE.ntF], ?_⟩ | refine ⟨True.intro, ?_⟩)
          refine call_ct hX [] [0] (ct28 (.new 75) k nm id (by omega) true ⟨fun _ => hRt, fun _ => rfl⟩) (fits_fz rfl ⟨⟨rfl, rfl, rfl, rfl, rfl, by omega, fun i hi => by rw [Nat.zero_add]⟩, trivial⟩) rfl ⟨trivial, trivial⟩ ?_
          cbv; (repeat ((first | rewrite [hE.ntT] | rewrite [hE.ntF] | rewrite [hE.pkT] | rewrite [hE.pkF] | rewrite [hE.anT] | rewrite [hE.anF] | rewrite [hE.anT'] | rewrite [hE.anF']); (repeat (first | rewrite [hE.ntT] | rewrite [hE.ntF] | rewrite [hE.pkT] | rewrite [hE.pkF] | rewrite [hE.anT] | rewrite [hE.anF] | rewrite [hE.anT'] | rewrite [hE.anF'])); cbv)); (repeat first | refine ⟨(fun h => absurd h Bool.false_ne_true), ?_⟩ | refine ⟨hE.o (q := .bts _ _) (fun i _ => ⟨_, rfl⟩), ?_⟩ | refine ⟨(hE.o (by simp only [Ob.den, hE.e_iN, hE.e_tn, hE.e_aN, hE.e_sN, hE.e_sI, hE.e_mn] <;> omega)), ?_⟩ | refine ⟨fun _ => (hE.o (by simp only [Ob.den, hE.e_iN, hE.e_tn, hE.e_aN, hE.e_sN, hE.e_sI, hE.e_mn] <;> omega)), ?_⟩ | refine ⟨fun h => h, ?_⟩ | refine ⟨fun _ => rfl, ?_⟩ | refine ⟨fun _ h => h, ?_⟩ | refine ⟨fun _ _ => True.intro, ?_⟩ | refine ⟨fun _ h => absurd h Bool.false_ne_true, ?_⟩ | refine ⟨fun _ => True.intro, ?_⟩ | refine ⟨fun _ _ => rfl, ?_⟩ | refine ⟨(fun h => Bool.noConfusion h), ?_⟩ | refine ⟨fun _ h => Bool.noConfusion h, ?_⟩ | refine ⟨fun _ h => by rw [h, hE.ntF], ?_⟩ | refine ⟨True.intro, ?_⟩)
          exact ct_flat [0] rfl ⟨⟨rfl, rfl, rfl, rfl, rfl, by omega, fun i hi => by rw [Nat.zero_add]⟩, fitU_refl _, trivial⟩
      · have hb : ic .lss (iN k) (iN v) = true := by rw [hE.ltN]; exact decide_eq_true h
        rcases hf with ⟨_, rfl, rfl⟩ | ⟨h1, _⟩ | ⟨h1, _⟩
        rotate_left
        · exact absurd h1 he
        · exact absurd h1 he
        have c2 : ic .neq e 0 = true := by rw [hE.neq]; simp [he]
        cbv; (repeat ((first | rewrite [hb] | rewrite [z0] | rewrite [hE.ntT] | rewrite [hE.ntF] | rewrite [hE.pkT] | rewrite [hE.pkF] | rewrite [hE.anT] | rewrite [hE.anF] | rewrite [hE.anT'] | rewrite [hE.anF']); (repeat (first | rewrite [hb] | rewrite [z0] | rewrite [hE.ntT] | rewrite [hE.ntF] | rewrite [hE.pkT] | rewrite [hE.pkF] | rewrite [hE.anT] | rewrite [hE.anF] | rewrite [hE.anT'] | rewrite [hE.anF'])); cbv)); (repeat first | refine ⟨(fun h => absurd h Bool.false_ne_true), ?_⟩ | refine ⟨hE.o (q := .bts _ _) (fun i _ => ⟨_, rfl⟩), ?_⟩ | refine ⟨(hE.o (by simp only [Ob.den, hE.e_iN, hE.e_tn, hE.e_aN, hE.e_sN, hE.e_sI, hE.e_mn] <;> omega)), ?_⟩ | refine ⟨fun _ => (hE.o (by simp only [Ob.den, hE.e_iN, hE.e_tn, hE.e_aN, hE.e_sN, hE.e_sI, hE.e_mn] <;> omega)), ?_⟩ | refine ⟨fun h => h, ?_⟩ | refine ⟨fun _ => rfl, ?_⟩ | refine ⟨fun _ h => h, ?_⟩ | refine ⟨fun _ _ => True.intro, ?_⟩ | refine ⟨fun _ h => absurd h Bool.false_ne_true, ?_⟩ | refine ⟨fun _ => True.intro, ?_⟩ | refine ⟨fun _ _ => rfl, ?_⟩ | refine ⟨(fun h => Bool.noConfusion h), ?_⟩ | refine ⟨fun _ h => Bool.noConfusion h, ?_⟩ | refine ⟨fun _ h => by rw [h, hE.ntF], ?_⟩ | refine ⟨True.intro, ?_⟩)
        refine call_ct hX [] [] (ct2 P q' s e (by omega) ht (iN P) (iN q') ⟨hE.e_iN⟩ ⟨hE.e_iN⟩) (fits_nil ⟨fitU_refl _, fitU_refl _, trivial⟩) rfl trivial ?_
        cbv; (repeat ((first | rewrite [c2] | rewrite [hE.ntT] | rewrite [hE.ntF] | rewrite [hE.pkT] | rewrite [hE.pkF] | rewrite [hE.anT] | rewrite [hE.anF] | rewrite [hE.anT'] | rewrite [hE.anF']); (repeat (first | rewrite [c2] | rewrite [hE.ntT] | rewrite [hE.ntF] | rewrite [hE.pkT] | rewrite [hE.pkF] | rewrite [hE.anT] | rewrite [hE.anF] | rewrite [hE.anT'] | rewrite [hE.anF'])); cbv)); (repeat first | refine ⟨(fun h => absurd h Bool.false_ne_true), ?_⟩ | refine ⟨hE.o (q := .bts _ _) (fun i _ => ⟨_, rfl⟩), ?_⟩ | refine ⟨(hE.o (by simp only [Ob.den, hE.e_iN, hE.e_tn, hE.e_aN, hE.e_sN, hE.e_sI, hE.e_mn] <;> omega)), ?_⟩ | refine ⟨fun _ => (hE.o (by simp only [Ob.den, hE.e_iN, hE.e_tn, hE.e_aN, hE.e_sN, hE.e_sI, hE.e_mn] <;> omega)), ?_⟩ | refine ⟨fun h => h, ?_⟩ | refine ⟨fun _ => rfl, ?_⟩ | refine ⟨fun _ h => h, ?_⟩ | refine ⟨fun _ _ => True.intro, ?_⟩ | refine ⟨fun _ h => absurd h Bool.false_ne_true, ?_⟩ | refine ⟨fun _ => True.intro, ?_⟩ | refine ⟨fun _ _ => rfl, ?_⟩ | refine ⟨(fun h => Bool.noConfusion h), ?_⟩ | refine ⟨fun _ h => Bool.noConfusion h, ?_⟩ | refine ⟨fun _ h => by rw [h, hE.ntF], ?_⟩ | refine ⟨True.intro, ?_⟩)
        exact ct_flat [] rfl ⟨rfl, fitU_refl _, trivial⟩
      · have hb : ic .lss (iN k) (iN v) = true := by rw [hE.ltN]; exact decide_eq_true h
        have h1 := (ht.q hB).1 rfl
        have hend : e = e2 ∧ m = 0 := by
          rcases hf with ⟨_, h1, h2⟩ | ⟨h1, _⟩ | ⟨h1, _⟩
          · exact ⟨h1, h2⟩
          · exact absurd h1 he
          · exact absurd h1 he
        cbv; (repeat ((first | rewrite [hb] | rewrite [z0] | rewrite [hE.ntT] | rewrite [hE.ntF] | rewrite [hE.pkT] | rewrite [hE.pkF] | rewrite [hE.anT] | rewrite [hE.anF] | rewrite [hE.anT'] | rewrite [hE.anF']); (repeat (first | rewrite [hb] | rewrite [z0] | rewrite [hE.ntT] | rewrite [hE.ntF] | rewrite [hE.pkT] | rewrite [hE.pkF] | rewrite [hE.anT] | rewrite [hE.anF] | rewrite [hE.anT'] | rewrite [hE.anF'])); cbv)); (repeat first | refine ⟨(fun h => absurd h Bool.false_ne_true), ?_⟩ | refine ⟨hE.o (q := .bts _ _) (fun i _ => ⟨_, rfl⟩), ?_⟩ | refine ⟨(hE.o (by simp only [Ob.den, hE.e_iN, hE.e_tn, hE.e_aN, hE.e_sN, hE.e_sI, hE.e_mn] <;> omega)), ?_⟩ | refine ⟨fun _ => (hE.o (by simp only [Ob.den, hE.e_iN, hE.e_tn, hE.e_aN, hE.e_sN, hE.e_sI, hE.e_mn] <;> omega)), ?_⟩ | refine ⟨fun h => h, ?_⟩ | refine ⟨fun _ => rfl, ?_⟩ | refine ⟨fun _ h => h, ?_⟩ | refine ⟨fun _ _ => True.intro, ?_⟩ | refine ⟨fun _ h => absurd h Bool.false_ne_true, ?_⟩ | refine ⟨fun _ => True.intro, ?_⟩ | refine ⟨fun _ _ => rfl, ?_⟩ | refine ⟨(fun h => Bool.noConfusion h), ?_⟩ | refine ⟨fun _ h => Bool.noConfusion h, ?_⟩ | refine ⟨fun _ h => by rw [h, hE.ntF], ?_⟩ | refine ⟨True.intro, ?_⟩)
        refine call_ct hX [] [] (ct2 p P s 0 (by omega) ht (iN p) (iN P) ⟨hE.e_iN⟩ ⟨hE.e_iN⟩) (fits_nil ⟨fitU_refl _, fitU_refl _, trivial⟩) rfl trivial ?_
        cbv; (repeat ((first | rewrite [z1] | rewrite [hE.ntT] | rewrite [hE.ntF] | rewrite [hE.pkT] | rewrite [hE.pkF] | rewrite [hE.anT] | rewrite [hE.anF] | rewrite [hE.anT'] | rewrite [hE.anF']); (repeat (first | rewrite [z1] | rewrite [hE.ntT] | rewrite [hE.ntF] | rewrite [hE.pkT] | rewrite [hE.pkF] | rewrite [hE.anT] | rewrite [hE.anF] | rewrite [hE.anT'] | rewrite [hE.anF'])); cbv)); (repeat first | refine ⟨(fun h => absurd h Bool.false_ne_true), ?_⟩ | refine ⟨hE.o (q := .bts _ _) (fun i _ => ⟨_, rfl⟩), ?_⟩ | refine ⟨(hE.o (by simp only [Ob.den, hE.e_iN, hE.e_tn, hE.e_aN, hE.e_sN, hE.e_sI, hE.e_mn] <;> omega)), ?_⟩ | refine ⟨fun _ => (hE.o (by simp only [Ob.den, hE.e_iN, hE.e_tn, hE.e_aN, hE.e_sN, hE.e_sI, hE.e_mn] <;> omega)), ?_⟩ | refine ⟨fun h => h, ?_⟩ | refine ⟨fun _ => rfl, ?_⟩ | refine ⟨fun _ h => h, ?_⟩ | refine ⟨fun _ _ => True.intro, ?_⟩ | refine ⟨fun _ h => absurd h Bool.false_ne_true, ?_⟩ | refine ⟨fun _ => True.intro, ?_⟩ | refine ⟨fun _ _ => rfl, ?_⟩ | refine ⟨(fun h => Bool.noConfusion h), ?_⟩ | refine ⟨fun _ h => Bool.noConfusion h, ?_⟩ | refine ⟨fun _ h => by rw [h, hE.ntF], ?_⟩ | refine ⟨True.intro, ?_⟩)
        refine call_ct hX [] [] (ct1 P v' q2 e2 (by omega) hk2 (iN P) (iN v') (iN q2) ⟨hE.e_iN⟩ ⟨hE.e_iN⟩ ⟨hE.e_iN⟩) (fits_nil ⟨fitU_refl _, fitU_refl _, trivial⟩) rfl trivial ?_
        cbv; (repeat ((first | rewrite [hi] | rewrite [hE.ntT] | rewrite [hE.ntF] | rewrite [hE.pkT] | rewrite [hE.pkF] | rewrite [hE.anT] | rewrite [hE.anF] | rewrite [hE.anT'] | rewrite [hE.anF']); (repeat (first | rewrite [hi] | rewrite [hE.ntT] | rewrite [hE.ntF] | rewrite [hE.pkT] | rewrite [hE.pkF] | rewrite [hE.anT] | rewrite [hE.anF] | rewrite [hE.anT'] | rewrite [hE.anF'])); cbv)); (repeat first | refine ⟨(fun h => absurd h Bool.false_ne_true), ?_⟩ | refine ⟨hE.o (q := .bts _ _) (fun i _ => ⟨_, rfl⟩), ?_⟩ | refine ⟨(hE.o (by simp only [Ob.den, hE.e_iN, hE.e_tn, hE.e_aN, hE.e_sN, hE.e_sI, hE.e_mn] <;> omega)), ?_⟩ | refine ⟨fun _ => (hE.o (by simp only [Ob.den, hE.e_iN, hE.e_tn, hE.e_aN, hE.e_sN, hE.e_sI, hE.e_mn] <;> omega)), ?_⟩ | refine ⟨fun h => h, ?_⟩ | refine ⟨fun _ => rfl, ?_⟩ | refine ⟨fun _ h => h, ?_⟩ | refine ⟨fun _ _ => True.intro, ?_⟩ | refine ⟨fun _ h => absurd h Bool.false_ne_true, ?_⟩ | refine ⟨fun _ => True.intro, ?_⟩ | refine ⟨fun _ _ => rfl, ?_⟩ | refine ⟨(fun h => Bool.noConfusion h), ?_⟩ | refine ⟨fun _ h => Bool.noConfusion h, ?_⟩ | refine ⟨fun _ h => by rw [h, hE.ntF], ?_⟩ | refine ⟨True.intro, ?_⟩)
        exact ⟨(k + 1, q2, e2, _), .inl ⟨he, hend.1, hend.2⟩, by dsimp only; rw [if_neg he, if_pos rfl]; omega, [some 3], [], ⟨rfl, rfl, rfl, rfl, ⟨rfl, rfl, rfl, by rw [hE.e_aN], fun i _ => rfl⟩, trivial⟩, by (cbv <;> (repeat' first | exact True.intro | exact ⟨.inr trivial, fun _ _ => rfl⟩ | exact rfl | exact fun _ _ => rfl | refine And.intro ?_ ?_ | rw [hE.iN0] | rw [hE.e_aN]))⟩
      · have hb : ic .lss (iN k) (iN v) = true := by rw [hE.ltN]; exact decide_eq_true h
        have h1 := (ht.q hB).1 rfl
        have h2 := (hk2.val hB).2.2.1 rfl
        have hr0 := hc.at_ 0 _ rfl
        cbv; (repeat ((first | rewrite [hb] | rewrite [z0] | rewrite [hE.ntT] | rewrite [hE.ntF] | rewrite [hE.pkT] | rewrite [hE.pkF] | rewrite [hE.anT] | rewrite [hE.anF] | rewrite [hE.anT'] | rewrite [hE.anF']); (repeat (first | rewrite [hb] | rewrite [z0] | rewrite [hE.ntT] | rewrite [hE.ntF] | rewrite [hE.pkT] | rewrite [hE.pkF] | rewrite [hE.anT] | rewrite [hE.anF] | rewrite [hE.anT'] | rewrite [hE.anF'])); cbv)); (repeat first | refine ⟨(fun h => absurd h Bool.false_ne_true), ?_⟩ | refine ⟨hE.o (q := .bts _ _) (fun i _ => ⟨_, rfl⟩), ?_⟩ | refine ⟨(hE.o (by simp only [Ob.den, hE.e_iN, hE.e_tn, hE.e_aN, hE.e_sN, hE.e_sI, hE.e_mn] <;> omega)), ?_⟩ | refine ⟨fun _ => (hE.o (by simp only [Ob.den, hE.e_iN, hE.e_tn, hE.e_aN, hE.e_sN, hE.e_sI, hE.e_mn] <;> omega)), ?_⟩ | refine ⟨fun h => h, ?_⟩ | refine ⟨fun _ => rfl, ?_⟩ | refine ⟨fun _ h => h, ?_⟩ | refine ⟨fun _ _ => True.intro, ?_⟩ | refine ⟨fun _ h => absurd h Bool.false_ne_true, ?_⟩ | refine ⟨fun _ => True.intro, ?_⟩ | refine ⟨fun _ _ => rfl, ?_⟩ | refine ⟨(fun h => Bool.noConfusion h), ?_⟩ | refine ⟨fun _ h => Bool.noConfusion h, ?_⟩ | refine ⟨fun _ h => by rw [h, hE.ntF], ?_⟩ | refine ⟨True.intro, ?_⟩)
        refine call_ct hX [] [] (ct2 p q' s 0 (by omega) ht (iN p) (iN q') ⟨hE.e_iN⟩ ⟨hE.e_iN⟩) (fits_nil ⟨fitU_refl _, fitU_refl _, trivial⟩) rfl trivial ?_
        cbv; (repeat ((first | rewrite [z1] | rewrite [hE.ntT] | rewrite [hE.ntF] | rewrite [hE.pkT] | rewrite [hE.pkF] | rewrite [hE.anT] | rewrite [hE.anF] | rewrite [hE.anT'] | rewrite [hE.anF']); (repeat (first | rewrite [z1] | rewrite [hE.ntT] | rewrite [hE.ntF] | rewrite [hE.pkT] | rewrite [hE.pkF] | rewrite [hE.anT] | rewrite [hE.anF] | rewrite [hE.anT'] | rewrite [hE.anF'])); cbv)); (repeat first | refine ⟨(fun h => absurd h Bool.false_ne_true), ?_⟩ | refine ⟨hE.o (q := .bts _ _) (fun i _ => ⟨_, rfl⟩), ?_⟩ | refine ⟨(hE.o (by simp only [Ob.den, hE.e_iN, hE.e_tn, hE.e_aN, hE.e_sN, hE.e_sI, hE.e_mn] <;> omega)), ?_⟩ | refine ⟨fun _ => (hE.o (by simp only [Ob.den, hE.e_iN, hE.e_tn, hE.e_aN, hE.e_sN, hE.e_sI, hE.e_mn] <;> omega)), ?_⟩ | refine ⟨fun h => h, ?_⟩ | refine ⟨fun _ => rfl, ?_⟩ | refine ⟨fun _ h => h, ?_⟩ | refine ⟨fun _ _ => True.intro, ?_⟩ | refine ⟨fun _ h => absurd h Bool.false_ne_true, ?_⟩ | refine ⟨fun _ => True.intro, ?_⟩ | refine ⟨fun _ _ => rfl, ?_⟩ | refine ⟨(fun h => Bool.noConfusion h), ?_⟩ | refine ⟨fun _ h => Bool.noConfusion h, ?_⟩ | refine ⟨fun _ h => by rw [h, hE.ntF], ?_⟩ | refine ⟨True.intro, ?_⟩)
        refine call_ct hX [] [] (ct1 q' v' q2 0 (by omega) hk2 (iN q') (iN v') (iN q2) ⟨hE.e_iN⟩ ⟨hE.e_iN⟩ ⟨hE.e_iN⟩) (fits_nil ⟨fitU_refl _, fitU_refl _, trivial⟩) rfl trivial ?_
        cbv; (repeat ((first | rewrite [hi] | rewrite [hE.ntT] | rewrite [hE.ntF] | rewrite [hE.pkT] | rewrite [hE.pkF] | rewrite [hE.anT] | rewrite [hE.anF] | rewrite [hE.anT'] | rewrite [hE.anF']); (repeat (first | rewrite [hi] | rewrite [hE.ntT] | rewrite [hE.ntF] | rewrite [hE.pkT] | rewrite [hE.pkF] | rewrite [hE.anT] | rewrite [hE.anF] | rewrite [hE.anT'] | rewrite [hE.anF'])); cbv)); (repeat first | refine ⟨(fun h => absurd h Bool.false_ne_true), ?_⟩ | refine ⟨hE.o (q := .bts _ _) (fun i _ => ⟨_, rfl⟩), ?_⟩ | refine ⟨(hE.o (by simp only [Ob.den, hE.e_iN, hE.e_tn, hE.e_aN, hE.e_sN, hE.e_sI, hE.e_mn] <;> omega)), ?_⟩ | refine ⟨fun _ => (hE.o (by simp only [Ob.den, hE.e_iN, hE.e_tn, hE.e_aN, hE.e_sN, hE.e_sI, hE.e_mn] <;> omega)), ?_⟩ | refine ⟨fun h => h, ?_⟩ | refine ⟨fun _ => rfl, ?_⟩ | refine ⟨fun _ h => h, ?_⟩ | refine ⟨fun _ _ => True.intro, ?_⟩ | refine ⟨fun _ h => absurd h Bool.false_ne_true, ?_⟩ | refine ⟨fun _ => True.intro, ?_⟩ | refine ⟨fun _ _ => rfl, ?_⟩ | refine ⟨(fun h => Bool.noConfusion h), ?_⟩ | refine ⟨fun _ h => Bool.noConfusion h, ?_⟩ | refine ⟨fun _ h => by rw [h, hE.ntF], ?_⟩ | refine ⟨True.intro, ?_⟩)
        exact ⟨(k + 1, q2, 0, catR nm id), .inr ⟨rfl, rfl, by dsimp only; omega, by dsimp only; omega, L', P, e2, hr, ⟨fun i x hx => by have := hc.at_ (i + 1) x (by simpa using hx); rwa [show k + (i + 1) = k + 1 + i by omega] at this⟩, by
          dsimp only
          rw [show k + 1 + L'.length = k + ((s, v') :: L').length by simp only [List.length_cons]; omega]
          exact hf⟩, by dsimp only; rw [if_pos rfl, if_pos rfl]; omega, [some 3], [], ⟨rfl, rfl, rfl, rfl, ⟨rfl, rfl, rfl, by rw [hE.e_aN], hE.app1 (by show [U.sc (.string (nm k)), U.sc (.int .u64 (id k))] = _; rw [show nm k = s from hr0.1, show id k = iN v' by rw [hE.e_iN]; exact hr0.2])⟩, trivial⟩, by (cbv <;> (repeat' first | exact True.intro | exact ⟨.inr trivial, fun _ _ => rfl⟩ | exact rfl | exact fun _ _ => rfl | refine And.intro ?_ ?_ | rw [hE.iN0] | rw [hE.e_aN]))⟩
end Ytohkcdfjpgdfbaa
end
section
open Go Am
set_option maxRecDepth 100000
set_option maxHeartbeats 4000000
set_option linter.unusedVariables false
set_option linter.unusedSimpArgs false
attribute [local irreducible] Am.vc Am.vcIns Am.vcD
namespace Ytohkcdfjpgdfbaa
theorem ct38 (o : Tg) (n : Nat) (B : Nat → Int) (hB : Byte B) (hn : n ≤ 100000) (e : Int) (m : Nat) (nm : Nat → ByteArray) (id : Nat → Int) (h : ParseR n B e m nm id) :
    CT Go.Proofs.Try.prog 38 [bS o n B] [] (.tp [catS (.new 100) m nm id, scI .i64 e]) [] := by
  obtain ⟨v, q, e1, h1, hcase⟩ := h
  have hv := h1.val hB
  have ct1 : ∀ (p v q : Nat) (e : Int), p ≤ 100000 → Take n B p v q e → ∀ (pz vz qz : Int), IsN pz p → IsN vz v → IsN qz q → CT Go.Proofs.Try.prog 61 [bS o n B, scI .i64 pz] [] (.tp [scI .u64 vz, scI .i64 qz, scI .i64 e]) [] := fun p v q e hp h pz vz qz h1 h2 h3 => ct61 o n B hB (by omega) p pz h1 (by omega) v q e h vz qz h2 h3
  have ct2 : ∀ (p q : Nat) (s : ByteArray) (e : Int), p ≤ 100000 → TakeT n B p s q e → ∀ (pz qz : Int), IsN pz p → IsN qz q → CT Go.Proofs.Try.prog 62 [bS o n B, scI .i64 pz] [] (.tp [strV s, scI .i64 qz, scI .i64 e]) [] := fun p q s e hp h pz qz h1 h2 => ct62 o n B hB (by omega) p pz h1 (by omega) s q e h qz h2
  refine enter38 rfl rfl ?_
  intro ob ib ic sb cat iu nt an be pk wr tn iN aN sN lN eN bt sub sl rn ofB mn dc dn sI X hE hX
  cbv
  refine call_ct hX [] [] (ct1 0 v q e1 (by omega) h1 0 (iN v) (iN q) ⟨rfl⟩ ⟨hE.e_iN⟩ ⟨hE.e_iN⟩) (fits_nil ⟨fitU_refl _, fitU_refl _, trivial⟩) rfl trivial ?_
  have z1 : ic .neq 0 0 = false := by rw [hE.neq]; rfl
  rcases hcase with ⟨he1, rfl, rfl⟩ | ⟨rfl, L, P, e2, hp, hc, hf⟩
  · have c2 : ic .neq e 0 = true := by rw [hE.neq]; simp [he1]
    cbv; (repeat ((first | rewrite [c2] | rewrite [hE.ntT] | rewrite [hE.ntF] | rewrite [hE.pkT] | rewrite [hE.pkF] | rewrite [hE.anT] | rewrite [hE.anF] | rewrite [hE.anT'] | rewrite [hE.anF']); (repeat (first | rewrite [c2] | rewrite [hE.ntT] | rewrite [hE.ntF] | rewrite [hE.pkT] | rewrite [hE.pkF] | rewrite [hE.anT] | rewrite [hE.anF] | rewrite [hE.anT'] | rewrite [hE.anF'])); cbv)); (repeat first | refine ⟨(fun h => absurd h Bool.false_ne_true), ?_⟩ | refine ⟨hE.o (q := .bts _ _) (fun i _ => ⟨_, rfl⟩), ?_⟩ | refine ⟨(hE.o (by simp only [Ob.den, hE.e_iN, hE.e_tn, hE.e_aN, hE.e_sN, hE.e_sI, hE.e_mn] <;> omega)), ?_⟩ | refine ⟨fun _ => (hE.o (by simp only [Ob.den, hE.e_iN, hE.e_tn, hE.e_aN, hE.e_sN, hE.e_sI, hE.e_mn] <;> omega)), ?_⟩ | refine ⟨fun h => h, ?_⟩ | refine ⟨fun _ => rfl, ?_⟩ | refine ⟨fun _ h => h, ?_⟩ | refine ⟨fun _ _ => True.intro, ?_⟩ | refine ⟨fun _ h => absurd h Bool.false_ne_true, ?_⟩ | refine ⟨fun _ => True.intro, ?_⟩ | refine ⟨fun _ _ => rfl, ?_⟩ | refine ⟨(fun h => Bool.noConfusion h), ?_⟩ | refine ⟨fun _ h => Bool.noConfusion h, ?_⟩ | refine ⟨fun _ h => by rw [h, hE.ntF], ?_⟩ | refine ⟨True.intro, ?_⟩)
    exact ct_flat [] rfl ⟨rfl, fitU_refl _, trivial⟩
  have hq := (hv.2.2.1 rfl).2
  cbv; (repeat ((first | rewrite [z1] | rewrite [hE.ntT] | rewrite [hE.ntF] | rewrite [hE.pkT] | rewrite [hE.pkF] | rewrite [hE.anT] | rewrite [hE.anF] | rewrite [hE.anT'] | rewrite [hE.anF']); (repeat (first | rewrite [z1] | rewrite [hE.ntT] | rewrite [hE.ntF] | rewrite [hE.pkT] | rewrite [hE.pkF] | rewrite [hE.anT] | rewrite [hE.anF] | rewrite [hE.anT'] | rewrite [hE.anF'])); cbv)); (repeat first | refine ⟨(fun h => absurd h Bool.false_ne_true), ?_⟩ | refine ⟨hE.o (q := .bts _ _) (fun i _ => ⟨_, rfl⟩), ?_⟩ | refine ⟨(hE.o (by simp only [Ob.den, hE.e_iN, hE.e_tn, hE.e_aN, hE.e_sN, hE.e_sI, hE.e_mn] <;> omega)), ?_⟩ | refine ⟨fun _ => (hE.o (by simp only [Ob.den, hE.e_iN, hE.e_tn, hE.e_aN, hE.e_sN, hE.e_sI, hE.e_mn] <;> omega)), ?_⟩ | refine ⟨fun h => h, ?_⟩ | refine ⟨fun _ => rfl, ?_⟩ | refine ⟨fun _ h => h, ?_⟩ | refine ⟨fun _ _ => True.intro, ?_⟩ | refine ⟨fun _ h => absurd h Bool.false_ne_true, ?_⟩ | refine ⟨fun _ => True.intro, ?_⟩ | refine ⟨fun _ _ => rfl, ?_⟩ | refine ⟨(fun h => Bool.noConfusion h), ?_⟩ | refine ⟨fun _ h => Bool.noConfusion h, ?_⟩ | refine ⟨fun _ h => by rw [h, hE.ntF], ?_⟩ | refine ⟨True.intro, ?_⟩)
  refine loop_at hE hX tabOK (by kernel_rfl) funcsOK rfl (α := Nat × Nat) (fun ⟨k, p⟩ => (sets (pad 65) [(0, bS o n B), (4, scI .u64 (iN v)), (5, scI .i64 (iN p)), (7, .sr 0 2 0 k)], [.arr 100 2 k (catR nm id)])) (fun x => 2 * x.1 ≤ x.2 ∧ x.2 ≤ n ∧ ∃ L P e2, Prs n B v x.1 x.2 L P e2 ∧ Cols L x.1 nm id ∧ Fin n e m nm id (x.1 + L.length) P e2) (fun x => n + 1 - x.2) (0, q) ⟨by simp, hq, L, P, e2, hp, hc, by dsimp only; rw [Nat.zero_add]; exact hf⟩ ?_ ?_
  · refine ⟨[none], [], ⟨rfl, rfl, rfl, rfl, by (cbv <;> (repeat' first | exact True.intro | exact ⟨.inr trivial, fun _ _ => rfl⟩ | exact rfl | exact fun _ _ => rfl | refine And.intro ?_ ?_ | rw [hE.iN0] | rw [hE.e_aN]))⟩, by (cbv <;> (repeat' first | exact True.intro | exact ⟨.inr trivial, fun _ _ => rfl⟩ | exact rfl | exact fun _ _ => rfl | refine And.intro ?_ ?_ | rw [hE.iN0] | rw [hE.e_aN]))⟩
  · rintro ⟨k, p⟩ ⟨hk, hp, L, P, e2, hprs, hc, hf⟩
    dsimp only at hk hp hprs hc hf
    have hle := hprs.le hB hp
    have hw := hE.wr64N (a := k) (by omega)
    rcases hprs.inv with ⟨h, rfl, rfl, rfl⟩ | ⟨s, q', h, ht, he, rfl, rfl⟩ | ⟨s, q', v', q2, h, ht, hk2, he, rfl, rfl⟩ | ⟨s, q', v', q2, L', h, ht, hk2, rfl, hr⟩
    · have hb : ic .lss (iN k) (iN v) = false := by rw [hE.ltN]; exact decide_eq_false (by omega)
      rw [show k + [].length = k from rfl] at hf
      rcases hf with ⟨h1, _, _⟩ | ⟨_, rfl, rfl, hne⟩ | ⟨_, rfl, hmk, rfl, hRt⟩
      · exact absurd rfl h1
      · by_cases hpn : P = n
        · have c3 : ic .neq (iN P) (iN n) = false := by rw [hE.neN]; simp [hpn]
          have hR := hne.resolve_left fun h => h hpn
          cbv; (repeat ((first | rewrite [hw] | rewrite [hb] | rewrite [c3] | rewrite [hE.ntT] | rewrite [hE.ntF] | rewrite [hE.pkT] | rewrite [hE.pkF] | rewrite [hE.anT] | rewrite [hE.anF] | rewrite [hE.anT'] | rewrite [hE.anF']); (repeat (first | rewrite [hw] | rewrite [hb] | rewrite [c3] | rewrite [hE.ntT] | rewrite [hE.ntF] | rewrite [hE.pkT] | rewrite [hE.pkF] | rewrite [hE.anT] | rewrite [hE.anF] | rewrite [hE.anT'] | rewrite [hE.anF'])); cbv)); (repeat first | refine ⟨(fun h => absurd h Bool.false_ne_true), ?_⟩ | refine ⟨hE.o (q := .bts _ _) (fun i _ => ⟨_, rfl⟩), ?_⟩ | refine ⟨(hE.o (by simp only [Ob.den, hE.e_iN, hE.e_tn, hE.e_aN, hE.e_sN, hE.e_sI, hE.e_mn] <;> omega)), ?_⟩ | refine ⟨fun _ => (hE.o (by simp only [Ob.den, hE.e_iN, hE.e_tn, hE.e_aN, hE.e_sN, hE.e_sI, hE.e_mn] <;> omega)), ?_⟩ | refine ⟨fun h => h, ?_⟩ | refine ⟨fun _ => rfl, ?_⟩ | refine ⟨fun _ h => h, ?_⟩ | refine ⟨fun _ _ => True.intro, ?_⟩ | refine ⟨fun _ h => absurd h Bool.false_ne_true, ?_⟩ | refine ⟨fun _ => True.intro, ?_⟩ | refine ⟨fun _ _ => rfl, ?_⟩ | refine ⟨(fun h => Bool.noConfusion h), ?_⟩ | refine ⟨fun _ h => Bool.noConfusion h, ?_⟩ | refine ⟨fun _ h => by rw [h, hE.ntF], ?_⟩ | refine ⟨True.intro, ?_⟩)
          refine call_ct hX [] [0] (ct29 (.new 100) k nm id (by omega) false ⟨fun e => Bool.noConfusion e, fun e => absurd e hR⟩) (fits_fz rfl ⟨⟨rfl, rfl, rfl, rfl, rfl, by omega, fun i hi => by rw [Nat.zero_add]⟩, trivial⟩) rfl ⟨trivial, trivial⟩ ?_
          cbv; (repeat ((first | rewrite [hE.ntT] | rewrite [hE.ntF] | rewrite [hE.pkT] | rewrite [hE.pkF] | rewrite [hE.anT] | rewrite [hE.anF] | rewrite [hE.anT'] | rewrite [hE.anF']); (repeat (first | rewrite [hE.ntT] | rewrite [hE.ntF] | rewrite [hE.pkT] | rewrite [hE.pkF] | rewrite [hE.anT] | rewrite [hE.anF] | rewrite [hE.anT'] | rewrite [hE.anF'])); cbv)); (repeat first | refine ⟨(fun h => absurd h Bool.false_ne_true), ?_⟩ | refine ⟨hE.o (q := .bts _ _) (fun i _ => ⟨_, rfl⟩), ?_⟩ | refine ⟨(hE.o (by simp only [Ob.den, hE.e_iN, hE.e_tn, hE.e_aN, hE.e_sN, hE.e_sI, hE.e_mn] <;> omega)), ?_⟩ | refine ⟨fun _ => (hE.o (by simp only [Ob.den, hE.e_iN, hE.e_tn, hE.e_aN, hE.e_sN, hE.e_sI, hE.e_mn] <;> omega)), ?_⟩ | refine ⟨fun h => h, ?_⟩ | refine ⟨fun _ => rfl, ?_⟩ | refine ⟨fun _ h => h, ?_⟩ | refine ⟨fun _ _ => True.intro, ?_⟩ | refine ⟨fun _ h => absurd h Bool.false_ne_true, ?_⟩ | refine ⟨fun _ => True.intro, ?_⟩ | refine ⟨fun _ _ => rfl, ?_⟩ | refine ⟨(fun h => Bool.noConfusion h), ?_⟩ | refine ⟨fun _ h => Bool.noConfusion h, ?_⟩ | refine ⟨fun _ h => by rw [h, hE.ntF], ?_⟩ | refine ⟨True.intro, ?_⟩)
          exact ct_flat [] rfl ⟨rfl, fitU_refl _, trivial⟩
        · have c3 : ic .neq (iN P) (iN n) = true := by rw [hE.neN]; simp [hpn]
          cbv; (repeat ((first | rewrite [hw] | rewrite [hb] | rewrite [c3] | rewrite [hE.ntT] | rewrite [hE.ntF] | rewrite [hE.pkT] | rewrite [hE.pkF] | rewrite [hE.anT] | rewrite [hE.anF] | rewrite [hE.anT'] | rewrite [hE.anF']); (repeat (first | rewrite [hw] | rewrite [hb] | rewrite [c3] | rewrite [hE.ntT] | rewrite [hE.ntF] | rewrite [hE.pkT] | rewrite [hE.pkF] | rewrite [hE.anT] | rewrite [hE.anF] | rewrite [hE.anT'] | rewrite [hE.anF'])); cbv)); (repeat first | refine ⟨(fun h => absurd h Bool.false_ne_true), ?_⟩ | refine ⟨hE.o (q := .bts _ _) (fun i _ => ⟨_, rfl⟩), ?_⟩ | refine ⟨(hE.o (by simp only [Ob.den, hE.e_iN, hE.e_tn, hE.e_aN, hE.e_sN, hE.e_sI, hE.e_mn] <;> omega)), ?_⟩ | refine ⟨fun _ => (hE.o (by simp only [Ob.den, hE.e_iN, hE.e_tn, hE.e_aN, hE.e_sN, hE.e_sI, hE.e_mn] <;> omega)), ?_⟩ | refine ⟨fun h => h, ?_⟩ | refine ⟨fun _ => rfl, ?_⟩ | refine ⟨fun _ h => h, ?_⟩ | refine ⟨fun _ _ => True.intro, ?_⟩ | refine ⟨fun _ h => absurd h Bool.false_ne_true, ?_⟩ | refine ⟨fun _ => True.intro, ?_⟩ | refine ⟨fun _ _ => rfl, ?_⟩ | refine ⟨(fun h => Bool.noConfusion h), ?_⟩ | refine ⟨fun _ h => Bool.noConfusion h, ?_⟩ | refine ⟨fun _ h => by rw [h, hE.ntF], ?_⟩ | refine ⟨True.intro, ?_⟩)
          exact ct_flat [] rfl ⟨rfl, fitU_refl _, trivial⟩
      · rw [hmk]
        have c3 : ic .neq (iN P) (iN P) = false := by rw [hE.neN]; simp
        cbv; (repeat ((first | rewrite [hw] | rewrite [hb] | rewrite [c3] | rewrite [hE.ntT] | rewrite [hE.ntF] | rewrite [hE.pkT] | rewrite [hE.pkF] | rewrite [hE.anT] | rewrite [hE.anF] | rewrite [hE.anT'] | rewrite [hE.anF']); (repeat (first | rewrite [hw] | rewrite [hb] | rewrite [c3] | rewrite [hE.ntT] | rewrite [hE.ntF] | rewrite [hE.pkT] | rewrite [hE.pkF] | rewrite [hE.anT] | rewrite [hE.anF] | rewrite [hE.anT'] | rewrite [hE.anF'])); cbv)); (repeat first | refine ⟨(fun h => absurd h Bool.false_ne_true), ?_⟩ | refine ⟨hE.o (q := .bts _ _) (fun i _ => ⟨_, rfl⟩), ?_⟩ | refine ⟨(hE.o (by simp only [Ob.den, hE.e_iN, hE.e_tn, hE.e_aN, hE.e_sN, hE.e_sI, hE.e_mn] <;> omega)), ?_⟩ | refine ⟨fun _ => (hE.o (by simp only [Ob.den, hE.e_iN, hE.e_tn, hE.e_aN, hE.e_sN, hE.e_sI, hE.e_mn] <;> omega)), ?_⟩ | refine ⟨fun h => h, ?_⟩ | refine ⟨fun _ => rfl, ?_⟩ | refine ⟨fun _ h => h, ?_⟩ | refine ⟨fun _ _ => True.intro, ?_⟩ | refine ⟨fun _ h => absurd h Bool.false_ne_true, ?_⟩ | refine ⟨fun _ => True.intro, ?_⟩ | refine ⟨fun _ _ => rfl, ?_⟩ | refine ⟨(fun h => Bool.noConfusion h), ?_⟩ | refine ⟨fun _ h => Bool.noConfusion h, ?_⟩ | refine ⟨fun _ h => by rw [h, hE.ntF], ?_⟩ | refine ⟨True.intro, ?_⟩)
        refine call_ct hX [] [0] (ct29 (.new 100) k nm id (by omega) true ⟨fun _ => hRt, fun _ => rfl⟩) (fits_fz rfl ⟨⟨rfl, rfl, rfl, rfl, rfl, by omega, fun i hi => by rw [Nat.zero_add]⟩, trivial⟩) rfl ⟨trivial, trivial⟩ ?_
        cbv; (repeat ((first | rewrite [hE.ntT] | rewrite [hE.ntF] | rewrite [hE.pkT] | rewrite [hE.pkF] | rewrite [hE.anT] | rewrite [hE.anF] | rewrite [hE.anT'] | rewrite [hE.anF']); (repeat (first | rewrite [hE.ntT] | rewrite [hE.ntF] | rewrite [hE.pkT] | rewrite [hE.pkF] | rewrite [hE.anT] | rewrite [hE.anF] | rewrite [hE.anT'] | rewrite [hE.anF'])); cbv)); (repeat first | refine ⟨(fun h => absurd h Bool.false_ne_true), ?_⟩ | refine ⟨hE.o (q := .bts _ _) (fun i _ => ⟨_, rfl⟩), ?_⟩ | refine ⟨(hE.o (by simp only [Ob.den, hE.e_iN, hE.e_tn, hE.e_aN, hE.e_sN, hE.e_sI, hE.e_mn] <;> omega)), ?_⟩ | refine ⟨fun _ => (hE.o (by simp only [Ob.den, hE.e_iN, hE.e_tn, hE.e_aN, hE.e_sN, hE.e_sI, hE.e_mn] <;> omega)), ?_⟩ | refine ⟨fun h => h, ?_⟩ | refine ⟨fun _ => rfl, ?_⟩ | refine ⟨fun _ h => h, ?_⟩ | refine ⟨fun _ _ => True.intro, ?_⟩ | refine ⟨fun _ h => absurd h Bool.false_ne_true, ?_⟩ | refine ⟨fun _ => True.intro, ?_⟩ | refine ⟨fun _ _ => rfl, ?_⟩ | refine ⟨(fun h => Bool.noConfusion h), ?_⟩ | refine ⟨fun _ h => Bool.noConfusion h, ?_⟩ | refine ⟨fun _ h => by rw [h, hE.ntF], ?_⟩ | refine ⟨True.intro, ?_⟩)
        exact ct_flat [0] rfl ⟨⟨rfl, rfl, rfl, rfl, rfl, by omega, fun i hi => by rw [Nat.zero_add]⟩, fitU_refl _, trivial⟩
    · have hb : ic .lss (iN k) (iN v) = true := by rw [hE.ltN]; exact decide_eq_true h
      rcases hf with ⟨_, rfl, rfl⟩ | ⟨h1, _⟩ | ⟨h1, _⟩
      rotate_left
      · exact absurd h1 he
      · exact absurd h1 he
      have c2 : ic .neq e 0 = true := by rw [hE.neq]; simp [he]
      cbv; (repeat ((first | rewrite [hw] | rewrite [hb] | rewrite [hE.ntT] | rewrite [hE.ntF] | rewrite [hE.pkT] | rewrite [hE.pkF] | rewrite [hE.anT] | rewrite [hE.anF] | rewrite [hE.anT'] | rewrite [hE.anF']); (repeat (first | rewrite [hw] | rewrite [hb] | rewrite [hE.ntT] | rewrite [hE.ntF] | rewrite [hE.pkT] | rewrite [hE.pkF] | rewrite [hE.anT] | rewrite [hE.anF] | rewrite [hE.anT'] | rewrite [hE.anF'])); cbv)); (repeat first | refine ⟨(fun h => absurd h Bool.false_ne_true), ?_⟩ | refine ⟨hE.o (q := .bts _ _) (fun i _ => ⟨_, rfl⟩), ?_⟩ | refine ⟨(hE.o (by simp only [Ob.den, hE.e_iN, hE.e_tn, hE.e_aN, hE.e_sN, hE.e_sI, hE.e_mn] <;> omega)), ?_⟩ | refine ⟨fun _ => (hE.o (by simp only [Ob.den, hE.e_iN, hE.e_tn, hE.e_aN, hE.e_sN, hE.e_sI, hE.e_mn] <;> omega)), ?_⟩ | refine ⟨fun h => h, ?_⟩ | refine ⟨fun _ => rfl, ?_⟩ | refine ⟨fun _ h => h, ?_⟩ | refine ⟨fun _ _ => True.intro, ?_⟩ | refine ⟨fun _ h => absurd h Bool.false_ne_true, ?_⟩ | refine ⟨fun _ => True.intro, ?_⟩ | refine ⟨fun _ _ => rfl, ?_⟩ | refine ⟨(fun h => Bool.noConfusion h), ?_⟩ | refine ⟨fun _ h => Bool.noConfusion h, ?_⟩ | refine ⟨fun _ h => by rw [h, hE.ntF], ?_⟩ | refine ⟨True.intro, ?_⟩)
      refine call_ct hX [] [] (ct2 P q' s e (by omega) ht (iN P) (iN q') ⟨hE.e_iN⟩ ⟨hE.e_iN⟩) (fits_nil ⟨fitU_refl _, fitU_refl _, trivial⟩) rfl trivial ?_
      cbv; (repeat ((first | rewrite [c2] | rewrite [hE.ntT] | rewrite [hE.ntF] | rewrite [hE.pkT] | rewrite [hE.pkF] | rewrite [hE.anT] | rewrite [hE.anF] | rewrite [hE.anT'] | rewrite [hE.anF']); (repeat (first | rewrite [c2] | rewrite [hE.ntT] | rewrite [hE.ntF] | rewrite [hE.pkT] | rewrite [hE.pkF] | rewrite [hE.anT] | rewrite [hE.anF] | rewrite [hE.anT'] | rewrite [hE.anF'])); cbv)); (repeat first | refine ⟨(fun h => absurd h Bool.false_ne_true), ?_⟩ | refine ⟨hE.o (q := .bts _ _) (fun i _ => ⟨_, rfl⟩), ?_⟩ | refine ⟨(hE.o (by simp only [Ob.den, hE.e_iN, hE.e_tn, hE.e_aN, hE.e_sN, hE.e_sI, hE.e_mn] <;> omega)), ?_⟩ | refine ⟨fun _ => (hE.o (by simp only [Ob.den, hE.e_iN, hE.e_tn, hE.e_aN, hE.e_sN, hE.e_sI, hE.e_mn] <;> omega)), ?_⟩ | refine ⟨fun h => h, ?_⟩ | refine ⟨fun _ => rfl, ?_⟩ | refine ⟨fun _ h => h, ?_⟩ | refine ⟨fun _ _ => True.intro, ?_⟩ | refine ⟨fun _ h => absurd h Bool.false_ne_true, ?_⟩ | refine ⟨fun _ => True.intro, ?_⟩ | refine ⟨fun _ _ => rfl, ?_⟩ | refine ⟨(fun h => Bool.noConfusion h), ?_⟩ | refine ⟨fun _ h => Bool.noConfusion h, ?_⟩ | refine ⟨fun _ h => by rw [h, hE.ntF], ?_⟩ | refine ⟨True.intro, ?_⟩)
      exact ct_flat [] rfl ⟨rfl, fitU_refl _, trivial⟩
    · have hb : ic .lss (iN k) (iN v) = true := by rw [hE.ltN]; exact decide_eq_true h
      have h1 := (ht.q hB).1 rfl
      rcases hf with ⟨_, rfl, rfl⟩ | ⟨h1, _⟩ | ⟨h1, _⟩
      rotate_left
      · exact absurd h1 he
      · exact absurd h1 he
      have c2 : ic .neq e 0 = true := by rw [hE.neq]; simp [he]
      cbv; (repeat ((first | rewrite [hw] | rewrite [hb] | rewrite [hE.ntT] | rewrite [hE.ntF] | rewrite [hE.pkT] | rewrite [hE.pkF] | rewrite [hE.anT] | rewrite [hE.anF] | rewrite [hE.anT'] | rewrite [hE.anF']); (repeat (first | rewrite [hw] | rewrite [hb] | rewrite [hE.ntT] | rewrite [hE.ntF] | rewrite [hE.pkT] | rewrite [hE.pkF] | rewrite [hE.anT] | rewrite [hE.anF] | rewrite [hE.anT'] | rewrite [hE.anF'])); cbv)); (repeat first | refine ⟨(fun h => absurd h Bool.false_ne_true), ?_⟩ | refine ⟨hE.o (q := .bts _ _) (fun i _ => ⟨_, rfl⟩), ?_⟩ | refine ⟨(hE.o (by simp only [Ob.den, hE.e_iN, hE.e_tn, hE.e_aN, hE.e_sN, hE.e_sI, hE.e_mn] <;> omega)), ?_⟩ | refine ⟨fun _ => (hE.o (by simp only [Ob.den, hE.e_iN, hE.e_tn, hE.e_aN, hE.e_sN, hE.e_sI, hE.e_mn] <;> omega)), ?_⟩ | refine ⟨fun h => h, ?_⟩ | refine ⟨fun _ => rfl, ?_⟩ | refine ⟨fun _ h => h, ?_⟩ | refine ⟨fun _ _ => True.intro, ?_⟩ | refine ⟨fun _ h => absurd h Bool.false_ne_true, ?_⟩ | refine ⟨fun _ => True.intro, ?_⟩ | refine ⟨fun _ _ => rfl, ?_⟩ | refine ⟨(fun h => Bool.noConfusion h), ?_⟩ | refine ⟨fun _ h => Bool.noConfusion h, ?_⟩ | refine ⟨fun _ h => by rw [h, hE.ntF], ?_⟩ | refine ⟨True.intro, ?_⟩)
      refine call_ct hX [] [] (ct2 p P s 0 (by omega) ht (iN p) (iN P) ⟨hE.e_iN⟩ ⟨hE.e_iN⟩) (fits_nil ⟨fitU_refl _, fitU_refl _, trivial⟩) rfl trivial ?_
      cbv; (repeat ((first | rewrite [z1] | rewrite [hE.ntT] | rewrite [hE.ntF] | rewrite [hE.pkT] | rewrite [hE.pkF] | rewrite [hE.anT] | rewrite [hE.anF] | rewrite [hE.anT'] | rewrite [hE.anF']); (repeat (first | rewrite [z1] | rewrite [hE.ntT] | rewrite [hE.ntF] | rewrite [hE.pkT] | rewrite [hE.pkF] | rewrite [hE.anT] | rewrite [hE.anF] | rewrite [hE.anT'] | rewrite [hE.anF'])); cbv)); (repeat first | refine ⟨(fun h => absurd h Bool.false_ne_true), ?_⟩ | refine ⟨hE.o (q := .bts _ _) (fun i _ => ⟨_, rfl⟩), ?_⟩ | refine ⟨(hE.o (by simp only [Ob.den, hE.e_iN, hE.e_tn, hE.e_aN, hE.e_sN, hE.e_sI, hE.e_mn] <;> omega)), ?_⟩ | refine ⟨fun _ => (hE.o (by simp only [Ob.den, hE.e_iN, hE.e_tn, hE.e_aN, hE.e_sN, hE.e_sI, hE.e_mn] <;> omega)), ?_⟩ | refine ⟨fun h => h, ?_⟩ | refine ⟨fun _ => rfl, ?_⟩ | refine ⟨fun _ h => h, ?_⟩ | refine ⟨fun _ _ => True.intro, ?_⟩ | refine ⟨fun _ h => absurd h Bool.false_ne_true, ?_⟩ | refine ⟨fun _ => True.intro, ?_⟩ | refine ⟨fun _ _ => rfl, ?_⟩ | refine ⟨(fun h => Bool.noConfusion h), ?_⟩ | refine ⟨fun _ h => Bool.noConfusion h, ?_⟩ | refine ⟨fun _ h => by rw [h, hE.ntF], ?_⟩ | refine ⟨True.intro, ?_⟩)
      refine call_ct hX [] [] (ct1 P v' q2 e (by omega) hk2 (iN P) (iN v') (iN q2) ⟨hE.e_iN⟩ ⟨hE.e_iN⟩ ⟨hE.e_iN⟩) (fits_nil ⟨fitU_refl _, fitU_refl _, trivial⟩) rfl trivial ?_
      cbv; (repeat ((first | rewrite [c2] | rewrite [hE.ntT] | rewrite [hE.ntF] | rewrite [hE.pkT] | rewrite [hE.pkF] | rewrite [hE.anT] | rewrite [hE.anF] | rewrite [hE.anT'] | rewrite [hE.anF']); (repeat (first | rewrite [c2] | rewrite [hE.ntT] | rewrite [hE.ntF] | rewrite [hE.pkT] | rewrite [hE.pkF] | rewrite [hE.anT] | rewrite [hE.anF] | rewrite [hE.anT'] | rewrite [hE.anF'])); cbv)); (repeat first | refine ⟨(fun h => absurd h Bool.false_ne_true), ?_⟩ | refine ⟨hE.o (q := .bts _ _) (fun i _ => ⟨_, rfl⟩), ?_⟩ | refine ⟨(hE.o (by simp only [Ob.den, hE.e_iN, hE.e_tn, hE.e_aN, hE.e_sN, hE.e_sI, hE.e_mn] <;> omega)), ?_⟩ | refine ⟨fun _ => (hE.o (by simp only [Ob.den, hE.e_iN, hE.e_tn, hE.e_aN, hE.e_sN, hE.e_sI, hE.e_mn] <;> omega)), ?_⟩ | refine ⟨fun h => h, ?_⟩ | refine ⟨fun _ => rfl, ?_⟩ | refine ⟨fun _ h => h, ?_⟩ | refine ⟨fun _ _ => True.intro, ?_⟩ | refine ⟨fun _ h => absurd h Bool.false_ne_true, ?_⟩ | refine ⟨fun _ => True.intro, ?_⟩ | refine ⟨fun _ _ => rfl, ?_⟩ | refine ⟨(fun h => Bool.noConfusion h), ?_⟩ | refine ⟨fun _ h => Bool.noConfusion h, ?_⟩ | refine ⟨fun _ h => by rw [h, hE.ntF], ?_⟩ | refine ⟨True.intro, ?_⟩)
      exact ct_flat [] rfl ⟨rfl, fitU_refl _, trivial⟩
    · have hb : ic .lss (iN k) (iN v) = true := by rw [hE.ltN]; exact decide_eq_true h
      have h1 := (ht.q hB).1 rfl
      have h2 := (hk2.val hB).2.2.1 rfl
      have hr0 := hc.at_ 0 _ rfl
      cbv; (repeat ((first | rewrite [hw] | rewrite [hb] | rewrite [hE.ntT] | rewrite [hE.ntF] | rewrite [hE.pkT] | rewrite [hE.pkF] | rewrite [hE.anT] | rewrite [hE.anF] | rewrite [hE.anT'] | rewrite [hE.anF']); (repeat (first | rewrite [hw] | rewrite [hb] | rewrite [hE.ntT] | rewrite [hE.ntF] | rewrite [hE.pkT] | rewrite [hE.pkF] | rewrite [hE.anT] | rewrite [hE.anF] | rewrite [hE.anT'] | rewrite [hE.anF'])); cbv)); (repeat first | refine ⟨(fun h => absurd h Bool.false_ne_true), ?_⟩ | refine ⟨hE.o (q := .bts _ _) (fun i _ => ⟨_, rfl⟩), ?_⟩ | refine ⟨(hE.o (by simp only [Ob.den, hE.e_iN, hE.e_tn, hE.e_aN, hE.e_sN, hE.e_sI, hE.e_mn] <;> omega)), ?_⟩ | refine ⟨fun _ => (hE.o (by simp only [Ob.den, hE.e_iN, hE.e_tn, hE.e_aN, hE.e_sN, hE.e_sI, hE.e_mn] <;> omega)), ?_⟩ | refine ⟨fun h => h, ?_⟩ | refine ⟨fun _ => rfl, ?_⟩ | refine ⟨fun _ h => h, ?_⟩ | refine ⟨fun _ _ => True.intro, ?_⟩ | refine ⟨fun _ h => absurd h Bool.false_ne_true, ?_⟩ | refine ⟨fun _ => True.intro, ?_⟩ | refine ⟨fun _ _ => rfl, ?_⟩ | refine ⟨(fun h => Bool.noConfusion h), ?_⟩ | refine ⟨fun _ h => Bool.noConfusion h, ?_⟩ | refine ⟨fun _ h => by rw [h, hE.ntF], ?_⟩ | refine ⟨True.intro, ?_⟩)
      refine call_ct hX [] [] (ct2 p q' s 0 (by omega) ht (iN p) (iN q') ⟨hE.e_iN⟩ ⟨hE.e_iN⟩) (fits_nil ⟨fitU_refl _, fitU_refl _, trivial⟩) rfl trivial ?_
      cbv; (repeat ((first | rewrite [z1] | rewrite [hE.ntT] | rewrite [hE.ntF] | rewrite [hE.pkT] | rewrite [hE.pkF] | rewrite [hE.anT] | rewrite [hE.anF] | rewrite [hE.anT'] | rewrite [hE.anF']); (repeat (first | rewrite [z1] | rewrite [hE.ntT] | rewrite [hE.ntF] | rewrite [hE.pkT] | rewrite [hE.pkF] | rewrite [hE.anT] | rewrite [hE.anF] | rewrite [hE.anT'] | rewrite [hE.anF'])); cbv)); (repeat first | refine ⟨(fun h => absurd h Bool.false_ne_true), ?_⟩ | refine ⟨hE.o (q := .bts _ _) (fun i _ => ⟨_, rfl⟩), ?_⟩ | refine ⟨(hE.o (by simp only [Ob.den, hE.e_iN, hE.e_tn, hE.e_aN, hE.e_sN, hE.e_sI, hE.e_mn] <;> omega)), ?_⟩ | refine ⟨fun _ => (hE.o (by simp only [Ob.den, hE.e_iN, hE.e_tn, hE.e_aN, hE.e_sN, hE.e_sI, hE.e_mn] <;> omega)), ?_⟩ | refine ⟨fun h => h, ?_⟩ | refine ⟨fun _ => rfl, ?_⟩ | refine ⟨fun _ h => h, ?_⟩ | refine ⟨fun _ _ => True.intro, ?_⟩ | refine ⟨fun _ h => absurd h Bool.false_ne_true, ?_⟩ | refine ⟨fun _ => True.intro, ?_⟩ | refine ⟨fun _ _ => rfl, ?_⟩ | refine ⟨(fun h => Bool.noConfusion h), ?_⟩ | refine ⟨fun _ h => Bool.noConfusion h, ?_⟩ | refine ⟨fun _ h => by rw [h, hE.ntF], ?_⟩ | refine ⟨True.intro, ?_⟩)
      refine call_ct hX [] [] (ct1 q' v' q2 0 (by omega) hk2 (iN q') (iN v') (iN q2) ⟨hE.e_iN⟩ ⟨hE.e_iN⟩ ⟨hE.e_iN⟩) (fits_nil ⟨fitU_refl _, fitU_refl _, trivial⟩) rfl trivial ?_
      cbv; (repeat ((first | rewrite [z1] | rewrite [hE.ntT] | rewrite [hE.ntF] | rewrite [hE.pkT] | rewrite [hE.pkF] | rewrite [hE.anT] | rewrite [hE.anF] | rewrite [hE.anT'] | rewrite [hE.anF']); (repeat (first | rewrite [z1] | rewrite [hE.ntT] | rewrite [hE.ntF] | rewrite [hE.pkT] | rewrite [hE.pkF] | rewrite [hE.anT] | rewrite [hE.anF] | rewrite [hE.anT'] | rewrite [hE.anF'])); cbv)); (repeat first | refine ⟨(fun h => absurd h Bool.false_ne_true), ?_⟩ | refine ⟨hE.o (q := .bts _ _) (fun i _ => ⟨_, rfl⟩), ?_⟩ | refine ⟨(hE.o (by simp only [Ob.den, hE.e_iN, hE.e_tn, hE.e_aN, hE.e_sN, hE.e_sI, hE.e_mn] <;> omega)), ?_⟩ | refine ⟨fun _ => (hE.o (by simp only [Ob.den, hE.e_iN, hE.e_tn, hE.e_aN, hE.e_sN, hE.e_sI, hE.e_mn] <;> omega)), ?_⟩ | refine ⟨fun h => h, ?_⟩ | refine ⟨fun _ => rfl, ?_⟩ | refine ⟨fun _ h => h, ?_⟩ | refine ⟨fun _ _ => True.intro, ?_⟩ | refine ⟨fun _ h => absurd h Bool.false_ne_true, ?_⟩ | refine ⟨fun _ => True.intro, ?_⟩ | refine ⟨fun _ _ => rfl, ?_⟩ | refine ⟨(fun h => Bool.noConfusion h), ?_⟩ | refine ⟨fun _ h => Bool.noConfusion h, ?_⟩ | refine ⟨fun _ h => by rw [h, hE.ntF], ?_⟩ | refine ⟨True.intro, ?_⟩)
      exact ⟨(k + 1, q2), ⟨by dsimp only; omega, by dsimp only; omega, L', P, e2, hr, ⟨fun i x hx => by have := hc.at_ (i + 1) x (by simpa using hx); rwa [show k + (i + 1) = k + 1 + i by omega] at this⟩, by
        dsimp only
        rw [show k + 1 + L'.length = k + ((s, v') :: L').length by simp only [List.length_cons]; omega]
        exact hf⟩, by dsimp only; omega, [some 2], [], ⟨rfl, rfl, rfl, rfl, ⟨rfl, rfl, rfl, by rw [hE.e_aN], hE.app1 (by show [U.sc (.string (nm k)), U.sc (.int .u64 (id k))] = _; rw [show nm k = s from hr0.1, show id k = iN v' by rw [hE.e_iN]; exact hr0.2])⟩, trivial⟩, by (cbv <;> (repeat' first | exact True.intro | exact ⟨.inr trivial, fun _ _ => rfl⟩ | exact rfl | exact fun _ _ => rfl | refine And.intro ?_ ?_ | rw [hE.iN0] | rw [hE.e_aN]))⟩
end Ytohkcdfjpgdfbaa
end
section
open Go Am
set_option maxRecDepth 100000
set_option maxHeartbeats 4000000
set_option linter.unusedVariables false
set_option linter.unusedSimpArgs false
attribute [local irreducible] Am.vc Am.vcIns Am.vcD
namespace Ytohkcdfjpgdfbaa
def seg (B : Nat → Int) (p q : Nat) : List Nat := (List.range (q - p)).map fun j => (B (p + j)).toNat
theorem seg_len {B : Nat → Int} {p q : Nat} : (seg B p q).length = q - p := by simp [seg]
theorem seg_get {B : Nat → Int} {p q i : Nat} (h : i < q - p) : (seg B p q)[i]? = some (B (p + i)).toNat := by
  unfold seg
  rw [List.getElem?_map, List.getElem?_range h]; rfl
theorem seg_app {B : Nat → Int} {p q r : Nat} (h1 : p ≤ q) (h2 : q ≤ r) : seg B p q ++ seg B q r = seg B p r := by
  apply List.ext_getElem?
  intro i
  rcases Nat.lt_or_ge i (q - p) with h | h
  · rw [List.getElem?_append_left (by rw [seg_len]; exact h), seg_get h, seg_get (by omega)]
  · rw [List.getElem?_append_right (by rw [seg_len]; exact h), seg_len]
    rcases Nat.lt_or_ge i (r - p) with h3 | h3
    · rw [seg_get (by omega), seg_get h3, show q + (i - (q - p)) = p + i by omega]
    · rw [List.getElem?_eq_none (by rw [seg_len]; omega), List.getElem?_eq_none (by rw [seg_len]; omega)]
theorem takeF_seg {n : Nat} {B : Nat → Int} {p v q : Nat} (hB : Byte B) : ∀ f i, (∀ j, j < i → 128 ≤ B (p + j)) → takeF n B p f i = (v, q, 0) → vput v = seg B p q
  | 0, i, hm, h => by cases h
  | f + 1, i, hm, h => by
    unfold takeF at h
    split at h
    · cases h
    · split at h
      · cases h
      · split at h
        · cases h
        · rename_i h1 h2 h3
          split at h
          · rename_i h4
            cases h
            rw [vput_val B hB i p hm h4 (by by_cases h0 : i = 0; exact .inl h0; exact .inr fun h => h3 ⟨h, by omega⟩)]
            unfold seg
            rw [show p + i + 1 - p = i + 1 by omega]
          · exact takeF_seg hB f (i + 1) (fun j hj => by rcases Nat.lt_or_ge j i with h5 | h5; exact hm j h5; (obtain rfl : j = i := by omega); omega) h
theorem Take.seg {n : Nat} {B : Nat → Int} {p v q : Nat} (h : Take n B p v q 0) (hB : Byte B) : vput v = seg B p q := takeF_seg hB 10 0 (fun j hj => by omega) h.e
theorem sBytes_of {B : Nat → Int} (hB : Byte B) (v q : Nat) : sBytes (bytesOf v fun j => B (q + j)) = seg B q (q + v) := by
  show ((((List.range v).map fun j => UInt8.ofNat (B (q + j)).toNat).toArray).toList.map UInt8.toNat) = _
  unfold Ytohkcdfjpgdfbaa.seg
  rw [show q + v - q = v by omega]
  simp only [List.map_map]
  apply List.map_congr_left
  intro j _
  have := hB (q + j)
  show (UInt8.ofNat (B (q + j)).toNat).toNat = _
  rw [UInt8.toNat_ofNat']
  omega
theorem TakeT.seg {n : Nat} {B : Nat → Int} {p q : Nat} {s : ByteArray} (h : TakeT n B p s q 0) (hB : Byte B) : vtext s = seg B p q := by
  cases h with
  | fail v q e h he => exact absurd rfl he
  | ok v q h hv =>
    have h1 := (h.val hB).2.2.1 rfl
    have h2 := sBytes_of hB v q
    have h3 : (bytesOf v fun j => B (q + j)).size = v := by rw [← sBytes_len, h2, seg_len]; omega
    rw [vtext, h3, h.seg hB, h2, seg_app (by omega) (by omega)]
def lents : List (ByteArray × Nat) → List Nat
  | [] => []
  | (s, v) :: l => (vtext s ++ vput v) ++ lents l
theorem Prs.seg {n : Nat} {B : Nat → Int} (hB : Byte B) {many k p P : Nat} {L : List (ByteArray × Nat)} {e : Int} (h : Prs n B many k p L P e) : e = 0 → p ≤ n → p ≤ P ∧ lents L = seg B p P ∧ (k ≤ many → many = k + L.length) := by
  induction h with
  | done k p h => intro _ hp; exact ⟨Nat.le_refl _, by simp [lents, Ytohkcdfjpgdfbaa.seg], fun h' => by simp; omega⟩
  | ft k p s q e h ht he => intro h0; exact absurd h0 he
  | fn k p s q v q2 e h ht hk he => intro h0; exact absurd h0 he
  | step k p s q v q2 L P e h ht hk hr ih =>
    intro h0 hp
    have h1 := (ht.q hB).1 rfl
    have h2 := (hk.val hB).2.2.1 rfl
    obtain ⟨i1, i2, i3⟩ := ih h0 h2.2
    refine ⟨by omega, ?_, fun h' => by have := i3 (by omega); simp only [List.length_cons]; omega⟩
    rw [lents, ht.seg hB, hk.seg hB, i2, seg_app (by omega) (by omega), seg_app (by omega) i1]
theorem lents_snoc : ∀ (L : List (ByteArray × Nat)) (s : ByteArray) (v : Nat), lents (L ++ [(s, v)]) = lents L ++ (vtext s ++ vput v)
  | [], s, v => by simp [lents]
  | (t, w) :: L, s, v => by simp [lents, lents_snoc L]
theorem vents_lents {nm : Nat → ByteArray} {id : Nat → Int} : ∀ (m : Nat) (L : List (ByteArray × Nat)), L.length = m → Cols L 0 nm id → vents nm id m = lents L
  | 0, L, h, _ => by cases L with | nil => rfl | cons => simp at h
  | m + 1, L, h, hc => by
    obtain ⟨L', x, rfl⟩ : ∃ L' x, L = L' ++ [x] := by
      have hne : L ≠ [] := fun h0 => by rw [h0] at h; simp at h
      exact ⟨L.dropLast, L.getLast hne, (List.dropLast_concat_getLast hne).symm⟩
    have hl : L'.length = m := by simpa using h
    obtain ⟨s, v⟩ := x
    have h1 := hc.at_ m (s, v) (by rw [List.getElem?_append_right (by omega), hl]; simp)
    rw [Nat.zero_add] at h1
    rw [vents, vents_lents m L' hl ⟨fun i x hx => hc.at_ i x (by rw [List.getElem?_append_left (lt_of_get hx)]; exact hx)⟩, lents_snoc, h1.1, h1.2]
    rfl
theorem isB_seg {n : Nat} {B : Nat → Int} (hB : Byte B) : IsB n B (seg B 0 n) := ⟨by rw [seg_len]; rfl, fun i x h => by
  have hi : i < n := by have := lt_of_get h; rwa [seg_len] at this
  rw [seg_get (by omega), Nat.zero_add] at h
  cases h
  have := hB i
  omega⟩
theorem Prs.each {n : Nat} {B : Nat → Int} (hB : Byte B) {many k p P : Nat} {L : List (ByteArray × Nat)} {e : Int} (h : Prs n B many k p L P e) : ∀ (i : Nat) (x : ByteArray × Nat), L[i]? = some x → x.2 < 18446744073709551616 ∧ x.1.size ≤ n := by
  induction h with
  | done | ft | fn => intro i x hx; simp at hx
  | step k p s q v q2 L P e h ht hk hr ih =>
    intro i x hx
    cases i with
    | zero => simp at hx; subst hx; exact ⟨(hk.val hB).1, ((ht.q hB).1 rfl).2.2⟩
    | succ i => exact ih i x (by simpa using hx)
theorem ParseR.back {n : Nat} {B : Nat → Int} {m : Nat} {nm : Nat → ByteArray} {id : Nat → Int} (h : ParseR n B 0 m nm id) (hB : Byte B) : Rt m nm id ∧ IsB n B (vcat m nm id) ∧ 2 * m ≤ n ∧ Ids m id ∧ ∀ i, i < m → (nm i).size ≤ n := by
  obtain ⟨v, q, e1, h1, ⟨he, h0, _⟩ | ⟨rfl, L, P, e2, hp, hc, hf⟩⟩ := h
  · exact absurd h0.symm he
  have hq := (h1.val hB).2.2.1 rfl
  rcases hf with ⟨h2, h3, _⟩ | ⟨_, h3, _⟩ | ⟨rfl, _, rfl, rfl, hR⟩
  · exact absurd h3.symm h2
  · exact absurd h3 (by decide)
  · have hle := hp.le hB hq.2
    obtain ⟨s1, s2, s3⟩ := hp.seg hB rfl hq.2
    have hv : v = L.length := by have := s3 (Nat.zero_le _); omega
    have e1 : vcat L.length nm id = seg B 0 P := by
      rw [vcat, vents_lents L.length L rfl hc, ← hv, h1.seg hB, s2, seg_app (by omega) s1]
    refine ⟨hR, by rw [e1]; exact isB_seg hB, by omega, ?_, ?_⟩
    · exact ⟨fun i hi => by
        have hx := List.getElem?_eq_getElem hi
        have h4 := (hc.at_ i _ hx).2
        rw [Nat.zero_add] at h4
        have := (hp.each hB i _ hx).1
        omega⟩
    · intro i hi
      have hx := List.getElem?_eq_getElem hi
      have h4 := (hc.at_ i _ hx).1
      rw [Nat.zero_add] at h4
      rw [h4]
      exact (hp.each hB i _ hx).2
end Ytohkcdfjpgdfbaa
end
section
open Go Am
set_option maxRecDepth 100000
set_option maxHeartbeats 4000000
set_option linter.unusedVariables false
set_option linter.unusedSimpArgs false
attribute [local irreducible] Am.vc Am.vcIns Am.vcD
namespace Ytohkcdfjpgdfbaa
def At (B : Nat → Int) (p : Nat) (L : List Nat) : Prop := ∀ (j y : Nat), L[j]? = some y → B (p + j) = (y : Int)
theorem At.left {B : Nat → Int} {p : Nat} {L M : List Nat} (h : At B p (L ++ M)) : At B p L := fun j y hy => h j y (by rw [List.getElem?_append_left (lt_of_get hy)]; exact hy)
theorem At.right {B : Nat → Int} {p : Nat} {L M : List Nat} (h : At B p (L ++ M)) : At B (p + L.length) M := fun j y hy => by
  rw [Nat.add_assoc]
  exact h _ y (by rw [List.getElem?_append_right (by omega), Nat.add_sub_cancel_left]; exact hy)
theorem takeF_put {N : Nat} {B : Nat → Int} {p x : Nat} (hx : x < 18446744073709551616) : ∀ f i m, i + f = 10 → At B (p + i) (vput m) → val B p i + m * 128 ^ i = x → (i = 0 ∨ 1 ≤ m) → p + i + (vput m).length ≤ N → takeF N B p f i = (x, p + i + (vput m).length, 0)
  | 0, i, m, hi, hB, hv, h0, hN => by
    obtain rfl : i = 10 := by omega
    have : 1 ≤ m := h0.resolve_left (by omega)
    omega
  | f + 1, i, m, hi, hB, hv, h0, hN => by
    unfold takeF
    by_cases h : m < 128
    · rw [vput_lt h] at hB hN ⊢
      have hb : B (p + i) = (m : Int) := hB 0 m rfl
      simp only [List.length_cons, List.length_nil] at hN ⊢
      rw [if_neg (by omega), if_neg (fun h9 => by
        obtain ⟨rfl, h9⟩ := h9
        omega), if_neg (fun hz => by omega), if_pos (by omega), val_snoc, hb, Int.toNat_natCast, Nat.mod_eq_of_lt h, hv]
    · rw [vput_ge h] at hB hN ⊢
      have hb : B (p + i) = ((m % 128 + 128 : Nat) : Int) := hB 0 _ rfl
      simp only [List.length_cons] at hN ⊢
      have hi9 : i ≠ 9 := fun h9 => by subst h9; omega
      rw [if_neg (by omega), if_neg (fun h9 => hi9 h9.1), if_neg (fun hz => by omega), if_neg (by omega)]
      have := takeF_put (N := N) hx f (i + 1) (m / 128) (by omega) (fun j y hy => by rw [show p + (i + 1) + j = p + i + (j + 1) by omega]; exact hB (j + 1) y (by simpa using hy)) (by
        rw [val_snoc, hb, Int.toNat_natCast, Nat.pow_succ, show (m % 128 + 128) % 128 = m % 128 by omega, ← hv, Nat.add_assoc]
        congr 1
        conv => rhs; rw [← Nat.div_add_mod m 128, Nat.add_mul]
        rw [Nat.add_comm (128 * (m / 128) * 128 ^ i)]
        congr 1
        rw [Nat.mul_comm 128 (m / 128), Nat.mul_assoc, Nat.mul_comm (128 ^ i) 128]) (.inr (by omega)) (by omega)
      rw [this]
      simp only [Prod.mk.injEq, and_true, true_and]
      omega
theorem take_put {N : Nat} {B : Nat → Int} {p x : Nat} (hx : x < 18446744073709551616) (hB : At B p (vput x)) (hN : p + (vput x).length ≤ N) : Take N B p x (p + (vput x).length) 0 :=
  ⟨takeF_put hx 10 0 x rfl hB (by simp [val]) (.inl rfl) hN⟩
theorem bytesOf_at {B : Nat → Int} {q : Nat} {s : ByteArray} (h : At B q (sBytes s)) : (bytesOf s.size fun j => B (q + j)) = s := by
  apply ByteArray.ext
  apply Array.ext
  · simp [bytesOf]
  · intro i h1 h2
    have h3 : (sBytes s)[i]? = some (s.data[i]).toNat := by
      unfold sBytes
      rw [List.getElem?_map, List.getElem?_eq_getElem (by simpa using h2)]
      simp
    have h4 := h i _ h3
    simp [bytesOf, h4]
theorem takeT_put {N : Nat} {B : Nat → Int} {p : Nat} {s : ByteArray} (hs : s.size ≤ 1000000) (hB : At B p (vtext s)) (hN : p + (vtext s).length ≤ N) : TakeT N B p s (p + (vtext s).length) 0 := by
  rw [vtext] at hB hN ⊢
  rw [List.length_append, sBytes_len] at hN ⊢
  have h1 := take_put (N := N) (by omega) hB.left (by omega)
  have h2 := TakeT.ok _ _ h1 (by omega)
  rw [bytesOf_at hB.right] at h2
  rwa [Nat.add_assoc] at h2
def entsFrom (nm : Nat → ByteArray) (id : Nat → Int) : Nat → Nat → List Nat
  | _, 0 => []
  | k, d + 1 => (vtext (nm k) ++ vput (id k).toNat) ++ entsFrom nm id (k + 1) d
theorem entsFrom_snoc (nm : Nat → ByteArray) (id : Nat → Int) : ∀ d k, entsFrom nm id k (d + 1) = entsFrom nm id k d ++ (vtext (nm (k + d)) ++ vput (id (k + d)).toNat)
  | 0, k => by simp [entsFrom]
  | d + 1, k => by rw [entsFrom, entsFrom_snoc nm id d (k + 1), entsFrom, show k + 1 + d = k + (d + 1) by omega]; simp
theorem vents_from (nm : Nat → ByteArray) (id : Nat → Int) : ∀ n, vents nm id n = entsFrom nm id 0 n
  | 0 => rfl
  | n + 1 => by rw [entsFrom_snoc, vents, vents_from nm id n, Nat.zero_add]
theorem prs_put {N n : Nat} {B : Nat → Int} {nm : Nat → ByteArray} {id : Nat → Int} (hs : ∀ i, i < n → (nm i).size ≤ 1000) (hid : Ids n id) : ∀ d k p, k + d = n → At B p (entsFrom nm id k d) → p + (entsFrom nm id k d).length = N →
    ∃ L, L.length = d ∧ Cols L k nm id ∧ Prs N B n k p L N 0
  | 0, k, p, hk, hB, hN => ⟨[], rfl, ⟨fun i x hx => by simp at hx⟩, by
    simp only [entsFrom, List.length_nil, Nat.add_zero] at hN
    subst hN
    exact .done k p (by omega)⟩
  | d + 1, k, p, hk, hB, hN => by
    rw [entsFrom] at hB hN
    rw [List.length_append, List.length_append] at hN
    have h1 := hid.at_ k (by omega)
    have h2 := takeT_put (N := N) (p := p) (s := nm k) (by have := hs k (by omega); omega) hB.left.left (by omega)
    have h3 := take_put (N := N) (p := p + (vtext (nm k)).length) (x := (id k).toNat) (by omega) hB.left.right (by omega)
    have hr := hB.right
    rw [List.length_append, ← Nat.add_assoc] at hr
    obtain ⟨L, l1, l2, l3⟩ := prs_put (N := N) hs hid d (k + 1) (p + (vtext (nm k)).length + (vput (id k).toNat).length) (by omega) hr (by omega)
    refine ⟨(nm k, (id k).toNat) :: L, by simp [l1], ⟨fun i x hx => ?_⟩, .step k p _ _ _ _ L N 0 (by omega) h2 h3 l3⟩
    cases i with
    | zero => simp at hx; subst hx; exact ⟨rfl, by rw [Nat.add_zero]; omega⟩
    | succ i => have := l2.at_ i x (by simpa using hx); rwa [show k + 1 + i = k + (i + 1) by omega] at this
theorem parse_put {N n : Nat} {B : Nat → Int} {nm : Nat → ByteArray} {id : Nat → Int} (hn : n ≤ 1000) (hs : ∀ i, i < n → (nm i).size ≤ 1000) (hid : Ids n id) (hR : Rt n nm id) (hB : IsB N B (vcat n nm id)) : ParseR N B 0 n nm id := by
  have h0 : At B 0 (vput n ++ entsFrom nm id 0 n) := fun j y hy => by rw [Nat.zero_add]; exact hB.at_ j y (by rw [vcat, vents_from]; exact hy)
  have hN := hB.len
  rw [vcat, vents_from, List.length_append] at hN
  have h1 := take_put (N := N) (x := n) (by omega) h0.left (by omega)
  obtain ⟨L, l1, l2, l3⟩ := prs_put (N := N) hs hid n 0 _ (by omega) h0.right (by omega)
  exact ⟨n, _, 0, h1, .inr ⟨rfl, L, N, 0, l3, l2, .inr (.inr ⟨rfl, rfl, l1.symm, rfl, by rw [l1]; exact hR⟩)⟩⟩
theorem vcat_byte (n : Nat) (nm : Nat → ByteArray) (id : Nat → Int) : ∀ x ∈ vcat n nm id, x < 256 := by
  have hs : ∀ (s : ByteArray) (x : Nat), x ∈ sBytes s → x < 256 := fun s x hx => by
    unfold sBytes at hx
    obtain ⟨y, _, rfl⟩ := List.mem_map.1 hx
    exact y.toNat_lt
  intro x hx
  rw [vcat, List.mem_append] at hx
  rcases hx with hx | hx
  · exact vput_byte n n (Nat.le_refl _) x hx
  · induction n with
    | zero => simp [vents] at hx
    | succ n ih =>
      rw [vents, List.mem_append, vtext, List.mem_append, List.mem_append] at hx
      rcases hx with hx | (hx | hx) | hx
      · exact ih hx
      · exact vput_byte _ _ (Nat.le_refl _) x hx
      · exact hs _ x hx
      · exact vput_byte _ _ (Nat.le_refl _) x hx
theorem isB_byte {L : List Nat} (h : ∀ x ∈ L, x < 256) : ∃ n B, IsB n B L ∧ Byte B := ⟨L.length, fun i => ((L[i]?).getD 0 : Nat), ⟨rfl, fun i x h => by simp [h]⟩, fun j => by
  cases hx : L[j]? with
  | none => dsimp only; rw [hx]; exact ⟨by decide, by decide⟩
  | some x => have := h x (List.mem_of_getElem? hx); dsimp only; rw [hx]; show 0 ≤ ((x : Nat) : Int) ∧ ((x : Nat) : Int) ≤ 255; omega⟩
end Ytohkcdfjpgdfbaa
end
section
open Go Am
set_option maxRecDepth 100000
set_option maxHeartbeats 4000000
set_option linter.unusedVariables false
set_option linter.unusedSimpArgs false
attribute [local irreducible] Am.vc Am.vcIns Am.vcD
namespace Ytohkcdfjpgdfbaa
theorem ct15 (o o' : Tg) (n : Nat) (B B' : Nat → Int) (hn : n ≤ 1000000) (h : ∀ i, i < n → B i = B' i) : CT Go.Proofs.Try.prog 15 [bS o n B, bS o' n B'] [] (scB true) [] := by
  refine enter15 rfl rfl ?_
  intro ob ib ic sb cat iu nt an be pk wr tn iN aN sN lN eN bt sub sl rn ofB mn dc dn sI X hE hX
  cbv
  have c1 : ic .neq (iN n) (iN n) = false := by rw [hE.neN]; simp
  cbv; (repeat ((first | rewrite [c1] | rewrite [hE.ntT] | rewrite [hE.ntF] | rewrite [hE.pkT] | rewrite [hE.pkF] | rewrite [hE.anT] | rewrite [hE.anF] | rewrite [hE.anT'] | rewrite [hE.anF']); (repeat (first | rewrite [c1] | rewrite [hE.ntT] | rewrite [hE.ntF] | rewrite [hE.pkT] | rewrite [hE.pkF] | rewrite [hE.anT] | rewrite [hE.anF] | rewrite [hE.anT'] | rewrite [hE.anF'])); cbv)); (repeat first | refine ⟨(fun h => absurd h Bool.false_ne_true), ?_⟩ | refine ⟨hE.o (q := .bts _ _) (fun i _ => ⟨_, rfl⟩), ?_⟩ | refine ⟨(hE.o (by simp only [Ob.den, hE.e_iN, hE.e_tn, hE.e_aN, hE.e_sN, hE.e_sI, hE.e_mn] <;> omega)), ?_⟩ | refine ⟨fun _ => (hE.o (by simp only [Ob.den, hE.e_iN, hE.e_tn, hE.e_aN, hE.e_sN, hE.e_sI, hE.e_mn] <;> omega)), ?_⟩ | refine ⟨fun h => h, ?_⟩ | refine ⟨fun _ => rfl, ?_⟩ | refine ⟨fun _ h => h, ?_⟩ | refine ⟨fun _ _ => True.intro, ?_⟩ | refine ⟨fun _ h => absurd h Bool.false_ne_true, ?_⟩ | refine ⟨fun _ => True.intro, ?_⟩ | refine ⟨fun _ _ => rfl, ?_⟩ | refine ⟨(fun h => Bool.noConfusion h), ?_⟩ | refine ⟨fun _ h => Bool.noConfusion h, ?_⟩ | refine ⟨fun _ h => by rw [h, hE.ntF], ?_⟩ | refine ⟨True.intro, ?_⟩)
  refine loop_at hE hX tabOK (by kernel_rfl) funcsOK rfl (α := Nat) (fun k => (sets (pad 26) [(0, bS o n B), (1, bS o' n B'), (5, scI .i64 (iN k))], [])) (fun k => k ≤ n) (fun k => n - k) 0 (by omega) ?_ ?_
  · refine ⟨[], [], ⟨rfl, rfl, rfl, rfl, trivial⟩, ?_⟩
    have e0 : (0 : Int) = iN 0 := hE.iN0.symm
    cbv
    (repeat' first | exact True.intro | exact ⟨.inr trivial, fun _ _ => rfl⟩ | exact rfl | exact congrArg _ e0 | refine And.intro ?_ ?_)
  · rintro k hk
    by_cases hkn : k < n
    · have c2 : ic .lss (iN k) (iN n) = true := by rw [hE.ltN]; exact decide_eq_true hkn
      have c3 : ic .neq (B k) (B' k) = false := by rw [hE.neq, h k hkn]; simp
      have ni := hE.incN (a := k) (by omega)
      cbv; (repeat ((first | rewrite [c2] | rewrite [c3] | rewrite [ni] | rewrite [hE.tnN] | rewrite [hE.ntT] | rewrite [hE.ntF] | rewrite [hE.pkT] | rewrite [hE.pkF] | rewrite [hE.anT] | rewrite [hE.anF] | rewrite [hE.anT'] | rewrite [hE.anF']); (repeat (first | rewrite [c2] | rewrite [c3] | rewrite [ni] | rewrite [hE.tnN] | rewrite [hE.ntT] | rewrite [hE.ntF] | rewrite [hE.pkT] | rewrite [hE.pkF] | rewrite [hE.anT] | rewrite [hE.anF] | rewrite [hE.anT'] | rewrite [hE.anF'])); cbv)); (repeat first | refine ⟨(fun h => absurd h Bool.false_ne_true), ?_⟩ | refine ⟨hE.o (q := .bts _ _) (fun i _ => ⟨_, rfl⟩), ?_⟩ | refine ⟨(hE.o (by simp only [Ob.den, hE.e_iN, hE.e_tn, hE.e_aN, hE.e_sN, hE.e_sI, hE.e_mn] <;> omega)), ?_⟩ | refine ⟨fun _ => (hE.o (by simp only [Ob.den, hE.e_iN, hE.e_tn, hE.e_aN, hE.e_sN, hE.e_sI, hE.e_mn] <;> omega)), ?_⟩ | refine ⟨fun h => h, ?_⟩ | refine ⟨fun _ => rfl, ?_⟩ | refine ⟨fun _ h => h, ?_⟩ | refine ⟨fun _ _ => True.intro, ?_⟩ | refine ⟨fun _ h => absurd h Bool.false_ne_true, ?_⟩ | refine ⟨fun _ => True.intro, ?_⟩ | refine ⟨fun _ _ => rfl, ?_⟩ | refine ⟨(fun h => Bool.noConfusion h), ?_⟩ | refine ⟨fun _ h => Bool.noConfusion h, ?_⟩ | refine ⟨fun _ h => by rw [h, hE.ntF], ?_⟩ | refine ⟨True.intro, ?_⟩)
      exact ⟨k + 1, by omega, by omega, [], [], ⟨rfl, rfl, rfl, rfl, trivial⟩, by (cbv <;> (repeat' first | exact True.intro | exact ⟨.inr trivial, fun _ _ => rfl⟩ | exact rfl | exact fun _ _ => rfl | refine And.intro ?_ ?_ | rw [hE.iN0] | rw [hE.e_aN]))⟩
    · have c2 : ic .lss (iN k) (iN n) = false := by rw [hE.ltN]; exact decide_eq_false hkn
      cbv; (repeat ((first | rewrite [c2] | rewrite [hE.ntT] | rewrite [hE.ntF] | rewrite [hE.pkT] | rewrite [hE.pkF] | rewrite [hE.anT] | rewrite [hE.anF] | rewrite [hE.anT'] | rewrite [hE.anF']); (repeat (first | rewrite [c2] | rewrite [hE.ntT] | rewrite [hE.ntF] | rewrite [hE.pkT] | rewrite [hE.pkF] | rewrite [hE.anT] | rewrite [hE.anF] | rewrite [hE.anT'] | rewrite [hE.anF'])); cbv)); (repeat first | refine ⟨(fun h => absurd h Bool.false_ne_true), ?_⟩ | refine ⟨hE.o (q := .bts _ _) (fun i _ => ⟨_, rfl⟩), ?_⟩ | refine ⟨(hE.o (by simp only [Ob.den, hE.e_iN, hE.e_tn, hE.e_aN, hE.e_sN, hE.e_sI, hE.e_mn] <;> omega)), ?_⟩ | refine ⟨fun _ => (hE.o (by simp only [Ob.den, hE.e_iN, hE.e_tn, hE.e_aN, hE.e_sN, hE.e_sI, hE.e_mn] <;> omega)), ?_⟩ | refine ⟨fun h => h, ?_⟩ | refine ⟨fun _ => rfl, ?_⟩ | refine ⟨fun _ h => h, ?_⟩ | refine ⟨fun _ _ => True.intro, ?_⟩ | refine ⟨fun _ h => absurd h Bool.false_ne_true, ?_⟩ | refine ⟨fun _ => True.intro, ?_⟩ | refine ⟨fun _ _ => rfl, ?_⟩ | refine ⟨(fun h => Bool.noConfusion h), ?_⟩ | refine ⟨fun _ h => Bool.noConfusion h, ?_⟩ | refine ⟨fun _ h => by rw [h, hE.ntF], ?_⟩ | refine ⟨True.intro, ?_⟩)
      exact ct_u rfl
theorem vcat_len {n : Nat} {nm : Nat → ByteArray} {id : Nat → Int} (hn : n ≤ 20) (hs : ∀ i, i < n → (nm i).size ≤ 1000) (hid : Ids n id) : (vcat n nm id).length ≤ 30000 := by
  have h1 := vents_le nm id n hs hid
  have h2 := vput_len 9 n (by omega)
  rw [vcat, List.length_append]
  omega
theorem ct6w (n : Nat) (nm : Nat → ByteArray) (id : Nat → Int) (m : Nat) (C : Nat → Int) (b : Bool) (hb : b = true ↔ n ≤ 20 ∧ ∀ i, i < n → i < 21 → (nm i).size ≤ 100) (hw : ¬ (b = true ∧ m ≤ 1000)) :
    CT Go.Proofs.Try.prog 6 [catS .any n nm id, bS .any m C] [] (scB true) [] := by
  refine enter6 rfl rfl ?_
  intro ob ib ic sb cat iu nt an be pk wr tn iN aN sN lN eN bt sub sl rn ofB mn dc dn sI X hE hX
  cbv
  refine call_ct hX [] [] (ct16 .any n nm id b hb) (fits_nil ⟨fitU_refl _, trivial⟩) rfl trivial ?_
  cases b
  · cbv; (repeat ((first | rewrite [hE.ntT] | rewrite [hE.ntF] | rewrite [hE.pkT] | rewrite [hE.pkF] | rewrite [hE.anT] | rewrite [hE.anF] | rewrite [hE.anT'] | rewrite [hE.anF']); (repeat (first | rewrite [hE.ntT] | rewrite [hE.ntF] | rewrite [hE.pkT] | rewrite [hE.pkF] | rewrite [hE.anT] | rewrite [hE.anF] | rewrite [hE.anT'] | rewrite [hE.anF'])); cbv)); (repeat first | refine ⟨(fun h => absurd h Bool.false_ne_true), ?_⟩ | refine ⟨hE.o (q := .bts _ _) (fun i _ => ⟨_, rfl⟩), ?_⟩ | refine ⟨(hE.o (by simp only [Ob.den, hE.e_iN, hE.e_tn, hE.e_aN, hE.e_sN, hE.e_sI, hE.e_mn] <;> omega)), ?_⟩ | refine ⟨fun _ => (hE.o (by simp only [Ob.den, hE.e_iN, hE.e_tn, hE.e_aN, hE.e_sN, hE.e_sI, hE.e_mn] <;> omega)), ?_⟩ | refine ⟨fun h => h, ?_⟩ | refine ⟨fun _ => rfl, ?_⟩ | refine ⟨fun _ h => h, ?_⟩ | refine ⟨fun _ _ => True.intro, ?_⟩ | refine ⟨fun _ h => absurd h Bool.false_ne_true, ?_⟩ | refine ⟨fun _ => True.intro, ?_⟩ | refine ⟨fun _ _ => rfl, ?_⟩ | refine ⟨(fun h => Bool.noConfusion h), ?_⟩ | refine ⟨fun _ h => Bool.noConfusion h, ?_⟩ | refine ⟨fun _ h => by rw [h, hE.ntF], ?_⟩ | refine ⟨True.intro, ?_⟩)
    refine call_ct hX [] [] ct17 (fits_nil trivial) rfl trivial ?_
    cbv; (repeat ((first | rewrite [hE.ntT] | rewrite [hE.ntF] | rewrite [hE.pkT] | rewrite [hE.pkF] | rewrite [hE.anT] | rewrite [hE.anF] | rewrite [hE.anT'] | rewrite [hE.anF']); (repeat (first | rewrite [hE.ntT] | rewrite [hE.ntF] | rewrite [hE.pkT] | rewrite [hE.pkF] | rewrite [hE.anT] | rewrite [hE.anF] | rewrite [hE.anT'] | rewrite [hE.anF'])); cbv)); (repeat first | refine ⟨(fun h => absurd h Bool.false_ne_true), ?_⟩ | refine ⟨hE.o (q := .bts _ _) (fun i _ => ⟨_, rfl⟩), ?_⟩ | refine ⟨(hE.o (by simp only [Ob.den, hE.e_iN, hE.e_tn, hE.e_aN, hE.e_sN, hE.e_sI, hE.e_mn] <;> omega)), ?_⟩ | refine ⟨fun _ => (hE.o (by simp only [Ob.den, hE.e_iN, hE.e_tn, hE.e_aN, hE.e_sN, hE.e_sI, hE.e_mn] <;> omega)), ?_⟩ | refine ⟨fun h => h, ?_⟩ | refine ⟨fun _ => rfl, ?_⟩ | refine ⟨fun _ h => h, ?_⟩ | refine ⟨fun _ _ => True.intro, ?_⟩ | refine ⟨fun _ h => absurd h Bool.false_ne_true, ?_⟩ | refine ⟨fun _ => True.intro, ?_⟩ | refine ⟨fun _ _ => rfl, ?_⟩ | refine ⟨(fun h => Bool.noConfusion h), ?_⟩ | refine ⟨fun _ h => Bool.noConfusion h, ?_⟩ | refine ⟨fun _ h => by rw [h, hE.ntF], ?_⟩ | refine ⟨True.intro, ?_⟩)
    exact ct_u rfl
  · have hm : ¬ m ≤ 1000 := fun h => hw ⟨rfl, h⟩
    have c1 : ic .gtr (iN m) 1000 = true := by rw [hE.gtr, hE.e_iN]; exact decide_eq_true (by omega)
    cbv; (repeat ((first | rewrite [c1] | rewrite [hE.ntT] | rewrite [hE.ntF] | rewrite [hE.pkT] | rewrite [hE.pkF] | rewrite [hE.anT] | rewrite [hE.anF] | rewrite [hE.anT'] | rewrite [hE.anF']); (repeat (first | rewrite [c1] | rewrite [hE.ntT] | rewrite [hE.ntF] | rewrite [hE.pkT] | rewrite [hE.pkF] | rewrite [hE.anT] | rewrite [hE.anF] | rewrite [hE.anT'] | rewrite [hE.anF'])); cbv)); (repeat first | refine ⟨(fun h => absurd h Bool.false_ne_true), ?_⟩ | refine ⟨hE.o (q := .bts _ _) (fun i _ => ⟨_, rfl⟩), ?_⟩ | refine ⟨(hE.o (by simp only [Ob.den, hE.e_iN, hE.e_tn, hE.e_aN, hE.e_sN, hE.e_sI, hE.e_mn] <;> omega)), ?_⟩ | refine ⟨fun _ => (hE.o (by simp only [Ob.den, hE.e_iN, hE.e_tn, hE.e_aN, hE.e_sN, hE.e_sI, hE.e_mn] <;> omega)), ?_⟩ | refine ⟨fun h => h, ?_⟩ | refine ⟨fun _ => rfl, ?_⟩ | refine ⟨fun _ h => h, ?_⟩ | refine ⟨fun _ _ => True.intro, ?_⟩ | refine ⟨fun _ h => absurd h Bool.false_ne_true, ?_⟩ | refine ⟨fun _ => True.intro, ?_⟩ | refine ⟨fun _ _ => rfl, ?_⟩ | refine ⟨(fun h => Bool.noConfusion h), ?_⟩ | refine ⟨fun _ h => Bool.noConfusion h, ?_⟩ | refine ⟨fun _ h => by rw [h, hE.ntF], ?_⟩ | refine ⟨True.intro, ?_⟩)
    refine call_ct hX [] [] ct17 (fits_nil trivial) rfl trivial ?_
    cbv; (repeat ((first | rewrite [hE.ntT] | rewrite [hE.ntF] | rewrite [hE.pkT] | rewrite [hE.pkF] | rewrite [hE.anT] | rewrite [hE.anF] | rewrite [hE.anT'] | rewrite [hE.anF']); (repeat (first | rewrite [hE.ntT] | rewrite [hE.ntF] | rewrite [hE.pkT] | rewrite [hE.pkF] | rewrite [hE.anT] | rewrite [hE.anF] | rewrite [hE.anT'] | rewrite [hE.anF'])); cbv)); (repeat first | refine ⟨(fun h => absurd h Bool.false_ne_true), ?_⟩ | refine ⟨hE.o (q := .bts _ _) (fun i _ => ⟨_, rfl⟩), ?_⟩ | refine ⟨(hE.o (by simp only [Ob.den, hE.e_iN, hE.e_tn, hE.e_aN, hE.e_sN, hE.e_sI, hE.e_mn] <;> omega)), ?_⟩ | refine ⟨fun _ => (hE.o (by simp only [Ob.den, hE.e_iN, hE.e_tn, hE.e_aN, hE.e_sN, hE.e_sI, hE.e_mn] <;> omega)), ?_⟩ | refine ⟨fun h => h, ?_⟩ | refine ⟨fun _ => rfl, ?_⟩ | refine ⟨fun _ h => h, ?_⟩ | refine ⟨fun _ _ => True.intro, ?_⟩ | refine ⟨fun _ h => absurd h Bool.false_ne_true, ?_⟩ | refine ⟨fun _ => True.intro, ?_⟩ | refine ⟨fun _ _ => rfl, ?_⟩ | refine ⟨(fun h => Bool.noConfusion h), ?_⟩ | refine ⟨fun _ h => Bool.noConfusion h, ?_⟩ | refine ⟨fun _ h => by rw [h, hE.ntF], ?_⟩ | refine ⟨True.intro, ?_⟩)
    exact ct_u rfl
theorem ct6a (n : Nat) (nm : Nat → ByteArray) (id : Nat → Int) (m : Nat) (C : Nat → Int) (hb : n ≤ 20 ∧ ∀ i, i < n → i < 21 → (nm i).size ≤ 100) (hm : m ≤ 1000) (hC : Byte C) (hid : Ids n id) (pe : Int) (pm : Nat) (pa : Nat → ByteArray) (pc : Nat → Int) (hp : ParseR m C pe pm pa pc) (hpm : pm ≤ 1000) (hR : Rt n nm id) (N : Nat) (B : Nat → Int) (hB : IsB N B (vcat n nm id)) (hBB : Byte B) :
    CT Go.Proofs.Try.prog 6 [catS .any n nm id, bS .any m C] [] (scB true) [] := by
  have hs : ∀ i, i < n → (nm i).size ≤ 1000 := fun i hi => by have := hb.2 i hi (by omega); omega
  have hN : N ≤ 30000 := by rw [hB.len]; exact vcat_len hb.1 hs hid
  have hpp := parse_put (by omega) hs hid hR hB
  refine enter6 rfl rfl ?_
  intro ob ib ic sb cat iu nt an be pk wr tn iN aN sN lN eN bt sub sl rn ofB mn dc dn sI X hE hX
  cbv
  have z0 : ic .neq 0 0 = false := by rw [hE.neq]; rfl
  have z1 : ic .eql 0 0 = true := by rw [hE.eql]; rfl
  have z2 : ic .neq 2 2 = false := by rw [hE.neq]; rfl
  have z3 : ic .eql 2 0 = false := by rw [hE.eql]; rfl
  have p0 : ic .neq pe pe = false := by rw [hE.neq]; simp
  have c1 : ic .gtr (iN m) 1000 = false := by rw [hE.gtr, hE.e_iN]; exact decide_eq_false (by omega)
  refine call_ct hX [] [] (ct16 .any n nm id true ⟨fun _ => hb, fun _ => rfl⟩) (fits_nil ⟨fitU_refl _, trivial⟩) rfl trivial ?_
  cbv; (repeat ((first | rewrite [c1] | rewrite [hE.ntT] | rewrite [hE.ntF] | rewrite [hE.pkT] | rewrite [hE.pkF] | rewrite [hE.anT] | rewrite [hE.anF] | rewrite [hE.anT'] | rewrite [hE.anF']); (repeat (first | rewrite [c1] | rewrite [hE.ntT] | rewrite [hE.ntF] | rewrite [hE.pkT] | rewrite [hE.pkF] | rewrite [hE.anT] | rewrite [hE.anF] | rewrite [hE.anT'] | rewrite [hE.anF'])); cbv)); (repeat first | refine ⟨(fun h => absurd h Bool.false_ne_true), ?_⟩ | refine ⟨hE.o (q := .bts _ _) (fun i _ => ⟨_, rfl⟩), ?_⟩ | refine ⟨(hE.o (by simp only [Ob.den, hE.e_iN, hE.e_tn, hE.e_aN, hE.e_sN, hE.e_sI, hE.e_mn] <;> omega)), ?_⟩ | refine ⟨fun _ => (hE.o (by simp only [Ob.den, hE.e_iN, hE.e_tn, hE.e_aN, hE.e_sN, hE.e_sI, hE.e_mn] <;> omega)), ?_⟩ | refine ⟨fun h => h, ?_⟩ | refine ⟨fun _ => rfl, ?_⟩ | refine ⟨fun _ h => h, ?_⟩ | refine ⟨fun _ _ => True.intro, ?_⟩ | refine ⟨fun _ h => absurd h Bool.false_ne_true, ?_⟩ | refine ⟨fun _ => True.intro, ?_⟩ | refine ⟨fun _ _ => rfl, ?_⟩ | refine ⟨(fun h => Bool.noConfusion h), ?_⟩ | refine ⟨fun _ h => Bool.noConfusion h, ?_⟩ | refine ⟨fun _ h => by rw [h, hE.ntF], ?_⟩ | refine ⟨True.intro, ?_⟩)
  refine call_ct hX [] [] (ct35 .any n nm id (by omega) hs hid hR N B hB) (fits_nil ⟨fitU_refl _, trivial⟩) rfl trivial ?_
  cbv; (repeat ((first | rewrite [hE.ntT] | rewrite [hE.ntF] | rewrite [hE.pkT] | rewrite [hE.pkF] | rewrite [hE.anT] | rewrite [hE.anF] | rewrite [hE.anT'] | rewrite [hE.anF']); (repeat (first | rewrite [hE.ntT] | rewrite [hE.ntF] | rewrite [hE.pkT] | rewrite [hE.pkF] | rewrite [hE.anT] | rewrite [hE.anF] | rewrite [hE.anT'] | rewrite [hE.anF'])); cbv)); (repeat first | refine ⟨(fun h => absurd h Bool.false_ne_true), ?_⟩ | refine ⟨hE.o (q := .bts _ _) (fun i _ => ⟨_, rfl⟩), ?_⟩ | refine ⟨(hE.o (by simp only [Ob.den, hE.e_iN, hE.e_tn, hE.e_aN, hE.e_sN, hE.e_sI, hE.e_mn] <;> omega)), ?_⟩ | refine ⟨fun _ => (hE.o (by simp only [Ob.den, hE.e_iN, hE.e_tn, hE.e_aN, hE.e_sN, hE.e_sI, hE.e_mn] <;> omega)), ?_⟩ | refine ⟨fun h => h, ?_⟩ | refine ⟨fun _ => rfl, ?_⟩ | refine ⟨fun _ h => h, ?_⟩ | refine ⟨fun _ _ => True.intro, ?_⟩ | refine ⟨fun _ h => absurd h Bool.false_ne_true, ?_⟩ | refine ⟨fun _ => True.intro, ?_⟩ | refine ⟨fun _ _ => rfl, ?_⟩ | refine ⟨(fun h => Bool.noConfusion h), ?_⟩ | refine ⟨fun _ h => Bool.noConfusion h, ?_⟩ | refine ⟨fun _ h => by rw [h, hE.ntF], ?_⟩ | refine ⟨True.intro, ?_⟩)
  refine call_ct hX [] [] (ct18 .any n nm id (by omega)) (fits_nil ⟨fitU_refl _, trivial⟩) rfl trivial ?_
  cbv; (repeat ((first | rewrite [hE.ntT] | rewrite [hE.ntF] | rewrite [hE.pkT] | rewrite [hE.pkF] | rewrite [hE.anT] | rewrite [hE.anF] | rewrite [hE.anT'] | rewrite [hE.anF']); (repeat (first | rewrite [hE.ntT] | rewrite [hE.ntF] | rewrite [hE.pkT] | rewrite [hE.pkF] | rewrite [hE.anT] | rewrite [hE.anF] | rewrite [hE.anT'] | rewrite [hE.anF'])); cbv)); (repeat first | refine ⟨(fun h => absurd h Bool.false_ne_true), ?_⟩ | refine ⟨hE.o (q := .bts _ _) (fun i _ => ⟨_, rfl⟩), ?_⟩ | refine ⟨(hE.o (by simp only [Ob.den, hE.e_iN, hE.e_tn, hE.e_aN, hE.e_sN, hE.e_sI, hE.e_mn] <;> omega)), ?_⟩ | refine ⟨fun _ => (hE.o (by simp only [Ob.den, hE.e_iN, hE.e_tn, hE.e_aN, hE.e_sN, hE.e_sI, hE.e_mn] <;> omega)), ?_⟩ | refine ⟨fun h => h, ?_⟩ | refine ⟨fun _ => rfl, ?_⟩ | refine ⟨fun _ h => h, ?_⟩ | refine ⟨fun _ _ => True.intro, ?_⟩ | refine ⟨fun _ h => absurd h Bool.false_ne_true, ?_⟩ | refine ⟨fun _ => True.intro, ?_⟩ | refine ⟨fun _ _ => rfl, ?_⟩ | refine ⟨(fun h => Bool.noConfusion h), ?_⟩ | refine ⟨fun _ h => Bool.noConfusion h, ?_⟩ | refine ⟨fun _ h => by rw [h, hE.ntF], ?_⟩ | refine ⟨True.intro, ?_⟩)
  refine call_ct hX [] [] (ct36 (.new 100) n nm id (by omega) hs hid hR N B hB) (fits_nil ⟨fitU_refl _, trivial⟩) rfl trivial ?_
  cbv; (repeat ((first | rewrite [hE.ntT] | rewrite [hE.ntF] | rewrite [hE.pkT] | rewrite [hE.pkF] | rewrite [hE.anT] | rewrite [hE.anF] | rewrite [hE.anT'] | rewrite [hE.anF']); (repeat (first | rewrite [hE.ntT] | rewrite [hE.ntF] | rewrite [hE.pkT] | rewrite [hE.pkF] | rewrite [hE.anT] | rewrite [hE.anF] | rewrite [hE.anT'] | rewrite [hE.anF'])); cbv)); (repeat first | refine ⟨(fun h => absurd h Bool.false_ne_true), ?_⟩ | refine ⟨hE.o (q := .bts _ _) (fun i _ => ⟨_, rfl⟩), ?_⟩ | refine ⟨(hE.o (by simp only [Ob.den, hE.e_iN, hE.e_tn, hE.e_aN, hE.e_sN, hE.e_sI, hE.e_mn] <;> omega)), ?_⟩ | refine ⟨fun _ => (hE.o (by simp only [Ob.den, hE.e_iN, hE.e_tn, hE.e_aN, hE.e_sN, hE.e_sI, hE.e_mn] <;> omega)), ?_⟩ | refine ⟨fun h => h, ?_⟩ | refine ⟨fun _ => rfl, ?_⟩ | refine ⟨fun _ h => h, ?_⟩ | refine ⟨fun _ _ => True.intro, ?_⟩ | refine ⟨fun _ h => absurd h Bool.false_ne_true, ?_⟩ | refine ⟨fun _ => True.intro, ?_⟩ | refine ⟨fun _ _ => rfl, ?_⟩ | refine ⟨(fun h => Bool.noConfusion h), ?_⟩ | refine ⟨fun _ h => Bool.noConfusion h, ?_⟩ | refine ⟨fun _ h => by rw [h, hE.ntF], ?_⟩ | refine ⟨True.intro, ?_⟩)
  refine call_ct hX [] [] (ct37 .any m C hC (by omega) pe pm pa pc hp) (fits_nil ⟨fitU_refl _, trivial⟩) rfl trivial ?_
  cbv; (repeat ((first | rewrite [hE.ntT] | rewrite [hE.ntF] | rewrite [hE.pkT] | rewrite [hE.pkF] | rewrite [hE.anT] | rewrite [hE.anF] | rewrite [hE.anT'] | rewrite [hE.anF']); (repeat (first | rewrite [hE.ntT] | rewrite [hE.ntF] | rewrite [hE.pkT] | rewrite [hE.pkF] | rewrite [hE.anT] | rewrite [hE.anF] | rewrite [hE.anT'] | rewrite [hE.anF'])); cbv)); (repeat first | refine ⟨(fun h => absurd h Bool.false_ne_true), ?_⟩ | refine ⟨hE.o (q := .bts _ _) (fun i _ => ⟨_, rfl⟩), ?_⟩ | refine ⟨(hE.o (by simp only [Ob.den, hE.e_iN, hE.e_tn, hE.e_aN, hE.e_sN, hE.e_sI, hE.e_mn] <;> omega)), ?_⟩ | refine ⟨fun _ => (hE.o (by simp only [Ob.den, hE.e_iN, hE.e_tn, hE.e_aN, hE.e_sN, hE.e_sI, hE.e_mn] <;> omega)), ?_⟩ | refine ⟨fun h => h, ?_⟩ | refine ⟨fun _ => rfl, ?_⟩ | refine ⟨fun _ h => h, ?_⟩ | refine ⟨fun _ _ => True.intro, ?_⟩ | refine ⟨fun _ h => absurd h Bool.false_ne_true, ?_⟩ | refine ⟨fun _ => True.intro, ?_⟩ | refine ⟨fun _ _ => rfl, ?_⟩ | refine ⟨(fun h => Bool.noConfusion h), ?_⟩ | refine ⟨fun _ h => Bool.noConfusion h, ?_⟩ | refine ⟨fun _ h => by rw [h, hE.ntF], ?_⟩ | refine ⟨True.intro, ?_⟩)
  refine call_ct hX [] [] (ct38 .any m C hC (by omega) pe pm pa pc hp) (fits_nil ⟨fitU_refl _, trivial⟩) rfl trivial ?_
  cbv; (repeat ((first | rewrite [hE.ntT] | rewrite [hE.ntF] | rewrite [hE.pkT] | rewrite [hE.pkF] | rewrite [hE.anT] | rewrite [hE.anF] | rewrite [hE.anT'] | rewrite [hE.anF']); (repeat (first | rewrite [hE.ntT] | rewrite [hE.ntF] | rewrite [hE.pkT] | rewrite [hE.pkF] | rewrite [hE.anT] | rewrite [hE.anF] | rewrite [hE.anT'] | rewrite [hE.anF'])); cbv)); (repeat first | refine ⟨(fun h => absurd h Bool.false_ne_true), ?_⟩ | refine ⟨hE.o (q := .bts _ _) (fun i _ => ⟨_, rfl⟩), ?_⟩ | refine ⟨(hE.o (by simp only [Ob.den, hE.e_iN, hE.e_tn, hE.e_aN, hE.e_sN, hE.e_sI, hE.e_mn] <;> omega)), ?_⟩ | refine ⟨fun _ => (hE.o (by simp only [Ob.den, hE.e_iN, hE.e_tn, hE.e_aN, hE.e_sN, hE.e_sI, hE.e_mn] <;> omega)), ?_⟩ | refine ⟨fun h => h, ?_⟩ | refine ⟨fun _ => rfl, ?_⟩ | refine ⟨fun _ h => h, ?_⟩ | refine ⟨fun _ _ => True.intro, ?_⟩ | refine ⟨fun _ h => absurd h Bool.false_ne_true, ?_⟩ | refine ⟨fun _ => True.intro, ?_⟩ | refine ⟨fun _ _ => rfl, ?_⟩ | refine ⟨(fun h => Bool.noConfusion h), ?_⟩ | refine ⟨fun _ h => Bool.noConfusion h, ?_⟩ | refine ⟨fun _ h => by rw [h, hE.ntF], ?_⟩ | refine ⟨True.intro, ?_⟩)
  refine call_ct hX [] [0, 1] (ct15 (.new 5) (.new 5) N B B (by omega) fun _ _ => rfl) (fits_fz rfl ⟨⟨rfl, rfl, rfl, rfl, rfl, by omega, fun i hi => by rw [Nat.zero_add]⟩, ⟨rfl, rfl, rfl, rfl, rfl, by omega, fun i hi => by rw [Nat.zero_add]⟩, trivial⟩) rfl ⟨trivial, trivial⟩ ?_
  cbv; (repeat ((first | rewrite [z0] | rewrite [hE.ntT] | rewrite [hE.ntF] | rewrite [hE.pkT] | rewrite [hE.pkF] | rewrite [hE.anT] | rewrite [hE.anF] | rewrite [hE.anT'] | rewrite [hE.anF']); (repeat (first | rewrite [z0] | rewrite [hE.ntT] | rewrite [hE.ntF] | rewrite [hE.pkT] | rewrite [hE.pkF] | rewrite [hE.anT] | rewrite [hE.anF] | rewrite [hE.anT'] | rewrite [hE.anF'])); cbv)); (repeat first | refine ⟨(fun h => absurd h Bool.false_ne_true), ?_⟩ | refine ⟨hE.o (q := .bts _ _) (fun i _ => ⟨_, rfl⟩), ?_⟩ | refine ⟨(hE.o (by simp only [Ob.den, hE.e_iN, hE.e_tn, hE.e_aN, hE.e_sN, hE.e_sI, hE.e_mn] <;> omega)), ?_⟩ | refine ⟨fun _ => (hE.o (by simp only [Ob.den, hE.e_iN, hE.e_tn, hE.e_aN, hE.e_sN, hE.e_sI, hE.e_mn] <;> omega)), ?_⟩ | refine ⟨fun h => h, ?_⟩ | refine ⟨fun _ => rfl, ?_⟩ | refine ⟨fun _ h => h, ?_⟩ | refine ⟨fun _ _ => True.intro, ?_⟩ | refine ⟨fun _ h => absurd h Bool.false_ne_true, ?_⟩ | refine ⟨fun _ => True.intro, ?_⟩ | refine ⟨fun _ _ => rfl, ?_⟩ | refine ⟨(fun h => Bool.noConfusion h), ?_⟩ | refine ⟨fun _ h => Bool.noConfusion h, ?_⟩ | refine ⟨fun _ h => by rw [h, hE.ntF], ?_⟩ | refine ⟨True.intro, ?_⟩)
  refine call_ct hX [] [] (ct27 (.new 75) (.new 100) pm pa pa pc pc (by omega) fun _ _ => ⟨rfl, rfl⟩) (fits_nil ⟨fitU_refl _, fitU_refl _, trivial⟩) rfl trivial ?_
  cbv; (repeat ((first | rewrite [p0] | rewrite [z1] | rewrite [hE.ntT] | rewrite [hE.ntF] | rewrite [hE.pkT] | rewrite [hE.pkF] | rewrite [hE.anT] | rewrite [hE.anF] | rewrite [hE.anT'] | rewrite [hE.anF']); (repeat (first | rewrite [p0] | rewrite [z1] | rewrite [hE.ntT] | rewrite [hE.ntF] | rewrite [hE.pkT] | rewrite [hE.pkF] | rewrite [hE.anT] | rewrite [hE.anF] | rewrite [hE.anT'] | rewrite [hE.anF'])); cbv)); (repeat first | refine ⟨(fun h => absurd h Bool.false_ne_true), ?_⟩ | refine ⟨hE.o (q := .bts _ _) (fun i _ => ⟨_, rfl⟩), ?_⟩ | refine ⟨(hE.o (by simp only [Ob.den, hE.e_iN, hE.e_tn, hE.e_aN, hE.e_sN, hE.e_sI, hE.e_mn] <;> omega)), ?_⟩ | refine ⟨fun _ => (hE.o (by simp only [Ob.den, hE.e_iN, hE.e_tn, hE.e_aN, hE.e_sN, hE.e_sI, hE.e_mn] <;> omega)), ?_⟩ | refine ⟨fun h => h, ?_⟩ | refine ⟨fun _ => rfl, ?_⟩ | refine ⟨fun _ h => h, ?_⟩ | refine ⟨fun _ _ => True.intro, ?_⟩ | refine ⟨fun _ h => absurd h Bool.false_ne_true, ?_⟩ | refine ⟨fun _ => True.intro, ?_⟩ | refine ⟨fun _ _ => rfl, ?_⟩ | refine ⟨(fun h => Bool.noConfusion h), ?_⟩ | refine ⟨fun _ h => Bool.noConfusion h, ?_⟩ | refine ⟨fun _ h => by rw [h, hE.ntF], ?_⟩ | refine ⟨True.intro, ?_⟩)
  refine call_ct hX [] [0] (ct37 (.new 5) N B hBB (by omega) 0 n nm id hpp) (fits_fz rfl ⟨⟨rfl, rfl, rfl, rfl, rfl, by omega, fun i hi => by rw [Nat.zero_add]⟩, trivial⟩) rfl ⟨⟨⟨rfl, fun _ _ => ⟨trivial, trivial, trivial⟩⟩, trivial, trivial⟩, trivial⟩ ?_
  cbv; (repeat ((first | rewrite [z0] | rewrite [hE.ntT] | rewrite [hE.ntF] | rewrite [hE.pkT] | rewrite [hE.pkF] | rewrite [hE.anT] | rewrite [hE.anF] | rewrite [hE.anT'] | rewrite [hE.anF']); (repeat (first | rewrite [z0] | rewrite [hE.ntT] | rewrite [hE.ntF] | rewrite [hE.pkT] | rewrite [hE.pkF] | rewrite [hE.anT] | rewrite [hE.anF] | rewrite [hE.anT'] | rewrite [hE.anF'])); cbv)); (repeat first | refine ⟨(fun h => absurd h Bool.false_ne_true), ?_⟩ | refine ⟨hE.o (q := .bts _ _) (fun i _ => ⟨_, rfl⟩), ?_⟩ | refine ⟨(hE.o (by simp only [Ob.den, hE.e_iN, hE.e_tn, hE.e_aN, hE.e_sN, hE.e_sI, hE.e_mn] <;> omega)), ?_⟩ | refine ⟨fun _ => (hE.o (by simp only [Ob.den, hE.e_iN, hE.e_tn, hE.e_aN, hE.e_sN, hE.e_sI, hE.e_mn] <;> omega)), ?_⟩ | refine ⟨fun h => h, ?_⟩ | refine ⟨fun _ => rfl, ?_⟩ | refine ⟨fun _ h => h, ?_⟩ | refine ⟨fun _ _ => True.intro, ?_⟩ | refine ⟨fun _ h => absurd h Bool.false_ne_true, ?_⟩ | refine ⟨fun _ => True.intro, ?_⟩ | refine ⟨fun _ _ => rfl, ?_⟩ | refine ⟨(fun h => Bool.noConfusion h), ?_⟩ | refine ⟨fun _ h => Bool.noConfusion h, ?_⟩ | refine ⟨fun _ h => by rw [h, hE.ntF], ?_⟩ | refine ⟨True.intro, ?_⟩)
  refine call_ct hX [] [] (ct18 .any n nm id (by omega)) (fits_nil ⟨fitU_refl _, trivial⟩) rfl trivial ?_
  cbv; (repeat ((first | rewrite [hE.ntT] | rewrite [hE.ntF] | rewrite [hE.pkT] | rewrite [hE.pkF] | rewrite [hE.anT] | rewrite [hE.anF] | rewrite [hE.anT'] | rewrite [hE.anF']); (repeat (first | rewrite [hE.ntT] | rewrite [hE.ntF] | rewrite [hE.pkT] | rewrite [hE.pkF] | rewrite [hE.anT] | rewrite [hE.anF] | rewrite [hE.anT'] | rewrite [hE.anF'])); cbv)); (repeat first | refine ⟨(fun h => absurd h Bool.false_ne_true), ?_⟩ | refine ⟨hE.o (q := .bts _ _) (fun i _ => ⟨_, rfl⟩), ?_⟩ | refine ⟨(hE.o (by simp only [Ob.den, hE.e_iN, hE.e_tn, hE.e_aN, hE.e_sN, hE.e_sI, hE.e_mn] <;> omega)), ?_⟩ | refine ⟨fun _ => (hE.o (by simp only [Ob.den, hE.e_iN, hE.e_tn, hE.e_aN, hE.e_sN, hE.e_sI, hE.e_mn] <;> omega)), ?_⟩ | refine ⟨fun h => h, ?_⟩ | refine ⟨fun _ => rfl, ?_⟩ | refine ⟨fun _ h => h, ?_⟩ | refine ⟨fun _ _ => True.intro, ?_⟩ | refine ⟨fun _ h => absurd h Bool.false_ne_true, ?_⟩ | refine ⟨fun _ => True.intro, ?_⟩ | refine ⟨fun _ _ => rfl, ?_⟩ | refine ⟨(fun h => Bool.noConfusion h), ?_⟩ | refine ⟨fun _ h => Bool.noConfusion h, ?_⟩ | refine ⟨fun _ h => by rw [h, hE.ntF], ?_⟩ | refine ⟨True.intro, ?_⟩)
  refine call_ct hX [] [] (ct27 (.new 75) (.new 100) n nm nm id id (by omega) fun _ _ => ⟨rfl, rfl⟩) (fits_nil ⟨fitU_refl _, fitU_refl _, trivial⟩) rfl trivial ?_
  cbv; (repeat ((first | rewrite [hE.ntT] | rewrite [hE.ntF] | rewrite [hE.pkT] | rewrite [hE.pkF] | rewrite [hE.anT] | rewrite [hE.anF] | rewrite [hE.anT'] | rewrite [hE.anF']); (repeat (first | rewrite [hE.ntT] | rewrite [hE.ntF] | rewrite [hE.pkT] | rewrite [hE.pkF] | rewrite [hE.anT] | rewrite [hE.anF] | rewrite [hE.anT'] | rewrite [hE.anF'])); cbv)); (repeat first | refine ⟨(fun h => absurd h Bool.false_ne_true), ?_⟩ | refine ⟨hE.o (q := .bts _ _) (fun i _ => ⟨_, rfl⟩), ?_⟩ | refine ⟨(hE.o (by simp only [Ob.den, hE.e_iN, hE.e_tn, hE.e_aN, hE.e_sN, hE.e_sI, hE.e_mn] <;> omega)), ?_⟩ | refine ⟨fun _ => (hE.o (by simp only [Ob.den, hE.e_iN, hE.e_tn, hE.e_aN, hE.e_sN, hE.e_sI, hE.e_mn] <;> omega)), ?_⟩ | refine ⟨fun h => h, ?_⟩ | refine ⟨fun _ => rfl, ?_⟩ | refine ⟨fun _ h => h, ?_⟩ | refine ⟨fun _ _ => True.intro, ?_⟩ | refine ⟨fun _ h => absurd h Bool.false_ne_true, ?_⟩ | refine ⟨fun _ => True.intro, ?_⟩ | refine ⟨fun _ _ => rfl, ?_⟩ | refine ⟨(fun h => Bool.noConfusion h), ?_⟩ | refine ⟨fun _ h => Bool.noConfusion h, ?_⟩ | refine ⟨fun _ h => by rw [h, hE.ntF], ?_⟩ | refine ⟨True.intro, ?_⟩)
  by_cases hg : pe = 0
  · subst hg
    obtain ⟨r1, r2, r3, r4, r5⟩ := hp.back hC
    cbv; (repeat ((first | rewrite [z1] | rewrite [hE.ntT] | rewrite [hE.ntF] | rewrite [hE.pkT] | rewrite [hE.pkF] | rewrite [hE.anT] | rewrite [hE.anF] | rewrite [hE.anT'] | rewrite [hE.anF']); (repeat (first | rewrite [z1] | rewrite [hE.ntT] | rewrite [hE.ntF] | rewrite [hE.pkT] | rewrite [hE.pkF] | rewrite [hE.anT] | rewrite [hE.anF] | rewrite [hE.anT'] | rewrite [hE.anF'])); cbv)); (repeat first | refine ⟨(fun h => absurd h Bool.false_ne_true), ?_⟩ | refine ⟨hE.o (q := .bts _ _) (fun i _ => ⟨_, rfl⟩), ?_⟩ | refine ⟨(hE.o (by simp only [Ob.den, hE.e_iN, hE.e_tn, hE.e_aN, hE.e_sN, hE.e_sI, hE.e_mn] <;> omega)), ?_⟩ | refine ⟨fun _ => (hE.o (by simp only [Ob.den, hE.e_iN, hE.e_tn, hE.e_aN, hE.e_sN, hE.e_sI, hE.e_mn] <;> omega)), ?_⟩ | refine ⟨fun h => h, ?_⟩ | refine ⟨fun _ => rfl, ?_⟩ | refine ⟨fun _ h => h, ?_⟩ | refine ⟨fun _ _ => True.intro, ?_⟩ | refine ⟨fun _ h => absurd h Bool.false_ne_true, ?_⟩ | refine ⟨fun _ => True.intro, ?_⟩ | refine ⟨fun _ _ => rfl, ?_⟩ | refine ⟨(fun h => Bool.noConfusion h), ?_⟩ | refine ⟨fun _ h => Bool.noConfusion h, ?_⟩ | refine ⟨fun _ h => by rw [h, hE.ntF], ?_⟩ | refine ⟨True.intro, ?_⟩)
    refine call_ct hX [] [] (ct35 (.new 75) pm pa pc (by omega) (fun i hi => by have := r5 i hi; omega) r4 r1 m C r2) (fits_nil ⟨fitU_refl _, trivial⟩) rfl trivial ?_
    cbv; (repeat ((first | rewrite [z0] | rewrite [hE.ntT] | rewrite [hE.ntF] | rewrite [hE.pkT] | rewrite [hE.pkF] | rewrite [hE.anT] | rewrite [hE.anF] | rewrite [hE.anT'] | rewrite [hE.anF']); (repeat (first | rewrite [z0] | rewrite [hE.ntT] | rewrite [hE.ntF] | rewrite [hE.pkT] | rewrite [hE.pkF] | rewrite [hE.anT] | rewrite [hE.anF] | rewrite [hE.anT'] | rewrite [hE.anF'])); cbv)); (repeat first | refine ⟨(fun h => absurd h Bool.false_ne_true), ?_⟩ | refine ⟨hE.o (q := .bts _ _) (fun i _ => ⟨_, rfl⟩), ?_⟩ | refine ⟨(hE.o (by simp only [Ob.den, hE.e_iN, hE.e_tn, hE.e_aN, hE.e_sN, hE.e_sI, hE.e_mn] <;> omega)), ?_⟩ | refine ⟨fun _ => (hE.o (by simp only [Ob.den, hE.e_iN, hE.e_tn, hE.e_aN, hE.e_sN, hE.e_sI, hE.e_mn] <;> omega)), ?_⟩ | refine ⟨fun h => h, ?_⟩ | refine ⟨fun _ => rfl, ?_⟩ | refine ⟨fun _ h => h, ?_⟩ | refine ⟨fun _ _ => True.intro, ?_⟩ | refine ⟨fun _ h => absurd h Bool.false_ne_true, ?_⟩ | refine ⟨fun _ => True.intro, ?_⟩ | refine ⟨fun _ _ => rfl, ?_⟩ | refine ⟨(fun h => Bool.noConfusion h), ?_⟩ | refine ⟨fun _ h => Bool.noConfusion h, ?_⟩ | refine ⟨fun _ h => by rw [h, hE.ntF], ?_⟩ | refine ⟨True.intro, ?_⟩)
    refine call_ct hX [] [2] (ct15 (.new 5) .any m C C (by omega) fun _ _ => rfl) (fits_fz rfl ⟨⟨rfl, rfl, rfl, rfl, rfl, by omega, fun i hi => by rw [Nat.zero_add]⟩, fitU_refl _, trivial⟩) rfl ⟨trivial, trivial⟩ ?_
    cbv; (repeat ((first | rewrite [hE.ntT] | rewrite [hE.ntF] | rewrite [hE.pkT] | rewrite [hE.pkF] | rewrite [hE.anT] | rewrite [hE.anF] | rewrite [hE.anT'] | rewrite [hE.anF']); (repeat (first | rewrite [hE.ntT] | rewrite [hE.ntF] | rewrite [hE.pkT] | rewrite [hE.pkF] | rewrite [hE.anT] | rewrite [hE.anF] | rewrite [hE.anT'] | rewrite [hE.anF'])); cbv)); (repeat first | refine ⟨(fun h => absurd h Bool.false_ne_true), ?_⟩ | refine ⟨hE.o (q := .bts _ _) (fun i _ => ⟨_, rfl⟩), ?_⟩ | refine ⟨(hE.o (by simp only [Ob.den, hE.e_iN, hE.e_tn, hE.e_aN, hE.e_sN, hE.e_sI, hE.e_mn] <;> omega)), ?_⟩ | refine ⟨fun _ => (hE.o (by simp only [Ob.den, hE.e_iN, hE.e_tn, hE.e_aN, hE.e_sN, hE.e_sI, hE.e_mn] <;> omega)), ?_⟩ | refine ⟨fun h => h, ?_⟩ | refine ⟨fun _ => rfl, ?_⟩ | refine ⟨fun _ h => h, ?_⟩ | refine ⟨fun _ _ => True.intro, ?_⟩ | refine ⟨fun _ h => absurd h Bool.false_ne_true, ?_⟩ | refine ⟨fun _ => True.intro, ?_⟩ | refine ⟨fun _ _ => rfl, ?_⟩ | refine ⟨(fun h => Bool.noConfusion h), ?_⟩ | refine ⟨fun _ h => Bool.noConfusion h, ?_⟩ | refine ⟨fun _ h => by rw [h, hE.ntF], ?_⟩ | refine ⟨True.intro, ?_⟩)
    refine call_ct hX [] [] ct17 (fits_nil trivial) rfl trivial ?_
    cbv; (repeat ((first | rewrite [hE.ntT] | rewrite [hE.ntF] | rewrite [hE.pkT] | rewrite [hE.pkF] | rewrite [hE.anT] | rewrite [hE.anF] | rewrite [hE.anT'] | rewrite [hE.anF']); (repeat (first | rewrite [hE.ntT] | rewrite [hE.ntF] | rewrite [hE.pkT] | rewrite [hE.pkF] | rewrite [hE.anT] | rewrite [hE.anF] | rewrite [hE.anT'] | rewrite [hE.anF'])); cbv)); (repeat first | refine ⟨(fun h => absurd h Bool.false_ne_true), ?_⟩ | refine ⟨hE.o (q := .bts _ _) (fun i _ => ⟨_, rfl⟩), ?_⟩ | refine ⟨(hE.o (by simp only [Ob.den, hE.e_iN, hE.e_tn, hE.e_aN, hE.e_sN, hE.e_sI, hE.e_mn] <;> omega)), ?_⟩ | refine ⟨fun _ => (hE.o (by simp only [Ob.den, hE.e_iN, hE.e_tn, hE.e_aN, hE.e_sN, hE.e_sI, hE.e_mn] <;> omega)), ?_⟩ | refine ⟨fun h => h, ?_⟩ | refine ⟨fun _ => rfl, ?_⟩ | refine ⟨fun _ h => h, ?_⟩ | refine ⟨fun _ _ => True.intro, ?_⟩ | refine ⟨fun _ h => absurd h Bool.false_ne_true, ?_⟩ | refine ⟨fun _ => True.intro, ?_⟩ | refine ⟨fun _ _ => rfl, ?_⟩ | refine ⟨(fun h => Bool.noConfusion h), ?_⟩ | refine ⟨fun _ h => Bool.noConfusion h, ?_⟩ | refine ⟨fun _ h => by rw [h, hE.ntF], ?_⟩ | refine ⟨True.intro, ?_⟩)
    exact ct_u rfl
  · have g1 : ic .eql pe 0 = false := by rw [hE.eql]; exact decide_eq_false hg
    cbv; (repeat ((first | rewrite [g1] | rewrite [hE.ntT] | rewrite [hE.ntF] | rewrite [hE.pkT] | rewrite [hE.pkF] | rewrite [hE.anT] | rewrite [hE.anF] | rewrite [hE.anT'] | rewrite [hE.anF']); (repeat (first | rewrite [g1] | rewrite [hE.ntT] | rewrite [hE.ntF] | rewrite [hE.pkT] | rewrite [hE.pkF] | rewrite [hE.anT] | rewrite [hE.anF] | rewrite [hE.anT'] | rewrite [hE.anF'])); cbv)); (repeat first | refine ⟨(fun h => absurd h Bool.false_ne_true), ?_⟩ | refine ⟨hE.o (q := .bts _ _) (fun i _ => ⟨_, rfl⟩), ?_⟩ | refine ⟨(hE.o (by simp only [Ob.den, hE.e_iN, hE.e_tn, hE.e_aN, hE.e_sN, hE.e_sI, hE.e_mn] <;> omega)), ?_⟩ | refine ⟨fun _ => (hE.o (by simp only [Ob.den, hE.e_iN, hE.e_tn, hE.e_aN, hE.e_sN, hE.e_sI, hE.e_mn] <;> omega)), ?_⟩ | refine ⟨fun h => h, ?_⟩ | refine ⟨fun _ => rfl, ?_⟩ | refine ⟨fun _ h => h, ?_⟩ | refine ⟨fun _ _ => True.intro, ?_⟩ | refine ⟨fun _ h => absurd h Bool.false_ne_true, ?_⟩ | refine ⟨fun _ => True.intro, ?_⟩ | refine ⟨fun _ _ => rfl, ?_⟩ | refine ⟨(fun h => Bool.noConfusion h), ?_⟩ | refine ⟨fun _ h => Bool.noConfusion h, ?_⟩ | refine ⟨fun _ h => by rw [h, hE.ntF], ?_⟩ | refine ⟨True.intro, ?_⟩)
    refine call_ct hX [] [] ct17 (fits_nil trivial) rfl trivial ?_
    cbv; (repeat ((first | rewrite [hE.ntT] | rewrite [hE.ntF] | rewrite [hE.pkT] | rewrite [hE.pkF] | rewrite [hE.anT] | rewrite [hE.anF] | rewrite [hE.anT'] | rewrite [hE.anF']); (repeat (first | rewrite [hE.ntT] | rewrite [hE.ntF] | rewrite [hE.pkT] | rewrite [hE.pkF] | rewrite [hE.anT] | rewrite [hE.anF] | rewrite [hE.anT'] | rewrite [hE.anF'])); cbv)); (repeat first | refine ⟨(fun h => absurd h Bool.false_ne_true), ?_⟩ | refine ⟨hE.o (q := .bts _ _) (fun i _ => ⟨_, rfl⟩), ?_⟩ | refine ⟨(hE.o (by simp only [Ob.den, hE.e_iN, hE.e_tn, hE.e_aN, hE.e_sN, hE.e_sI, hE.e_mn] <;> omega)), ?_⟩ | refine ⟨fun _ => (hE.o (by simp only [Ob.den, hE.e_iN, hE.e_tn, hE.e_aN, hE.e_sN, hE.e_sI, hE.e_mn] <;> omega)), ?_⟩ | refine ⟨fun h => h, ?_⟩ | refine ⟨fun _ => rfl, ?_⟩ | refine ⟨fun _ h => h, ?_⟩ | refine ⟨fun _ _ => True.intro, ?_⟩ | refine ⟨fun _ h => absurd h Bool.false_ne_true, ?_⟩ | refine ⟨fun _ => True.intro, ?_⟩ | refine ⟨fun _ _ => rfl, ?_⟩ | refine ⟨(fun h => Bool.noConfusion h), ?_⟩ | refine ⟨fun _ h => Bool.noConfusion h, ?_⟩ | refine ⟨fun _ h => by rw [h, hE.ntF], ?_⟩ | refine ⟨True.intro, ?_⟩)
    exact ct_u rfl
theorem ct6b (n : Nat) (nm : Nat → ByteArray) (id : Nat → Int) (m : Nat) (C : Nat → Int) (hb : n ≤ 20 ∧ ∀ i, i < n → i < 21 → (nm i).size ≤ 100) (hm : m ≤ 1000) (hC : Byte C) (hid : Ids n id) (pe : Int) (pm : Nat) (pa : Nat → ByteArray) (pc : Nat → Int) (hp : ParseR m C pe pm pa pc) (hpm : pm ≤ 1000) (hR : ¬ Rt n nm id) :
    CT Go.Proofs.Try.prog 6 [catS .any n nm id, bS .any m C] [] (scB true) [] := by
  refine enter6 rfl rfl ?_
  intro ob ib ic sb cat iu nt an be pk wr tn iN aN sN lN eN bt sub sl rn ofB mn dc dn sI X hE hX
  cbv
  have z0 : ic .neq 0 0 = false := by rw [hE.neq]; rfl
  have z1 : ic .eql 0 0 = true := by rw [hE.eql]; rfl
  have z2 : ic .neq 2 2 = false := by rw [hE.neq]; rfl
  have z3 : ic .eql 2 0 = false := by rw [hE.eql]; rfl
  have p0 : ic .neq pe pe = false := by rw [hE.neq]; simp
  have c1 : ic .gtr (iN m) 1000 = false := by rw [hE.gtr, hE.e_iN]; exact decide_eq_false (by omega)
  refine call_ct hX [] [] (ct16 .any n nm id true ⟨fun _ => hb, fun _ => rfl⟩) (fits_nil ⟨fitU_refl _, trivial⟩) rfl trivial ?_
  cbv; (repeat ((first | rewrite [c1] | rewrite [hE.ntT] | rewrite [hE.ntF] | rewrite [hE.pkT] | rewrite [hE.pkF] | rewrite [hE.anT] | rewrite [hE.anF] | rewrite [hE.anT'] | rewrite [hE.anF']); (repeat (first | rewrite [c1] | rewrite [hE.ntT] | rewrite [hE.ntF] | rewrite [hE.pkT] | rewrite [hE.pkF] | rewrite [hE.anT] | rewrite [hE.anF] | rewrite [hE.anT'] | rewrite [hE.anF'])); cbv)); (repeat first | refine ⟨(fun h => absurd h Bool.false_ne_true), ?_⟩ | refine ⟨hE.o (q := .bts _ _) (fun i _ => ⟨_, rfl⟩), ?_⟩ | refine ⟨(hE.o (by simp only [Ob.den, hE.e_iN, hE.e_tn, hE.e_aN, hE.e_sN, hE.e_sI, hE.e_mn] <;> omega)), ?_⟩ | refine ⟨fun _ => (hE.o (by simp only [Ob.den, hE.e_iN, hE.e_tn, hE.e_aN, hE.e_sN, hE.e_sI, hE.e_mn] <;> omega)), ?_⟩ | refine ⟨fun h => h, ?_⟩ | refine ⟨fun _ => rfl, ?_⟩ | refine ⟨fun _ h => h, ?_⟩ | refine ⟨fun _ _ => True.intro, ?_⟩ | refine ⟨fun _ h => absurd h Bool.false_ne_true, ?_⟩ | refine ⟨fun _ => True.intro, ?_⟩ | refine ⟨fun _ _ => rfl, ?_⟩ | refine ⟨(fun h => Bool.noConfusion h), ?_⟩ | refine ⟨fun _ h => Bool.noConfusion h, ?_⟩ | refine ⟨fun _ h => by rw [h, hE.ntF], ?_⟩ | refine ⟨True.intro, ?_⟩)
  refine call_ct hX [] [] (ct35f .any n nm id (by omega) hR) (fits_nil ⟨fitU_refl _, trivial⟩) rfl trivial ?_
  cbv; (repeat ((first | rewrite [hE.ntT] | rewrite [hE.ntF] | rewrite [hE.pkT] | rewrite [hE.pkF] | rewrite [hE.anT] | rewrite [hE.anF] | rewrite [hE.anT'] | rewrite [hE.anF']); (repeat (first | rewrite [hE.ntT] | rewrite [hE.ntF] | rewrite [hE.pkT] | rewrite [hE.pkF] | rewrite [hE.anT] | rewrite [hE.anF] | rewrite [hE.anT'] | rewrite [hE.anF'])); cbv)); (repeat first | refine ⟨(fun h => absurd h Bool.false_ne_true), ?_⟩ | refine ⟨hE.o (q := .bts _ _) (fun i _ => ⟨_, rfl⟩), ?_⟩ | refine ⟨(hE.o (by simp only [Ob.den, hE.e_iN, hE.e_tn, hE.e_aN, hE.e_sN, hE.e_sI, hE.e_mn] <;> omega)), ?_⟩ | refine ⟨fun _ => (hE.o (by simp only [Ob.den, hE.e_iN, hE.e_tn, hE.e_aN, hE.e_sN, hE.e_sI, hE.e_mn] <;> omega)), ?_⟩ | refine ⟨fun h => h, ?_⟩ | refine ⟨fun _ => rfl, ?_⟩ | refine ⟨fun _ h => h, ?_⟩ | refine ⟨fun _ _ => True.intro, ?_⟩ | refine ⟨fun _ h => absurd h Bool.false_ne_true, ?_⟩ | refine ⟨fun _ => True.intro, ?_⟩ | refine ⟨fun _ _ => rfl, ?_⟩ | refine ⟨(fun h => Bool.noConfusion h), ?_⟩ | refine ⟨fun _ h => Bool.noConfusion h, ?_⟩ | refine ⟨fun _ h => by rw [h, hE.ntF], ?_⟩ | refine ⟨True.intro, ?_⟩)
  refine call_ct hX [] [] (ct18 .any n nm id (by omega)) (fits_nil ⟨fitU_refl _, trivial⟩) rfl trivial ?_
  cbv; (repeat ((first | rewrite [hE.ntT] | rewrite [hE.ntF] | rewrite [hE.pkT] | rewrite [hE.pkF] | rewrite [hE.anT] | rewrite [hE.anF] | rewrite [hE.anT'] | rewrite [hE.anF']); (repeat (first | rewrite [hE.ntT] | rewrite [hE.ntF] | rewrite [hE.pkT] | rewrite [hE.pkF] | rewrite [hE.anT] | rewrite [hE.anF] | rewrite [hE.anT'] | rewrite [hE.anF'])); cbv)); (repeat first | refine ⟨(fun h => absurd h Bool.false_ne_true), ?_⟩ | refine ⟨hE.o (q := .bts _ _) (fun i _ => ⟨_, rfl⟩), ?_⟩ | refine ⟨(hE.o (by simp only [Ob.den, hE.e_iN, hE.e_tn, hE.e_aN, hE.e_sN, hE.e_sI, hE.e_mn] <;> omega)), ?_⟩ | refine ⟨fun _ => (hE.o (by simp only [Ob.den, hE.e_iN, hE.e_tn, hE.e_aN, hE.e_sN, hE.e_sI, hE.e_mn] <;> omega)), ?_⟩ | refine ⟨fun h => h, ?_⟩ | refine ⟨fun _ => rfl, ?_⟩ | refine ⟨fun _ h => h, ?_⟩ | refine ⟨fun _ _ => True.intro, ?_⟩ | refine ⟨fun _ h => absurd h Bool.false_ne_true, ?_⟩ | refine ⟨fun _ => True.intro, ?_⟩ | refine ⟨fun _ _ => rfl, ?_⟩ | refine ⟨(fun h => Bool.noConfusion h), ?_⟩ | refine ⟨fun _ h => Bool.noConfusion h, ?_⟩ | refine ⟨fun _ h => by rw [h, hE.ntF], ?_⟩ | refine ⟨True.intro, ?_⟩)
  refine call_ct hX [] [] (ct36f (.new 100) n nm id (by omega) hR) (fits_nil ⟨fitU_refl _, trivial⟩) rfl trivial ?_
  cbv; (repeat ((first | rewrite [hE.ntT] | rewrite [hE.ntF] | rewrite [hE.pkT] | rewrite [hE.pkF] | rewrite [hE.anT] | rewrite [hE.anF] | rewrite [hE.anT'] | rewrite [hE.anF']); (repeat (first | rewrite [hE.ntT] | rewrite [hE.ntF] | rewrite [hE.pkT] | rewrite [hE.pkF] | rewrite [hE.anT] | rewrite [hE.anF] | rewrite [hE.anT'] | rewrite [hE.anF'])); cbv)); (repeat first | refine ⟨(fun h => absurd h Bool.false_ne_true), ?_⟩ | refine ⟨hE.o (q := .bts _ _) (fun i _ => ⟨_, rfl⟩), ?_⟩ | refine ⟨(hE.o (by simp only [Ob.den, hE.e_iN, hE.e_tn, hE.e_aN, hE.e_sN, hE.e_sI, hE.e_mn] <;> omega)), ?_⟩ | refine ⟨fun _ => (hE.o (by simp only [Ob.den, hE.e_iN, hE.e_tn, hE.e_aN, hE.e_sN, hE.e_sI, hE.e_mn] <;> omega)), ?_⟩ | refine ⟨fun h => h, ?_⟩ | refine ⟨fun _ => rfl, ?_⟩ | refine ⟨fun _ h => h, ?_⟩ | refine ⟨fun _ _ => True.intro, ?_⟩ | refine ⟨fun _ h => absurd h Bool.false_ne_true, ?_⟩ | refine ⟨fun _ => True.intro, ?_⟩ | refine ⟨fun _ _ => rfl, ?_⟩ | refine ⟨(fun h => Bool.noConfusion h), ?_⟩ | refine ⟨fun _ h => Bool.noConfusion h, ?_⟩ | refine ⟨fun _ h => by rw [h, hE.ntF], ?_⟩ | refine ⟨True.intro, ?_⟩)
  refine call_ct hX [] [] (ct37 .any m C hC (by omega) pe pm pa pc hp) (fits_nil ⟨fitU_refl _, trivial⟩) rfl trivial ?_
  cbv; (repeat ((first | rewrite [hE.ntT] | rewrite [hE.ntF] | rewrite [hE.pkT] | rewrite [hE.pkF] | rewrite [hE.anT] | rewrite [hE.anF] | rewrite [hE.anT'] | rewrite [hE.anF']); (repeat (first | rewrite [hE.ntT] | rewrite [hE.ntF] | rewrite [hE.pkT] | rewrite [hE.pkF] | rewrite [hE.anT] | rewrite [hE.anF] | rewrite [hE.anT'] | rewrite [hE.anF'])); cbv)); (repeat first | refine ⟨(fun h => absurd h Bool.false_ne_true), ?_⟩ | refine ⟨hE.o (q := .bts _ _) (fun i _ => ⟨_, rfl⟩), ?_⟩ | refine ⟨(hE.o (by simp only [Ob.den, hE.e_iN, hE.e_tn, hE.e_aN, hE.e_sN, hE.e_sI, hE.e_mn] <;> omega)), ?_⟩ | refine ⟨fun _ => (hE.o (by simp only [Ob.den, hE.e_iN, hE.e_tn, hE.e_aN, hE.e_sN, hE.e_sI, hE.e_mn] <;> omega)), ?_⟩ | refine ⟨fun h => h, ?_⟩ | refine ⟨fun _ => rfl, ?_⟩ | refine ⟨fun _ h => h, ?_⟩ | refine ⟨fun _ _ => True.intro, ?_⟩ | refine ⟨fun _ h => absurd h Bool.false_ne_true, ?_⟩ | refine ⟨fun _ => True.intro, ?_⟩ | refine ⟨fun _ _ => rfl, ?_⟩ | refine ⟨(fun h => Bool.noConfusion h), ?_⟩ | refine ⟨fun _ h => Bool.noConfusion h, ?_⟩ | refine ⟨fun _ h => by rw [h, hE.ntF], ?_⟩ | refine ⟨True.intro, ?_⟩)
  refine call_ct hX [] [] (ct38 .any m C hC (by omega) pe pm pa pc hp) (fits_nil ⟨fitU_refl _, trivial⟩) rfl trivial ?_
  cbv; (repeat ((first | rewrite [hE.ntT] | rewrite [hE.ntF] | rewrite [hE.pkT] | rewrite [hE.pkF] | rewrite [hE.anT] | rewrite [hE.anF] | rewrite [hE.anT'] | rewrite [hE.anF']); (repeat (first | rewrite [hE.ntT] | rewrite [hE.ntF] | rewrite [hE.pkT] | rewrite [hE.pkF] | rewrite [hE.anT] | rewrite [hE.anF] | rewrite [hE.anT'] | rewrite [hE.anF'])); cbv)); (repeat first | refine ⟨(fun h => absurd h Bool.false_ne_true), ?_⟩ | refine ⟨hE.o (q := .bts _ _) (fun i _ => ⟨_, rfl⟩), ?_⟩ | refine ⟨(hE.o (by simp only [Ob.den, hE.e_iN, hE.e_tn, hE.e_aN, hE.e_sN, hE.e_sI, hE.e_mn] <;> omega)), ?_⟩ | refine ⟨fun _ => (hE.o (by simp only [Ob.den, hE.e_iN, hE.e_tn, hE.e_aN, hE.e_sN, hE.e_sI, hE.e_mn] <;> omega)), ?_⟩ | refine ⟨fun h => h, ?_⟩ | refine ⟨fun _ => rfl, ?_⟩ | refine ⟨fun _ h => h, ?_⟩ | refine ⟨fun _ _ => True.intro, ?_⟩ | refine ⟨fun _ h => absurd h Bool.false_ne_true, ?_⟩ | refine ⟨fun _ => True.intro, ?_⟩ | refine ⟨fun _ _ => rfl, ?_⟩ | refine ⟨(fun h => Bool.noConfusion h), ?_⟩ | refine ⟨fun _ h => Bool.noConfusion h, ?_⟩ | refine ⟨fun _ h => by rw [h, hE.ntF], ?_⟩ | refine ⟨True.intro, ?_⟩)
  refine call_ct hX [] [] (ct15 .any .any 0 C C (by omega) fun _ _ => rfl) (fits_nil ⟨rfl, rfl, trivial⟩) rfl trivial ?_
  cbv; (repeat ((first | rewrite [z2] | rewrite [hE.ntT] | rewrite [hE.ntF] | rewrite [hE.pkT] | rewrite [hE.pkF] | rewrite [hE.anT] | rewrite [hE.anF] | rewrite [hE.anT'] | rewrite [hE.anF']); (repeat (first | rewrite [z2] | rewrite [hE.ntT] | rewrite [hE.ntF] | rewrite [hE.pkT] | rewrite [hE.pkF] | rewrite [hE.anT] | rewrite [hE.anF] | rewrite [hE.anT'] | rewrite [hE.anF'])); cbv)); (repeat first | refine ⟨(fun h => absurd h Bool.false_ne_true), ?_⟩ | refine ⟨hE.o (q := .bts _ _) (fun i _ => ⟨_, rfl⟩), ?_⟩ | refine ⟨(hE.o (by simp only [Ob.den, hE.e_iN, hE.e_tn, hE.e_aN, hE.e_sN, hE.e_sI, hE.e_mn] <;> omega)), ?_⟩ | refine ⟨fun _ => (hE.o (by simp only [Ob.den, hE.e_iN, hE.e_tn, hE.e_aN, hE.e_sN, hE.e_sI, hE.e_mn] <;> omega)), ?_⟩ | refine ⟨fun h => h, ?_⟩ | refine ⟨fun _ => rfl, ?_⟩ | refine ⟨fun _ h => h, ?_⟩ | refine ⟨fun _ _ => True.intro, ?_⟩ | refine ⟨fun _ h => absurd h Bool.false_ne_true, ?_⟩ | refine ⟨fun _ => True.intro, ?_⟩ | refine ⟨fun _ _ => rfl, ?_⟩ | refine ⟨(fun h => Bool.noConfusion h), ?_⟩ | refine ⟨fun _ h => Bool.noConfusion h, ?_⟩ | refine ⟨fun _ h => by rw [h, hE.ntF], ?_⟩ | refine ⟨True.intro, ?_⟩)
  refine call_ct hX [] [] (ct27 (.new 75) (.new 100) pm pa pa pc pc (by omega) fun _ _ => ⟨rfl, rfl⟩) (fits_nil ⟨fitU_refl _, fitU_refl _, trivial⟩) rfl trivial ?_
  cbv; (repeat ((first | rewrite [p0] | rewrite [z3] | rewrite [hE.ntT] | rewrite [hE.ntF] | rewrite [hE.pkT] | rewrite [hE.pkF] | rewrite [hE.anT] | rewrite [hE.anF] | rewrite [hE.anT'] | rewrite [hE.anF']); (repeat (first | rewrite [p0] | rewrite [z3] | rewrite [hE.ntT] | rewrite [hE.ntF] | rewrite [hE.pkT] | rewrite [hE.pkF] | rewrite [hE.anT] | rewrite [hE.anF] | rewrite [hE.anT'] | rewrite [hE.anF'])); cbv)); (repeat first | refine ⟨(fun h => absurd h Bool.false_ne_true), ?_⟩ | refine ⟨hE.o (q := .bts _ _) (fun i _ => ⟨_, rfl⟩), ?_⟩ | refine ⟨(hE.o (by simp only [Ob.den, hE.e_iN, hE.e_tn, hE.e_aN, hE.e_sN, hE.e_sI, hE.e_mn] <;> omega)), ?_⟩ | refine ⟨fun _ => (hE.o (by simp only [Ob.den, hE.e_iN, hE.e_tn, hE.e_aN, hE.e_sN, hE.e_sI, hE.e_mn] <;> omega)), ?_⟩ | refine ⟨fun h => h, ?_⟩ | refine ⟨fun _ => rfl, ?_⟩ | refine ⟨fun _ h => h, ?_⟩ | refine ⟨fun _ _ => True.intro, ?_⟩ | refine ⟨fun _ h => absurd h Bool.false_ne_true, ?_⟩ | refine ⟨fun _ => True.intro, ?_⟩ | refine ⟨fun _ _ => rfl, ?_⟩ | refine ⟨(fun h => Bool.noConfusion h), ?_⟩ | refine ⟨fun _ h => Bool.noConfusion h, ?_⟩ | refine ⟨fun _ h => by rw [h, hE.ntF], ?_⟩ | refine ⟨True.intro, ?_⟩)
  by_cases hg : pe = 0
  · subst hg
    obtain ⟨r1, r2, r3, r4, r5⟩ := hp.back hC
    cbv; (repeat ((first | rewrite [z1] | rewrite [hE.ntT] | rewrite [hE.ntF] | rewrite [hE.pkT] | rewrite [hE.pkF] | rewrite [hE.anT] | rewrite [hE.anF] | rewrite [hE.anT'] | rewrite [hE.anF']); (repeat (first | rewrite [z1] | rewrite [hE.ntT] | rewrite [hE.ntF] | rewrite [hE.pkT] | rewrite [hE.pkF] | rewrite [hE.anT] | rewrite [hE.anF] | rewrite [hE.anT'] | rewrite [hE.anF'])); cbv)); (repeat first | refine ⟨(fun h => absurd h Bool.false_ne_true), ?_⟩ | refine ⟨hE.o (q := .bts _ _) (fun i _ => ⟨_, rfl⟩), ?_⟩ | refine ⟨(hE.o (by simp only [Ob.den, hE.e_iN, hE.e_tn, hE.e_aN, hE.e_sN, hE.e_sI, hE.e_mn] <;> omega)), ?_⟩ | refine ⟨fun _ => (hE.o (by simp only [Ob.den, hE.e_iN, hE.e_tn, hE.e_aN, hE.e_sN, hE.e_sI, hE.e_mn] <;> omega)), ?_⟩ | refine ⟨fun h => h, ?_⟩ | refine ⟨fun _ => rfl, ?_⟩ | refine ⟨fun _ h => h, ?_⟩ | refine ⟨fun _ _ => True.intro, ?_⟩ | refine ⟨fun _ h => absurd h Bool.false_ne_true, ?_⟩ | refine ⟨fun _ => True.intro, ?_⟩ | refine ⟨fun _ _ => rfl, ?_⟩ | refine ⟨(fun h => Bool.noConfusion h), ?_⟩ | refine ⟨fun _ h => Bool.noConfusion h, ?_⟩ | refine ⟨fun _ h => by rw [h, hE.ntF], ?_⟩ | refine ⟨True.intro, ?_⟩)
    refine call_ct hX [] [] (ct35 (.new 75) pm pa pc (by omega) (fun i hi => by have := r5 i hi; omega) r4 r1 m C r2) (fits_nil ⟨fitU_refl _, trivial⟩) rfl trivial ?_
    cbv; (repeat ((first | rewrite [z0] | rewrite [hE.ntT] | rewrite [hE.ntF] | rewrite [hE.pkT] | rewrite [hE.pkF] | rewrite [hE.anT] | rewrite [hE.anF] | rewrite [hE.anT'] | rewrite [hE.anF']); (repeat (first | rewrite [z0] | rewrite [hE.ntT] | rewrite [hE.ntF] | rewrite [hE.pkT] | rewrite [hE.pkF] | rewrite [hE.anT] | rewrite [hE.anF] | rewrite [hE.anT'] | rewrite [hE.anF'])); cbv)); (repeat first | refine ⟨(fun h => absurd h Bool.false_ne_true), ?_⟩ | refine ⟨hE.o (q := .bts _ _) (fun i _ => ⟨_, rfl⟩), ?_⟩ | refine ⟨(hE.o (by simp only [Ob.den, hE.e_iN, hE.e_tn, hE.e_aN, hE.e_sN, hE.e_sI, hE.e_mn] <;> omega)), ?_⟩ | refine ⟨fun _ => (hE.o (by simp only [Ob.den, hE.e_iN, hE.e_tn, hE.e_aN, hE.e_sN, hE.e_sI, hE.e_mn] <;> omega)), ?_⟩ | refine ⟨fun h => h, ?_⟩ | refine ⟨fun _ => rfl, ?_⟩ | refine ⟨fun _ h => h, ?_⟩ | refine ⟨fun _ _ => True.intro, ?_⟩ | refine ⟨fun _ h => absurd h Bool.false_ne_true, ?_⟩ | refine ⟨fun _ => True.intro, ?_⟩ | refine ⟨fun _ _ => rfl, ?_⟩ | refine ⟨(fun h => Bool.noConfusion h), ?_⟩ | refine ⟨fun _ h => Bool.noConfusion h, ?_⟩ | refine ⟨fun _ h => by rw [h, hE.ntF], ?_⟩ | refine ⟨True.intro, ?_⟩)
    refine call_ct hX [] [0] (ct15 (.new 5) .any m C C (by omega) fun _ _ => rfl) (fits_fz rfl ⟨⟨rfl, rfl, rfl, rfl, rfl, by omega, fun i hi => by rw [Nat.zero_add]⟩, fitU_refl _, trivial⟩) rfl ⟨trivial, trivial⟩ ?_
    cbv; (repeat ((first | rewrite [hE.ntT] | rewrite [hE.ntF] | rewrite [hE.pkT] | rewrite [hE.pkF] | rewrite [hE.anT] | rewrite [hE.anF] | rewrite [hE.anT'] | rewrite [hE.anF']); (repeat (first | rewrite [hE.ntT] | rewrite [hE.ntF] | rewrite [hE.pkT] | rewrite [hE.pkF] | rewrite [hE.anT] | rewrite [hE.anF] | rewrite [hE.anT'] | rewrite [hE.anF'])); cbv)); (repeat first | refine ⟨(fun h => absurd h Bool.false_ne_true), ?_⟩ | refine ⟨hE.o (q := .bts _ _) (fun i _ => ⟨_, rfl⟩), ?_⟩ | refine ⟨(hE.o (by simp only [Ob.den, hE.e_iN, hE.e_tn, hE.e_aN, hE.e_sN, hE.e_sI, hE.e_mn] <;> omega)), ?_⟩ | refine ⟨fun _ => (hE.o (by simp only [Ob.den, hE.e_iN, hE.e_tn, hE.e_aN, hE.e_sN, hE.e_sI, hE.e_mn] <;> omega)), ?_⟩ | refine ⟨fun h => h, ?_⟩ | refine ⟨fun _ => rfl, ?_⟩ | refine ⟨fun _ h => h, ?_⟩ | refine ⟨fun _ _ => True.intro, ?_⟩ | refine ⟨fun _ h => absurd h Bool.false_ne_true, ?_⟩ | refine ⟨fun _ => True.intro, ?_⟩ | refine ⟨fun _ _ => rfl, ?_⟩ | refine ⟨(fun h => Bool.noConfusion h), ?_⟩ | refine ⟨fun _ h => Bool.noConfusion h, ?_⟩ | refine ⟨fun _ h => by rw [h, hE.ntF], ?_⟩ | refine ⟨True.intro, ?_⟩)
    refine call_ct hX [] [] ct17 (fits_nil trivial) rfl trivial ?_
    cbv; (repeat ((first | rewrite [hE.ntT] | rewrite [hE.ntF] | rewrite [hE.pkT] | rewrite [hE.pkF] | rewrite [hE.anT] | rewrite [hE.anF] | rewrite [hE.anT'] | rewrite [hE.anF']); (repeat (first | rewrite [hE.ntT] | rewrite [hE.ntF] | rewrite [hE.pkT] | rewrite [hE.pkF] | rewrite [hE.anT] | rewrite [hE.anF] | rewrite [hE.anT'] | rewrite [hE.anF'])); cbv)); (repeat first | refine ⟨(fun h => absurd h Bool.false_ne_true), ?_⟩ | refine ⟨hE.o (q := .bts _ _) (fun i _ => ⟨_, rfl⟩), ?_⟩ | refine ⟨(hE.o (by simp only [Ob.den, hE.e_iN, hE.e_tn, hE.e_aN, hE.e_sN, hE.e_sI, hE.e_mn] <;> omega)), ?_⟩ | refine ⟨fun _ => (hE.o (by simp only [Ob.den, hE.e_iN, hE.e_tn, hE.e_aN, hE.e_sN, hE.e_sI, hE.e_mn] <;> omega)), ?_⟩ | refine ⟨fun h => h, ?_⟩ | refine ⟨fun _ => rfl, ?_⟩ | refine ⟨fun _ h => h, ?_⟩ | refine ⟨fun _ _ => True.intro, ?_⟩ | refine ⟨fun _ h => absurd h Bool.false_ne_true, ?_⟩ | refine ⟨fun _ => True.intro, ?_⟩ | refine ⟨fun _ _ => rfl, ?_⟩ | refine ⟨(fun h => Bool.noConfusion h), ?_⟩ | refine ⟨fun _ h => Bool.noConfusion h, ?_⟩ | refine ⟨fun _ h => by rw [h, hE.ntF], ?_⟩ | refine ⟨True.intro, ?_⟩)
    exact ct_u rfl
  · have g1 : ic .eql pe 0 = false := by rw [hE.eql]; exact decide_eq_false hg
    cbv; (repeat ((first | rewrite [g1] | rewrite [hE.ntT] | rewrite [hE.ntF] | rewrite [hE.pkT] | rewrite [hE.pkF] | rewrite [hE.anT] | rewrite [hE.anF] | rewrite [hE.anT'] | rewrite [hE.anF']); (repeat (first | rewrite [g1] | rewrite [hE.ntT] | rewrite [hE.ntF] | rewrite [hE.pkT] | rewrite [hE.pkF] | rewrite [hE.anT] | rewrite [hE.anF] | rewrite [hE.anT'] | rewrite [hE.anF'])); cbv)); (repeat first | refine ⟨(fun h => absurd h Bool.false_ne_true), ?_⟩ | refine ⟨hE.o (q := .bts _ _) (fun i _ => ⟨_, rfl⟩), ?_⟩ | refine ⟨(hE.o (by simp only [Ob.den, hE.e_iN, hE.e_tn, hE.e_aN, hE.e_sN, hE.e_sI, hE.e_mn] <;> omega)), ?_⟩ | refine ⟨fun _ => (hE.o (by simp only [Ob.den, hE.e_iN, hE.e_tn, hE.e_aN, hE.e_sN, hE.e_sI, hE.e_mn] <;> omega)), ?_⟩ | refine ⟨fun h => h, ?_⟩ | refine ⟨fun _ => rfl, ?_⟩ | refine ⟨fun _ h => h, ?_⟩ | refine ⟨fun _ _ => True.intro, ?_⟩ | refine ⟨fun _ h => absurd h Bool.false_ne_true, ?_⟩ | refine ⟨fun _ => True.intro, ?_⟩ | refine ⟨fun _ _ => rfl, ?_⟩ | refine ⟨(fun h => Bool.noConfusion h), ?_⟩ | refine ⟨fun _ h => Bool.noConfusion h, ?_⟩ | refine ⟨fun _ h => by rw [h, hE.ntF], ?_⟩ | refine ⟨True.intro, ?_⟩)
    refine call_ct hX [] [] ct17 (fits_nil trivial) rfl trivial ?_
    cbv; (repeat ((first | rewrite [hE.ntT] | rewrite [hE.ntF] | rewrite [hE.pkT] | rewrite [hE.pkF] | rewrite [hE.anT] | rewrite [hE.anF] | rewrite [hE.anT'] | rewrite [hE.anF']); (repeat (first | rewrite [hE.ntT] | rewrite [hE.ntF] | rewrite [hE.pkT] | rewrite [hE.pkF] | rewrite [hE.anT] | rewrite [hE.anF] | rewrite [hE.anT'] | rewrite [hE.anF'])); cbv)); (repeat first | refine ⟨(fun h => absurd h Bool.false_ne_true), ?_⟩ | refine ⟨hE.o (q := .bts _ _) (fun i _ => ⟨_, rfl⟩), ?_⟩ | refine ⟨(hE.o (by simp only [Ob.den, hE.e_iN, hE.e_tn, hE.e_aN, hE.e_sN, hE.e_sI, hE.e_mn] <;> omega)), ?_⟩ | refine ⟨fun _ => (hE.o (by simp only [Ob.den, hE.e_iN, hE.e_tn, hE.e_aN, hE.e_sN, hE.e_sI, hE.e_mn] <;> omega)), ?_⟩ | refine ⟨fun h => h, ?_⟩ | refine ⟨fun _ => rfl, ?_⟩ | refine ⟨fun _ h => h, ?_⟩ | refine ⟨fun _ _ => True.intro, ?_⟩ | refine ⟨fun _ h => absurd h Bool.false_ne_true, ?_⟩ | refine ⟨fun _ => True.intro, ?_⟩ | refine ⟨fun _ _ => rfl, ?_⟩ | refine ⟨(fun h => Bool.noConfusion h), ?_⟩ | refine ⟨fun _ h => Bool.noConfusion h, ?_⟩ | refine ⟨fun _ h => by rw [h, hE.ntF], ?_⟩ | refine ⟨True.intro, ?_⟩)
    exact ct_u rfl
theorem ct6 (n : Nat) (nm : Nat → ByteArray) (id : Nat → Int) (m : Nat) (C : Nat → Int) (hC : Byte C) (hid : Ids n id) : CT Go.Proofs.Try.prog 6 [catS .any n nm id, bS .any m C] [] (scB true) [] := by
  obtain ⟨b, hb⟩ : ∃ b : Bool, b = true ↔ n ≤ 20 ∧ ∀ i, i < n → i < 21 → (nm i).size ≤ 100 := by by_cases h : n ≤ 20 ∧ ∀ i, i < n → i < 21 → (nm i).size ≤ 100; exact ⟨true, ⟨fun _ => h, fun _ => rfl⟩⟩; exact ⟨false, ⟨fun e => Bool.noConfusion e, fun e => absurd e h⟩⟩
  by_cases hw : b = true ∧ m ≤ 1000
  rotate_left
  · exact ct6w n nm id m C b hb hw
  obtain ⟨pe, pm, pa, pc, hp⟩ := parseR_ex m C hC
  have hpm : pm ≤ 1000 := by
    by_cases hg : pe = 0
    · subst hg
      have := (hp.back hC).2.2.1
      omega
    · obtain ⟨v, q, e1, _, ⟨_, _, h⟩ | ⟨_, L, P, e2, _, _, h⟩⟩ := hp
      · omega
      · rcases h with ⟨_, _, h⟩ | ⟨_, _, h, _⟩ | ⟨_, h, _⟩
        · omega
        · omega
        · exact absurd h hg
  by_cases hR : Rt n nm id
  · obtain ⟨N, B, hB, hBB⟩ := isB_byte (vcat_byte n nm id)
    exact ct6a n nm id m C (hb.1 hw.1) hw.2 hC hid pe pm pa pc hp hpm hR N B hB hBB
  · exact ct6b n nm id m C (hb.1 hw.1) hw.2 hC hid pe pm pa pc hp hpm hR
end Ytohkcdfjpgdfbaa
end
