/- Part 0 of the proof of CatalogBytesSaid: Am1, Am2, Am3, Am4, Am5, Am6, Am7, Am8, Am9, Am10, Am11, Am12, Am13, Am13x, Am13y, Am13z. -/
import Derived.WalkKit
import Derived.Laws.AppendOwn
import Derived.Laws.Rows
import Derived.Laws.Cells
import Derived.Orders
import Derived.KernelRfl
import Derived.Laws.CopyRow
import Derived.Lib.ConvBytes
import Derived.Lib.AppendStr
import Derived.Laws.Strings
import Derived.Laws.StructEq
import Derived.Laws.BytesString
import Derived.Laws.OwnMore
import Derived.Great.BuildSlice
import Derived.Laws.Strings2
import Derived.Laws.IdiomStrings
import Derived.Laws.Runes
import Derived.Lib.AppendZerosOnto
import Derived.Lib.SliceRun
import Derived.Laws.MakeOwn
section
open Go
set_option linter.unusedVariables false
namespace Am
inductive Tg where
  | any
  | old
  | new (e : Nat)
inductive U where
  | sc (v : Value)
  | sv (o : Tg) (z n : Nat) (f : Nat → List U)
  | any
inductive V where
  | un
  | u (x : U)
  | sr (b z off len : Nat)
  | pb (b off : Nat)
  | pa (b z i f : Nat)
  | rp (o : Tg) (cs : List U)
  | so (b z off len : Nat)
  | mp (b : Nat)
  | ag (cs : List V)
  | tp (vs : List V)
  | fv (fn : Fn) (first captured : List V)
  | iv (t : TypeId) (x : V)
  | gd (c : Bool) (x : V)
  | nx (c : Bool) (i r : Int)
inductive Blk where
  | gone
  | box (cells : List V)
  | arr (e z n : Nat) (f : Nat → List U)
  | it (s : ByteArray) (p : Nat)
  | arc (e z n : Nat) (f : Nat → List U) (c : Nat)
  | ms (k : IntKind) (p : Int → Bool)
  | ml (k : IntKind) (es : List (Int × U))
abbrev Heap := List Blk
inductive Pl where
  | unset
  | nil
  | at (g cap : Nat)
abbrev Place := Nat → Pl
structure Own where
  p : Nat → Prop
  old : Nat → Prop
instance : CoeFun Own fun _ => Nat → Prop := ⟨Own.p⟩
def Own.add (O : Own) (g : Nat) : Own := ⟨fun k => O k ∨ k = g, O.old⟩
def Own.del (O : Own) (g : Nat) : Own := ⟨fun k => O k ∧ k ≠ g, O.old⟩
def Stab (w : World) (O : Own) (o : Tg) (k : Nat) : Prop := ¬ O k ∧ match o with
  | .any => True
  | .old => O.old k
  | .new e => ¬ O.old k ∧ ∃ cur, w.heap[k]? = some (.cells cur e (0, 0))
inductive RU (w : World) (O : Own) : U → Value → Prop
  | sc (v : Value) (h1 : v.oneCell' = true) : RU w O (.sc v) v
  | any (v : Value) (h1 : v.oneCell' = true) : RU w O .any v
  | sv (o : Tg) (z n c : Nat) (f : Nat → List U) (a : Option Addr) (g : Nat → Nat → Value) (hc : n ≤ c)
      (ha : n * z = 0 ∨ ∃ ad, a = some ad ∧ Stab w O o ad.block ∧ ∀ i j, i < n → j < z → w.cell? (ad.add (i * z + j)) = some (g i j))
      (hl : ∀ i, i < n → (f i).length = z)
      (hr : ∀ (i j : Nat) (x : U), i < n → (f i)[j]? = some x → RU w O x (g i j)) : RU w O (.sv o z n f) (.slice a n c)
inductive RV (w : World) (O : Own) (ρ : Place) : V → Value → Prop
  | un (v : Value) : RV w O ρ .un v
  | u (x : U) (v : Value) (h : RU w O x v) : RV w O ρ (.u x) v
  | srN (b z : Nat) (h : ρ b = .nil) : RV w O ρ (.sr b z 0 0) (.slice none 0 0)
  | srP (b z len g cap : Nat) (h : ρ b = .at g cap) (hc : len ≤ cap) : RV w O ρ (.sr b z 0 len) (.slice (some ⟨g, 0, none⟩) len cap)
  | srO (b z off len c g cap : Nat) (a : Addr) (h : ρ b = .at g cap) (h0 : 0 < off) (ha : len = 0 ∨ a = ⟨g, off * z, none⟩) (hc : len ≤ c) : RV w O ρ (.sr b z off len) (.slice (some a) len c)
  | pb (b off g cap : Nat) (h : ρ b = .at g cap) : RV w O ρ (.pb b off) (.pointer (some ⟨g, off, none⟩))
  | pa (b z i f g cap : Nat) (h : ρ b = .at g cap) : RV w O ρ (.pa b z i f) (.pointer (some ⟨g, i * z + f, none⟩))
  | rp (o : Tg) (cs : List U) (a : Addr) (g : Nat → Value) (ha : Stab w O o a.block) (hc : ∀ j, j < cs.length → w.cell? (a.add j) = some (g j))
      (hlt : a.block < w.heap.size)
      (hr : ∀ (j : Nat) (x : U), cs[j]? = some x → RU w O x (g j)) : RV w O ρ (.rp o cs) (.pointer (some a))
  | so (b z off len c : Nat) (a : Option Addr) (hc : len ≤ c) (ha : len = 0 ∨ ∃ g cap, ρ b = .at g cap ∧ a = some ⟨g, off * z, none⟩) : RV w O ρ (.so b z off len) (.slice a len c)
  | mp (b g cap : Nat) (h : ρ b = .at g cap) : RV w O ρ (.mp b) (.map (some g))
  | ag (cs : List V) (arr : Array Value) (g : Nat → Value) (hs : arr.size = cs.length) (ha : ∀ j, j < cs.length → arr[j]? = some (g j))
      (hr : ∀ (j : Nat) (x : V), cs[j]? = some x → RV w O ρ x (g j)) : RV w O ρ (.ag cs) (.agg arr)
  | tp (cs : List V) (arr : Array Value) (g : Nat → Value) (hs : arr.size = cs.length) (ha : ∀ j, j < cs.length → arr[j]? = some (g j))
      (hr : ∀ (j : Nat) (x : V), cs[j]? = some x → RV w O ρ x (g j)) : RV w O ρ (.tp cs) (.tuple arr)
  | fv (fn : Fn) (cs ds : List V) (arr brr : Array Value) (g k : Nat → Value) (hs : arr.size = cs.length) (ha : ∀ j, j < cs.length → arr[j]? = some (g j))
      (hr : ∀ (j : Nat) (x : V), cs[j]? = some x → RV w O ρ x (g j)) (hs' : brr.size = ds.length) (ha' : ∀ j, j < ds.length → brr[j]? = some (k j))
      (hr' : ∀ (j : Nat) (x : V), ds[j]? = some x → RV w O ρ x (k j)) : RV w O ρ (.fv fn cs ds) (.func fn arr brr)
  | iv (t : TypeId) (x : V) (v : Value) (h : RV w O ρ x v) : RV w O ρ (.iv t x) (.iface t v)
  | gd (c : Bool) (x : V) (v : Value) (h : c = true → RV w O ρ x v) (h' : c = false → v = undef) : RV w O ρ (.gd c x) v
  | nx (c : Bool) (i r : Int) : RV w O ρ (.nx c i r) (if c = true then .tuple #[.bool true, .int .i64 i, .int .i32 r] else .tuple #[.bool false])
def BOK (w : World) (O : Own) (ρ : Place) (b : Nat) : Blk → Prop
  | .gone => True
  | .box cells => ∃ (g cap : Nat) (cur : Array Value) (e : TypeId), ρ b = .at g cap ∧ O g ∧ w.heap[g]? = some (.cells cur e (0, 0)) ∧ cur.size = cells.length ∧
      ∀ (j : Nat) (x : V), cells[j]? = some x → ∃ v, cur[j]? = some v ∧ RV w O ρ x v
  | .arr e z n f => (ρ b = .nil ∧ n = 0) ∨ ∃ (g cap : Nat) (cur : Array Value), ρ b = .at g cap ∧ O g ∧ w.heap[g]? = some (.cells cur e (0, 0)) ∧ cur.size = cap * z ∧ n ≤ cap ∧ cap ≤ maxLen ∧
      (∀ i, i < n → (f i).length = z) ∧ ∀ (i j : Nat) (x : U), i < n → (f i)[j]? = some x → ∃ v, cur[i * z + j]? = some v ∧ RU w O x v
  | .it s p => ∃ (g cap : Nat), ρ b = .at g cap ∧ O g ∧ w.heap[g]? = some (.stringIter s p)
  | .arc e z n f c => (ρ b = .nil ∧ n = 0 ∧ c = 0) ∨ ∃ (g : Nat) (cur : Array Value), ρ b = .at g c ∧ O g ∧ w.heap[g]? = some (.cells cur e (0, 0)) ∧ cur.size = c * z ∧ n ≤ c ∧ c ≤ maxLen ∧
      (∀ i, i < n → (f i).length = z) ∧ ∀ (i j : Nat) (x : U), i < n → (f i)[j]? = some x → ∃ v, cur[i * z + j]? = some v ∧ RU w O x v
  | .ms k p => ∃ (g cap : Nat) (es : Array MapEntry) (clock : Nat), ρ b = .at g cap ∧ O g ∧ w.heap[g]? = some (.map es clock) ∧ (∀ e ∈ es.toList, ∃ i, e.key = .int k i ∧ e.val = .agg #[]) ∧ ∀ i, p i = true ↔ ∃ e ∈ es.toList, e.key = .int k i
  | .ml k l => ∃ (g cap : Nat) (es : Array MapEntry) (clock : Nat), ρ b = .at g cap ∧ O g ∧ w.heap[g]? = some (.map es clock) ∧ es.size = l.length ∧ ∀ (j : Nat) (i : Int) (x : U), l[j]? = some (i, x) → ∃ e, es[j]? = some e ∧ e.key = .int k i ∧ RU w O x e.val
def Blk.live : Blk → Prop
  | .gone => False
  | _ => True
def Img (ρ : Place) (H : Heap) (k : Nat) : Prop := ∃ b x c, H[b]? = some x ∧ x.live ∧ ρ b = .at k c
structure HOK (w : World) (O : Own) (ρ : Place) (H : Heap) : Prop where
  blk : ∀ (b : Nat) (x : Blk), H[b]? = some x → BOK w O ρ b x
  inj : ∀ (b b' : Nat) (x x' : Blk) (g c c' : Nat), H[b]? = some x → x.live → H[b']? = some x' → x'.live → ρ b = .at g c → ρ b' = .at g c' → b = b'
  lt : ∀ k, O k → k < w.heap.size
  olt : ∀ k, O.old k → k < w.heap.size ∧ ¬ O k
structure Evolve (w : World) (M : Nat → Prop) (w' : World) : Prop where
  os : w'.os = w.os
  tape : w'.tape = w.tape
  output : w'.output = w.output
  size : w.heap.size ≤ w'.heap.size
  block : ∀ k, k < w.heap.size → ¬ M k → w'.heap[k]? = w.heap[k]?
theorem Evolve.refl (w : World) (M : Nat → Prop) : Evolve w M w := ⟨rfl, rfl, rfl, Nat.le_refl _, fun _ _ _ => rfl⟩
theorem add_block (a : Addr) (n : Nat) : (a.add n).block = a.block := by unfold Addr.add; split <;> rfl
theorem add_add (a : Addr) (m n : Nat) : (a.add m).add n = a.add (m + n) := by
  unfold Addr.add
  by_cases h1 : m = 0
  · subst h1; simp
  · by_cases h2 : n = 0
    · subst h2; simp
    · have : m + n ≠ 0 := by omega
      simp only [h1, h2, this, if_false, Nat.add_assoc]
theorem add_lit (g o n : Nat) : (⟨g, o, none⟩ : Addr).add n = ⟨g, o + n, none⟩ := by
  unfold Addr.add
  split
  · subst_vars; rfl
  · rfl
def Keeps (w : World) (O : Own) (w' : World) (O' : Own) : Prop := (w.heap.size ≤ w'.heap.size) ∧ (∀ k, k < w.heap.size → ¬ O k → w'.heap[k]? = w.heap[k]? ∧ ¬ O' k) ∧ O'.old = O.old
theorem cell_lt {w : World} {a : Addr} {v : Value} (h : w.cell? a = some v) : a.block < w.heap.size := World.block_lt_of_cell? w a h
theorem Keeps.cell {w w' : World} {O O' : Own} (h : Keeps w O w' O') {a : Addr} {v : Value} (ho : ¬ O a.block) (hc : w.cell? a = some v) : w'.cell? a = some v ∧ ¬ O' a.block := by
  obtain ⟨h1, h2⟩ := h.2.1 a.block (cell_lt hc) ho
  exact ⟨by rw [World.cell?_of_block h1, hc], h2⟩
theorem Keeps.stab {w w' : World} {O O' : Own} (h : Keeps w O w' O') {o : Tg} {k : Nat} (hk : k < w.heap.size) (hs : Stab w O o k) : Stab w' O' o k := by
  obtain ⟨h1, h2⟩ := h.2.1 k hk hs.1
  refine ⟨h2, ?_⟩
  have := hs.2
  cases o with
  | any => trivial
  | old => show O'.old k; rw [h.2.2]; exact this
  | new e => obtain ⟨q1, cur, q2⟩ := this; exact ⟨by rw [h.2.2]; exact q1, cur, by rw [h1, q2]⟩
theorem RU.mono {w w' : World} {O O' : Own} (hk : Keeps w O w' O') {u : U} {v : Value} (h : RU w O u v) : RU w' O' u v := by
  induction h with
  | sc v h1 => exact .sc v h1
  | any v h1 => exact .any v h1
  | sv o z n c f a g hc' ha hl hr ih =>
    refine .sv o z n c f a g hc' ?_ hl ih
    rcases ha with h0 | ⟨ad, e, ho, hcell⟩
    · exact .inl h0
    · rcases Nat.eq_zero_or_pos (n * z) with h0 | h0
      · exact .inl h0
      · have hn : 0 < n := Nat.pos_of_mul_pos_right h0
        have hz : 0 < z := Nat.pos_of_mul_pos_left h0
        refine .inr ⟨ad, e, hk.stab (by have := cell_lt (hcell 0 0 hn hz); rwa [add_block] at this) ho, fun i j hi hj => ?_⟩
        exact (hk.cell (by rw [add_block]; exact ho.1) (hcell i j hi hj)).1
def PlLe (ρ ρ' : Place) : Prop := ∀ b, ρ b ≠ .unset → ρ' b = ρ b
theorem PlLe.refl (ρ : Place) : PlLe ρ ρ := fun _ _ => rfl
theorem PlLe.at {ρ ρ' : Place} (h : PlLe ρ ρ') {b g c : Nat} (e : ρ b = .at g c) : ρ' b = .at g c := by rw [h b (by rw [e]; simp), e]
theorem PlLe.nil {ρ ρ' : Place} (h : PlLe ρ ρ') {b : Nat} (e : ρ b = .nil) : ρ' b = .nil := by rw [h b (by rw [e]; simp), e]
theorem PlLe.trans {a b c : Place} (h : PlLe a b) (k : PlLe b c) : PlLe a c := fun x hx => by
  have := h x hx
  rw [k x (by rw [this]; exact hx), this]
theorem RV.mono {w w' : World} {O O' : Own} {ρ ρ' : Place} (hk : Keeps w O w' O') (hp : PlLe ρ ρ') {x : V} {v : Value} (h : RV w O ρ x v) : RV w' O' ρ' x v := by
  induction h with
  | un v => exact .un v
  | u x v h => exact .u x v (h.mono hk)
  | srN b z h => exact .srN b z (hp.nil h)
  | srP b z len g cap h hc => exact .srP b z len g cap (hp.at h) hc
  | srO b z off len c g cap a h h0 ha hc => exact .srO b z off len c g cap a (hp.at h) h0 ha hc
  | pb b off g cap h => exact .pb b off g cap (hp.at h)
  | pa b z i f g cap h => exact .pa b z i f g cap (hp.at h)
  | rp o cs a g ha hc hlt hr =>
    refine .rp o cs a g (hk.stab hlt ha) (fun j hj => (hk.cell (by rw [add_block]; exact ha.1) (hc j hj)).1) (Nat.lt_of_lt_of_le hlt hk.1) fun j x hx => (hr j x hx).mono hk
  | so b z off len c a hc ha => exact .so b z off len c a hc (ha.imp id fun ⟨g, cap, h, e⟩ => ⟨g, cap, hp.at h, e⟩)
  | mp b g cap h => exact .mp b g cap (hp.at h)
  | ag cs arr g hs ha _ ih => exact .ag cs arr g hs ha ih
  | tp cs arr g hs ha _ ih => exact .tp cs arr g hs ha ih
  | fv fn cs ds arr brr g k hs ha _ hs' ha' _ ih ih' => exact .fv fn cs ds arr brr g k hs ha ih hs' ha' ih'
  | iv t x v _ ih => exact .iv t x v ih
  | gd c x v _ h' ih => exact .gd c x v ih h'
  | nx c i r => exact .nx c i r
structure Good (w : World) (O : Own) (ρ : Place) (H : Heap) (w' : World) (O' : Own) (ρ' : Place) (H' : Heap) : Prop where
  hok : HOK w' O' ρ' H'
  ev : Evolve w (Img ρ H) w'
  pl : PlLe ρ ρ'
  img : ∀ k, Img ρ' H' k → Img ρ H k ∨ w.heap.size ≤ k
  out : ∀ k, O k → ¬ Img ρ H k → O' k
  inn : ∀ k, O' k → O k ∨ w.heap.size ≤ k
  old : O'.old = O.old
theorem img_own {w : World} {O : Own} {ρ : Place} {H : Heap} (h : HOK w O ρ H) {k : Nat} (hk : Img ρ H k) : O k := by
  obtain ⟨b, x, c, hb, hl, hp⟩ := hk
  have := h.blk b x hb
  cases x with
  | gone => exact hl.elim
  | box cells => obtain ⟨g, cap, cur, e, h1, h2, _⟩ := this; rw [h1] at hp; cases hp; exact h2
  | arr e z n f =>
    rcases this with ⟨h1, _⟩ | ⟨g, cap, cur, h1, h2, _⟩
    · rw [h1] at hp; cases hp
    · rw [h1] at hp; cases hp; exact h2
  | it s p => obtain ⟨g, cap, h1, h2, _⟩ := this; rw [h1] at hp; cases hp; exact h2
  | arc e z n f c =>
    rcases this with ⟨h1, _⟩ | ⟨g, cur, h1, h2, _⟩
    · rw [h1] at hp; cases hp
    · rw [h1] at hp; cases hp; exact h2
  | ms k p => obtain ⟨g, cap, es, cl, h1, h2, _⟩ := this; rw [h1] at hp; cases hp; exact h2
  | ml k p => obtain ⟨g, cap, es, cl, h1, h2, _⟩ := this; rw [h1] at hp; cases hp; exact h2
theorem Good.keeps {w w' : World} {O O' : Own} {ρ ρ' : Place} {H H' : Heap} (h : Good w O ρ H w' O' ρ' H') (h0 : HOK w O ρ H) : Keeps w O w' O' :=
  ⟨h.ev.size, fun k hk ho => ⟨h.ev.block k hk fun hi => ho (img_own h0 hi), fun ho' => by rcases h.inn k ho' with h1 | h1; exact ho h1; omega⟩, h.old⟩
theorem Good.rv {w w' : World} {O O' : Own} {ρ ρ' : Place} {H H' : Heap} (h : Good w O ρ H w' O' ρ' H') (h0 : HOK w O ρ H) {x : V} {v : Value} (hx : RV w O ρ x v) : RV w' O' ρ' x v := hx.mono (h.keeps h0) h.pl
theorem Good.refl {w : World} {O : Own} {ρ : Place} {H : Heap} (h : HOK w O ρ H) : Good w O ρ H w O ρ H :=
  ⟨h, .refl _ _, .refl _, fun _ hk => .inl hk, fun _ hk _ => hk, fun _ hk => .inl hk, rfl⟩
theorem Good.trans {w1 w2 w3 : World} {O1 O2 O3 : Own} {ρ1 ρ2 ρ3 : Place} {H1 H2 H3 : Heap} (h0 : HOK w1 O1 ρ1 H1) (h : Good w1 O1 ρ1 H1 w2 O2 ρ2 H2) (k : Good w2 O2 ρ2 H2 w3 O3 ρ3 H3) : Good w1 O1 ρ1 H1 w3 O3 ρ3 H3 := by
  refine ⟨k.hok, ⟨k.ev.os.trans h.ev.os, k.ev.tape.trans h.ev.tape, k.ev.output.trans h.ev.output, Nat.le_trans h.ev.size k.ev.size, fun i hi hn => ?_⟩, h.pl.trans k.pl, fun i hi => ?_, fun i hi hn => ?_, fun i hi => ?_, k.old.trans h.old⟩
  · rw [k.ev.block i (Nat.lt_of_lt_of_le hi h.ev.size) fun hm => ?_, h.ev.block i hi hn]
    rcases h.img i hm with h1 | h1
    · exact hn h1
    · omega
  · rcases k.img i hi with h1 | h1
    · exact h.img i h1
    · exact .inr (Nat.le_trans h.ev.size h1)
  · refine k.out i (h.out i hi hn) fun hm => ?_
    rcases h.img i hm with h1 | h1
    · exact hn h1
    · have := h0.lt i hi
      omega
  · rcases k.inn i hi with h1 | h1
    · exact h.inn i h1
    · exact .inr (Nat.le_trans h.ev.size h1)
def putH : Heap → Nat → Blk → Heap
  | [], 0, x => [x]
  | [], n + 1, x => .gone :: putH [] n x
  | _ :: l, 0, x => x :: l
  | y :: l, n + 1, x => y :: putH l n x
theorem putH_same : ∀ (H : Heap) (s : Nat) (x : Blk), (putH H s x)[s]? = some x
  | [], 0, x => rfl
  | [], n + 1, x => by simpa [putH] using putH_same [] n x
  | _ :: l, 0, x => rfl
  | y :: l, n + 1, x => by simpa [putH] using putH_same l n x
theorem putH_other : ∀ (H : Heap) (s : Nat) (x : Blk) (b : Nat) (y : Blk), b ≠ s → (putH H s x)[b]? = some y → H[b]? = some y ∨ y = .gone
  | [], 0, x, b, y, hb, h => by
    cases b with
    | zero => exact absurd rfl hb
    | succ b => simp [putH] at h
  | [], n + 1, x, b, y, hb, h => by
    cases b with
    | zero => simp [putH] at h; exact .inr h.symm
    | succ b => exact putH_other [] n x b y (fun e => hb (by rw [e])) (by simpa [putH] using h)
  | z :: l, 0, x, b, y, hb, h => by
    cases b with
    | zero => exact absurd rfl hb
    | succ b => exact .inl (by simpa [putH] using h)
  | z :: l, n + 1, x, b, y, hb, h => by
    cases b with
    | zero => exact .inl (by simpa [putH] using h)
    | succ b => simpa using putH_other l n x b y (fun e => hb (by rw [e])) (by simpa [putH] using h)
theorem putH_live {H : Heap} {s : Nat} {x : Blk} {b : Nat} {y : Blk} (hb : b ≠ s) (h : (putH H s x)[b]? = some y) (hl : y.live) : H[b]? = some y := by
  rcases putH_other H s x b y hb h with h | h
  · exact h
  · subst h; exact hl.elim
theorem BOK.mono {w w' : World} {O O' : Own} {ρ ρ' : Place} (hk : Keeps w O w' O') (hp : PlLe ρ ρ') {b : Nat} {x : Blk}
    (hown : ∀ g c, ρ b = .at g c → x.live → w'.heap[g]? = w.heap[g]? ∧ O' g) (h : BOK w O ρ b x) : BOK w' O' ρ' b x := by
  cases x with
  | gone => trivial
  | box cells =>
    obtain ⟨g, cap, cur, e, h1, h2, h3, h4, h5⟩ := h
    obtain ⟨k1, k2⟩ := hown g cap h1 trivial
    exact ⟨g, cap, cur, e, hp.at h1, k2, by rw [k1, h3], h4, fun j x hx => let ⟨v, e, r⟩ := h5 j x hx; ⟨v, e, r.mono hk hp⟩⟩
  | arr e z n f =>
    rcases h with ⟨h1, h2⟩ | ⟨g, cap, cur, h1, h2, h3, h4, h5, h6, h7, h8⟩
    · exact .inl ⟨hp.nil h1, h2⟩
    · obtain ⟨k1, k2⟩ := hown g cap h1 trivial
      exact .inr ⟨g, cap, cur, hp.at h1, k2, by rw [k1, h3], h4, h5, h6, h7, fun i j x hi hx => let ⟨v, e, r⟩ := h8 i j x hi hx; ⟨v, e, r.mono hk⟩⟩
  | it s p =>
    obtain ⟨g, cap, h1, h2, h3⟩ := h
    obtain ⟨k1, k2⟩ := hown g cap h1 trivial
    exact ⟨g, cap, hp.at h1, k2, by rw [k1, h3]⟩
  | arc e z n f c =>
    rcases h with ⟨h1, h2⟩ | ⟨g, cur, h1, h2, h3, h4, h5, h6, h7, h8⟩
    · exact .inl ⟨hp.nil h1, h2⟩
    · obtain ⟨k1, k2⟩ := hown g c h1 trivial
      exact .inr ⟨g, cur, hp.at h1, k2, by rw [k1, h3], h4, h5, h6, h7, fun i j x hi hx => let ⟨v, e, r⟩ := h8 i j x hi hx; ⟨v, e, r.mono hk⟩⟩
  | ms k p =>
    obtain ⟨g, cap, es, cl, h1, h2, h3, h4⟩ := h
    obtain ⟨k1, k2⟩ := hown g cap h1 trivial
    exact ⟨g, cap, es, cl, hp.at h1, k2, by rw [k1, h3], h4⟩
  | ml k l =>
    obtain ⟨g, cap, es, cl, h1, h2, h3, h4, h5⟩ := h
    obtain ⟨k1, k2⟩ := hown g cap h1 trivial
    exact ⟨g, cap, es, cl, hp.at h1, k2, by rw [k1, h3], h4, fun j i x hx => let ⟨e, q1, q2, q3⟩ := h5 j i x hx; ⟨e, q1, q2, q3.mono hk⟩⟩
def upd (ρ : Place) (s : Nat) (p : Pl) : Place := fun b => if b = s then p else ρ b
theorem upd_same (ρ : Place) (s : Nat) (p : Pl) : upd ρ s p s = p := by simp [upd]
theorem upd_other (ρ : Place) (s : Nat) (p : Pl) {b : Nat} (h : b ≠ s) : upd ρ s p b = ρ b := by simp [upd, h]
theorem plLe_upd {ρ : Place} {s : Nat} (p : Pl) (hs : ρ s = .unset) : PlLe ρ (upd ρ s p) := fun b hb => upd_other ρ s p fun e => hb (by rw [e, hs])
theorem drawn_keeps {w : World} (O : Own) : Keeps w O w.drew O := ⟨Nat.le_refl _, fun _ _ h => ⟨rfl, h⟩, rfl⟩
section
variable {w : World} {O : Own} {ρ : Place} {H : Heap}
theorem keeps_alloc (o : Obj) : Keeps w O (w.alloc o) (O.add w.heap.size) :=
  ⟨by simp, fun k hk ho => ⟨heap_alloc_old w o hk, fun h => by rcases h with h | h; exact ho h; omega⟩, rfl⟩
theorem good_new (h : HOK w O ρ H) {s : Nat} (hs : ρ s = .unset) (o : Obj) (cap : Nat) (x : Blk)
    (hx : BOK (w.alloc o) (O.add w.heap.size) (upd ρ s (.at w.heap.size cap)) s x) :
    Good w O ρ H (w.alloc o) (O.add w.heap.size) (upd ρ s (.at w.heap.size cap)) (putH H s x) := by
  have hk := keeps_alloc (w := w) (O := O) o
  have hp := plLe_upd (.at w.heap.size cap) hs
  have old : ∀ b y, b ≠ s → H[b]? = some y → BOK (w.alloc o) (O.add w.heap.size) (upd ρ s (.at w.heap.size cap)) b y := fun b y hb hy =>
    (h.blk b y hy).mono hk hp fun g c hg hl => by
      have := img_own h ⟨b, y, c, hy, hl, hg⟩
      exact ⟨heap_alloc_old w o (h.lt g this), .inl this⟩
  refine ⟨⟨fun b y hy => ?_, fun b b' y y' g c c' hy hl hy' hl' hg hg' => ?_, fun k hk => ?_, fun k hk => ⟨by have := (h.olt k hk).1; simp; omega, fun h' => by rcases h' with h' | h'; exact (h.olt k hk).2 h'; have := (h.olt k hk).1; omega⟩⟩, ⟨rfl, rfl, rfl, by simp, fun k hk _ => heap_alloc_old w o hk⟩, hp, fun k ⟨b, y, c, hy, hl, hg⟩ => ?_, fun k hk _ => .inl hk, fun k hk => hk.imp id fun e => by omega, rfl⟩
  · by_cases hb : b = s
    · subst hb; rw [putH_same] at hy; cases hy; exact hx
    · rcases putH_other H s x b y hb hy with hy | hy
      · exact old b y hb hy
      · subst hy; trivial
  · by_cases hb : b = s <;> by_cases hb' : b' = s
    · rw [hb, hb']
    · subst hb
      rw [upd_same] at hg; cases hg
      rw [upd_other _ _ _ hb'] at hg'
      have := h.lt _ (img_own h ⟨b', y', c', putH_live hb' hy' hl', hl', hg'⟩)
      omega
    · subst hb'
      rw [upd_same] at hg'; cases hg'
      rw [upd_other _ _ _ hb] at hg
      have := h.lt _ (img_own h ⟨b, y, c, putH_live hb hy hl, hl, hg⟩)
      omega
    · rw [upd_other _ _ _ hb] at hg
      rw [upd_other _ _ _ hb'] at hg'
      exact h.inj b b' y y' g c c' (putH_live hb hy hl) hl (putH_live hb' hy' hl') hl' hg hg'
  · rcases hk with hk | hk
    · have := h.lt k hk; simp; omega
    · simp; omega
  · by_cases hb : b = s
    · subst hb; rw [upd_same] at hg; cases hg; exact .inr (Nat.le_refl _)
    · rw [upd_other _ _ _ hb] at hg; exact .inl ⟨b, y, c, putH_live hb hy hl, hl, hg⟩
theorem good_nil (h : HOK w O ρ H) {s : Nat} (hs : ρ s = .unset) (e z : Nat) (f : Nat → List U) : Good w O ρ H w O (upd ρ s .nil) (putH H s (.arr e z 0 f)) := by
  have hp := plLe_upd .nil hs
  refine ⟨⟨fun b y hy => ?_, fun b b' y y' g c c' hy hl hy' hl' hg hg' => ?_, h.lt, h.olt⟩, .refl _ _, hp, fun k ⟨b, y, c, hy, hl, hg⟩ => ?_, fun k hk _ => hk, fun k hk => .inl hk, rfl⟩
  · by_cases hb : b = s
    · subst hb; rw [putH_same] at hy; cases hy; exact .inl ⟨upd_same _ _ _, rfl⟩
    · rcases putH_other H s _ b y hb hy with hy | hy
      · exact (h.blk b y hy).mono ⟨Nat.le_refl _, fun _ _ h => ⟨rfl, h⟩, rfl⟩ hp fun g c hg hl => ⟨rfl, img_own h ⟨b, y, c, hy, hl, hg⟩⟩
      · subst hy; trivial
  · by_cases hb : b = s
    · subst hb; rw [upd_same] at hg; cases hg
    · by_cases hb' : b' = s
      · subst hb'; rw [upd_same] at hg'; cases hg'
      · rw [upd_other _ _ _ hb] at hg
        rw [upd_other _ _ _ hb'] at hg'
        exact h.inj b b' y y' g c c' (putH_live hb hy hl) hl (putH_live hb' hy' hl') hl' hg hg'
  · by_cases hb : b = s
    · subst hb; rw [upd_same] at hg; cases hg
    · rw [upd_other _ _ _ hb] at hg; exact .inl ⟨b, y, c, putH_live hb hy hl, hl, hg⟩
theorem good_drew (h : HOK w O ρ H) : Good w O ρ H w.drew O ρ H :=
  ⟨⟨fun b y hy => (h.blk b y hy).mono (drawn_keeps O) (.refl _) fun g c hg hl => ⟨rfl, img_own h ⟨b, y, c, hy, hl, hg⟩⟩, h.inj, h.lt, h.olt⟩, ⟨rfl, rfl, rfl, Nat.le_refl _, fun _ _ _ => rfl⟩, .refl _, fun _ hk => .inl hk, fun _ hk _ => hk, fun _ hk => .inl hk, rfl⟩
theorem keeps_setRow {g : Nat} (hg : O g) (cs : Array Value) : Keeps w O (w.setRow g cs) O :=
  ⟨by simp, fun k _ ho => ⟨setRow_other w g k cs (fun e => ho (e ▸ hg)), ho⟩, rfl⟩
theorem good_set (h : HOK w O ρ H) {b : Nat} {x : Blk} (hb : H[b]? = some x) (hl : x.live) {g c : Nat} (hg : ρ b = .at g c) (cs : Array Value) (x' : Blk)
    (hx : BOK (w.setRow g cs) O ρ b x') : Good w O ρ H (w.setRow g cs) O ρ (putH H b x') := by
  have ho : O g := img_own h ⟨b, x, c, hb, hl, hg⟩
  have hk := keeps_setRow (w := w) ho cs
  refine ⟨⟨fun b' y hy => ?_, fun b1 b2 y y' g1 c1 c2 hy hyl hy' hyl' hg1 hg2 => ?_, fun k hk => by simpa using h.lt k hk, fun k hk => by simpa using h.olt k hk⟩, ⟨rfl, rfl, rfl, by simp, fun k _ hn => setRow_other w g k cs fun e => hn ⟨b, x, c, hb, hl, e ▸ hg⟩⟩, .refl _, fun k ⟨b', y, c', hy, hyl, hg'⟩ => ?_, fun k hk _ => hk, fun k hk => .inl hk, rfl⟩
  · by_cases hbb : b' = b
    · subst hbb; rw [putH_same] at hy; cases hy; exact hx
    · rcases putH_other H b x' b' y hbb hy with hy | hy
      · refine (h.blk b' y hy).mono hk (.refl _) fun g' c' hg' hyl => ⟨setRow_other w g g' cs fun e => hbb ?_, img_own h ⟨b', y, c', hy, hyl, hg'⟩⟩
        subst e
        exact h.inj b' b y x g' c' c hy hyl hb hl hg' hg
      · subst hy; trivial
  · have one : ∀ (b1 : Nat) (y : Blk), (putH H b x')[b1]? = some y → y.live → ∃ y0, H[b1]? = some y0 ∧ y0.live := fun b1 y hy hyl => by
      by_cases hbb : b1 = b
      · subst hbb; exact ⟨x, hb, hl⟩
      · exact ⟨y, putH_live hbb hy hyl, hyl⟩
    obtain ⟨u, hu, hul⟩ := one b1 y hy hyl
    obtain ⟨u', hu', hul'⟩ := one b2 y' hy' hyl'
    exact h.inj b1 b2 u u' g1 c1 c2 hu hul hu' hul' hg1 hg2
  · by_cases hbb : b' = b
    · subst hbb; exact .inl ⟨b', x, c', hb, hl, hg'⟩
    · exact .inl ⟨b', y, c', putH_live hbb hy hyl, hyl, hg'⟩
def setObjW (w : World) (g : Nat) (o : Obj) : World := { w with heap := w.heap.setIfInBounds g o }
theorem setObjW_other (w : World) (g k : Nat) (o : Obj) (h : k ≠ g) : (setObjW w g o).heap[k]? = w.heap[k]? := by
  simp [setObjW, Array.getElem?_setIfInBounds_ne (Ne.symm h)]
theorem keeps_obj {g : Nat} (hg : O g) (o : Obj) : Keeps w O (setObjW w g o) O :=
  ⟨by simp [setObjW], fun k _ ho => ⟨setObjW_other w g k o (fun e => ho (e ▸ hg)), ho⟩, rfl⟩
theorem good_obj (h : HOK w O ρ H) {b : Nat} {x : Blk} (hb : H[b]? = some x) (hl : x.live) {g c : Nat} (hg : ρ b = .at g c) (o : Obj) (x' : Blk)
    (hx : BOK (setObjW w g o) O ρ b x') : Good w O ρ H (setObjW w g o) O ρ (putH H b x') := by
  have ho : O g := img_own h ⟨b, x, c, hb, hl, hg⟩
  have hk := keeps_obj (w := w) ho o
  refine ⟨⟨fun b' y hy => ?_, fun b1 b2 y y' g1 c1 c2 hy hyl hy' hyl' hg1 hg2 => ?_, fun k hk => by simpa [setObjW] using h.lt k hk, fun k hk => by simpa [setObjW] using h.olt k hk⟩, ⟨rfl, rfl, rfl, by simp [setObjW], fun k _ hn => setObjW_other w g k o fun e => hn ⟨b, x, c, hb, hl, e ▸ hg⟩⟩, .refl _, fun k ⟨b', y, c', hy, hyl, hg'⟩ => ?_, fun k hk _ => hk, fun k hk => .inl hk, rfl⟩
  · by_cases hbb : b' = b
    · subst hbb; rw [putH_same] at hy; cases hy; exact hx
    · rcases putH_other H b x' b' y hbb hy with hy | hy
      · refine (h.blk b' y hy).mono hk (.refl _) fun g' c' hg' hyl => ⟨setObjW_other w g g' o fun e => hbb ?_, img_own h ⟨b', y, c', hy, hyl, hg'⟩⟩
        subst e
        exact h.inj b' b y x g' c' c hy hyl hb hl hg' hg
      · subst hy; trivial
  · have one : ∀ (b1 : Nat) (y : Blk), (putH H b x')[b1]? = some y → y.live → ∃ y0, H[b1]? = some y0 ∧ y0.live := fun b1 y hy hyl => by
      by_cases hbb : b1 = b
      · subst hbb; exact ⟨x, hb, hl⟩
      · exact ⟨y, putH_live hbb hy hyl, hyl⟩
    obtain ⟨u, hu, hul⟩ := one b1 y hy hyl
    obtain ⟨u', hu', hul'⟩ := one b2 y' hy' hyl'
    exact h.inj b1 b2 u u' g1 c1 c2 hu hul hu' hul' hg1 hg2
  · by_cases hbb : b' = b
    · subst hbb; exact .inl ⟨b', x, c', hb, hl, hg'⟩
    · exact .inl ⟨b', y, c', putH_live hbb hy hyl, hyl, hg'⟩
theorem good_gone (h : HOK w O ρ H) {b : Nat} {x : Blk} (hb : H[b]? = some x) (hl : x.live) {g c : Nat} (hg : ρ b = .at g c) :
    Good w O ρ H w (O.del g) ρ (putH H b .gone) := by
  have hk : Keeps w O w (O.del g) := ⟨Nat.le_refl _, fun k _ ho => ⟨rfl, fun h => ho h.1⟩, rfl⟩
  refine ⟨⟨fun b' y hy => ?_, fun b1 b2 y y' g1 c1 c2 hy hyl hy' hyl' hg1 hg2 => ?_, fun k hk => h.lt k hk.1, fun k hk => ⟨(h.olt k hk).1, fun h' => (h.olt k hk).2 h'.1⟩⟩, .refl _ _, .refl _, fun k ⟨b', y, c', hy, hyl, hg'⟩ => ?_, fun k hk hn => ⟨hk, fun e => hn ⟨b, x, c, hb, hl, e ▸ hg⟩⟩, fun k hk => .inl hk.1, rfl⟩
  · by_cases hbb : b' = b
    · subst hbb; rw [putH_same] at hy; cases hy; trivial
    · rcases putH_other H b _ b' y hbb hy with hy | hy
      · refine (h.blk b' y hy).mono hk (.refl _) fun g' c' hg' hyl => ⟨rfl, img_own h ⟨b', y, c', hy, hyl, hg'⟩, fun e => hbb ?_⟩
        subst e
        exact h.inj b' b y x g' c' c hy hyl hb hl hg' hg
      · subst hy; trivial
  · by_cases h1 : b1 = b
    · subst h1; rw [putH_same] at hy; cases hy; exact hyl.elim
    · by_cases h2 : b2 = b
      · subst h2; rw [putH_same] at hy'; cases hy'; exact hyl'.elim
      · exact h.inj b1 b2 y y' g1 c1 c2 (putH_live h1 hy hyl) hyl (putH_live h2 hy' hyl') hyl' hg1 hg2
  · by_cases hbb : b' = b
    · subst hbb; rw [putH_same] at hy; cases hy; exact hyl.elim
    · exact .inl ⟨b', y, c', putH_live hbb hy hyl, hyl, hg'⟩
end
end Am
end
section
open Go
set_option linter.unusedVariables false
namespace Am
inductive Ob where
  | leI (a b : Int) | ltI (a b : Int) | neI (a b : Int)
  | ltN (a b : Nat) | leN (a b : Nat) | eqN (a b : Nat)
  | leA (a b : Int) (c : Int)
  | room (m by_ : Nat) | roomI (m : Int) (by_ : Nat)
  | seg (f z n : Nat)
  | bts (n : Nat) (f : Nat → List U)
def Ob.den : Ob → Prop
  | .leI a b => a ≤ b | .ltI a b => a < b | .neI a b => a ≠ b
  | .ltN a b => a < b | .leN a b => a ≤ b | .eqN a b => a = b
  | .leA a b c => a + b ≤ c
  | .room m by_ => m * by_ ≤ 140737488355328 | .roomI m by_ => m * by_ ≤ 140737488355328
  | .seg f z n => f + z ≤ n
  | .bts n f => ∀ i, i < n → ∃ b, f i = [.sc (.int .u8 b)]
structure Env where
  ob : Ob → Prop
  ib : BinOp → IntKind → Int → Int → Int
  ic : BinOp → Int → Int → Bool
  sb : BinOp → ByteArray → ByteArray → Bool
  cat : ByteArray → ByteArray → ByteArray
  iu : UnOp → IntKind → Int → Int
  nt : Bool → Bool
  an : Bool → Bool → Bool
  be : Bool → Bool → Bool
  pk : Bool → Bool → Bool → Bool
  wr : IntKind → Int → Int
  tn : Int → Nat
  iN : Nat → Int
  aN : Nat → Nat → Nat
  sN : Nat → Nat → Nat
  lN : Nat → Nat → Bool
  eN : Nat → Nat → Bool
  bt : ByteArray → Int → Int
  sub : ByteArray → Int → Int → ByteArray
  sl : ByteArray → Int
  rn : Int → ByteArray
  ofB : Nat → (Nat → List U) → ByteArray
  mn : Int → Int → Int
  dc : ByteArray → Nat → Int
  dn : ByteArray → Nat → Nat
  sI : Int → Int → Int
def btI (s : ByteArray) (i : Int) : Int := ((s.data.toList.getD i.toNat 0).toNat : Int)
def byteU : List U → UInt8
  | [.sc (.int _ n)] => UInt8.ofNat n.toNat
  | _ => 0
def Env.std : Env where
  ob := Ob.den
  ib op k a b := match op with
    | .add => k.wrap (a + b) | .sub => k.wrap (a - b) | .mul => k.wrap (a * b)
    | .quo => k.wrap (a.tdiv b) | .rem => a.tmod b
    | .and => k.wrap (BitVec.ofInt k.bits a &&& BitVec.ofInt k.bits b).toNat | .or => k.wrap (BitVec.ofInt k.bits a ||| BitVec.ofInt k.bits b).toNat
    | .xor => k.wrap (BitVec.ofInt k.bits a ^^^ BitVec.ofInt k.bits b).toNat | .andNot => k.wrap (BitVec.ofInt k.bits a &&& ~~~ BitVec.ofInt k.bits b).toNat
    | .shl => k.wrap (a * 2 ^ (min b.toNat k.bits)) | .shr => a.fdiv (2 ^ (min b.toNat k.bits))
    | _ => 0
  ic op a b := match op with
    | .eql => a == b | .neq => a != b | .lss => decide (a < b) | .leq => decide (a ≤ b) | .gtr => decide (a > b) | .geq => decide (a ≥ b)
    | _ => false
  sb op x y := match op with
    | .eql => x.toList == y.toList | .neq => !(x.toList == y.toList) | .lss => Op.bytesLess x.toList y.toList | .leq => Op.bytesLess x.toList y.toList || x.toList == y.toList
    | .gtr => !(Op.bytesLess x.toList y.toList || x.toList == y.toList) | .geq => !Op.bytesLess x.toList y.toList
    | _ => false
  cat x y := x ++ y
  iu op k n := match op with
    | .neg => k.wrap (0 - n) | .xor => k.wrap (BitVec.ofInt k.bits (if k.signed then -1 else k.max) ^^^ BitVec.ofInt k.bits n).toNat
    | _ => 0
  nt b := !b
  an a b := a && b
  be a b := a == b
  pk c a b := if c then a else b
  wr k n := k.wrap n
  tn i := i.toNat
  iN n := (n : Int)
  aN a b := a + b
  sN a b := a - b
  lN a b := decide (a < b)
  eN a b := decide (a = b)
  bt s i := btI s i
  sub s a b := s.extract a.toNat b.toNat
  sl s := (s.size : Int)
  rn n := Utf8.encode n
  ofB n f := ⟨((List.range n).map fun i => byteU (f i)).toArray⟩
  mn a b := if b < a then b else a
  dc s p := (Utf8.decode s p).1
  dn s p := if p < s.size then p + (Utf8.decode s p).2 else p
  sI a b := a - b
@[simp] theorem std_ob (o : Ob) : Env.std.ob o = o.den := rfl
attribute [simp] Ob.den
inductive Xt where
  | bsl0 (e z : Nat)
  | bslF (e z len : Nat) (zero : List Value) (parts : List (Nat × Operand))
  | appW (z : Nat) (x y : Operand)
  | appZ (e z by_ : Nat) (zero : List Value) (x n : Operand)
  | sl3 (z : Nat) (x lo hi mx : Operand)
  | cpy (z : Nat) (x y : Operand)
  | clr (z : Nat) (zero : List Value) (x : Operand)
  | mks (e z by_ : Nat) (zero : List Value) (n : Operand)
  | mkm (k : IntKind) (set : Bool)
  | mup (q : IntKind) (m k v : Operand)
  | mlk (q : IntKind) (ok : Bool) (m k : Operand)
inductive In where
  | xt (x : Xt)
  | mv (x : Operand)
  | pick (c a b : Operand)
  | alloc (zero : List Value)
  | box (z : Nat) (x : Operand)
  | build (zero : List Value) (parts : List (Nat × Nat × Operand))
  | bsl (e z len : Nat) (zero : List Value) (parts : List (Nat × Operand))
  | ld (agg : Bool) (z : Nat) (x : Operand)
  | st (z : Nat) (a x : Operand)
  | nilck (x : Operand)
  | bin (op : BinOp) (agg : Bool) (q : List Nat) (x y : Operand)
  | un (op : UnOp) (x : Operand)
  | cvI (k : IntKind) (x : Operand)
  | cvR (x : Operand)
  | cvS (e : Nat) (x : Operand)
  | cvB (x : Operand)
  | fad (off : Nat) (x : Operand)
  | iadS (z : Nat) (x i : Operand)
  | iadA (n z : Nat) (x i : Operand)
  | ixA (n z : Nat) (agg : Bool) (x i : Operand)
  | ixS (x i : Operand)
  | fld (agg : Bool) (off z : Nat) (x : Operand)
  | slS (x : Operand) (lo hi : Option Operand)
  | slL (z : Nat) (x : Operand) (lo hi : Option Operand)
  | ext (x : Operand) (i : Nat)
  | len (str : Bool) (x : Operand)
  | app (e z by_ : Nat) (x y : Operand)
  | appS (e by_ : Nat) (x y : Operand)
  | mkfn (fn : Fn) (first captured : List Operand)
  | mn (x y : Operand)
  | rng (x : Operand)
  | nxt (x : Operand)
def ofCell (v : Value) : V := if v.oneCell' then .u (.sc v) else .un
def ofCells : List Value → List V
  | [] => []
  | v :: l => ofCell v :: ofCells l
def ofConst : Value → V
  | .agg cs => .ag (ofCells cs.toList)
  | .tuple _ => .un
  | v => .u (.sc v)
def getV : List V → Nat → V
  | [], _ => .un
  | x :: _, 0 => x
  | _ :: l, n + 1 => getV l n
def evO (T : List V) : Operand → V
  | .tmp t => getV T t
  | .const v => ofConst v
  | .global g => .u (.sc (.pointer (some ⟨g, 0, none⟩)))
  | .func f => .u (.sc (.func (.func f) #[] #[]))
def cellsOf : V → List V
  | .ag cs => cs
  | x => [x]
def toU : List V → Option (List U)
  | [] => some []
  | .u x :: l => match toU l with | some r => some (x :: r) | none => none
  | _ :: _ => none
def ofUs : List U → List V
  | [] => []
  | x :: l => .u x :: ofUs l
def takeL {α : Type} : Nat → List α → Option (List α)
  | 0, _ => some []
  | n + 1, x :: l => match takeL n l with | some r => some (x :: r) | none => none
  | _ + 1, [] => none
def dropL {α : Type} : Nat → List α → Option (List α)
  | 0, l => some l
  | n + 1, _ :: l => dropL n l
  | _ + 1, [] => none
def segL {α : Type} (o z : Nat) (l : List α) : Option (List α) := match dropL o l with | some r => takeL z r | none => none
def setSeg {α : Type} : Nat → List α → List α → Option (List α)
  | 0, [], l => some l
  | 0, y :: ys, _ :: l => match setSeg 0 ys l with | some r => some (y :: r) | none => none
  | 0, _ :: _, [] => none
  | n + 1, ys, x :: l => match setSeg n ys l with | some r => some (x :: r) | none => none
  | _ + 1, _, [] => none
def oneOr (agg : Bool) (cs : List V) : Option V := if agg then some (.ag cs) else match cs with | [x] => some x | _ => none
def blkAt : Heap → Nat → Blk
  | [], _ => .gone
  | x :: _, 0 => x
  | _ :: l, n + 1 => blkAt l n
def readP (E : Env) (H : Heap) (z : Nat) : V → Option (List V × Prop)
  | .pb b o => match blkAt H b with
    | .box cells => match segL o z cells with | some r => some (r, True) | none => none
    | _ => none
  | .pa b z' i f => match blkAt H b with
    | .arr _ z'' n F => if z' = z'' then (match segL f z (F i) with | some r => some (ofUs r, E.ob (.ltN i n)) | none => none) else none
    | .arc _ z'' n F _ => if z' = z'' then (match segL f z (F i) with | some r => some (ofUs r, E.ob (.ltN i n)) | none => none) else none
    | _ => none
  | .rp _ cs => match takeL z cs with | some r => some (ofUs r, True) | none => none
  | _ => none
abbrev Cur := Option Bool
def under (cur : Cur) (p : Prop) : Prop := match cur with | none => p | some c => c = true → p
def peel : V → V
  | .gd _ x => peel x
  | x => x
def allK : List Prop → Prop → Prop
  | [], k => k
  | p :: l, k => p ∧ allK l k
def owes (cur : Cur) : V → Prop → Prop
  | .gd c x, k => under cur (c = true) ∧ owes cur x k
  | _, k => k
def known : V → Bool
  | .un | .gd _ _ | .tp _ | .ag _ | .nx _ _ _ => false
  | _ => true
def allKnown : List V → Bool
  | [] => true
  | x :: l => known x && allKnown l
def cells? : V → Option (List V)
  | .ag cs => some cs
  | x => if known x then some [x] else none
def lenIs {α : Type} : Nat → List α → Bool
  | 0, [] => true
  | n + 1, _ :: l => lenIs n l
  | _, _ => false
def fillV (val : Operand → V) : List V → List (Nat × Nat × Operand) → Option (List V)
  | cells, [] => some cells
  | cells, (off, size, x) :: rest =>
    match cells? (val x) with
    | some cs => if lenIs size cs then (match setSeg off cs cells with | some r => fillV val r rest | none => none) else none
    | none => none
def rowsV (z : Nat) : Nat → List U → List (List U)
  | 0, _ => []
  | n + 1, r => r :: rowsV z n r
def setRow? : Nat → List U → List (List U) → Option (List (List U))
  | 0, r, _ :: l => some (r :: l)
  | n + 1, r, x :: l => match setRow? n r l with | some q => some (x :: q) | none => none
  | _, _, [] => none
def fillR (val : Operand → V) (z : Nat) : List (List U) → List (Nat × Operand) → Option (List (List U))
  | rows, [] => some rows
  | rows, (i, x) :: rest =>
    match cells? (val x) with
    | some cs => if lenIs z cs then (match toU cs with | some us => (match setRow? i us rows with | some r => fillR val z r rest | none => none) | none => none) else none
    | none => none
def listRow : List (List U) → Nat → List U
  | [], _ => []
  | r :: _, 0 => r
  | _ :: l, n + 1 => listRow l n
def setSegD (o : Nat) (us l : List U) : List U := match setSeg o us l with | some r => r | none => l
def scB (b : Bool) : V := .u (.sc (.bool b))
def scI (k : IntKind) (n : Int) : V := .u (.sc (.int k n))
def scS (s : ByteArray) : V := .u (.sc (.string s))
abbrev Delta := List (Nat × Blk)
abbrev Res := Option (V × Delta × List Prop)
def kindEq : IntKind → IntKind → Bool
  | .i8, .i8 | .i16, .i16 | .i32, .i32 | .i64, .i64 | .u8, .u8 | .u16, .u16 | .u32, .u32 | .u64, .u64 => true
  | _, _ => false
def leafEq (E : Env) : Nat → V → V → Option Bool
  | 0, .u (.sc (.int k a)), .u (.sc (.int k' b)) => if kindEq k k' then some (E.ic .eql a b) else none
  | 1, .u (.sc (.string a)), .u (.sc (.string b)) => some (E.sb .eql a b)
  | 2, .u (.sc (.bool a)), .u (.sc (.bool b)) => some (E.be a b)
  | _, _, _ => none
def allEq (E : Env) : List Nat → List V → List V → Option Bool
  | [], [], [] => some true
  | [k], [x], [y] => leafEq E k x y
  | k :: q, x :: l, y :: m => match leafEq E k x y, allEq E q l m with | some a, some b => some (E.an a b) | _, _ => none
  | _, _, _ => none
def isShift : BinOp → Bool
  | .shl | .shr => true
  | _ => false
def isDiv : BinOp → Bool
  | .quo | .rem => true
  | _ => false
def isArith : BinOp → Bool
  | .add | .sub | .mul | .quo | .rem | .and | .or | .xor | .andNot | .shl | .shr => true
  | _ => false
def binV (E : Env) (op : BinOp) (agg : Bool) (q : List Nat) (x y : V) : Option (V × List Prop) :=
  if agg then (match x, y with
    | .ag cs, .ag ds =>
      match op with
      | .eql => match allEq E q cs ds with | some r => some (scB r, []) | none => none
      | .neq => match allEq E q cs ds with | some r => some (scB (E.nt r), []) | none => none
      | _ => none
    | _, _ => none)
  else match q, x, y with
  | [0], .u (.sc (.int k a)), .u (.sc (.int k' b)) =>
    if isShift op then some (scI k (E.ib op k a b), [E.ob (.leI 0 b)])
    else if kindEq k k' then
      (if isDiv op then some (scI k (E.ib op k a b), [E.ob (.neI b 0)])
       else if isArith op then some (scI k (E.ib op k a b), [])
       else some (scB (E.ic op a b), []))
    else none
  | [1], .u (.sc (.string a)), .u (.sc (.string b)) =>
    match op with
    | .add => some (scS (E.cat a b), [E.ob (.leA (E.sl a) (E.sl b) 9223372036854775807)])
    | .eql | .neq | .lss | .leq | .gtr | .geq => some (scB (E.sb op a b), [])
    | _ => none
  | [2], .u (.sc (.bool a)), .u (.sc (.bool b)) =>
    match op with
    | .eql => some (scB (E.be a b), [])
    | .neq => some (scB (E.nt (E.be a b)), [])
    | _ => none
  | _, _, _ => none
def pickV (E : Env) (g : Bool) : V → V → Option (V × List Prop)
  | .u (.sc (.bool x)), .u (.sc (.bool y)) => some (scB (E.pk g x y), [])
  | .gd c (.u (.sc (.bool x))), .u (.sc (.bool y)) => some (scB (E.pk g x y), [g = true → c = true])
  | .u (.sc (.bool x)), .gd c (.u (.sc (.bool y))) => some (scB (E.pk g x y), [g = false → c = true])
  | .un, .u (.sc (.bool y)) => some (scB y, [g = false])
  | .u (.sc (.bool x)), .un => some (scB x, [g = true])
  | .gd c (.gd c' (.u (.sc (.bool x)))), .u (.sc (.bool y)) => some (scB (E.pk g x y), [g = true → c = true, g = true → c' = true])
  | .u (.sc (.bool x)), .gd c (.gd c' (.u (.sc (.bool y)))) => some (scB (E.pk g x y), [g = false → c = true, g = false → c' = true])
  | .gd false .un, .u (.sc (.bool y)) => some (scB y, [g = false])
  | .u (.sc (.bool x)), .gd false .un => some (scB x, [g = true])
  | _, _ => none
def rowsOf (E : Env) (H : Heap) (z : Nat) : V → Option (Nat × (Nat → List U) × List Prop)
  | .u (.sv _ z' n f) => if z = z' then some (n, f, []) else none
  | .u (.sc (.slice none 0 0)) => some (0, fun _ => [], [])
  | .sr b z' off len =>
    match blkAt H b with
    | .arr _ z'' n F => if z = z' then (if z' = z'' then
        (match off with
         | 0 => some (len, F, [E.ob (.leN len n)])
         | o + 1 => some (len, fun k => F (E.aN (o + 1) k), [E.ob (.leN (E.aN (o + 1) len) n)])) else none) else none
    | .arc _ z'' n F _ => if z = z' then (if z' = z'' then
        (match off with
         | 0 => some (len, F, [E.ob (.leN len n)])
         | o + 1 => none) else none) else none
    | _ => none
  | .so b z' off len =>
    match blkAt H b with
    | .arr _ z'' n F => if z = z' then (if z' = z'' then some (len, fun k => F (E.aN off k), [E.ob (.leN (E.aN off len) n)]) else none) else none
    | .arc _ z'' n F _ => if z = z' then (if z' = z'' then some (len, fun k => F (E.aN off k), [E.ob (.leN (E.aN off len) n)]) else none) else none
    | _ => none
  | _ => none
def arrAt (H : Heap) (b : Nat) : Option (Nat × Nat × Nat × (Nat → List U) × Option Nat) := match blkAt H b with
  | .arr e z n F => some (e, z, n, F, none)
  | .arc e z n F c => some (e, z, n, F, some c)
  | _ => none
def arrB (e z n : Nat) (F : Nat → List U) : Option Nat → Blk
  | none => .arr e z n F
  | some c => .arc e z n F c
def ownAt : V → Option (Nat × Nat × Option Nat × Nat)
  | .sr b z 0 len => some (b, z, none, len)
  | .so b z off len => some (b, z, some off, len)
  | _ => none
def rowsPut (E : Env) (F G : Nat → List U) (cnt : Nat) : Option Nat → Nat → List U
  | none, k => if E.lN k cnt then G k else F k
  | some off, k => if E.lN k off then F k else if E.lN (E.sN k off) cnt then G (E.sN k off) else F k
def srcOf (E : Env) (H : Heap) (z : Nat) : V → Option (Nat × (Nat → List U) × (Nat → List Prop))
  | .u (.sv _ z' n f) => if z = z' then some (n, f, fun _ => []) else none
  | .u (.sc (.slice none 0 0)) => some (0, fun _ => [], fun _ => [])
  | x => match ownAt x with
    | some (b, z', off, len) => if z = z' then (match arrAt H b with
      | some (e, z'', n, F, c) => if z = z'' then (match off with
        | none => some (len, F, fun cnt => [E.ob (.leN cnt n)])
        | some o => some (len, fun k => F (E.aN o k), fun cnt => [E.ob (.leN (E.aN o cnt) n)])) else none
      | none => none) else none
    | none => none
def segOb (E : Env) (len n : Nat) : Option Nat → Prop
  | none => E.ob (.leN len n)
  | some off => E.ob (.leN (E.aN off len) n)
def neAll (E : Env) (i : Int) : List (Int × U) → List Prop
  | [] => []
  | (j, _) :: l => E.ob (.neI j i) :: neAll E i l
def snocL {α : Type} : List α → α → List α
  | [], x => [x]
  | y :: l, x => y :: snocL l x
def optI (d : Int) (val : Operand → V) : Option Operand → Option Int
  | none => some d
  | some x => match val x with | .u (.sc (.int _ n)) => some n | _ => none
def addO (E : Env) : Nat → Nat → Nat
  | 0, k => k
  | o + 1, k => E.aN (o + 1) k
def litNat : Int → Option Nat
  | .ofNat n => some n
  | _ => none
def xstep (E : Env) (val : Operand → V) (H : Heap) (s : Nat) : Xt → Res
  | .bsl0 e z => some (.sr s z 0 0, [(s, .arr e z 0 (fun _ => []))], [])
  | .bslF e z len zero parts => match toU (ofCells zero) with
    | some us => match fillR val z (rowsV z len us) parts with
      | some rows => some (.u (.sv (.new e) z len (listRow rows)), [], [])
      | none => none
    | none => none
  | .appW z x y => match rowsOf E H z (val y), val x with
    | some (m, G, l), .sr b z' 0 len => if z = z' then (match arrAt H b with
      | some (e, z'', n, F, c) => if z = z'' then some (.sr b z 0 (E.aN len m), [(b, arrB e z n (rowsPut E F G m (some len)) c)], E.ob (.leN (E.aN len m) n) :: l) else none
      | none => none) else none
    | _, _ => none
  | .appZ e z by_ zero x n => match toU (ofCells zero), val x, val n with
    | some us, .u (.sc (.slice none 0 0)), .u (.sc (.int .i64 k)) => some (.sr s z 0 (E.tn k), [(s, .arr e z (E.tn k) (fun _ => us))], [E.ob (.leI 0 k), E.ob (.roomI k by_), E.ob (.leI k 4611686018427387904), E.ob (.ltN 0 z), E.ob (.ltN 0 by_)])
    | some us, .sr b z' 0 len, .u (.sc (.int .i64 k)) => if z = z' then (match blkAt H b with
      | .arc e' z'' n F c => if z = z'' then (if e = e' then some (.sr s z 0 (E.aN len (E.tn k)), [(s, .arr e z (E.aN len (E.tn k)) (fun j => if E.lN j len then F j else us))],
          [E.ob (.leI 0 k), E.ob (.leN len n), E.ob (.ltN c (E.aN len (E.tn k))), E.ob (.room (E.aN len (E.tn k)) by_), E.ob (.leN (E.aN len (E.tn k)) 4611686018427387904), E.ob (.ltN 0 z), E.ob (.ltN 0 by_)]) else none) else none
      | _ => none) else none
    | _, _, _ => none
  | .sl3 z x lo hi mx => match val x, val lo, val hi, val mx with
    | .u (.sv o z' n f), .u (.sc (.int _ l)), .u (.sc (.int _ h)), .u (.sc (.int _ m)) => if z = z' then some (.u (.sv o z (E.tn (E.sI h l)) (fun k => f (E.aN (E.tn l) k))), [], [E.ob (.leI 0 l), E.ob (.leI l h), E.ob (.leI h m), E.ob (.leI m (E.iN n))]) else none
    | .sr b z' 0 n, .u (.sc (.int _ l)), .u (.sc (.int _ h)), .u (.sc (.int _ m)) => if z = z' then some (.so b z (E.tn l) (E.tn (E.sI h l)), [], [E.ob (.leI 0 l), E.ob (.leI l h), E.ob (.leI h m), E.ob (.leI m (E.iN n))]) else none
    | _, _, _, _ => none
  | .cpy z x y => match srcOf E H z (val y), ownAt (val x) with
    | some (m, G, l), some (b, z', off, len) => if z = z' then (match blkAt H b with
      | .arr e z'' n F => if z = z'' then some (scI .i64 (E.mn (E.iN m) (E.iN len)), [(b, .arr e z n (rowsPut E F G (E.tn (E.mn (E.iN m) (E.iN len))) off))], segOb E len n off :: l (E.tn (E.mn (E.iN m) (E.iN len)))) else none
      | .arc e z'' n F c => if z = z'' then (match off with
        | some o => some (scI .i64 (E.mn (E.iN m) (E.iN len)), [(b, .arc e z (E.aN n (E.sN (E.aN o (E.tn (E.mn (E.iN m) (E.iN len)))) n)) (rowsPut E F G (E.tn (E.mn (E.iN m) (E.iN len))) (some o)) c)], E.ob (.leN (E.aN o len) c) :: E.ob (.leN o n) :: l (E.tn (E.mn (E.iN m) (E.iN len))))
        | none => none) else none
      | _ => none) else none
    | _, _ => none
  | .clr z zero x => match toU (ofCells zero), ownAt (val x) with
    | some us, some (b, z', off, len) => if z = z' then (match arrAt H b with
      | some (e, z'', n, F, c) => if z = z'' then some (.un, [(b, arrB e z n (rowsPut E F (fun _ => us) len off) c)], [segOb E len n off, E.ob (.ltN 0 z)]) else none
      | none => none) else none
    | _, _ => none
  | .mks e z by_ zero n => match toU (ofCells zero), val n with
    | some us, .u (.sc (.int .i64 k)) => some (.sr s z 0 (E.tn k), [(s, .arr e z (E.tn k) (fun _ => us))], [E.ob (.leI 0 k), E.ob (.roomI k by_), E.ob (.leI k 4611686018427387904), E.ob (.ltN 0 z)])
    | _, _ => none
  | .mkm k set => some (.mp s, [(s, if set then .ms k (fun _ => false) else .ml k [])], [])
  | .mup q m k v => match val m, val k with
    | .mp b, .u (.sc (.int kk i)) => if kindEq q kk then (match blkAt H b with
      | .ms kd p => if kindEq kd q then (match val v with | .ag [] => some (.un, [(b, .ms kd (fun j => E.nt (E.an (E.nt (p j)) (E.nt (E.ic .eql j i)))))], []) | _ => none) else none
      | .ml kd l => if kindEq kd q then (match val v with | .u x => some (.un, [(b, .ml kd (snocL l (i, x)))], neAll E i l) | _ => none) else none
      | _ => none) else none
    | _, _ => none
  | .mlk q ok m k => match val m, val k with
    | .mp b, .u (.sc (.int kk i)) => if kindEq q kk then (match blkAt H b with
      | .ms kd p => if kindEq kd q then some (if ok then .tp [.ag [], scB (p i)] else .ag [], [], []) else none
      | _ => none) else none
    | _, _ => none
def xlooks : Xt → List Operand
  | .bsl0 _ _ | .mkm _ _ => []
  | .bslF _ _ _ _ ps => ps.map fun p => p.2
  | .appW _ x y | .appZ _ _ _ _ x y | .cpy _ x y | .mlk _ _ x y => [x, y]
  | .sl3 _ x a b c => [x, a, b, c]
  | .clr _ _ x | .mks _ _ _ _ x => [x]
  | .mup _ a b c => [a, b, c]
def istep (E : Env) (raw : Operand → V) (H : Heap) (s : Nat) : In → Res
  | .xt x => xstep E (fun y => peel (raw y)) H s x
  | .mv x => some (raw x, [], [])
  | .pick c a b => match peel (raw c) with
    | .u (.sc (.bool g)) => match pickV E g (raw a) (raw b) with | some (v, l) => some (v, [], l) | none => none
    | _ => none
  | .alloc zero => some (.pb s 0, [(s, .box (ofCells zero))], [])
  | .box _ x => match cells? (peel (raw x)) with | some cs => some (.pb s 0, [(s, .box cs)], []) | none => none
  | .build zero parts => match fillV (fun x => peel (raw x)) (ofCells zero) parts with | some cs => some (.ag cs, [], []) | none => none
  | .bsl e z len zero parts => match toU (ofCells zero) with
    | some us => match fillR (fun x => peel (raw x)) z (rowsV z len us) parts with
      | some rows => some (.sr s z 0 len, [(s, .arr e z len (listRow rows))], [])
      | none => none
    | none => none
  | .ld agg z x => match readP E H z (peel (raw x)) with
    | some (cs, ob) => match oneOr agg cs with | some v => some (v, [], [ob]) | none => none
    | none => none
  | .st z a x => match cells? (peel (raw x)) with
    | some cs => if lenIs z cs && allKnown cs then (match peel (raw a) with
      | .pb b o => match blkAt H b with
        | .box cells => match setSeg o cs cells with | some r => some (.un, [(b, .box r)], []) | none => none
        | _ => none
      | .pa b z' i f => match blkAt H b with
        | .arr e z'' n F => if z' = z'' then (match toU cs with
          | some us => some (.un, [(b, .arr e z'' n (fun k => if E.eN k i then setSegD f us (F k) else F k))], [E.ob (.ltN i n), E.ob (.seg f z z'')])
          | none => none) else none
        | _ => none
      | _ => none) else none
    | none => none
  | .nilck x => match peel (raw x) with
    | .pb b o => some (.pb b o, [], [])
    | .pa b z i f => some (.pa b z i f, [], [])
    | .rp o cs => some (.rp o cs, [], [])
    | .fv (.func g) c d => some (.fv (.func g) c d, [], [])
    | _ => none
  | .bin op agg q x y => match binV E op agg q (peel (raw x)) (peel (raw y)) with | some (v, l) => some (v, [], l) | none => none
  | .un op x => match op, peel (raw x) with
    | .not, .u (.sc (.bool b)) => some (scB (E.nt b), [], [])
    | .neg, .u (.sc (.int k n)) => some (scI k (E.iu .neg k n), [], [])
    | .xor, .u (.sc (.int k n)) => some (scI k (E.iu .xor k n), [], [])
    | _, _ => none
  | .cvI k x => match peel (raw x) with | .u (.sc (.int _ n)) => some (scI k (E.wr k n), [], []) | _ => none
  | .cvR x => match peel (raw x) with | .u (.sc (.int _ n)) => some (scS (E.rn n), [], []) | .u (.sc (.string t)) => some (scS t, [], []) | _ => none
  | .cvS e x => match peel (raw x) with | .u (.sc (.string t)) => some (.u (.sv .any 1 (E.tn (E.sl t)) (fun i => [.sc (.int .u8 (E.bt t (E.iN i)))])), [], []) | _ => none
  | .cvB x => match rowsOf E H 1 (peel (raw x)) with
    | some (n, f, l) => some (scS (E.ofB n f), [], E.ob (.bts n f) :: l)
    | none => none
  | .fad off x => match peel (raw x) with
    | .pb b o => some (.pb b (o + off), [], [])
    | .pa b z i f => some (.pa b z i (f + off), [], [])
    | .rp o cs => match dropL off cs with | some r => some (.rp o r, [], []) | none => none
    | _ => none
  | .iadS z x i => match peel (raw x), peel (raw i) with
    | .u (.sv o z' n f), .u (.sc (.int _ k)) => if z = z' then some (.rp o (f (E.tn k)), [], [E.ob (.leI 0 k), E.ob (.ltN (E.tn k) n), E.ob (.ltN 0 z)]) else none
    | .sr b z' off len, .u (.sc (.int _ k)) => if z = z' then some (.pa b z (addO E off (E.tn k)) 0, [], [E.ob (.leI 0 k), E.ob (.ltN (E.tn k) len)]) else none
    | .so b z' off len, .u (.sc (.int _ k)) => if z = z' then some (.pa b z (E.aN off (E.tn k)) 0, [], [E.ob (.leI 0 k), E.ob (.ltN (E.tn k) len)]) else none
    | _, _ => none
  | .iadA n z x i => match peel (raw x), peel (raw i) with
    | .pb b o, .u (.sc (.int _ k)) => match litNat k with | some j => if Nat.blt j n then some (.pb b (o + j * z), [], []) else none | none => none
    | _, _ => none
  | .ixA n z agg x i => match peel (raw x), peel (raw i) with
    | .ag cs, .u (.sc (.int _ k)) => match litNat k with
      | some j => if Nat.blt j n then (match segL (j * z) z cs with | some r => (match oneOr agg r with | some v => some (v, [], []) | none => none) | none => none) else none
      | none => none
    | _, _ => none
  | .ixS x i => match peel (raw x), peel (raw i) with
    | .u (.sc (.string t)), .u (.sc (.int _ k)) => some (scI .u8 (E.bt t k), [], [E.ob (.leI 0 k), E.ob (.ltI k (E.sl t))])
    | _, _ => none
  | .fld agg off z x => match peel (raw x) with
    | .ag cs => match segL off z cs with | some r => (match oneOr agg r with | some v => some (v, [], []) | none => none) | none => none
    | _ => none
  | .slS x lo hi => match peel (raw x) with
    | .u (.sc (.string t)) => match optI 0 (fun y => peel (raw y)) lo, optI (E.sl t) (fun y => peel (raw y)) hi with
      | some l, some h => some (scS (E.sub t l h), [], [E.ob (.leI 0 l), E.ob (.leI l h), E.ob (.leI h (E.sl t))])
      | _, _ => none
    | _ => none
  | .slL z x lo hi => match peel (raw x) with
    | .u (.sv o z' n f) => if z = z' then (match lo, optI 0 (fun y => peel (raw y)) lo, optI (E.iN n) (fun y => peel (raw y)) hi with
      | none, some _, some h => some (.u (.sv o z (E.tn h) f), [], [E.ob (.leI 0 h), E.ob (.leI h (E.iN n))])
      | some _, some l, some h => some (.u (.sv o z (E.tn (E.sI h l)) (fun k => f (E.aN (E.tn l) k))), [], [E.ob (.leI 0 l), E.ob (.leI l h), E.ob (.leI h (E.iN n))])
      | _, _, _ => none) else none
    | .sr b z' 0 len => if z = z' then (match lo, optI 0 (fun y => peel (raw y)) lo, optI (E.iN len) (fun y => peel (raw y)) hi with
      | none, some _, some h => (match blkAt H b with
        | .arc e z'' n F c => if z = z'' then some (.sr b z 0 (E.tn h), [], [E.ob (.leI 0 h), E.ob (.leI h (E.iN c))]) else none
        | _ => some (.sr b z 0 (E.tn h), [], [E.ob (.leI 0 h), E.ob (.leI h (E.iN len))]))
      | some _, some l, some h => (match blkAt H b with
        | .arr e z'' n F => if z = z'' then some (.so b z (E.tn l) (E.tn (E.sI h l)), [], [E.ob (.leI 0 l), E.ob (.leI l h), E.ob (.leI h (E.iN n))]) else none
        | _ => some (.so b z (E.tn l) (E.tn (E.sI h l)), [], [E.ob (.leI 0 l), E.ob (.leI l h), E.ob (.leI h (E.iN len))]))
      | _, _, _ => none) else none
    | .so b z' off len => if z = z' then (match lo, optI 0 (fun y => peel (raw y)) lo, optI (E.iN len) (fun y => peel (raw y)) hi with
      | none, some _, some h => some (.so b z off (E.tn h), [], [E.ob (.leI 0 h), E.ob (.leI h (E.iN len))])
      | some _, some l, some h => some (.so b z (E.aN off (E.tn l)) (E.tn (E.sI h l)), [], [E.ob (.leI 0 l), E.ob (.leI l h), E.ob (.leI h (E.iN len))])
      | _, _, _ => none) else none
    | _ => none
  | .ext x i => match peel (raw x) with
    | .tp vs => (match dropL i vs with | some (v :: _) => some (v, [], []) | _ => none)
    | .nx c p r => (match i with | 0 => some (scB c, [], []) | 1 => some (scI .i64 p, [], [c = true]) | 2 => some (scI .i32 r, [], [c = true]) | _ => none)
    | _ => none
  | .mn x y => match peel (raw x), peel (raw y) with | .u (.sc (.int k a)), .u (.sc (.int k' b)) => some (scI k (E.mn a b), [], []) | _, _ => none
  | .rng x => match peel (raw x) with | .u (.sc (.string t)) => some (.pb s 0, [(s, .it t 0)], []) | _ => none
  | .nxt x => match peel (raw x) with
    | .pb b 0 => match blkAt H b with
      | .it t p => some (.nx (E.lN p (E.tn (E.sl t))) (E.iN p) (E.dc t p), [(b, .it t (E.dn t p))], [])
      | _ => none
    | _ => none
  | .len str x => if str then (match peel (raw x) with
      | .u (.sc (.string t)) => some (scI .i64 (E.sl t), [], [])
      | _ => none)
    else (match peel (raw x) with
      | .u (.sv _ _ n _) => some (scI .i64 (E.iN n), [], [])
      | .u (.sc (.slice none 0 0)) => some (scI .i64 0, [], [])
      | .sr _ _ _ n => some (scI .i64 (E.iN n), [], [])
      | .so _ _ _ n => some (scI .i64 (E.iN n), [], [])
      | _ => none)
  | .app e z by_ x y => match rowsOf E H z (peel (raw y)) with
    | some (m, G, l) => match peel (raw x) with
      | .u (.sc (.slice none 0 0)) => some (.sr s z 0 m, [(s, .arr e z m G)], l ++ [E.ob (.room m by_), E.ob (.leN m 4611686018427387904), E.ob (.ltN 0 z)])
      | .sr b z' 0 len => match blkAt H b with
        | .arr e' z'' n F => if z = z' then (if z' = z'' then (if e = e' then
            some (.sr s z 0 (E.aN n m), [(s, .arr e z (E.aN n m) (fun k => if E.lN k n then F k else G (E.sN k n))), (b, .gone)],
              l ++ [E.ob (.eqN len n), E.ob (.room (E.aN n m) by_), E.ob (.leN (E.aN n m) 4611686018427387904), E.ob (.ltN 0 z)]) else none) else none) else none
        | _ => none
      | _ => none
    | none => none
  | .appS e by_ x y => match peel (raw y) with
    | .u (.sc (.string t)) => match peel (raw x) with
      | .u (.sc (.slice none 0 0)) => some (.sr s 1 0 (E.tn (E.sl t)), [(s, .arr e 1 (E.tn (E.sl t)) (fun k => [.sc (.int .u8 (E.bt t (E.iN k)))]))], [E.ob (.roomI (E.sl t) by_), E.ob (.leI (E.sl t) 4611686018427387904)])
      | .sr b z' 0 len => match blkAt H b with
        | .arr e' z'' n F => if z' = 1 then (if z'' = 1 then (if e = e' then
            some (.sr s 1 0 (E.aN n (E.tn (E.sl t))), [(s, .arr e 1 (E.aN n (E.tn (E.sl t))) (fun k => if E.lN k n then F k else [.sc (.int .u8 (E.bt t (E.iN (E.sN k n))))])), (b, .gone)],
              [E.ob (.eqN len n), E.ob (.room (E.aN n (E.tn (E.sl t))) by_), E.ob (.leN (E.aN n (E.tn (E.sl t))) 4611686018427387904)]) else none) else none) else none
        | _ => none
      | _ => none
    | _ => none
  | .mkfn fn first captured => some (.fv fn (first.map fun x => peel (raw x)) (captured.map fun x => peel (raw x)), [], [])
def looks : In → List Operand
  | .xt x => xlooks x
  | .mv _ | .alloc _ => []
  | .pick c _ _ => [c]
  | .box _ x | .ld _ _ x | .nilck x | .un _ x | .cvI _ x | .cvR x | .cvS _ x | .cvB x | .fad _ x | .fld _ _ _ x | .ext x _ | .len _ x | .rng x | .nxt x => [x]
  | .build _ ps => ps.map fun p => p.2.2
  | .bsl _ _ _ _ ps => ps.map fun p => p.2
  | .st _ a x | .bin _ _ _ a x | .iadS _ a x | .iadA _ _ a x | .ixA _ _ _ a x | .ixS a x | .app _ _ _ a x | .appS _ _ a x | .mn a x => [a, x]
  | .slS x lo hi | .slL _ x lo hi => x :: (lo.toList ++ hi.toList)
  | .mkfn _ a b => a ++ b
def owesAll (cur : Cur) (raw : Operand → V) : List Operand → Prop → Prop
  | [], k => k
  | x :: l, k => owes cur (raw x) (owesAll cur raw l k)
def putAll (H : Heap) : Delta → Heap
  | [] => H
  | (b, x) :: l => putAll (putH H b x) l
inductive Kd where
  | int (k : IntKind) | bool | str | slice (e : Nat) | map (k e : Nat) | array (n e : Nat) | struct (fs : List (Nat × Nat)) | other
structure TI where
  kd : Kd
  sz : Nat
  by_ : Nat
  zero : List Value
  eq : Bool := false
structure Tab where
  ty : Nat → Option TI
  hs : List Nat := []
  ws : Nat → Option (List Nat) := fun _ => none
  xs : List Nat := []
instance : CoeFun Tab fun _ => Nat → Option TI := ⟨Tab.ty⟩
def isA : Kd → Bool
  | .struct _ | .array _ _ => true
  | _ => false
def shapes (f : Nat → Option (List Nat)) (o : Nat) : List (Nat × Nat) → Option (List Nat)
  | [] => some []
  | (off, t) :: fs => if off = o then (match f t with
    | some q => match shapes f (o + q.length) fs with | some r => some (q ++ r) | none => none
    | none => none) else none
def shape (tab : Tab) : Nat → Nat → Option (List Nat)
  | 0, _ => none
  | d + 1, t => match tab t with
    | some ti => match ti.kd with
      | .int _ => some [0]
      | .str => some [1]
      | .bool => some [2]
      | .struct fs => if ti.eq then (match shapes (shape tab d) 0 fs with | some r => if lenIs ti.sz r then some r else none | none => none) else none
      | _ => none
    | none => none
def places (tab : Tab) (fs : List (Nat × Nat)) : List (Nat × Operand) → Option (List (Nat × Nat × Operand))
  | [] => some []
  | (i, x) :: l => match fs[i]? with
    | some (off, t) => match tab t, places tab fs l with | some ti, some r => some ((off, ti.sz, x) :: r) | _, _ => none
    | none => none
def opCode : BinOp → Bool
  | .eql | .neq => true
  | _ => false
def compCall (tab : Tab) (c : Callee) (args : List Operand) (ts : List TypeId) : Option In :=
  match c, args, ts with
  | .builtin .len, [x], [t] => match tab t with
    | some ti => match ti.kd with | .str => some (.len true x) | .slice _ => some (.len false x) | _ => none
    | none => none
  | .builtin .append, [x, y], [t, t'] => match tab t, tab t' with
    | some ti, some tj => match ti.kd, tj.kd with
      | .slice e, .slice e' => if e = e' then (match tab e with | some te => some (.app e te.sz te.by_ x y) | none => none) else none
      | .slice e, .str => match tab e with | some te => (match te.kd with | .int .u8 => if te.sz = 1 then some (.appS e te.by_ x y) else none | _ => none) | none => none
      | _, _ => none
    | _, _ => none
  | .builtin .min, [x, y], [t, t'] => match tab t, tab t' with
    | some ti, some tj => match ti.kd, tj.kd with | .int _, .int _ => some (.mn x y) | _, _ => none
    | _, _ => none
  | _, _, _ => none
def compOp (tab : Tab) (o : Oper) : Option In :=
  match o.op with
  | .move x | .assign x => some (.mv x)
  | .pick c a b => some (.pick c a b)
  | .alloc e => match tab e with | some ti => some (.alloc ti.zero) | none => none
  | .box e x => some (.box 0 x)
  | .build t ps => match tab t with
    | some ti => match ti.kd with
      | .struct fs => if (fs.all fun p => (tab p.2).isSome) then (match places tab fs ps.toList with | some l => some (.build ti.zero l) | none => none) else none
      | .array n e => match tab e with | some te => some (.build ti.zero (ps.toList.map fun p => (p.1 * te.sz, te.sz, p.2))) | none => none
      | _ => none
    | none => none
  | .buildSlice t n ps => match tab t with
    | some ti => match ti.kd with
      | .slice e => match tab e with | some te => if n * te.sz ≤ 16777216 ∧ 0 < n ∧ 0 < te.sz then some (.bsl e te.sz n te.zero ps.toList) else none | none => none
      | _ => none
    | none => none
  | .load t x => match tab t with | some ti => some (.ld (isA ti.kd) ti.sz x) | none => none
  | .store t a x => match tab t with | some ti => some (.st ti.sz a x) | none => none
  | .nilCheck x => some (.nilck x)
  | .binOp op t x y _ => match tab t with
    | some ti => match ti.kd with
      | .int _ => some (.bin op false [0] x y)
      | .str => some (.bin op false [1] x y)
      | .bool => if opCode op then some (.bin op false [2] x y) else none
      | .struct _ => if opCode op then (match shape tab 20 t with | some q => some (.bin op true q x y) | none => none) else none
      | _ => none
    | none => none
  | .unOp op _ x => some (.un op x)
  | .convert s d x => match tab s, tab d with
    | some a, some b => match a.kd, b.kd with
      | .int _, .int k => some (.cvI k x)
      | .int _, .str | .str, .str => some (.cvR x)
      | .str, .slice e => match tab e with | some te => (match te.kd with | .int .u8 => some (.cvS e x) | _ => none) | none => none
      | .slice e, .str => match tab e with | some te => (match te.kd with | .int .u8 => some (.cvB x) | _ => none) | none => none
      | _, _ => none
    | _, _ => none
  | .fieldAddr s x f => match tab s with
    | some ti => match ti.kd with
      | .struct fs => match fs[f]? with
        | some (off, t) => match tab t with | some tf => if tf.sz = 0 then none else some (.fad off x) | none => none
        | none => none
      | _ => none
    | none => none
  | .field s x f => match tab s with
    | some ti => match ti.kd with
      | .struct fs => match fs[f]? with
        | some (off, t) => match tab t with | some tf => some (.fld (isA tf.kd) off tf.sz x) | none => none
        | none => none
      | _ => none
    | none => none
  | .indexAddr t x i => match tab t with
    | some ti => match ti.kd with
      | .slice e => match tab e with | some te => some (.iadS te.sz x i) | none => none
      | .array n e => match tab e with | some te => some (.iadA n te.sz x i) | none => none
      | _ => none
    | none => none
  | .index t x i => match tab t with
    | some ti => match ti.kd with
      | .array n e => match tab e with | some te => some (.ixA n te.sz (isA te.kd) x i) | none => none
      | .str => some (.ixS x i)
      | _ => none
    | none => none
  | .slice t x lo hi none => match tab t with
    | some ti => match ti.kd with
      | .str => some (.slS x lo hi)
      | .slice e => match tab e with | some te => some (.slL te.sz x lo hi) | none => none
      | _ => none
    | none => none
  | .extract x i => some (.ext x i)
  | .makeFunc fn a b => some (.mkfn fn a.toList b.toList)
  | .call c => compCall tab c.callee c.args.toList c.argTypes.toList
  | .range t x => match tab t with
    | some ti => match ti.kd with | .str => some (.rng x) | _ => none
    | none => none
  | .next x true => some (.nxt x)
  | _ => none
def hinted (tab : Tab) (o : Oper) : Bool := match o.dst with
  | some t => memH t tab.hs
  | none => false
where memH : Nat → List Nat → Bool
  | _, [] => false
  | n, x :: l => match Nat.beq n x with | true => true | false => memH n l
def compXt (tab : Tab) (o : Oper) : Option Xt :=
  match o.op with
  | .buildSlice t 0 ps => match tab t with
    | some ti => match ti.kd with | .slice e => (match tab e, ps.toList with | some te, [] => some (.bsl0 e te.sz) | _, _ => none) | _ => none
    | none => none
  | .buildSlice t n ps => if hinted tab o then (match tab t with
    | some ti => match ti.kd with | .slice e => (match tab e with | some te => if n * te.sz ≤ 16777216 ∧ 0 < n ∧ 0 < te.sz then some (.bslF e te.sz n te.zero ps.toList) else none | none => none) | _ => none
    | none => none) else none
  | .slice t x (some lo) (some hi) (some mx) => match tab t with
    | some ti => match ti.kd with | .slice e => (match tab e with | some te => some (.sl3 te.sz x lo hi mx) | none => none) | _ => none
    | none => none
  | .makeSlice t (.tmp a) (.tmp b) => if a = b then (match tab t with
    | some ti => match ti.kd with | .slice e => (match tab e with | some te => some (.mks e te.sz te.by_ te.zero (.tmp a)) | none => none) | _ => none
    | none => none) else none
  | .makeSlice t (.const (.int .i64 a)) (.const (.int .i64 b)) => if a = b then (match tab t with
    | some ti => match ti.kd with | .slice e => (match tab e with | some te => some (.mks e te.sz te.by_ te.zero (.const (.int .i64 a))) | none => none) | _ => none
    | none => none) else none
  | .makeMap t none => match tab t with
    | some ti => match ti.kd with
      | .map k e => (match tab k, tab e with
        | some tk, some te => (match tk.kd with | .int kk => some (.mkm kk (Nat.beq te.sz 0)) | _ => none)
        | _, _ => none)
      | _ => none
    | none => none
  | .mapUpdate t m k v | .insert t m k v => match tab t with
    | some ti => match ti.kd with
      | .map kt e => (match tab kt, tab e with
        | some tk, some te => (match tk.kd with | .int q => some (.mup q m k v) | _ => none)
        | _, _ => none)
      | _ => none
    | none => none
  | .lookup t m k ok => match tab t with
    | some ti => match ti.kd with
      | .map kt e => (match tab kt, tab e with
        | some tk, some te => (match tk.kd with | .int q => (if te.sz = 0 then some (.mlk q ok m k) else none) | _ => none)
        | _, _ => none)
      | _ => none
    | none => none
  | .call c => match c.callee, c.args.toList, c.argTypes.toList with
    | .builtin .append, [x, y], [t, t'] => match tab t, tab t' with
      | some ti, some tj => match ti.kd, tj.kd with
        | .slice e, .slice e' => if e = e' then (if hinted tab o then (match tab e with | some te => some (.appW te.sz x y) | none => none) else none) else none
        | .slice e, .int .i64 => match tab e with | some te => some (.appZ e te.sz te.by_ te.zero x y) | none => none
        | _, _ => none
      | _, _ => none
    | .builtin .copy, [x, y], [t, t'] => match tab t, tab t' with
      | some ti, some tj => match ti.kd, tj.kd with
        | .slice e, .slice e' => if e = e' then (match tab e with | some te => some (.cpy te.sz x y) | none => none) else none
        | _, _ => none
      | _, _ => none
    | .builtin .clear, [x], [t] => match tab t with
      | some ti => match ti.kd with
        | .slice e => match tab e with | some te => some (.clr te.sz te.zero x) | none => none
        | _ => none
      | none => none
    | _, _, _ => none
  | _ => none
def compAny (tab : Tab) (o : Oper) : Option In := match compXt tab o with
  | some x => some (.xt x)
  | none => compOp tab o
def KdOK (P : Program) (t : Nat) : Kd → Prop
  | .map k e => P.underlying t = some (.map k e)
  | .int k => P.underlying t = some (.int k)
  | .bool => P.underlying t = some .bool
  | .str => P.underlying t = some .string
  | .slice e => P.underlying t = some (.slice e)
  | .array n e => P.underlying t = some (.array n e)
  | .struct fs => ∃ l : Array Field, P.underlying t = some (.struct l) ∧ (l.toList.map fun f => (f.offset, f.type)) = fs ∧ (l.toList.all fun f => f.name != "_") = true
  | .other => match P.underlying t with | some (.struct _) | some (.array _ _) | none => False | _ => True
structure TIOK (P : Program) (t : Nat) (ti : TI) : Prop where
  kd : KdOK P t ti.kd
  info : ∃ i, P.info? t = some i ∧ i.size = ti.sz ∧ i.bytes = ti.by_ ∧ (i.zero.map fun z => z.cells.toList) = some ti.zero
  one : (ti.zero.all fun v => v.oneCell') = true
  len : ti.zero.length = ti.sz
  agg : isA ti.kd = false → ti.sz = 1
  eq : ti.eq = true → P.eqGuardType P.depth t = false ∧ P.stoodInHeld t = false
  na : isA ti.kd = false → ((P.info? t).any fun i => i.zero.any fun z => z.oneCell') = true
def TabOK (P : Program) (tab : Tab) : Prop := ∀ t ti, tab.ty t = some ti → TIOK P t ti
end Am
end
section
open Go
set_option linter.unusedVariables false
set_option linter.unusedSimpArgs false
namespace Am
theorem dropL_spec {α : Type} : ∀ (o : Nat) (l r : List α), dropL o l = some r → o ≤ l.length ∧ r = l.drop o
  | 0, l, r, h => by simp [dropL] at h; simp [h]
  | n + 1, [], r, h => by simp [dropL] at h
  | n + 1, x :: l, r, h => by
    have := dropL_spec n l r (by simpa [dropL] using h)
    simpa using this
theorem takeL_spec {α : Type} : ∀ (n : Nat) (l r : List α), takeL n l = some r → n ≤ l.length ∧ r = l.take n
  | 0, l, r, h => by simp [takeL] at h; simp [← h]
  | n + 1, [], r, h => by simp [takeL] at h
  | n + 1, x :: l, r, h => by
    simp only [takeL] at h
    split at h
    · rename_i q hq
      obtain ⟨h1, h2⟩ := takeL_spec n l q hq
      cases h
      exact ⟨by simpa using h1, by simp [h2]⟩
    · cases h
theorem segL_spec {α : Type} {o z : Nat} {l r : List α} (h : segL o z l = some r) : o + z ≤ l.length ∧ r.length = z ∧ ∀ (j : Nat), j < z → r[j]? = l[o + j]? := by
  unfold segL at h
  split at h
  · rename_i q hq
    obtain ⟨h1, h2⟩ := dropL_spec o l q hq
    obtain ⟨h3, h4⟩ := takeL_spec z q r h
    subst h2 h4
    simp only [List.length_drop] at h3
    refine ⟨by omega, by simp; omega, fun j hj => ?_⟩
    rw [List.getElem?_take_of_lt hj, List.getElem?_drop]
  · cases h
theorem setSeg_spec {α : Type} : ∀ (o : Nat) (ys l r : List α), setSeg o ys l = some r → o + ys.length ≤ l.length ∧ r.length = l.length ∧ ∀ (j : Nat), r[j]? = if o ≤ j ∧ j < o + ys.length then ys[j - o]? else l[j]?
  | 0, [], l, r, h => by simp [setSeg] at h; subst h; simp
  | 0, y :: ys, [], r, h => by simp [setSeg] at h
  | 0, y :: ys, x :: l, r, h => by
    simp only [setSeg] at h
    split at h
    · rename_i q hq
      obtain ⟨h1, h2, h3⟩ := setSeg_spec 0 ys l q hq
      cases h
      refine ⟨by simp at h1 ⊢; omega, by simp [h2], fun j => ?_⟩
      cases j with
      | zero => simp
      | succ j => simpa using h3 j
    · cases h
  | n + 1, ys, [], r, h => by cases ys <;> simp [setSeg] at h
  | n + 1, ys, x :: l, r, h => by
    have h : (match setSeg n ys l with | some r => some (x :: r) | none => none) = some r := by cases ys <;> exact h
    split at h
    · rename_i q hq
      obtain ⟨h1, h2, h3⟩ := setSeg_spec n ys l q hq
      cases h
      refine ⟨by simp; omega, by simp [h2], fun j => ?_⟩
      cases j with
      | zero => simp
      | succ j =>
        have := h3 j
        simp only [List.getElem?_cons_succ, this]
        by_cases hc : n ≤ j ∧ j < n + ys.length
        · rw [if_pos hc, if_pos (by omega)]; congr 1; omega
        · rw [if_neg hc, if_neg (by omega)]
    · cases h
theorem lenIs_spec {α : Type} : ∀ (n : Nat) (l : List α), lenIs n l = true → l.length = n
  | 0, [], _ => rfl
  | n + 1, x :: l, h => by simp [lenIs_spec n l (by simpa [lenIs] using h)]
  | 0, x :: l, h => by simp [lenIs] at h
  | n + 1, [], h => by simp [lenIs] at h
theorem blkAt_spec : ∀ (H : Heap) (b : Nat), (blkAt H b).live → H[b]? = some (blkAt H b)
  | [], b, h => h.elim
  | x :: l, 0, _ => rfl
  | x :: l, n + 1, h => by simpa [blkAt] using blkAt_spec l n h
theorem blkAt_eq {H : Heap} {b : Nat} {x : Blk} (h : blkAt H b = x) (hl : x.live) : H[b]? = some x := by
  have := blkAt_spec H b (h ▸ hl)
  rw [this, h]
theorem ofUs_length : ∀ (l : List U), (ofUs l).length = l.length
  | [] => rfl
  | x :: l => by simp [ofUs, ofUs_length l]
theorem ofUs_get : ∀ (l : List U) (j : Nat) (x : V), (ofUs l)[j]? = some x → ∃ y, l[j]? = some y ∧ x = .u y
  | [], j, x, h => by simp [ofUs] at h
  | y :: l, 0, x, h => by simp [ofUs] at h; exact ⟨y, rfl, h.symm⟩
  | y :: l, j + 1, x, h => by simpa using ofUs_get l j x (by simpa [ofUs] using h)
theorem toU_spec : ∀ (l : List V) (us : List U), toU l = some us → l = ofUs us
  | [], us, h => by simp [toU] at h; subst h; rfl
  | x :: l, us, h => by
    cases x <;> simp only [toU] at h
    all_goals first | (cases h; done) | skip
    split at h
    · rename_i y r hr
      cases h
      simp [ofUs, toU_spec l r hr]
    · cases h
section
variable {w : World} {O : Own} {ρ : Place}
theorem RU.one {u : U} {v : Value} (h : RU w O u v) : v.oneCell' = true := by cases h <;> first | assumption | rfl
theorem RV.one {x : V} {v : Value} (h : RV w O ρ x v) (hk : known x = true) : v.oneCell' = true := by
  cases h <;> first | (simp [known] at hk; done) | rfl | skip
  rename_i h; exact h.one
theorem cells_one {v : Value} (h : v.oneCell' = true) : v.cells = #[v] := by cases v <;> first | rfl | (simp [Value.oneCell'] at h)
theorem cells_ok {x : V} {v : Value} {cs : List V} (h : RV w O ρ x v) (hc : cells? x = some cs) :
    v.cells.size = cs.length ∧ ∀ (j : Nat) (y : V), cs[j]? = some y → ∃ u, v.cells[j]? = some u ∧ RV w O ρ y u := by
  by_cases hk : known x = true
  · have : cs = [x] := by
      cases x <;> simp [cells?, known] at hc hk ⊢ <;> exact hc.symm
    subst this
    rw [cells_one (h.one hk)]
    refine ⟨rfl, fun j y hy => ?_⟩
    cases j with
    | zero => simp at hy; subst hy; exact ⟨v, rfl, h⟩
    | succ j => simp at hy
  · cases h with
    | ag cs' arr g hs ha hr =>
      simp [cells?] at hc
      subst hc
      refine ⟨hs, fun j y hy => ⟨g j, ?_, hr j y hy⟩⟩
      have hj : j < cs'.length := by
        rcases Nat.lt_or_ge j cs'.length with h' | h'
        · exact h'
        · rw [List.getElem?_eq_none h'] at hy; cases hy
      exact ha j hj
    | un => simp [cells?, known] at hc
    | gd => simp [cells?, known] at hc
    | tp => simp [cells?, known] at hc
    | nx => simp [cells?, known] at hc
    | _ => simp [known] at hk
theorem ag_mk {cs : List V} {arr : Array Value} (hs : arr.size = cs.length) (h : ∀ (j : Nat) (y : V), cs[j]? = some y → ∃ u, arr[j]? = some u ∧ RV w O ρ y u) : RV w O ρ (.ag cs) (.agg arr) := by
  refine .ag cs arr (fun j => arr.getD j undef) hs (fun j hj => ?_) fun j x hx => ?_
  · simp [Array.getElem?_eq_getElem (show j < arr.size by omega)]
  · obtain ⟨u, hu, r⟩ := h j x hx
    have : arr.getD j undef = u := by simp [hu]
    rw [this]; exact r
theorem tp_mk {cs : List V} {arr : Array Value} (hs : arr.size = cs.length) (h : ∀ (j : Nat) (y : V), cs[j]? = some y → ∃ u, arr[j]? = some u ∧ RV w O ρ y u) : RV w O ρ (.tp cs) (.tuple arr) := by
  refine .tp cs arr (fun j => arr.getD j undef) hs (fun j hj => ?_) fun j x hx => ?_
  · simp [Array.getElem?_eq_getElem (show j < arr.size by omega)]
  · obtain ⟨u, hu, r⟩ := h j x hx
    have : arr.getD j undef = u := by simp [hu]
    rw [this]; exact r
theorem lt_of_get {α : Type} {l : List α} {j : Nat} {x : α} (h : l[j]? = some x) : j < l.length := by
  rcases Nat.lt_or_ge j l.length with h' | h'
  · exact h'
  · rw [List.getElem?_eq_none h'] at h; cases h
theorem get_of_lt {α : Type} {l : List α} {j : Nat} (h : j < l.length) : ∃ x, l[j]? = some x := ⟨_, List.getElem?_eq_getElem h⟩
end
section
variable {P : Program} {w : World} {O : Own} {ρ : Place} {H : Heap}
theorem BOK.unc {b e z n c : Nat} {F : Nat → List U} (h : BOK w O ρ b (.arc e z n F c)) : BOK w O ρ b (.arr e z n F) := by
  rcases h with ⟨h1, h2, _⟩ | ⟨g, cur, h1, h2, h3, h4, h5, h6, h7, h8⟩
  · exact .inl ⟨h1, h2⟩
  · exact .inr ⟨g, c, cur, h1, h2, h3, h4, h5, h6, h7, h8⟩
theorem HOK.arr {H : Heap} (hH : HOK w O ρ H) {b e z n : Nat} {F : Nat → List U} (h : blkAt H b = .arr e z n F ∨ ∃ c, blkAt H b = .arc e z n F c) : BOK w O ρ b (.arr e z n F) := by
  rcases h with h | ⟨c, h⟩
  · exact hH.blk b _ (blkAt_eq h trivial)
  · exact (hH.blk b _ (blkAt_eq h trivial)).unc
theorem readP_ok (hH : HOK w O ρ H) {z : Nat} {x : V} {v : Value} {cs : List V} {ob : Prop} (hr : readP Env.std H z x = some (cs, ob)) (ho : ob) (hv : RV w O ρ x v) :
    ∃ (ad : Addr) (vs : List Value), v = .pointer (some ad) ∧ vs.length = z ∧ cs.length = z ∧ (∀ j u, vs[j]? = some u → w.cell? (ad.add j) = some u) ∧
      ∀ (j : Nat) (y : V), cs[j]? = some y → ∃ u, vs[j]? = some u ∧ RV w O ρ y u := by
  cases hv with
  | pb b off g cap hg =>
    simp only [readP] at hr
    split at hr
    · rename_i cells hb
      split at hr
      · rename_i r hs
        cases hr
        obtain ⟨h1, h2, h3⟩ := segL_spec hs
        obtain ⟨g', cap', cur, e, k1, k2, k3, k4, k5⟩ := hH.blk b _ (blkAt_eq hb trivial)
        rw [hg] at k1
        cases k1
        refine ⟨_, (cur.toList.drop off).take z, rfl, by simp; omega, h2, fun j u hu => ?_, fun j y hy => ?_⟩
        · have hj : j < z := by have := lt_of_get hu; simp at this; omega
          rw [List.getElem?_take_of_lt hj, List.getElem?_drop] at hu
          rw [add_lit, cell_of_row w g _ cur e _ k3]
          simpa using hu
        · have hj : j < z := by have := lt_of_get hy; omega
          rw [h3 j hj] at hy
          obtain ⟨u, hu, hr⟩ := k5 _ y hy
          refine ⟨u, ?_, hr⟩
          rw [List.getElem?_take_of_lt hj, List.getElem?_drop]
          simpa using hu
      · cases hr
    · cases hr
  | pa b z' i f g cap hg =>
    simp only [readP] at hr
    have main : ∀ (e z'' n : Nat) (F : Nat → List U), BOK w O ρ b (.arr e z'' n F) → (if z' = z'' then (match segL f z (F i) with | some r => some (ofUs r, Env.std.ob (.ltN i n)) | none => none) else none) = some (cs, ob) →
        ∃ (ad : Addr) (vs : List Value), Value.pointer (some ⟨g, i * z' + f, none⟩) = .pointer (some ad) ∧ vs.length = z ∧ cs.length = z ∧ (∀ (j : Nat) (u : Value), vs[j]? = some u → w.cell? (ad.add j) = some u) ∧ ∀ (j : Nat) (y : V), cs[j]? = some y → ∃ u, vs[j]? = some u ∧ RV w O ρ y u := by
      intro e z'' n F hbk hr
      split at hr
      · rename_i hz
        subst hz
        split at hr
        · rename_i r hs
          cases hr
          obtain ⟨h1, h2, h3⟩ := segL_spec hs
          rcases hbk with ⟨k1, _⟩ | ⟨g', cap', cur, k1, k2, k3, k4, k5, k6, k7, k8⟩
          · rw [hg] at k1; cases k1
          rw [hg] at k1
          cases k1
          have ho : i < n := ho
          have hl := k7 i ho
          have hi : i * z' + z' ≤ cur.size := by rw [k4, ← Nat.succ_mul]; exact Nat.mul_le_mul_right _ (by omega)
          refine ⟨_, (cur.toList.drop (i * z' + f)).take z, rfl, by simp; omega, by rw [ofUs_length]; exact h2, fun j u hu => ?_, fun j y hy => ?_⟩
          · have hj : j < z := by have := lt_of_get hu; simp at this; omega
            rw [List.getElem?_take_of_lt hj, List.getElem?_drop] at hu
            rw [add_lit, cell_of_row w g _ cur e _ k3]
            simpa using hu
          · obtain ⟨y', hy', rfl⟩ := ofUs_get r j y hy
            have hj : j < z := by have := lt_of_get hy'; omega
            rw [h3 j hj] at hy'
            obtain ⟨u, hu, hr⟩ := k8 i (f + j) y' ho hy'
            refine ⟨u, ?_, .u _ _ hr⟩
            rw [List.getElem?_take_of_lt hj, List.getElem?_drop]
            simpa [Nat.add_assoc] using hu
        · cases hr
      · cases hr
    split at hr
    · rename_i e z'' n F hb; exact main e z'' n F (hH.arr (.inl hb)) hr
    · rename_i e z'' n F c hb; exact main e z'' n F (hH.arr (.inr ⟨c, hb⟩)) hr
    · cases hr
  | rp o' cs' a g ha hc hlt hr' =>
    simp only [readP] at hr
    split at hr
    · rename_i r hs
      cases hr
      obtain ⟨h1, h2⟩ := takeL_spec z cs' r hs
      subst h2
      refine ⟨a, (List.range z).map g, rfl, by simp, by rw [ofUs_length]; simp; omega, fun j u hu => ?_, fun j y hy => ?_⟩
      · have hj : j < z := by have := lt_of_get hu; simpa using this
        simp [hj] at hu
        subst hu
        exact hc j (by omega)
      · obtain ⟨y', hy', rfl⟩ := ofUs_get _ j y hy
        have hj : j < z := by have := lt_of_get hy'; simp at this; omega
        rw [List.getElem?_take_of_lt hj] at hy'
        exact ⟨g j, by simp [hj], .u _ _ (hr' j y' hy')⟩
    · cases hr
  | _ => simp [readP] at hr
theorem oneOr_ok {agg : Bool} {cs : List V} {r : V} {vs : List Value} (h : oneOr agg cs = some r) (hl : cs.length = vs.length) (hv : ∀ (j : Nat) (y : V), cs[j]? = some y → ∃ u, vs[j]? = some u ∧ RV w O ρ y u) :
    (agg = true → RV w O ρ r (.agg vs.toArray)) ∧ (agg = false → ∃ u, vs = [u] ∧ RV w O ρ r u) := by
  constructor
  · rintro rfl
    simp [oneOr] at h
    subst h
    exact ag_mk (by simp [hl]) (by simpa using hv)
  · rintro rfl
    simp [oneOr] at h
    split at h
    · rename_i x
      cases h
      match vs, hl with
      | [u], _ =>
        obtain ⟨u', hu, hr⟩ := hv 0 r rfl
        simp at hu
        subst hu
        exact ⟨u, rfl, hr⟩
    · cases h
theorem run_loadVar {t : TypeId} {agg : Bool} {z : Nat} (hagg : (isAgg t).run P w = .ok agg w) (hz : (Go.sizeOf t).run P w = .ok z w) {ad : Addr} {vs : List Value} (hl : vs.length = z)
    (hc : ∀ j u, vs[j]? = some u → w.cell? (ad.add j) = some u) : (agg = true → (loadVar t ad).run P w = .ok (.agg vs.toArray) w) ∧ (agg = false → ∀ u, vs = [u] → (loadVar t ad).run P w = .ok u w) := by
  constructor
  · rintro rfl
    have := run_loadCells_list (P := P) w ad vs hc
    rw [hl] at this
    simp [loadVar, hagg, hz, this]
  · rintro rfl u rfl
    have h0 := hc 0 u rfl
    have : ad.add 0 = ad := rfl
    rw [this] at h0
    simp [loadVar, hagg, h0]
end
end Am
end
section
open Go
set_option linter.unusedVariables false
set_option linter.unusedSimpArgs false
namespace Am
section
variable {P : Program} {t : Nat} {ti : TI}
theorem TIOK.run_agg (h : TIOK P t ti) (w : World) : (isAgg t).run P w = .ok (isA ti.kd) w := by
  have := h.kd
  unfold isAgg
  cases hk : ti.kd with
  | struct fs =>
    rw [hk] at this
    obtain ⟨l, hl, _⟩ := this
    simp [run_underlying hl, isA]
  | other =>
    rw [hk] at this
    simp only [KdOK] at this
    split at this
    · exact this.elim
    · exact this.elim
    · exact this.elim
    · rename_i hx hy hz
      cases hu : P.underlying t with
      | none => exact absurd hu hz
      | some d =>
        simp only [Sem.run_bind, run_underlying hu, Result.andThen_ok, isA]
        cases d <;> first | rfl | exact absurd hu (hx _) | exact absurd hu (hy _ _)
  | _ =>
    rw [hk] at this
    simp only [KdOK] at this
    simp [run_underlying this, isA]
theorem TIOK.run_size (h : TIOK P t ti) (w : World) : (Go.sizeOf t).run P w = .ok ti.sz w := by
  obtain ⟨i, hi, hs, _⟩ := h.info
  simp [Go.sizeOf, typeInfo, hi, hs]
theorem TIOK.run_zero (h : TIOK P t ti) (w : World) : ∃ z, (zeroValue t).run P w = .ok z w ∧ z.cells.toList = ti.zero := by
  obtain ⟨i, hi, hs, _, hz⟩ := h.info
  cases hq : i.zero with
  | none => simp [hq] at hz
  | some z => exact ⟨z, by simp [zeroValue, typeInfo, hi, hq], by simpa [hq] using hz⟩
end
def StepOK (P : Program) (w : World) (O : Own) (ρ : Place) (H : Heap) (sid : Nat) (s : Sem Next) (v : V) (d : Delta) : Prop :=
  ∃ r v' w' O' ρ', s.run P w = .ok r w' ∧ (r = .value v' ∨ (r = .skip ∧ v' = undef)) ∧ RV w' O' ρ' v v' ∧ Good w O ρ H w' O' ρ' (putAll H d) ∧ ∀ b, (∀ x, (b, x) ∉ d) → ρ' b = ρ b
theorem nmem {b s : Nat} {x : Blk} {d : Delta} (h : ∀ y, (b, y) ∉ (s, x) :: d) : b ≠ s := fun e => h x (by rw [e]; exact .head _)
section
variable {P : Program} {w : World} {O : Own} {ρ : Place} {H : Heap}
theorem StepOK.same (hH : HOK w O ρ H) {sid : Nat} {s : Sem Next} {v : V} {v' : Value} (hr : s.run P w = .ok (.value v') w) (hv : RV w O ρ v v') : StepOK P w O ρ H sid s v [] :=
  ⟨_, v', w, O, ρ, hr, .inl rfl, hv, .refl hH, fun _ _ => rfl⟩
theorem ofCell_ok {v : Value} (h : v.oneCell' = true) : RV w O ρ (ofCell v) v := by simp [ofCell, h]; exact .u _ _ (.sc v h)
theorem ofCells_get : ∀ (l : List Value) (j : Nat) (x : V), (ofCells l)[j]? = some x → ∃ v, l[j]? = some v ∧ x = ofCell v
  | [], j, x, h => by simp [ofCells] at h
  | v :: l, 0, x, h => by simp [ofCells] at h; exact ⟨v, rfl, h.symm⟩
  | v :: l, j + 1, x, h => by simpa using ofCells_get l j x (by simpa [ofCells] using h)
theorem ofCells_length : ∀ (l : List Value), (ofCells l).length = l.length
  | [] => rfl
  | v :: l => by simp [ofCells, ofCells_length l]
theorem ofCell_any (v : Value) : RV w O ρ (ofCell v) v := by
  unfold ofCell
  split
  · exact .u _ _ (.sc v ‹_›)
  · exact .un v
theorem ofConst_ok (v : Value) : RV w O ρ (ofConst v) v := by
  cases v with
  | agg cs =>
    refine ag_mk (by simp [ofCells_length]) fun j y hy => ?_
    obtain ⟨u, hu, rfl⟩ := ofCells_get _ j y hy
    exact ⟨u, by simpa using hu, ofCell_any u⟩
  | tuple => exact .un _
  | _ => exact .u _ _ (.sc _ rfl)
theorem new_box (hH : HOK w O ρ H) {s : Nat} (hs : ρ s = .unset) {cs : List V} {cur : Array Value} (e : TypeId) (hl : cur.size = cs.length)
    (hv : ∀ (j : Nat) (y : V), cs[j]? = some y → ∃ u, cur[j]? = some u ∧ RV w O ρ y u) :
    ∃ O' ρ', RV (w.alloc (.cells cur e)) O' ρ' (.pb s 0) (.pointer (some ⟨w.heap.size, 0, none⟩)) ∧ Good w O ρ H (w.alloc (.cells cur e)) O' ρ' (putH H s (.box cs)) ∧ ∀ b, b ≠ s → ρ' b = ρ b := by
  have hk := keeps_alloc (w := w) (O := O) (.cells cur e)
  have hp := plLe_upd (.at w.heap.size 0) hs
  refine ⟨_, _, ?_, good_new hH hs (.cells cur e) 0 (.box cs) ⟨w.heap.size, 0, cur, e, upd_same _ _ _, .inr rfl, heap_alloc_new w _, hl, fun j y hy => ?_⟩, fun b hb => upd_other _ _ _ hb⟩
  · exact .pb s 0 w.heap.size 0 (upd_same _ _ _)
  · obtain ⟨u, hu, hr⟩ := hv j y hy
    exact ⟨u, hu, hr.mono hk hp⟩
theorem alloc_ok (hH : HOK w O ρ H) {s : Nat} (hs : ρ s = .unset) {e : TypeId} {te : TI} (he : TIOK P e te) :
    StepOK P w O ρ H s (do pure (.value (← Instr.alloc e true (.tuple #[])))) (.pb s 0) [(s, .box (ofCells te.zero))] := by
  obtain ⟨z, hz, hzc⟩ := he.run_zero w
  obtain ⟨O', ρ', h1, h2, h2'⟩ := new_box hH hs (cs := ofCells te.zero) (cur := z.cells) e (by rw [ofCells_length, ← hzc, Array.length_toList]) (fun j y hy => by
    obtain ⟨u, hu, rfl⟩ := ofCells_get _ j y hy
    rw [← hzc] at hu
    exact ⟨u, by simpa using hu, ofCell_any u⟩)
  exact ⟨_, _, _, O', ρ', by simp [Instr.alloc, hz, newVar, newRow], .inl rfl, h1, h2, fun b hb => h2' b (nmem hb)⟩
theorem box_ok (hH : HOK w O ρ H) {s : Nat} (hs : ρ s = .unset) {e : TypeId} {x : V} {v : Value} {cs : List V} (hx : RV w O ρ x v) (hc : cells? x = some cs) :
    StepOK P w O ρ H s (do pure (.value (← Instr.box e v))) (.pb s 0) [(s, .box cs)] := by
  obtain ⟨h1, h2⟩ := cells_ok hx hc
  obtain ⟨O', ρ', h3, h4, h4'⟩ := new_box hH hs e h1 h2
  exact ⟨_, _, _, O', ρ', by simp [Instr.box, newVar, newRow], .inl rfl, h3, h4, fun b hb => h4' b (nmem hb)⟩
theorem ld_ok {s : Nat} (hH : HOK w O ρ H) {t : TypeId} {ti : TI} (ht : TIOK P t ti) {x : V} {v : Value} (hx : RV w O ρ x v) {cs : List V} {ob : Prop} {r : V} (hr : readP Env.std H ti.sz x = some (cs, ob)) (ho : ob)
    (hone : oneOr (isA ti.kd) cs = some r) : StepOK P w O ρ H s (do pure (.value (← Instr.loadAt t v))) r [] := by
  obtain ⟨ad, vs, rfl, hl, hlc, hc, hv⟩ := readP_ok hH hr ho hx
  obtain ⟨k1, k2⟩ := oneOr_ok hone (by rw [hlc, hl]) hv
  obtain ⟨r1, r2⟩ := run_loadVar (ht.run_agg w) (ht.run_size w) hl hc
  cases ha : isA ti.kd with
  | true => exact .same hH (by simp [Instr.loadAt, Instr.sureAddr, r1 ha]) (k1 ha)
  | false =>
    obtain ⟨u, hu, hru⟩ := k2 ha
    exact .same hH (by simp [Instr.loadAt, Instr.sureAddr, r2 ha u hu]) hru
theorem allKnown_get : ∀ (l : List V) (j : Nat) (x : V), allKnown l = true → l[j]? = some x → known x = true
  | [], j, x, h, hx => by simp at hx
  | y :: l, 0, x, h, hx => by simp [allKnown] at h hx; subst hx; exact h.1
  | y :: l, j + 1, x, h, hx => by simp [allKnown] at h; exact allKnown_get l j x h.2 (by simpa using hx)
theorem cells_are_one {v : Value} {cs : List V} (h1 : v.cells.size = cs.length) (h2 : ∀ (j : Nat) (y : V), cs[j]? = some y → ∃ u, v.cells[j]? = some u ∧ RV w O ρ y u) (hk : allKnown cs = true) : ∀ u ∈ v.cells.toList, u.oneCell' = true := by
  intro u hu
  obtain ⟨j, hj⟩ := List.getElem?_of_mem hu
  obtain ⟨y, hy⟩ := get_of_lt (l := cs) (j := j) (by have := lt_of_get hj; simp at this; omega)
  obtain ⟨u', hu', hr⟩ := h2 j y hy
  have : u = u' := by simp at hj; rw [hj] at hu'; exact Option.some.inj hu'
  subst this
  exact hr.one (allKnown_get cs j y hk hy)
theorem run_storeAt {t : TypeId} {ti : TI} (ht : TIOK P t ti) {v : Value} {g off : Nat} {cur : Array Value} {e : TypeId} (hg : w.heap[g]? = some (.cells cur e (0, 0))) (hs : v.cells.size = ti.sz) (hfit : off + v.cells.size ≤ cur.size)
    (h1 : ∀ u ∈ v.cells.toList, u.oneCell' = true) : (Instr.storeAt t (.pointer (some ⟨g, off, none⟩)) v).run P w = .ok () (w.setRow g (cur.toList.take off ++ v.cells.toList ++ cur.toList.drop (off + v.cells.size)).toArray) := by
  have := run_storeCells_at P g off e v.cells.toList 0 cur w hg (by simpa using hfit) h1
  simp only [Nat.add_zero, Array.length_toList] at this
  have hn : ¬ (v.cells.size ≠ ti.sz) := by simp [hs]
  unfold Instr.storeAt Instr.sureAddr storeVar
  simp only [Sem.run_bind, Sem.run_pure, Result.andThen_ok, ht.run_size w, Sem.run_ite, if_neg hn, this]
theorem seg_get {cur : List Value} {off : Nat} {vs : List Value} (hfit : off + vs.length ≤ cur.length) (j : Nat) :
    (cur.take off ++ vs ++ cur.drop (off + vs.length))[j]? = if off ≤ j ∧ j < off + vs.length then vs[j - off]? else cur[j]? := by
  have hlt : (cur.take off).length = off := by simp; omega
  rcases Nat.lt_or_ge j off with h | h
  · rw [List.append_assoc, List.getElem?_append_left (by omega), List.getElem?_take_of_lt h, if_neg (by omega)]
  · rcases Nat.lt_or_ge j (off + vs.length) with h' | h'
    · rw [List.getElem?_append_left (by simp; omega), List.getElem?_append_right (by omega), hlt, if_pos ⟨h, h'⟩]
    · rw [List.getElem?_append_right (by simp; omega), if_neg (by omega), List.getElem?_drop]
      congr 1
      simp; omega
theorem st_box_ok {s : Nat} (hH : HOK w O ρ H) {t : TypeId} {ti : TI} (ht : TIOK P t ti) {x : V} {v va : Value} (hx : RV w O ρ x v) {cs : List V} (hc : cells? x = some cs) (hz : lenIs ti.sz cs = true) (hk : allKnown cs = true)
    {b o : Nat} (ha : RV w O ρ (.pb b o) va) {cells r : List V} (hb : blkAt H b = .box cells) (hr : setSeg o cs cells = some r) :
    StepOK P w O ρ H s (do Instr.storeAt t va v; pure .skip) .un [(b, .box r)] := by
  obtain ⟨h1, h2⟩ := cells_ok hx hc
  obtain ⟨s1, s2, s3⟩ := setSeg_spec o cs cells r hr
  have hlen := lenIs_spec _ _ hz
  cases ha with
  | pb b o g cap hg =>
    have hb' := blkAt_eq hb trivial
    obtain ⟨g', cap', cur, e, k1, k2, k3, k4, k5⟩ := hH.blk b _ hb'
    rw [hg] at k1
    cases k1
    have hfit : o + v.cells.size ≤ cur.size := by omega
    have hrun := run_storeAt ht k3 (by omega) hfit (cells_are_one h1 h2 hk)
    have hgood := good_set hH hb' trivial hg (cur.toList.take o ++ v.cells.toList ++ cur.toList.drop (o + v.cells.size)).toArray (.box r) (by
      have hk := keeps_setRow (w := w) k2 (cur.toList.take o ++ v.cells.toList ++ cur.toList.drop (o + v.cells.size)).toArray
      refine ⟨g, cap, _, e, hg, k2, setRow_heap w g cur _ e _ k3, by simp; omega, fun j y hy => ?_⟩
      rw [s3 j] at hy
      have hget := seg_get (cur := cur.toList) (off := o) (vs := v.cells.toList) (by simpa using hfit) j
      simp only [Array.length_toList] at hget
      by_cases hj : o ≤ j ∧ j < o + cs.length
      · rw [if_pos hj] at hy
        obtain ⟨u, hu, hr⟩ := h2 _ y hy
        exact ⟨u, by rw [List.getElem?_toArray, hget, if_pos (by omega)]; simpa using hu, hr.mono hk (.refl _)⟩
      · rw [if_neg hj] at hy
        obtain ⟨u, hu, hr⟩ := k5 j y hy
        exact ⟨u, by rw [List.getElem?_toArray, hget, if_neg (by omega)]; simpa using hu, hr.mono hk (.refl _)⟩)
    exact ⟨.skip, undef, _, O, ρ, by simp [hrun], .inr ⟨rfl, rfl⟩, .un _, hgood, fun _ _ => rfl⟩
end
end Am
end
section
open Go
set_option linter.unusedVariables false
set_option linter.unusedSimpArgs false
namespace Am
theorem div_of {q z j : Nat} (h : j < z) : (q * z + j) / z = q := by
  rw [Nat.mul_comm, Nat.mul_add_div (by omega), Nat.div_eq_of_lt h]; omega
theorem mod_of {q z j : Nat} (h : j < z) : (q * z + j) % z = j := by
  rw [Nat.mul_comm, Nat.mul_add_mod, Nat.mod_eq_of_lt h]
theorem lt_flat {n z i j : Nat} (hi : i < n) (hj : j < z) : i * z + j < n * z := by
  have : i * z + z ≤ n * z := by rw [← Nat.succ_mul]; exact Nat.mul_le_mul_right _ hi
  omega
def flat (z m : Nat) (g : Nat → Nat → Value) : List Value := (List.range (m * z)).map fun k => g (k / z) (k % z)
theorem flat_length (z m : Nat) (g : Nat → Nat → Value) : (flat z m g).length = m * z := by simp [flat]
theorem flat_get {z m : Nat} (g : Nat → Nat → Value) {i j : Nat} (hi : i < m) (hj : j < z) : (flat z m g)[i * z + j]? = some (g i j) := by
  simp [flat, lt_flat hi hj, div_of hj, mod_of hj]
theorem flat_mem {z m : Nat} {g : Nat → Nat → Value} {k : Nat} {u : Value} (h : (flat z m g)[k]? = some u) : k / z < m ∧ k % z < z ∧ u = g (k / z) (k % z) := by
  have hk := lt_of_get h
  rw [flat_length] at hk
  have hz : 0 < z := by rcases Nat.eq_zero_or_pos z with h0 | h0; subst h0; simp at hk; exact h0
  simp [flat, hk] at h
  exact ⟨(Nat.div_lt_iff_lt_mul hz).2 hk, Nat.mod_lt _ hz, h.symm⟩
section
variable {P : Program} {w : World} {O : Own} {ρ : Place} {H : Heap}
theorem so_rows {e z n off m c : Nat} {F : Nat → List U} {a : Option Addr} {b : Nat} (hbk : BOK w O ρ b (.arr e z n F)) (hle : off + m ≤ n) (ha : m = 0 ∨ ∃ g cap, ρ b = .at g cap ∧ a = some ⟨g, off * z, none⟩) :
    ∃ (a' : Option Addr) (c' : Nat) (g : Nat → Nat → Value), Value.slice a m c = .slice a' m c' ∧ (m * z = 0 ∨ ∃ ad, a' = some ad ∧ ∀ i j, i < m → j < z → w.cell? (ad.add (i * z + j)) = some (g i j)) ∧
      (∀ i, i < m → (F (off + i)).length = z) ∧ ∀ (i j : Nat) (x : U), i < m → (F (off + i))[j]? = some x → RU w O x (g i j) := by
  rcases hbk with ⟨k1, k2⟩ | ⟨g', cap', cur, k1, k2, k3, k4, k5, k6, k7, k8⟩
  · have : m = 0 := by omega
    subst this
    exact ⟨a, c, fun _ _ => undef, rfl, .inl (by simp), fun i hi => absurd hi (by omega), fun i j x hi => absurd hi (by omega)⟩
  refine ⟨a, c, fun i j => cur.getD ((off + i) * z + j) undef, rfl, ?_, fun i hi => k7 _ (show off + i < n by omega), fun i j x hi hx => ?_⟩
  · rcases ha with h0 | ⟨g, cap, hb, ha⟩
    · exact .inl (by simp [h0])
    · refine .inr ⟨_, ha, fun i j hi hj => ?_⟩
      rw [hb] at k1
      cases k1
      have : (off + i) * z + j < cur.size := by rw [k4]; exact lt_flat (by omega) hj
      rw [add_lit, cell_of_row w _ _ cur e _ k3]
      have e1 : off * z + (i * z + j) = (off + i) * z + j := by rw [Nat.add_mul off i z]; omega
      rw [e1]
      simp [this]
  · obtain ⟨u, hu, hr⟩ := k8 (off + i) j x (by omega) hx
    have : cur.getD ((off + i) * z + j) undef = u := by simp [hu]
    show RU w O x (cur.getD ((off + i) * z + j) undef)
    rw [this]; exact hr
theorem rowsOf_ok (hH : HOK w O ρ H) {z : Nat} {x : V} {v : Value} {m : Nat} {G : Nat → List U} {l : List Prop} (h : rowsOf Env.std H z x = some (m, G, l)) (hl : ∀ p ∈ l, p) (hv : RV w O ρ x v) :
    ∃ (a : Option Addr) (c : Nat) (g : Nat → Nat → Value), v = .slice a m c ∧ (m * z = 0 ∨ ∃ ad, a = some ad ∧ ∀ i j, i < m → j < z → w.cell? (ad.add (i * z + j)) = some (g i j)) ∧
      (∀ i, i < m → (G i).length = z) ∧ ∀ (i j : Nat) (x : U), i < m → (G i)[j]? = some x → RU w O x (g i j) := by
  cases hv with
  | u x v hu =>
    cases hu with
    | sc v h1 =>
      simp only [rowsOf] at h
      split at h
      · rename_i z' n f hx; cases hx
      · rename_i hx
        cases hx
        cases h
        exact ⟨none, 0, fun _ _ => undef, rfl, .inl (by simp), fun i hi => absurd hi (by omega), fun i j x hi => absurd hi (by omega)⟩
      · rename_i hx; cases hx
      · rename_i hx; cases hx
      · cases h
    | any v h1 => simp [rowsOf] at h
    | sv o z' n c f a g hc ha hlen hr =>
      simp only [rowsOf] at h
      split at h
      · rename_i hz
        subst hz
        cases h
        refine ⟨a, c, g, rfl, ?_, hlen, hr⟩
        rcases ha with h0 | ⟨ad, e, _, hcell⟩
        · exact .inl h0
        · exact .inr ⟨ad, e, hcell⟩
      · cases h
  | srN b z' hb =>
    have main : ∀ (n : Nat) (z'' : Nat) (F : Nat → List U), (if z = z' then (if z' = z'' then some (0, F, [Env.std.ob (.leN 0 n)]) else none) else none) = some (m, G, l) →
        ∃ (a : Option Addr) (c : Nat) (g' : Nat → Nat → Value), Value.slice none 0 0 = .slice a m c ∧ (m * z = 0 ∨ ∃ ad, a = some ad ∧ ∀ i j, i < m → j < z → w.cell? (ad.add (i * z + j)) = some (g' i j)) ∧
          (∀ i, i < m → (G i).length = z) ∧ ∀ (i j : Nat) (x : U), i < m → (G i)[j]? = some x → RU w O x (g' i j) := by
      intro n z'' F h
      split at h
      · split at h
        · cases h
          exact ⟨none, 0, fun _ _ => undef, rfl, .inl (by simp), fun i hi => absurd hi (by omega), fun i j x hi => absurd hi (by omega)⟩
        · cases h
      · cases h
    simp only [rowsOf] at h
    split at h
    · exact main _ _ _ h
    · exact main _ _ _ h
    · cases h
  | srP b z' len g cap hb hc =>
    have main : ∀ (e z'' n : Nat) (F : Nat → List U), BOK w O ρ b (.arr e z'' n F) → (if z = z' then (if z' = z'' then some (len, F, [Env.std.ob (.leN len n)]) else none) else none) = some (m, G, l) →
        ∃ (a : Option Addr) (c : Nat) (g' : Nat → Nat → Value), Value.slice (some ⟨g, 0, none⟩) len cap = .slice a m c ∧ (m * z = 0 ∨ ∃ ad, a = some ad ∧ ∀ i j, i < m → j < z → w.cell? (ad.add (i * z + j)) = some (g' i j)) ∧
          (∀ i, i < m → (G i).length = z) ∧ ∀ (i j : Nat) (x : U), i < m → (G i)[j]? = some x → RU w O x (g' i j) := by
      intro e z'' n F hbk hq
      split at hq
      · split at hq
        · rename_i h1 h2
          subst h1 h2
          cases hq
          have hle : m ≤ n := hl _ (by simp)
          rcases hbk with ⟨k1, _⟩ | ⟨g', cap', cur, k1, k2, k3, k4, k5, k6, k7, k8⟩
          · rw [hb] at k1; cases k1
          rw [hb] at k1
          cases k1
          refine ⟨_, _, fun i j => cur.getD (i * z + j) undef, rfl, .inr ⟨_, rfl, fun i j hi hj => ?_⟩, fun i hi => k7 i (by omega), fun i j x hi hx => ?_⟩
          · have : i * z + j < cur.size := by rw [k4]; exact lt_flat (by omega) hj
            rw [add_lit, cell_of_row w g _ cur e _ k3]
            simp [this]
          · obtain ⟨u, hu, hr⟩ := k8 i j x (by omega) hx
            have : cur.getD (i * z + j) undef = u := by simp [hu]
            show RU w O x (cur.getD (i * z + j) undef)
            rw [this]; exact hr
        · cases hq
      · cases hq
    simp only [rowsOf] at h
    split at h
    · rename_i hbk; exact main _ _ _ _ (hH.arr (.inl hbk)) h
    · rename_i hbk; exact main _ _ _ _ (hH.arr (.inr ⟨_, hbk⟩)) h
    · cases h
  | srO b z' off len c g cap a hb h0 ha hc =>
    simp only [rowsOf] at h
    split at h
    · rename_i e z'' n F hbk
      split at h
      · split at h
        · rename_i h1 h2
          subst h1 h2
          split at h
          · omega
          · rename_i o
            cases h
            have hle : (o + 1) + m ≤ n := hl _ (.head _)
            exact so_rows (hH.arr (.inl hbk)) hle (ha.imp id fun e => ⟨g, cap, hb, by rw [e]⟩)
        · cases h
      · cases h
    · rename_i e z'' n F hbk
      split at h
      · split at h
        · split at h
          · omega
          · cases h
        · cases h
      · cases h
    · cases h
  | so b z' off len c a hc ha =>
    simp only [rowsOf] at h
    split at h
    · rename_i e z'' n F hbk
      split at h
      · split at h
        · rename_i h1 h2
          subst h1 h2
          cases h
          have hle : off + m ≤ n := hl (Env.std.aN off m ≤ n) (.head _)
          exact so_rows (hH.arr (.inl hbk)) hle ha
        · cases h
      · cases h
    · rename_i e z'' n F cc hbk
      split at h
      · split at h
        · rename_i h1 h2
          subst h1 h2
          cases h
          have hle : off + m ≤ n := hl (Env.std.aN off m ≤ n) (.head _)
          exact so_rows (hH.arr (.inr ⟨_, hbk⟩)) hle ha
        · cases h
      · cases h
    · cases h
  | _ => simp [rowsOf] at h
theorem run_append_zero {t ty e : TypeId} {te : TI} (ht : P.underlying t = some (.slice e)) (he : TIOK P e te) (base : Option Addr) (n cap : Nat) (hn : n ≤ cap) (a : Option Addr) (c : Nat) :
    (Builtin.append_ #[t, t] ty #[.slice base n cap, .slice a 0 c]).run P w = .ok (.slice base n cap) w := by
  have hs := he.run_size w
  have hf : (Builtin.firstCells te.sz 0 (.slice a 0 c)).run P w = .ok #[] w := by cases a <;> simp [Builtin.firstCells, loadCells, loadCellsFrom]
  cases base <;> simp [Builtin.append_, run_underlying ht, hs, Builtin.lenOf, hn, hf, storeCells]
theorem append_ok (hH : HOK w O ρ H) {s : Nat} (hs : ρ s = .unset) {t ty e : TypeId} {te : TI} (ht : P.underlying t = some (.slice e)) (he : TIOK P e te) (hz : 0 < te.sz)
    {a : Option Addr} {m c : Nat} {G : Nat → List U} {g : Nat → Nat → Value} (ha : m * te.sz = 0 ∨ ∃ ad, a = some ad ∧ ∀ i j, i < m → j < te.sz → w.cell? (ad.add (i * te.sz + j)) = some (g i j))
    (hG : ∀ i, i < m → (G i).length = te.sz) (hr : ∀ (i j : Nat) (x : U), i < m → (G i)[j]? = some x → RU w O x (g i j)) :
    (m * te.by_ ≤ 140737488355328 → m ≤ 4611686018427387904 →
      StepOK P w O ρ H s (do pure (.value (← Builtin.append_ #[t, t] ty #[.slice none 0 0, .slice a m c]))) (.sr s te.sz 0 m) [(s, .arr e te.sz m G)]) := by
  intro hby hmax
  rcases Nat.eq_zero_or_pos m with h0 | h0
  · subst h0
    have := run_append_zero (w := w) (ty := ty) ht he none 0 0 (Nat.le_refl _) a c
    refine ⟨_, .slice none 0 0, w, O, upd ρ s .nil, by simp [this], .inl rfl, .srN s _ (upd_same _ _ _), good_nil hH hs e te.sz G, fun b hb => upd_other _ _ _ (nmem hb)⟩
  · rcases ha with ha | ⟨ad, rfl, hcell⟩
    · have := Nat.mul_pos h0 hz; omega
    obtain ⟨i, hi, hisz, hiby, hizero⟩ := he.info
    obtain ⟨zv, hzv, hzc⟩ : ∃ zv, i.zero = some zv ∧ zv.cells.toList = te.zero := by
      cases hq : i.zero with
      | none => simp [hq] at hizero
      | some zv => exact ⟨zv, rfl, by simpa [hq] using hizero⟩
    have hzs : zv.cells.size = te.sz := by rw [← Array.length_toList, hzc]; exact he.len
    have hrun := run_append_nil (P := P) w t ty e i zv ht hi hzv ad m c (flat te.sz m g) (by rw [flat_length, hisz]) (fun j u hu => by
      obtain ⟨h1, h2, h3⟩ := flat_mem hu
      have := hcell _ _ h1 h2
      have e1 : j / te.sz * te.sz + j % te.sz = j := by rw [Nat.mul_comm]; exact Nat.div_add_mod j te.sz
      rw [e1] at this
      rw [this, h3]) h0 (by omega) (by rw [hiby]; omega)
    have hcapge := grownCap_ge w m 0 e
    have hcapm : grownCap w m 0 e ≤ maxLen := grownCap_le_maxLen w m 0 e (by unfold maxLen; omega)
    let cur := (flat te.sz m g).toArray ++ Builtin.zeroCells zv.cells (grownCap w m 0 e - m)
    have hcs : cur.size = grownCap w m 0 e * te.sz := by
      show ((flat te.sz m g).toArray ++ Builtin.zeroCells zv.cells (grownCap w m 0 e - m)).size = _
      rw [Array.size_append, size_zeroCells, hzs, List.size_toArray, flat_length, ← Nat.add_mul]
      congr 1; omega
    have hk := keeps_alloc (w := w.drew) (O := O) (.cells cur e)
    have hk0 : Keeps w O (w.drew.alloc (.cells cur e)) (O.add w.drew.heap.size) := hk
    have g1 := good_drew (w := w) hH
    have g2 := good_new (w := w.drew) g1.hok hs (.cells cur e) (grownCap w m 0 e) (.arr e te.sz m G) (.inr ⟨w.heap.size, _, cur, upd_same _ _ _, .inr rfl, heap_alloc_new w.drew _, hcs, hcapge, hcapm, hG, fun i j x hi hx => by
      have hj : j < te.sz := by rw [← hG i hi]; exact lt_of_get hx
      refine ⟨g i j, ?_, (hr i j x hi hx).mono hk0⟩
      have hlt : i * te.sz + j < (flat te.sz m g).length := by rw [flat_length]; exact lt_flat hi hj
      show ((flat te.sz m g).toArray ++ Builtin.zeroCells zv.cells (grownCap w m 0 e - m))[i * te.sz + j]? = _
      rw [Array.getElem?_append_left (by simpa using hlt)]
      simpa using flat_get g hi hj⟩)
    exact ⟨_, _, _, _, _, by simp [hrun]; rfl, .inl rfl, .srP s te.sz m w.heap.size _ (upd_same _ _ _) hcapge, g1.trans hH g2, fun b hb => upd_other _ _ _ (nmem hb)⟩
theorem OKdrop (h : HOK w O ρ H) {b : Nat} {x : Blk} (hb : H[b]? = some x) (hl : x.live) : Good w O ρ H w O ρ (putH H b .gone) := by
  refine ⟨⟨fun b' y hy => ?_, fun b1 b2 y y' g1 c1 c2 hy hyl hy' hyl' hg1 hg2 => ?_, h.lt, h.olt⟩, .refl _ _, .refl _, fun k ⟨b', y, c', hy, hyl, hg'⟩ => ?_, fun k hk hn => hk, fun k hk => .inl hk, rfl⟩
  · by_cases hbb : b' = b
    · subst hbb; rw [putH_same] at hy; cases hy; trivial
    · rcases putH_other H b _ b' y hbb hy with hy | hy
      · exact h.blk b' y hy
      · subst hy; trivial
  · by_cases h1 : b1 = b
    · subst h1; rw [putH_same] at hy; cases hy; exact hyl.elim
    · by_cases h2 : b2 = b
      · subst h2; rw [putH_same] at hy'; cases hy'; exact hyl'.elim
      · exact h.inj b1 b2 y y' g1 c1 c2 (putH_live h1 hy hyl) hyl (putH_live h2 hy' hyl') hyl' hg1 hg2
  · by_cases hbb : b' = b
    · subst hbb; rw [putH_same] at hy; cases hy; exact hyl.elim
    · exact .inl ⟨b', y, c', putH_live hbb hy hyl, hyl, hg'⟩
theorem putH_other_get {H : Heap} {s b : Nat} {x y : Blk} (hb : b ≠ s) (h : H[b]? = some y) : (putH H s x)[b]? = some y := by
  induction H generalizing s b with
  | nil => simp at h
  | cons z l ih =>
    cases s with
    | zero => cases b with
      | zero => exact absurd rfl hb
      | succ b => simpa [putH] using h
    | succ s => cases b with
      | zero => simpa [putH] using h
      | succ b => simpa [putH] using ih (s := s) (b := b) (fun e => hb (by rw [e])) (by simpa using h)
theorem putH_id {H : Heap} {b : Nat} {x : Blk} (h : H[b]? = some x) : putH H b x = H := by
  induction H generalizing b with
  | nil => simp at h
  | cons z l ih =>
    cases b with
    | zero => simp at h; simp [putH, h]
    | succ b => simp only [putH]; rw [ih (by simpa using h)]
theorem good_move (h : HOK w O ρ H) {s b : Nat} (hs : ρ s = .unset) {x x' : Blk} (hb : H[b]? = some x) (hl : x.live) {g c : Nat} (hg : ρ b = .at g c)
    (hx : BOK w O (upd ρ s (.at g c)) s x') : Good w O ρ H w O (upd ρ s (.at g c)) (putH (putH H s x') b .gone) := by
  have hsb : s ≠ b := fun e => by rw [e, hg] at hs; cases hs
  have hp := plLe_upd (.at g c) hs
  have live : ∀ b' y, (putH (putH H s x') b .gone)[b']? = some y → y.live → b' ≠ b ∧ ((b' = s ∧ y = x') ∨ (b' ≠ s ∧ H[b']? = some y)) := fun b' y hy hyl => by
    have h1 : b' ≠ b := fun e => by subst e; rw [putH_same] at hy; cases hy; exact hyl.elim
    have h2 := putH_live h1 hy hyl
    refine ⟨h1, ?_⟩
    by_cases h3 : b' = s
    · subst h3; rw [putH_same] at h2; cases h2; exact .inl ⟨rfl, rfl⟩
    · exact .inr ⟨h3, putH_live h3 h2 hyl⟩
  have pl : ∀ b' y g' c', H[b']? = some y → y.live → b' ≠ b → ρ b' = .at g' c' → g' ≠ g := fun b' y g' c' hy hyl hn hg' e => hn (h.inj b' b y x g' c' c hy hyl hb hl hg' (e ▸ hg))
  refine ⟨⟨fun b' y hy => ?_, fun b1 b2 y y' g1 c1 c2 hy hyl hy' hyl' hg1 hg2 => ?_, h.lt, h.olt⟩, .refl _ _, hp, fun k ⟨b', y, c', hy, hyl, hg'⟩ => ?_, fun k hk hn => hk, fun k hk => .inl hk, rfl⟩
  · by_cases hyl : y.live
    · obtain ⟨h1, ⟨rfl, rfl⟩ | ⟨h2, h3⟩⟩ := live b' y hy hyl
      · exact hx
      · exact (h.blk b' y h3).mono ⟨Nat.le_refl _, fun _ _ h => ⟨rfl, h⟩, rfl⟩ hp fun g' c' hg' hyl => ⟨rfl, img_own h ⟨b', y, c', h3, hyl, hg'⟩⟩
    · cases y <;> first | trivial | exact absurd trivial hyl
  · obtain ⟨n1, ⟨rfl, rfl⟩ | ⟨m1, k1⟩⟩ := live b1 y hy hyl <;> obtain ⟨n2, ⟨e2, q2⟩ | ⟨m2, k2⟩⟩ := live b2 y' hy' hyl'
    · exact e2.symm
    · rw [upd_same] at hg1; cases hg1
      rw [upd_other _ _ _ m2] at hg2
      exact absurd rfl (pl b2 y' _ c2 k2 hyl' n2 hg2)
    · subst e2
      rw [upd_same] at hg2; cases hg2
      rw [upd_other _ _ _ m1] at hg1
      exact absurd rfl (pl b1 y _ c1 k1 hyl n1 hg1)
    · rw [upd_other _ _ _ m1] at hg1
      rw [upd_other _ _ _ m2] at hg2
      exact h.inj b1 b2 y y' g1 c1 c2 k1 hyl k2 hyl' hg1 hg2
  · obtain ⟨n1, ⟨rfl, rfl⟩ | ⟨m1, k1⟩⟩ := live b' y hy hyl
    · rw [upd_same] at hg'; cases hg'; exact .inl ⟨b, x, c, hb, hl, hg⟩
    · rw [upd_other _ _ _ m1] at hg'; exact .inl ⟨b', y, c', k1, hyl, hg'⟩
def joined (n : Nat) (F G : Nat → List U) (k : Nat) : List U := if k < n then F k else G (k - n)
structure NewCells (w : World) (O : Own) (z m : Nat) (G : Nat → List U) (g : Nat → Nat → Value) : Prop where
  len : ∀ i, i < m → (G i).length = z
  rel : ∀ (i j : Nat) (x : U), i < m → (G i)[j]? = some x → RU w O x (g i j)
theorem NewCells.one {z m : Nat} {G : Nat → List U} {g : Nat → Nat → Value} (h : NewCells w O z m G g) : ∀ u ∈ flat z m g, u.oneCell' = true := by
  intro u hu
  obtain ⟨k, hk⟩ := List.getElem?_of_mem hu
  obtain ⟨h1, h2, h3⟩ := flat_mem hk
  obtain ⟨x, hx⟩ := get_of_lt (l := G (k / z)) (j := k % z) (by rw [h.len _ h1]; exact h2)
  have := (h.rel _ _ x h1 hx).one
  rwa [← h3] at this
theorem NewCells.mono {w' : World} {O' : Own} {z m : Nat} {G : Nat → List U} {g : Nat → Nat → Value} (h : NewCells w O z m G g) (hk : Keeps w O w' O') : NewCells w' O' z m G g :=
  ⟨h.len, fun i j x hi hx => (h.rel i j x hi hx).mono hk⟩
theorem grow_ok (hH : HOK w O ρ H) {s b : Nat} (hs : ρ s = .unset) {e z n : Nat} {F : Nat → List U} (hb : H[b]? = some (.arr e z n F)) {g cap : Nat} (hg : ρ b = .at g cap) {m : Nat} {G : Nat → List U} {gg : Nat → Nat → Value}
    (hz : 0 < z) (hm : 0 < m) (hN : NewCells w O z m G gg) (hmax : n + m ≤ 4611686018427387904) {s0 : Sem Value}
    (room : n + m ≤ cap → ∀ cur, w.heap[g]? = some (.cells cur e (0, 0)) → cur.size = cap * z → s0.run P w = .ok (.slice (some ⟨g, 0, none⟩) (n + m) cap) (w.setRow g (cur.toList.take (n * z) ++ flat z m gg ++ cur.toList.drop (n * z + (flat z m gg).length)).toArray))
    (grow : ¬ n + m ≤ cap → ∀ olds : List Value, olds.length = n * z → (∀ j v, olds[j]? = some v → w.cell? ((⟨g, 0, none⟩ : Addr).add j) = some v) → ∃ (nc : Nat) (zs : Array Value), n + m ≤ nc ∧ nc ≤ maxLen ∧ zs.size = (nc - (n + m)) * z ∧
      s0.run P w = .ok (.slice (some ⟨w.heap.size, 0, none⟩) (n + m) nc) (w.drew.alloc (.cells (olds.toArray ++ (flat z m gg).toArray ++ zs) e))) :
    StepOK P w O ρ H s (do pure (.value (← s0))) (.sr s z 0 (n + m)) [(s, .arr e z (n + m) (joined n F G)), (b, .gone)] := by
  rcases hH.blk b _ hb with ⟨k1, _⟩ | ⟨g', cap', cur, k1, k2, k3, k4, k5, k6, k7, k8⟩
  · rw [hg] at k1; cases k1
  rw [hg] at k1
  cases k1
  have hlen : ∀ i, i < n + m → (joined n F G i).length = z := fun i hi => by
    unfold joined
    split
    · exact k7 i ‹_›
    · exact hN.len _ (by omega)
  have hnz : n * z ≤ cur.size := by rw [k4]; exact Nat.mul_le_mul_right _ k5
  by_cases hroom : n + m ≤ cap
  · have hrun := room hroom cur k3 k4
    have hfit : n * z + (flat z m gg).length ≤ cur.toList.length := by rw [flat_length, ← Nat.add_mul, Array.length_toList, k4]; exact Nat.mul_le_mul_right _ hroom
    generalize hcs : (cur.toList.take (n * z) ++ flat z m gg ++ cur.toList.drop (n * z + (flat z m gg).length)).toArray = cs at hrun
    have hget : ∀ k, cs[k]? = if n * z ≤ k ∧ k < n * z + (flat z m gg).length then (flat z m gg)[k - n * z]? else cur[k]? := fun k => by
      rw [← hcs, List.getElem?_toArray, seg_get hfit k]; simp
    have hsz : cs.size = cap * z := by
      rw [← hcs, ← k4]
      simp only [List.size_toArray, List.length_append, List.length_take, List.length_drop, Array.length_toList] at hfit ⊢
      omega
    have hk := keeps_setRow (w := w) k2 cs
    have old : ∀ (i j : Nat) (x : U), i < n → (F i)[j]? = some x → ∃ v, cs[i * z + j]? = some v ∧ RU (w.setRow g cs) O x v := fun i j x hi hx => by
      obtain ⟨v, hv, hr⟩ := k8 i j x hi hx
      have hj : j < z := by rw [← k7 i hi]; exact lt_of_get hx
      have := lt_flat hi hj
      exact ⟨v, by rw [hget, if_neg (by omega)]; exact hv, hr.mono hk⟩
    have g1 := good_set hH hb trivial hg cs (.arr e z n F) (.inr ⟨g, cap, cs, hg, k2, setRow_heap w g cur cs e _ k3, hsz, k5, k6, k7, old⟩)
    have hb1 : (putH H b (.arr e z n F))[b]? = some (.arr e z n F) := putH_same _ _ _
    have g2 := good_move (x' := .arr e z (n + m) (joined n F G)) g1.hok hs hb1 trivial hg (.inr ⟨g, cap, cs, upd_same _ _ _, k2, setRow_heap w g cur cs e _ k3, hsz, hroom, k6, hlen, fun i j x hi hx => by
      unfold joined at hx
      split at hx
      · exact old i j x ‹_› hx
      · rename_i hni
        have hj : j < z := by rw [← hN.len (i - n) (by omega)]; exact lt_of_get hx
        have hlt := lt_flat (n := m) (i := i - n) (by omega) hj
        refine ⟨gg (i - n) j, ?_, (hN.rel _ j x (by omega) hx).mono hk⟩
        have e1 : i * z + j = n * z + ((i - n) * z + j) := by
          have : i * z = n * z + (i - n) * z := by rw [← Nat.add_mul]; congr 1; omega
          omega
        rw [hget, if_pos (by rw [flat_length]; omega), e1, Nat.add_sub_cancel_left]
        exact flat_get gg (by omega) hj⟩)
    refine ⟨_, _, _, O, upd ρ s (.at g cap), by simp [hrun]; rfl, .inl rfl, .srP s z (n + m) g cap (upd_same _ _ _) hroom, ?_, fun b hb => upd_other _ _ _ (nmem hb)⟩
    have e : putH (putH (putH H b (.arr e z n F)) s (.arr e z (n + m) (joined n F G))) b .gone = putH (putH H s (.arr e z (n + m) (joined n F G))) b .gone := by
      have e0 : putH H b (.arr e z n F) = H := putH_id hb
      rw [e0]
    have := g1.trans hH g2
    rw [e] at this
    exact this
  · obtain ⟨nc, zs, h1, h2, h3, hrun⟩ := grow hroom (cur.toList.take (n * z)) (by simp; omega) (fun j v hv => by
      have hj := lt_of_get hv
      simp only [List.length_take] at hj
      rw [List.getElem?_take_of_lt (by omega)] at hv
      rw [add_lit, cell_of_row w g _ cur e _ k3]
      simpa using hv)
    generalize hcs : (cur.toList.take (n * z)).toArray ++ (flat z m gg).toArray ++ zs = cs at hrun
    have hl1 : (cur.toList.take (n * z)).length = n * z := by simp; omega
    have hget1 : ∀ k, k < n * z → cs[k]? = cur[k]? := fun k hk => by
      rw [← hcs, Array.getElem?_append_left (by simp; omega), Array.getElem?_append_left (by simp; omega)]
      simp [List.getElem?_take_of_lt hk]
    have hget2 : ∀ k, k < (flat z m gg).length → cs[n * z + k]? = (flat z m gg)[k]? := fun k hk => by
      rw [← hcs, Array.getElem?_append_left (by simp; omega), Array.getElem?_append_right (by simp; omega)]
      simp
      congr 1
      omega
    have hsz : cs.size = nc * z := by
      rw [← hcs, Array.size_append, Array.size_append, List.size_toArray, List.size_toArray, hl1, flat_length, h3, ← Nat.add_mul, ← Nat.add_mul]
      congr 1; omega
    have g0 := good_drew (w := w) hH
    have hk := keeps_alloc (w := w.drew) (O := O) (.cells cs e)
    have hk0 : Keeps w O (w.drew.alloc (.cells cs e)) (O.add w.drew.heap.size) := hk
    have g1 := good_new (w := w.drew) g0.hok hs (.cells cs e) nc (.arr e z (n + m) (joined n F G)) (.inr ⟨w.heap.size, nc, cs, upd_same _ _ _, .inr rfl, heap_alloc_new w.drew _, hsz, h1, h2, hlen, fun i j x hi hx => by
      unfold joined at hx
      split at hx
      · rename_i hin
        obtain ⟨v, hv, hr⟩ := k8 i j x hin hx
        have hj : j < z := by rw [← k7 i hin]; exact lt_of_get hx
        exact ⟨v, by rw [hget1 _ (lt_flat hin hj)]; exact hv, hr.mono hk0⟩
      · rename_i hni
        have hj : j < z := by rw [← hN.len (i - n) (by omega)]; exact lt_of_get hx
        refine ⟨gg (i - n) j, ?_, (hN.rel _ j x (by omega) hx).mono hk0⟩
        have e1 : i * z + j = n * z + ((i - n) * z + j) := by
          have : i * z = n * z + (i - n) * z := by rw [← Nat.add_mul]; congr 1; omega
          omega
        rw [e1, hget2 _ (by rw [flat_length]; exact lt_flat (by omega) hj)]
        exact flat_get gg (by omega) hj⟩)
    have hsb : b ≠ s := fun e => by subst e; simp [hg] at hs
    have g2 := OKdrop g1.hok (b := b) (putH_other_get hsb hb) trivial
    exact ⟨_, _, _, _, _, by simp [hrun], .inl rfl, .srP s z (n + m) w.heap.size nc (upd_same _ _ _) h1, (g0.trans hH g1).trans hH g2, fun b hb => upd_other _ _ _ (nmem hb)⟩
end
end Am
end
section
open Go Go.Lib
set_option linter.unusedVariables false
set_option linter.unusedSimpArgs false
namespace Am
section
variable {P : Program} {w : World} {O : Own} {ρ : Place} {H : Heap}
theorem TIOK.zero {t : Nat} {ti : TI} (h : TIOK P t ti) : ∃ i z, P.info? t = some i ∧ i.size = ti.sz ∧ i.bytes = ti.by_ ∧ i.zero = some z ∧ z.cells.size = ti.sz := by
  obtain ⟨i, hi, hisz, hiby, hizero⟩ := h.info
  cases hq : i.zero with
  | none => simp [hq] at hizero
  | some z => exact ⟨i, z, hi, hisz, hiby, hq, by rw [← Array.length_toList, show z.cells.toList = ti.zero by simpa [hq] using hizero]; exact h.len⟩
theorem app_own_ok (hH : HOK w O ρ H) {s b : Nat} (hs : ρ s = .unset) {t ty e : TypeId} {te : TI} (ht : P.underlying t = some (.slice e)) (he : TIOK P e te) (hz : 0 < te.sz) {n : Nat} {F : Nat → List U}
    (hb : H[b]? = some (.arr e te.sz n F)) {v : Value} (hv : RV w O ρ (.sr b te.sz 0 n) v) {a : Option Addr} {m c : Nat} {G : Nat → List U} {g : Nat → Nat → Value}
    (ha : m * te.sz = 0 ∨ ∃ ad, a = some ad ∧ ∀ i j, i < m → j < te.sz → w.cell? (ad.add (i * te.sz + j)) = some (g i j)) (hN : NewCells w O te.sz m G g)
    (hby : (n + m) * te.by_ ≤ 140737488355328) (hmax : n + m ≤ 4611686018427387904) :
    StepOK P w O ρ H s (do pure (.value (← Builtin.append_ #[t, t] ty #[v, .slice a m c]))) (.sr s te.sz 0 (n + m)) [(s, .arr e te.sz (n + m) (joined n F G)), (b, .gone)] := by
  obtain ⟨i, z, hi, hisz, hiby, hiz, hzs⟩ := he.zero
  have hsb : b ≠ s := fun e => by subst e; cases hv <;> simp_all
  cases hv with
  | srN _ _ hn =>
    obtain ⟨r, v', w', O', ρ', h1, h2, h3, h4, h5⟩ := append_ok (ty := ty) hH hs ht he hz ha hN.len hN.rel (by simpa using hby) (by omega)
    have hG : Blk.arr e te.sz m G = .arr e te.sz (0 + m) (joined 0 F G) := by
      have : joined 0 F G = G := by funext k; simp [joined]
      rw [this, Nat.zero_add]
    rw [hG] at h4
    have g2 := OKdrop h4.hok (b := b) (putH_other_get hsb hb) trivial
    exact ⟨r, v', w', O', ρ', h1, h2, by rw [Nat.zero_add]; exact h3, h4.trans hH g2, fun b hb => h5 b fun y hy => by rcases List.mem_cons.1 hy with hy | hy; (cases hy; exact nmem hb rfl); cases hy⟩
  | srO _ _ _ _ _ _ _ _ _ h0 => omega
  | srP _ _ _ gb cap hg hc =>
    rcases Nat.eq_zero_or_pos m with h0 | h0
    · subst h0
      have hrun := run_append_zero (w := w) (ty := ty) ht he (some ⟨gb, 0, none⟩) n cap hc a c
      rcases hH.blk b _ hb with ⟨k1, _⟩ | ⟨g', cap', cur, k1, k2, k3, k4, k5, k6, k7, k8⟩
      · rw [hg] at k1; cases k1
      rw [hg] at k1
      cases k1
      refine ⟨_, _, w, O, upd ρ s (.at gb cap), by simp [hrun], .inl rfl, .srP s _ _ gb cap (upd_same _ _ _) hc, good_move hH hs hb trivial hg (.inr ⟨gb, cap, cur, upd_same _ _ _, k2, k3, k4, k5, k6, fun i hi => ?_, fun i j x hi hx => ?_⟩), fun b hb => upd_other _ _ _ (nmem hb)⟩
      · simp [joined, show i < n by omega]; exact k7 i (by omega)
      · simp [joined, show i < n by omega] at hx; exact k8 i j x (by omega) hx
    · rcases ha with ha | ⟨ad, rfl, hcell⟩
      · have := Nat.mul_pos h0 hz; omega
      have hnews : ∀ j u, (flat te.sz m g)[j]? = some u → w.cell? (ad.add j) = some u := fun j u hu => by
        obtain ⟨h1, h2, h3⟩ := flat_mem hu
        have := hcell _ _ h1 h2
        have e1 : j / te.sz * te.sz + j % te.sz = j := by rw [Nat.mul_comm]; exact Nat.div_add_mod j te.sz
        rw [e1] at this
        rw [this, h3]
      refine grow_ok hH hs hb hg hz h0 hN hmax (fun hroom cur k3 k4 => ?_) fun hroom olds ho hold => ?_
      · have := run_append_room (P := P) w t ty e i ht hi gb n cap cur k3 ad m c (flat te.sz m g) (by rw [flat_length, hisz]) hnews hN.one hroom (by rw [flat_length, hisz, k4, ← Nat.add_mul]; exact Nat.mul_le_mul_right _ hroom)
        rw [hisz] at this
        exact this
      · refine ⟨grownCap w (n + m) cap e, Builtin.zeroCells z.cells (grownCap w (n + m) cap e - (n + m)), grownCap_ge w _ _ e, grownCap_le_maxLen w _ _ e (by unfold maxLen; omega), by rw [size_zeroCells, hzs], ?_⟩
        exact run_append_grow (P := P) w t ty e i z ht hi hiz ⟨gb, 0, none⟩ n cap olds (by rw [ho, hisz]) hold ad m c (flat te.sz m g) (by rw [flat_length, hisz]) hnews (by omega) (by omega) (growslice_fits (by omega) (by rw [hiby]; exact hby))
def strRow (s : ByteArray) (k : Nat) : List U := [.sc (.int .u8 (btI s (k : Int)))]
theorem strCells_flat (s : ByteArray) : strCells s = flat 1 s.size (fun i _ => .int .u8 (btI s (i : Int))) := by
  apply List.ext_getElem?
  intro k
  by_cases hk : k < s.size
  · have h1 := flat_get (z := 1) (m := s.size) (fun i _ => Value.int .u8 (btI s (i : Int))) hk (show 0 < 1 by omega)
    simp only [Nat.mul_one, Nat.add_zero] at h1
    rw [h1]
    have hk' : k < s.data.toList.length := by simpa using hk
    simp only [strCells, btI, Int.toNat_natCast, List.getElem?_map, List.getElem?_eq_getElem hk', Option.map_some, List.getD_eq_getElem?_getD, Option.getD_some]
  · rw [List.getElem?_eq_none (by rw [strCells_length]; omega), List.getElem?_eq_none (by rw [flat_length]; omega)]
theorem str_new (s : ByteArray) : NewCells w O 1 s.size (strRow s) (fun i _ => .int .u8 (btI s (i : Int))) :=
  ⟨fun _ _ => rfl, fun i j x hi hx => by
    cases j with
    | zero => simp [strRow] at hx; subst hx; exact .sc _ rfl
    | succ j => simp [strRow] at hx⟩
theorem appS_nil_ok (hH : HOK w O ρ H) {sid : Nat} (hs : ρ sid = .unset) {t u ty e : TypeId} {te : TI} (ht : P.underlying t = some (.slice e)) (hu : P.underlying u = some .string) (he : TIOK P e te) (hz : te.sz = 1) (s : ByteArray)
    (hby : s.size * te.by_ ≤ 140737488355328) (hmax : s.size ≤ 4611686018427387904) :
    StepOK P w O ρ H sid (do pure (.value (← Builtin.append_ #[t, u] ty #[.slice none 0 0, .string s]))) (.sr sid 1 0 s.size) [(sid, .arr e 1 s.size (strRow s))] := by
  obtain ⟨i, z, hi, hisz, hiby, hiz, hzs⟩ := he.zero
  rcases Nat.eq_zero_or_pos s.size with h0 | h0
  · have hf := run_firstCells_string (P := P) w te.sz s
    have hrun : (Builtin.append_ #[t, u] ty #[.slice none 0 0, .string s]).run P w = .ok (.slice none 0 0) w := by
      have hc : strCells s = [] := List.eq_nil_of_length_eq_zero (by rw [strCells_length]; exact h0)
      rw [h0, hc] at hf
      simp [Builtin.append_, run_underlying ht, run_underlying hu, he.run_size w, Builtin.lenOf, h0, hf]
    refine ⟨_, .slice none 0 0, w, O, upd ρ sid .nil, by simp [hrun], .inl rfl, ?_, ?_, fun b hb => upd_other _ _ _ (nmem hb)⟩
    · rw [h0]; exact .srN sid _ (upd_same _ _ _)
    · rw [h0]; exact good_nil hH hs e 1 _
  · have hrun := run_append_nil_string (P := P) w t u ty e i z ht hu hi hiz s h0 (by omega) (by rw [hiby]; omega)
    have hcapge := grownCap_ge w s.size 0 e
    have hcapm : grownCap w s.size 0 e ≤ maxLen := grownCap_le_maxLen w s.size 0 e (by unfold maxLen; omega)
    have hflat : s.data.map (fun b => Value.int .u8 b.toNat) = (flat 1 s.size (fun i _ => .int .u8 (btI s (i : Int)))).toArray := by
      rw [← strCells_flat]
      apply Array.ext'
      simp [strCells]
    rw [hflat] at hrun
    generalize hcs : (flat 1 s.size (fun i _ => Value.int .u8 (btI s (i : Int)))).toArray ++ Builtin.zeroCells z.cells (grownCap w s.size 0 e - s.size) = cs at hrun
    have hsz : cs.size = grownCap w s.size 0 e * 1 := by
      rw [← hcs, Array.size_append, size_zeroCells, hzs, hz, List.size_toArray, flat_length, ← Nat.add_mul]
      congr 1; omega
    have g0 := good_drew (w := w) hH
    have hk := keeps_alloc (w := w.drew) (O := O) (.cells cs e)
    have hk0 : Keeps w O (w.drew.alloc (.cells cs e)) (O.add w.drew.heap.size) := hk
    have g1 := good_new (w := w.drew) g0.hok hs (.cells cs e) (grownCap w s.size 0 e) (.arr e 1 s.size (strRow s)) (.inr ⟨w.heap.size, _, cs, upd_same _ _ _, .inr rfl, heap_alloc_new w.drew _, hsz, hcapge, hcapm, fun _ _ => rfl, fun i j x hi hx => by
      have hj : j < 1 := lt_of_get hx
      refine ⟨.int .u8 (btI s (i : Int)), ?_, ((str_new (w := w) (O := O) s).rel i j x hi hx).mono hk0⟩
      have hlt : i * 1 + j < (flat 1 s.size (fun i _ => Value.int .u8 (btI s (i : Int)))).length := by rw [flat_length]; exact lt_flat hi hj
      rw [← hcs, Array.getElem?_append_left (by simpa using hlt)]
      simpa using flat_get (fun i _ => Value.int .u8 (btI s (i : Int))) hi hj⟩)
    exact ⟨_, _, _, _, _, by simp [hrun], .inl rfl, .srP sid 1 s.size w.heap.size _ (upd_same _ _ _) hcapge, g0.trans hH g1, fun b hb => upd_other _ _ _ (nmem hb)⟩
theorem appS_own_ok (hH : HOK w O ρ H) {sid b : Nat} (hs : ρ sid = .unset) {t u ty e : TypeId} {te : TI} (ht : P.underlying t = some (.slice e)) (hu : P.underlying u = some .string) (he : TIOK P e te) (hz : te.sz = 1) {n : Nat} {F : Nat → List U}
    (hb : H[b]? = some (.arr e 1 n F)) {v : Value} (hv : RV w O ρ (.sr b 1 0 n) v) (s : ByteArray) (hby : (n + s.size) * te.by_ ≤ 140737488355328) (hmax : n + s.size ≤ 4611686018427387904) :
    StepOK P w O ρ H sid (do pure (.value (← Builtin.append_ #[t, u] ty #[v, .string s]))) (.sr sid 1 0 (n + s.size)) [(sid, .arr e 1 (n + s.size) (joined n F (strRow s))), (b, .gone)] := by
  obtain ⟨i, z, hi, hisz, hiby, hiz, hzs⟩ := he.zero
  have hsb : b ≠ sid := fun e => by subst e; cases hv <;> simp_all
  cases hv with
  | srN _ _ hn =>
    obtain ⟨r, v', w', O', ρ', h1, h2, h3, h4, h5⟩ := appS_nil_ok (ty := ty) hH hs ht hu he hz s (by simpa using hby) (by omega)
    have hG : Blk.arr e 1 s.size (strRow s) = .arr e 1 (0 + s.size) (joined 0 F (strRow s)) := by
      have : joined 0 F (strRow s) = strRow s := by funext k; simp [joined]
      rw [this, Nat.zero_add]
    rw [hG] at h4
    have g2 := OKdrop h4.hok (b := b) (putH_other_get hsb hb) trivial
    exact ⟨r, v', w', O', ρ', h1, h2, by rw [Nat.zero_add]; exact h3, h4.trans hH g2, fun b hb => h5 b fun y hy => by rcases List.mem_cons.1 hy with hy | hy; (cases hy; exact nmem hb rfl); cases hy⟩
  | srO _ _ _ _ _ _ _ _ _ h0 => omega
  | srP _ _ _ gb cap hg hc =>
    rcases Nat.eq_zero_or_pos s.size with h0 | h0
    · have hf := run_firstCells_string (P := P) w te.sz s
      have hrun : (Builtin.append_ #[t, u] ty #[.slice (some ⟨gb, 0, none⟩) n cap, .string s]).run P w = .ok (.slice (some ⟨gb, 0, none⟩) n cap) w := by
        have hc' : strCells s = [] := List.eq_nil_of_length_eq_zero (by rw [strCells_length]; exact h0)
        rw [h0, hc'] at hf
        simp [Builtin.append_, run_underlying ht, run_underlying hu, he.run_size w, Builtin.lenOf, h0, hf, hc, storeCells]
      rcases hH.blk b _ hb with ⟨k1, _⟩ | ⟨g', cap', cur, k1, k2, k3, k4, k5, k6, k7, k8⟩
      · rw [hg] at k1; cases k1
      rw [hg] at k1
      cases k1
      rw [h0]
      refine ⟨_, _, w, O, upd ρ sid (.at gb cap), by simp [hrun], .inl rfl, .srP sid _ _ gb cap (upd_same _ _ _) hc, good_move hH hs hb trivial hg (.inr ⟨gb, cap, cur, upd_same _ _ _, k2, k3, k4, k5, k6, fun i hi => ?_, fun i j x hi hx => ?_⟩), fun b hb => upd_other _ _ _ (nmem hb)⟩
      · simp [joined, show i < n by omega]; exact k7 i (by omega)
      · simp [joined, show i < n by omega] at hx; exact k8 i j x (by omega) hx
    · refine grow_ok hH hs hb hg (by omega) h0 (str_new s) hmax (fun hroom cur k3 k4 => ?_) fun hroom olds ho hold => ?_
      · have := run_append_room_string (P := P) w t u ty e i ht hu hi (by rw [hisz, hz]) gb n cap cur k3 s hroom (by rw [k4]; omega)
        rw [← strCells_flat, strCells_length, Nat.mul_one]
        exact this
      · refine ⟨grownCap w (n + s.size) cap e, Builtin.zeroCells z.cells (grownCap w (n + s.size) cap e - (n + s.size)), grownCap_ge w _ _ e, grownCap_le_maxLen w _ _ e (by unfold maxLen; omega), by rw [size_zeroCells, hzs, hz], ?_⟩
        rw [← strCells_flat]
        exact run_append_grow_string (P := P) w t u ty e i z ht hu hi hiz ⟨gb, 0, none⟩ n cap olds (by rw [ho, hisz, hz]) hold s (by omega) (by omega) (growslice_fits (by omega) (by rw [hiby]; exact hby))
end
end Am
end
section
open Go Go.Lib
set_option linter.unusedVariables false
set_option linter.unusedSimpArgs false
namespace Am
section
variable {P : Program} {w : World} {O : Own} {ρ : Place} {H : Heap}
theorem setSeg_some {α : Type} (o : Nat) : ∀ (ys l : List α), o + ys.length ≤ l.length → setSeg o ys l ≠ none := by
  induction o with
  | zero =>
    intro ys
    induction ys with
    | nil => intro l _; simp [setSeg]
    | cons y ys ih =>
      intro l hl
      cases l with
      | nil => simp at hl
      | cons x l =>
        have := ih l (by simp at hl ⊢; omega)
        simp only [setSeg]
        split <;> simp_all
  | succ o ih =>
    intro ys l hl
    cases l with
    | nil => simp at hl
    | cons x l =>
      have := ih ys l (by simp at hl; omega)
      cases ys <;> simp only [setSeg] <;> split <;> simp_all
theorem setSegD_length (o : Nat) (us l : List U) : (setSegD o us l).length = l.length := by
  unfold setSegD
  split
  · rename_i r h; exact (setSeg_spec o us l r h).2.1
  · rfl
theorem toU_get {cs : List V} {us : List U} (h : toU cs = some us) : us.length = cs.length ∧ ∀ (j : Nat) (x : U), us[j]? = some x → cs[j]? = some (.u x) := by
  have := toU_spec cs us h
  subst this
  refine ⟨(ofUs_length us).symm, fun j x hx => ?_⟩
  clear h
  induction us generalizing j with
  | nil => simp at hx
  | cons y l ih => cases j with
    | zero => simp at hx; subst hx; rfl
    | succ j => simpa [ofUs] using ih j (by simpa using hx)
theorem RV.toRU {x : U} {v : Value} (h : RV w O ρ (.u x) v) : RU w O x v := by cases h; assumption
theorem st_arr_ok {s : Nat} (hH : HOK w O ρ H) {t : TypeId} {ti : TI} (ht : TIOK P t ti) {x : V} {v va : Value} (hx : RV w O ρ x v) {cs : List V} (hc : cells? x = some cs) (hz : lenIs ti.sz cs = true) (hk : allKnown cs = true) {us : List U} (hu : toU cs = some us)
    {b z i f : Nat} (ha : RV w O ρ (.pa b z i f) va) {e n : Nat} {F : Nat → List U} (hb : blkAt H b = .arr e z n F) (hi : i < n) (hf : f + ti.sz ≤ z) :
    StepOK P w O ρ H s (do Instr.storeAt t va v; pure .skip) .un [(b, .arr e z n (fun k => if Env.std.eN k i then setSegD f us (F k) else F k))] := by
  obtain ⟨h1, h2⟩ := cells_ok hx hc
  obtain ⟨u1, u2⟩ := toU_get hu
  have hlen := lenIs_spec _ _ hz
  cases ha with
  | pa b z i f g cap hg =>
    have hb' := blkAt_eq hb trivial
    rcases hH.blk b _ hb' with ⟨k1, _⟩ | ⟨g', cap', cur, k1, k2, k3, k4, k5, k6, k7, k8⟩
    · rw [hg] at k1; cases k1
    rw [hg] at k1
    cases k1
    have hiz : i * z + z ≤ n * z := by rw [← Nat.succ_mul]; exact Nat.mul_le_mul_right _ hi
    have hnz : n * z ≤ cap * z := Nat.mul_le_mul_right _ k5
    have hfit : (i * z + f) + v.cells.size ≤ cur.size := by omega
    have hrun := run_storeAt (P := P) ht k3 (by omega) hfit (cells_are_one h1 h2 hk)
    generalize hcs : (cur.toList.take (i * z + f) ++ v.cells.toList ++ cur.toList.drop (i * z + f + v.cells.size)).toArray = new at hrun
    have hget : ∀ j, new[j]? = if i * z + f ≤ j ∧ j < i * z + f + v.cells.size then v.cells[j - (i * z + f)]? else cur[j]? := fun j => by
      have := seg_get (cur := cur.toList) (off := i * z + f) (vs := v.cells.toList) (by simpa using hfit) j
      simp only [Array.length_toList] at this
      rw [← hcs, List.getElem?_toArray, this]; simp
    have hsz : new.size = cap * z := by
      rw [← hcs, ← k4]
      simp only [List.size_toArray, List.length_append, List.length_take, List.length_drop, Array.length_toList]
      omega
    have hk := keeps_setRow (w := w) k2 new
    have hgood := good_set hH hb' trivial hg new (.arr e z n (fun k => if Env.std.eN k i then setSegD f us (F k) else F k)) (.inr ⟨g, cap, new, hg, k2, setRow_heap w g cur _ e _ k3, hsz, k5, k6, fun k hk => ?_, fun k j y hkn hy => ?_⟩)
    · exact ⟨.skip, undef, _, O, ρ, by simp [hrun], .inr ⟨rfl, rfl⟩, .un _, hgood, fun _ _ => rfl⟩
    · dsimp only; split
      · rw [setSegD_length]; exact k7 k hk
      · exact k7 k hk
    · dsimp only at hy
      split at hy
      · rename_i hki
        have hki : k = i := by simpa [Env.std] using hki
        subst hki
        have hj : j < z := by rw [← k7 k hkn, ← setSegD_length f us (F k)]; exact lt_of_get hy
        unfold setSegD at hy
        split at hy
        · rename_i r hr
          obtain ⟨s1, s2, s3⟩ := setSeg_spec f us (F k) r hr
          rw [s3 j] at hy
          by_cases hc : f ≤ j ∧ j < f + us.length
          · rw [if_pos hc] at hy
            obtain ⟨u, hu', hr'⟩ := h2 _ _ (u2 _ y hy)
            refine ⟨u, ?_, hr'.toRU.mono hk⟩
            rw [hget, if_pos (by omega), show k * z + j - (k * z + f) = j - f by omega]; exact hu'
          · rw [if_neg hc] at hy
            obtain ⟨u, hu', hr'⟩ := k8 k j y hkn hy
            exact ⟨u, by rw [hget, if_neg (by omega)]; exact hu', hr'.mono hk⟩
        · rename_i hr
          exfalso
          have hl := k7 k hkn
          exact setSeg_some f us (F k) (by omega) hr
      · rename_i hki
        have hki : k ≠ i := by simpa [Env.std] using hki
        obtain ⟨u, hu', hr'⟩ := k8 k j y hkn hy
        have hj : j < z := by rw [← k7 k hkn]; exact lt_of_get hy
        refine ⟨u, ?_, hr'.mono hk⟩
        rw [hget, if_neg ?_]; exact hu'
        rcases Nat.lt_or_gt_of_ne hki with h | h
        · have : k * z + z ≤ i * z := by rw [← Nat.succ_mul]; exact Nat.mul_le_mul_right _ h
          omega
        · have : i * z + z ≤ k * z := by rw [← Nat.succ_mul]; exact Nat.mul_le_mul_right _ h
          omega
theorem foldl_set (vs : Array Value) (off : Nat) : ∀ (k : Nat) (cs : Array Value), (vs.toList.zipIdx k).foldl (fun cs (p : Value × Nat) => cs.setIfInBounds (off + p.2) p.1) cs = (vs.toList.zipIdx k).foldl (fun cs (p : Value × Nat) => cs.setIfInBounds (off + p.2) p.1) cs := fun _ _ => rfl
theorem foldl_get (off : Nat) : ∀ (vs : List Value) (k : Nat) (cs : Array Value), off + k + vs.length ≤ cs.size →
    ((vs.zipIdx k).foldl (fun cs (p : Value × Nat) => cs.setIfInBounds (off + p.2) p.1) cs).size = cs.size ∧
    ∀ j, ((vs.zipIdx k).foldl (fun cs (p : Value × Nat) => cs.setIfInBounds (off + p.2) p.1) cs)[j]? = if off + k ≤ j ∧ j < off + k + vs.length then vs[j - (off + k)]? else cs[j]?
  | [], k, cs, h => ⟨rfl, fun j => by rw [if_neg (by simp)]; rfl⟩
  | v :: vs, k, cs, h => by
    have ih := foldl_get off vs (k + 1) (cs.setIfInBounds (off + k) v) (by simp at h ⊢; omega)
    simp only [List.zipIdx_cons, List.foldl_cons]
    refine ⟨by rw [ih.1]; simp, fun j => ?_⟩
    rw [ih.2 j]
    by_cases h1 : j = off + k
    · subst h1
      have hlt : off + k < cs.size := by simp at h; omega
      rw [if_neg (by omega), if_pos (by simp)]
      simp [hlt]
    · by_cases h2 : off + (k + 1) ≤ j ∧ j < off + (k + 1) + vs.length
      · rw [if_pos h2, if_pos (by simp; omega), show j - (off + k) = (j - (off + (k + 1))) + 1 by omega]; simp
      · rw [if_neg h2, if_neg (by simp; omega), Array.getElem?_setIfInBounds_ne (by omega)]
def CellsRel (w : World) (O : Own) (ρ : Place) (cs : List V) (arr : Array Value) : Prop := arr.size = cs.length ∧ ∀ (j : Nat) (y : V), cs[j]? = some y → ∃ u, arr[j]? = some u ∧ RV w O ρ y u
theorem cells_put {cs cs' r : List V} {arr brr : Array Value} {off : Nat} (h : CellsRel w O ρ cs arr) (h' : CellsRel w O ρ cs' brr) (hr : setSeg off cs' cs = some r) :
    CellsRel w O ρ r (brr.zipIdx.foldl (fun cs (p : Value × Nat) => cs.setIfInBounds (off + p.2) p.1) arr) := by
  obtain ⟨s1, s2, s3⟩ := setSeg_spec off cs' cs r hr
  have hfold : brr.zipIdx.foldl (fun cs (p : Value × Nat) => cs.setIfInBounds (off + p.2) p.1) arr = (brr.toList.zipIdx 0).foldl (fun cs (p : Value × Nat) => cs.setIfInBounds (off + p.2) p.1) arr := by
    rw [← Array.foldl_toList]; congr 1; simp
  obtain ⟨f1, f2⟩ := foldl_get off brr.toList 0 arr (by simp [h'.1, h.1]; exact s1)
  rw [hfold]
  refine ⟨by rw [f1, h.1, s2], fun j y hy => ?_⟩
  rw [s3 j] at hy
  rw [f2 j]
  simp only [Nat.add_zero, Array.length_toList, h'.1]
  by_cases hj : off ≤ j ∧ j < off + cs'.length
  · rw [if_pos hj] at hy ⊢
    simpa using h'.2 _ y hy
  · rw [if_neg hj] at hy ⊢
    exact h.2 j y hy
theorem fill_ok {val : Operand → V} {ev : Operand → Value} {place : Nat → Option (Nat × Nat)} :
    ∀ (ps : List (Nat × Operand)) (qs : List (Nat × Nat × Operand)), (∀ p ∈ ps, RV w O ρ (val p.2) (ev p.2)) → (qs = ps.map fun p => (((place p.1).getD (0, 0)).1, ((place p.1).getD (0, 0)).2, p.2)) → (∀ p ∈ ps, (place p.1).isSome = true) →
    ∀ (cs r : List V) (arr : Array Value), CellsRel w O ρ cs arr → fillV val cs qs = some r →
      ∃ brr, Instr.fill place arr (ps.map fun p => (p.1, ev p.2)) = some brr ∧ CellsRel w O ρ r brr
  | [], _, _, hq, _, cs, r, arr, h, hf => by subst hq; simp [fillV] at hf; subst hf; exact ⟨arr, rfl, h⟩
  | (i, x) :: ps, _, hv, hq, hp, cs, r, arr, h, hf => by
    subst hq
    simp only [List.map_cons, fillV] at hf
    split at hf
    · rename_i cs' hcs
      split at hf
      · rename_i hlen
        split at hf
        · rename_i q hset
          have hrel : CellsRel w O ρ cs' (ev x).cells := cells_ok (hv (i, x) (by simp)) hcs
          obtain ⟨off, size, hpl⟩ : ∃ off size, place i = some (off, size) := by
            have := hp (i, x) (by simp)
            cases hq : place i with
            | none => simp [hq] at this
            | some y => exact ⟨y.1, y.2, rfl⟩
          simp only [hpl, Option.getD_some] at hlen hset
          have hl := lenIs_spec _ _ hlen
          have hput := cells_put h hrel hset
          obtain ⟨s1, _, _⟩ := setSeg_spec off cs' cs q hset
          obtain ⟨brr, h1, h2⟩ := fill_ok ps _ (fun p hp' => hv p (by simp [hp'])) rfl (fun p hp' => hp p (by simp [hp'])) q r _ hput hf
          refine ⟨brr, ?_, h2⟩
          simp only [List.map_cons, Instr.fill, hpl]
          rw [if_neg (by simp [hrel.1, hl, h.1]; omega)]
          exact h1
        · cases hf
      · cases hf
    · cases hf
end
end Am
end
section
open Go Go.Lib
set_option linter.unusedVariables false
set_option linter.unusedSimpArgs false
namespace Am
section
variable {P : Program} {w : World} {O : Own} {ρ : Place} {H : Heap}
theorem zero_rel {l : List Value} {z : Value} (h : z.cells.toList = l) : CellsRel w O ρ (ofCells l) z.cells := by
  refine ⟨by rw [ofCells_length, ← h, Array.length_toList], fun j y hy => ?_⟩
  obtain ⟨u, hu, rfl⟩ := ofCells_get _ j y hy
  rw [← h] at hu
  exact ⟨u, by simpa using hu, ofCell_any u⟩
theorem TIOK.zeroCells {t : Nat} {ti : TI} (h : TIOK P t ti) : ∃ i z, P.info? t = some i ∧ i.size = ti.sz ∧ i.bytes = ti.by_ ∧ i.zero = some z ∧ z.cells.toList = ti.zero := by
  obtain ⟨i, hi, hisz, hiby, hizero⟩ := h.info
  cases hq : i.zero with
  | none => simp [hq] at hizero
  | some z => exact ⟨i, z, hi, hisz, hiby, hq, by simpa [hq] using hizero⟩
theorem mapM_all {α β : Type} (f : α → Option β) (g : α → β) : ∀ l : List α, (∀ a ∈ l, f a = some (g a)) → l.mapM f = some (l.map g)
  | [], _ => by simp
  | a :: l, h => by
    simp only [List.mapM_cons, h a (by simp), mapM_all f g l (fun b hb => h b (by simp [hb])), List.map_cons]
    rfl
theorem places_spec {tab : Tab} {fs : List (Nat × Nat)} : ∀ (ps : List (Nat × Operand)) (qs : List (Nat × Nat × Operand)), places tab fs ps = some qs →
    (∀ p ∈ ps, ∃ off t ti, fs[p.1]? = some (off, t) ∧ tab t = some ti) ∧ qs = ps.map fun p => (((fs[p.1]?).getD (0, 0)).1, (((tab ((fs[p.1]?).getD (0, 0)).2).map (·.sz)).getD 0), p.2)
  | [], qs, h => by simp [places] at h; subst h; simp
  | (i, x) :: ps, qs, h => by
    simp only [places] at h
    split at h
    · rename_i off t hf
      split at h
      · rename_i ti r ht hr
        cases h
        obtain ⟨h1, h2⟩ := places_spec ps r hr
        refine ⟨fun p hp => ?_, ?_⟩
        · rcases List.mem_cons.1 hp with rfl | hp
          · exact ⟨off, t, ti, hf, ht⟩
          · exact h1 p hp
        · simp [hf, ht, h2]
      · cases h
    · cases h
theorem build_struct_ok {s : Nat} {tab : Tab} (hT : TabOK P tab) (hH : HOK w O ρ H) {t : TypeId} {ti : TI} (ht : TIOK P t ti) {fs : List (Nat × Nat)} (hk : ti.kd = .struct fs) (hall : (fs.all fun p => (tab p.2).isSome) = true) {val : Operand → V} {ev : Operand → Value}
    {ps : Array (Nat × Operand)} (hv : ∀ p ∈ ps.toList, RV w O ρ (val p.2) (ev p.2)) {qs : List (Nat × Nat × Operand)} (hp : places tab fs ps.toList = some qs) {r : List V} (hf : fillV val (ofCells ti.zero) qs = some r) :
    StepOK P w O ρ H s (do pure (.value (← Instr.build t (ps.map fun (i, x) => (i, ev x))))) (.ag r) [] := by
  obtain ⟨it, z, hit, _, _, hiz, hzc⟩ := ht.zeroCells
  have hkd := ht.kd
  rw [hk] at hkd
  obtain ⟨l, hl, hlf, _⟩ := hkd
  obtain ⟨p1, p2⟩ := places_spec _ _ hp
  have hfs : ∀ (i : Nat), fs[i]? = (l.toList[i]?).map fun f => (f.offset, f.type) := fun i => by rw [← hlf]; simp
  have htab : ∀ f ∈ l.toList, ∃ tf, tab f.type = some tf := fun f hf => by
    have := List.all_eq_true.1 hall (f.offset, f.type) (by rw [← hlf]; exact List.mem_map.2 ⟨f, hf, rfl⟩)
    exact Option.isSome_iff_exists.1 this
  have hpls := mapM_all (fun f : Field => (P.info? f.type).map fun i => (f.offset, i.size)) (fun f => (f.offset, ((tab f.type).map (·.sz)).getD 0)) l.toList (fun f hf => by
    obtain ⟨tf, htf⟩ := htab f hf
    obtain ⟨i, z, hi, hisz, _⟩ := (hT _ _ htf).zeroCells
    simp [hi, htf, hisz])
  obtain ⟨brr, h1, h2⟩ := fill_ok (w := w) (O := O) (ρ := ρ) (place := fun i => (l.toList.map fun f => (f.offset, ((tab f.type).map (·.sz)).getD 0)).toArray[i]?) ps.toList qs hv (by
      rw [p2]
      apply List.map_congr_left
      intro p hp
      obtain ⟨off, t', ti', q1, q2⟩ := p1 p hp
      rw [hfs] at q1
      cases hq : l.toList[p.1]? with
      | none => simp [hq] at q1
      | some f =>
        have hq' : l[p.1]? = some f := by simpa using hq
        simp [hfs, hq']) (fun p hp => by
      obtain ⟨off, t', ti', q1, q2⟩ := p1 p hp
      rw [hfs] at q1
      cases hq : l.toList[p.1]? with
      | none => simp [hq] at q1
      | some f =>
        have hq' : l[p.1]? = some f := by simpa using hq
        simp [hq']) _ r z.cells (zero_rel hzc) hf
  have hb : P.built t (ps.map fun (i, x) => (i, ev x)).toList = some brr := by
    unfold Program.built
    simp only [hit, hl, hiz, hpls]
    rw [Array.toList_map]
    exact h1
  exact .same hH (by simp [run_build w t _ brr hb]) (ag_mk h2.1 h2.2)
theorem build_array_ok {s : Nat} {tab : Tab} (hT : TabOK P tab) (hH : HOK w O ρ H) {t : TypeId} {ti : TI} (ht : TIOK P t ti) {n e : Nat} (hk : ti.kd = .array n e) {te : TI} (he : TIOK P e te) {val : Operand → V} {ev : Operand → Value}
    {ps : Array (Nat × Operand)} (hv : ∀ p ∈ ps.toList, RV w O ρ (val p.2) (ev p.2)) {r : List V} (hf : fillV val (ofCells ti.zero) (ps.toList.map fun p => (p.1 * te.sz, te.sz, p.2)) = some r) :
    StepOK P w O ρ H s (do pure (.value (← Instr.build t (ps.map fun (i, x) => (i, ev x))))) (.ag r) [] := by
  obtain ⟨it, z, hit, _, _, hiz, hzc⟩ := ht.zeroCells
  obtain ⟨ie, ze, hie, hisz, _, _, _⟩ := he.zeroCells
  have hkd := ht.kd
  rw [hk] at hkd
  have hl : P.underlying t = some (.array n e) := hkd
  obtain ⟨brr, h1, h2⟩ := fill_ok (w := w) (O := O) (ρ := ρ) (place := fun i => some (i * ie.size, ie.size)) ps.toList _ hv (by simp [hisz]) (fun p hp => rfl) _ r z.cells (zero_rel hzc) hf
  have hb : P.built t (ps.map fun (i, x) => (i, ev x)).toList = some brr := by
    unfold Program.built
    simp only [hit, hl, hiz, hie]
    rw [Array.toList_map]
    exact h1
  exact .same hH (by simp [run_build w t _ brr hb]) (ag_mk h2.1 h2.2)
theorem setSeg_append {α : Type} : ∀ (x : List α) (o : Nat) (ys l : List α), setSeg (x.length + o) ys (x ++ l) = (setSeg o ys l).map (x ++ ·)
  | [], o, ys, l => by simp
  | a :: x, o, ys, l => by
    have ih := setSeg_append x o ys l
    rw [show (a :: x).length + o = (x.length + o) + 1 by simp; omega]
    cases ys <;> simp only [setSeg, List.cons_append, ih] <;> cases setSeg o _ l <;> rfl
theorem setSeg_head {α : Type} : ∀ (ys x l : List α), ys.length = x.length → setSeg 0 ys (x ++ l) = some (ys ++ l)
  | [], [], l, _ => by simp [setSeg]
  | y :: ys, a :: x, l, h => by simp [setSeg, setSeg_head ys x l (by simpa using h)]
  | [], _ :: _, _, h => by simp at h
  | _ :: _, [], _, h => by simp at h
theorem ofUs_append : ∀ a b : List U, ofUs (a ++ b) = ofUs a ++ ofUs b
  | [], _ => rfl
  | x :: a, b => by simp [ofUs, ofUs_append a b]
theorem setRow_flat {z : Nat} {us : List U} (hu : us.length = z) : ∀ (i : Nat) (rows rows' : List (List U)), (∀ r ∈ rows, r.length = z) → setRow? i us rows = some rows' →
    setSeg (i * z) (ofUs us) (ofUs rows.flatten) = some (ofUs rows'.flatten) ∧ (∀ r ∈ rows', r.length = z) ∧ rows'.length = rows.length
  | 0, [], rows', _, h => by simp [setRow?] at h
  | i + 1, [], rows', _, h => by simp [setRow?] at h
  | 0, x :: l, rows', hr, h => by
    simp [setRow?] at h
    subst h
    refine ⟨?_, ?_, rfl⟩
    · simp only [List.flatten_cons, ofUs_append, Nat.zero_mul]
      exact setSeg_head _ _ _ (by rw [ofUs_length, ofUs_length, hu, hr x (by simp)])
    · intro r hr'
      rcases List.mem_cons.1 hr' with rfl | hr'
      · exact hu
      · exact hr r (by simp [hr'])
  | i + 1, x :: l, rows', hr, h => by
    simp only [setRow?] at h
    split at h
    · rename_i q hq
      cases h
      obtain ⟨h1, h2, h3⟩ := setRow_flat hu i l q (fun r hr' => hr r (by simp [hr'])) hq
      refine ⟨?_, ?_, by simp [h3]⟩
      · simp only [List.flatten_cons, ofUs_append]
        have hx : (ofUs x).length = z := by rw [ofUs_length, hr x (by simp)]
        rw [show (i + 1) * z = (ofUs x).length + i * z by rw [hx, Nat.succ_mul]; omega, setSeg_append, h1]
        rfl
      · intro r hr'
        rcases List.mem_cons.1 hr' with rfl | hr'
        · exact hr _ (by simp)
        · exact h2 r hr'
    · cases h
theorem fillR_flat {val : Operand → V} {z : Nat} : ∀ (ps : List (Nat × Operand)) (rows rows' : List (List U)), (∀ r ∈ rows, r.length = z) → fillR val z rows ps = some rows' →
    fillV val (ofUs rows.flatten) (ps.map fun p => (p.1 * z, z, p.2)) = some (ofUs rows'.flatten) ∧ (∀ r ∈ rows', r.length = z) ∧ rows'.length = rows.length
  | [], rows, rows', hr, h => by simp [fillR] at h; subst h; exact ⟨rfl, hr, rfl⟩
  | (i, x) :: ps, rows, rows', hr, h => by
    simp only [fillR] at h
    split at h
    · rename_i cs hcs
      split at h
      · rename_i hl
        split at h
        · rename_i us hus
          split at h
          · rename_i q hq
            have hlen := lenIs_spec _ _ hl
            have hcu := toU_spec _ _ hus
            have hu : us.length = z := by rw [← hlen, hcu, ofUs_length]
            obtain ⟨h1, h2, h3⟩ := setRow_flat hu i rows q hr hq
            obtain ⟨k1, k2, k3⟩ := fillR_flat ps q rows' h2 h
            refine ⟨?_, k2, by rw [k3, h3]⟩
            simp only [List.map_cons, fillV, hcs, hl, if_true]
            rw [hcu, h1]
            exact k1
          · cases h
        · cases h
      · cases h
    · cases h
theorem listRow_get : ∀ (rows : List (List U)) (i : Nat) (r : List U), rows[i]? = some r → listRow rows i = r
  | [], i, r, h => by simp at h
  | x :: l, 0, r, h => by simp at h; simp [listRow, h]
  | x :: l, i + 1, r, h => by simpa [listRow] using listRow_get l i r (by simpa using h)
theorem flatten_get {z : Nat} : ∀ (rows : List (List U)), (∀ r ∈ rows, r.length = z) → ∀ (i j : Nat) (x : U), i < rows.length → (listRow rows i)[j]? = some x → rows.flatten[i * z + j]? = some x
  | [], _, i, j, x, hi, h => by simp at hi
  | r :: l, hr, 0, j, x, hi, h => by
    simp only [listRow] at h
    simp only [List.flatten_cons, Nat.zero_mul, Nat.zero_add]
    rw [List.getElem?_append_left (lt_of_get h), h]
  | r :: l, hr, i + 1, j, x, hi, h => by
    have ih := flatten_get l (fun q hq => hr q (by simp [hq])) i j x (by simpa using hi) (by simpa [listRow] using h)
    have hl : r.length = z := hr r (by simp)
    simp only [List.flatten_cons]
    rw [List.getElem?_append_right (by rw [hl, Nat.succ_mul]; omega), hl, Nat.succ_mul, show i * z + z + j - z = i * z + j by omega, ih]
theorem rowsV_spec (z : Nat) (us : List U) : ∀ n, (∀ r ∈ rowsV z n us, r = us) ∧ (rowsV z n us).length = n ∧ ∀ i, i < n → (rowsV z n us)[i]? = some us
  | 0 => by simp [rowsV]
  | n + 1 => by
    obtain ⟨h1, h2, h3⟩ := rowsV_spec z us n
    refine ⟨?_, by simp [rowsV, h2], fun i hi => ?_⟩
    · intro r hr
      rcases List.mem_cons.1 hr with rfl | hr
      · rfl
      · exact h1 r hr
    · cases i with
      | zero => rfl
      | succ i => simpa [rowsV] using h3 i (by omega)
theorem listRow_mem : ∀ (rows : List (List U)) (i : Nat), i < rows.length → listRow rows i ∈ rows
  | [], i, h => by simp at h
  | r :: l, 0, _ => by simp [listRow]
  | r :: l, i + 1, h => by simp [listRow]; exact .inr (listRow_mem l i (by simpa using h))
theorem flatten_length {z : Nat} : ∀ rows : List (List U), (∀ r ∈ rows, r.length = z) → rows.flatten.length = rows.length * z
  | [], _ => by simp
  | r :: l, h => by simp only [List.flatten_cons, List.length_append, h r (by simp), flatten_length l (fun q hq => h q (by simp [hq])), List.length_cons, Nat.succ_mul]; omega
theorem flatten_row {z : Nat} : ∀ (rows : List (List U)), (∀ r ∈ rows, r.length = z) → ∀ k, k < rows.length * z → 0 < z → rows.flatten[k]? = (listRow rows (k / z))[k % z]? := fun rows hr k hk hz => by
  have hi : k / z < rows.length := (Nat.div_lt_iff_lt_mul hz).2 hk
  have hj := Nat.mod_lt k hz
  obtain ⟨x, hx⟩ := get_of_lt (l := listRow rows (k / z)) (j := k % z) (by rw [hr _ (listRow_mem rows _ hi)]; exact hj)
  rw [hx]
  have := flatten_get rows hr (k / z) (k % z) x hi hx
  rwa [show k / z * z + k % z = k by rw [Nat.mul_comm]; exact Nat.div_add_mod k z] at this
theorem bsl_ok (hH : HOK w O ρ H) {s : Nat} (hs : ρ s = .unset) {t e : TypeId} {te : TI} (ht : P.underlying t = some (.slice e)) (he : TIOK P e te) {n : Nat} (hz : 0 < te.sz) (hn0 : 0 < n) (hsm : n * te.sz ≤ 16777216) {val : Operand → V} {ev : Operand → Value}
    {us : List U} (hus : toU (ofCells te.zero) = some us) {ps : Array (Nat × Operand)} (hv : ∀ p ∈ ps.toList, RV w O ρ (val p.2) (ev p.2)) {rows : List (List U)} (hf : fillR val te.sz (rowsV te.sz n us) ps.toList = some rows) :
    StepOK P w O ρ H s (do pure (.value (← Instr.buildSlice t n (ps.map fun (i, x) => (i, ev x))))) (.sr s te.sz 0 n) [(s, .arr e te.sz n (listRow rows))] := by
  obtain ⟨ie, z, hie, hisz, hiby, hiz, hzc⟩ := he.zeroCells
  have hlen : us.length = te.sz := by rw [← ofUs_length, ← toU_spec _ _ hus, ofCells_length, he.len]
  obtain ⟨v1, v2, v3⟩ := rowsV_spec te.sz us n
  have hrl : ∀ r ∈ rowsV te.sz n us, r.length = te.sz := fun r hr => by rw [v1 r hr, hlen]
  obtain ⟨f1, f2, f3⟩ := fillR_flat _ _ _ hrl hf
  have hzs : z.cells.size = te.sz := by rw [← Array.length_toList, hzc, he.len]
  have hrel0 : CellsRel w O ρ (ofUs (rowsV te.sz n us).flatten) ((Array.range (n * te.sz)).map (z.cells[· % z.cells.size]!)) := by
    refine ⟨by rw [ofUs_length, flatten_length _ hrl, v2]; simp, fun j y hy => ?_⟩
    obtain ⟨x, hx, rfl⟩ := ofUs_get _ j y hy
    have hj : j < n * te.sz := by have := lt_of_get hx; rwa [flatten_length _ hrl, v2] at this
    rw [flatten_row _ hrl j (by rw [v2]; exact hj) hz, listRow_get _ _ _ (v3 (j / te.sz) ((Nat.div_lt_iff_lt_mul hz).2 hj))] at hx
    have hcell : (ofCells te.zero)[j % te.sz]? = some (.u x) := (toU_get hus).2 _ x hx
    obtain ⟨v, hv', hve⟩ := ofCells_get _ _ _ hcell
    rw [← hzc] at hv'
    have hjm : j % te.sz < z.cells.size := by rw [hzs]; exact Nat.mod_lt _ hz
    refine ⟨v, ?_, by rw [hve]; exact ofCell_any v⟩
    simp only [Array.getElem?_map, Array.getElem?_range, hj, if_true, Option.map_some, hzs]
    congr 1
    have : z.cells[j % te.sz]? = some v := by simpa using hv'
    rw [getElem!_pos z.cells _ (by omega)]
    rw [Array.getElem?_eq_getElem (by omega)] at this
    exact Option.some.inj this
  obtain ⟨cur, h1, h2⟩ := fill_ok (w := w) (O := O) (ρ := ρ) (place := fun i => some (i * ie.size, ie.size)) ps.toList _ hv (by simp [hisz]) (fun p hp => rfl) _ _ _ hrel0 f1
  have hrun := run_buildSlice (P := P) w t e n (ps.map fun (i, x) => (i, ev x)) cur ie z ht hie hiz (by rw [hisz]; omega) (by rw [hisz]; have := Nat.mul_pos hn0 hz; omega) (by rw [hisz, Array.toList_map] at *; exact h1)
  have hcs : cur.size = n * te.sz := by rw [h2.1, ofUs_length, flatten_length _ f2, f3, v2]
  have hk := keeps_alloc (w := w) (O := O) (.cells cur e)
  have hnm : n ≤ maxLen := by
    have : n ≤ n * te.sz := Nat.le_mul_of_pos_right _ hz
    unfold maxLen; omega
  have g1 := good_new hH hs (.cells cur e) n (.arr e te.sz n (listRow rows)) (.inr ⟨w.heap.size, n, cur, upd_same _ _ _, .inr rfl, heap_alloc_new w _, hcs, Nat.le_refl _, hnm, fun i hi => f2 _ (listRow_mem rows i (by rw [f3, v2]; exact hi)), fun i j x hi hx => by
    have hfl := flatten_get rows f2 i j x (by rw [f3, v2]; exact hi) hx
    have : (ofUs rows.flatten)[i * te.sz + j]? = some (.u x) := by
      clear hrun h1 h2 f1
      generalize rows.flatten = l at hfl ⊢
      generalize i * te.sz + j = k at hfl ⊢
      induction l generalizing k with
      | nil => simp at hfl
      | cons y l ih => cases k with
        | zero => simp at hfl; simp [ofUs, hfl]
        | succ k => simpa [ofUs] using ih k (by simpa using hfl)
    obtain ⟨u, hu, hr⟩ := h2.2 _ _ this
    exact ⟨u, hu, (hr.toRU).mono hk⟩⟩)
  exact ⟨_, _, _, _, _, by simp [hrun], .inl rfl, .srP s te.sz n w.heap.size n (upd_same _ _ _) (Nat.le_refl _), g1, fun b hb => upd_other _ _ _ (nmem hb)⟩
theorem bslF_ok (hH : HOK w O ρ H) {s : Nat} (hs : ρ s = .unset) {t e : TypeId} {te : TI} (ht : P.underlying t = some (.slice e)) (he : TIOK P e te) {n : Nat} (hz : 0 < te.sz) (hn0 : 0 < n) (hsm : n * te.sz ≤ 16777216) {val : Operand → V} {ev : Operand → Value}
    {us : List U} (hus : toU (ofCells te.zero) = some us) {ps : Array (Nat × Operand)} (hv : ∀ p ∈ ps.toList, RV w O ρ (val p.2) (ev p.2)) {rows : List (List U)} (hf : fillR val te.sz (rowsV te.sz n us) ps.toList = some rows) :
    StepOK P w O ρ H s (do pure (.value (← Instr.buildSlice t n (ps.map fun (i, x) => (i, ev x))))) (.u (.sv (.new e) te.sz n (listRow rows))) [] := by
  obtain ⟨ie, z, hie, hisz, hiby, hiz, hzc⟩ := he.zeroCells
  have hlen : us.length = te.sz := by rw [← ofUs_length, ← toU_spec _ _ hus, ofCells_length, he.len]
  obtain ⟨v1, v2, v3⟩ := rowsV_spec te.sz us n
  have hrl : ∀ r ∈ rowsV te.sz n us, r.length = te.sz := fun r hr => by rw [v1 r hr, hlen]
  obtain ⟨f1, f2, f3⟩ := fillR_flat _ _ _ hrl hf
  have hzs : z.cells.size = te.sz := by rw [← Array.length_toList, hzc, he.len]
  have hrel0 : CellsRel w O ρ (ofUs (rowsV te.sz n us).flatten) ((Array.range (n * te.sz)).map (z.cells[· % z.cells.size]!)) := by
    refine ⟨by rw [ofUs_length, flatten_length _ hrl, v2]; simp, fun j y hy => ?_⟩
    obtain ⟨x, hx, rfl⟩ := ofUs_get _ j y hy
    have hj : j < n * te.sz := by have := lt_of_get hx; rwa [flatten_length _ hrl, v2] at this
    rw [flatten_row _ hrl j (by rw [v2]; exact hj) hz, listRow_get _ _ _ (v3 (j / te.sz) ((Nat.div_lt_iff_lt_mul hz).2 hj))] at hx
    have hcell : (ofCells te.zero)[j % te.sz]? = some (.u x) := (toU_get hus).2 _ x hx
    obtain ⟨v, hv', hve⟩ := ofCells_get _ _ _ hcell
    rw [← hzc] at hv'
    have hjm : j % te.sz < z.cells.size := by rw [hzs]; exact Nat.mod_lt _ hz
    refine ⟨v, ?_, by rw [hve]; exact ofCell_any v⟩
    simp only [Array.getElem?_map, Array.getElem?_range, hj, if_true, Option.map_some, hzs]
    congr 1
    have : z.cells[j % te.sz]? = some v := by simpa using hv'
    rw [getElem!_pos z.cells _ (by omega)]
    rw [Array.getElem?_eq_getElem (by omega)] at this
    exact Option.some.inj this
  obtain ⟨cur, h1, h2⟩ := fill_ok (w := w) (O := O) (ρ := ρ) (place := fun i => some (i * ie.size, ie.size)) ps.toList _ hv (by simp [hisz]) (fun p hp => rfl) _ _ _ hrel0 f1
  have hrun := run_buildSlice (P := P) w t e n (ps.map fun (i, x) => (i, ev x)) cur ie z ht hie hiz (by rw [hisz]; omega) (by rw [hisz]; have := Nat.mul_pos hn0 hz; omega) (by rw [hisz, Array.toList_map] at *; exact h1)
  have hcs : cur.size = n * te.sz := by rw [h2.1, ofUs_length, flatten_length _ f2, f3, v2]
  have hk : Keeps w O (w.alloc (.cells cur e)) O := ⟨by simp, fun k hk ho => ⟨heap_alloc_old w _ hk, ho⟩, rfl⟩
  have hgood : Good w O ρ H (w.alloc (.cells cur e)) O ρ H := ⟨⟨fun b y hy => (hH.blk b y hy).mono hk (.refl _) fun g c hg hl => by
      have := img_own hH ⟨b, y, c, hy, hl, hg⟩
      exact ⟨heap_alloc_old w _ (hH.lt g this), this⟩, hH.inj, fun k hk => Nat.lt_of_lt_of_le (hH.lt k hk) (by simp), fun k hk => ⟨Nat.lt_of_lt_of_le (hH.olt k hk).1 (by simp), (hH.olt k hk).2⟩⟩,
    ⟨rfl, rfl, rfl, by simp, fun k hk _ => heap_alloc_old w _ hk⟩, .refl _, fun _ h => .inl h, fun _ h _ => h, fun _ h => .inl h, rfl⟩
  have hget : ∀ (i j : Nat) (x : U), i < n → (listRow rows i)[j]? = some x → ∃ u, cur[i * te.sz + j]? = some u ∧ RU (w.alloc (.cells cur e)) O x u := fun i j x hi hx => by
    have hfl := flatten_get rows f2 i j x (by rw [f3, v2]; exact hi) hx
    have : (ofUs rows.flatten)[i * te.sz + j]? = some (.u x) := by
      clear hrun h1 h2 f1
      generalize rows.flatten = l at hfl ⊢
      generalize i * te.sz + j = k at hfl ⊢
      induction l generalizing k with
      | nil => simp at hfl
      | cons y l ih => cases k with
        | zero => simp at hfl; simp [ofUs, hfl]
        | succ k => simpa [ofUs] using ih k (by simpa using hfl)
    obtain ⟨u, hu, hr⟩ := h2.2 _ _ this
    exact ⟨u, hu, (hr.toRU).mono hk⟩
  have hlen : ∀ i, i < n → (listRow rows i).length = te.sz := fun i hi => f2 _ (listRow_mem rows i (by rw [f3, v2]; exact hi))
  refine ⟨_, _, _, _, _, by simp [hrun], .inl rfl, .u _ _ (.sv (.new e) te.sz n n (listRow rows) _ (fun i j => cur.getD (i * te.sz + j) undef) (Nat.le_refl _) (.inr ⟨⟨w.heap.size, 0, none⟩, rfl, ⟨fun ho => ?_, fun ho => ?_, cur, heap_alloc_new w _⟩, fun i j hi hj => ?_⟩) hlen fun i j x hi hx => ?_), hgood, fun _ _ => rfl⟩
  · have := hH.lt _ ho; simp at this
  · have := (hH.olt _ ho).1; simp at this
  · obtain ⟨x, hx⟩ := get_of_lt (l := listRow rows i) (j := j) (by rw [hlen i hi]; exact hj)
    obtain ⟨u, hu, _⟩ := hget i j x hi hx
    rw [add_lit, Nat.zero_add]
    have e1 : (w.alloc (.cells cur e)).cell? ⟨w.heap.size, i * te.sz + j, none⟩ = cur[i * te.sz + j]? := by unfold World.cell?; rw [heap_alloc_new]; rfl
    rw [e1, hu]
    simp only [Array.getD_eq_getD_getElem?, hu, Option.getD_some]
  · obtain ⟨u, hu, hr⟩ := hget i j x hi hx
    simp only [Array.getD_eq_getD_getElem?, hu, Option.getD_some]
    exact hr
end
end Am
end
section
open Go Go.Lib
set_option linter.unusedVariables false
set_option linter.unusedSimpArgs false
namespace Am
section
variable {P : Program} {w : World} {O : Own} {ρ : Place} {H : Heap}
theorem RV.scv {v v' : Value} (h : RV w O ρ (.u (.sc v)) v') : v' = v := by cases h with | u _ _ h => cases h; rfl
theorem scI_ok (k : IntKind) (n : Int) : RV w O ρ (scI k n) (.int k n) := .u _ _ (.sc _ rfl)
theorem scB_ok (b : Bool) : RV w O ρ (scB b) (.bool b) := .u _ _ (.sc _ rfl)
theorem scS_ok (s : ByteArray) : RV w O ρ (scS s) (.string s) := .u _ _ (.sc _ rfl)
theorem kindEq_spec {k k' : IntKind} (h : kindEq k k' = true) : k = k' := by cases k <;> cases k' <;> first | rfl | (simp [kindEq] at h)
theorem leafEq_ok {q : Nat} {x y : V} {a b : Value} {r : Bool} (h : leafEq Env.std q x y = some r) (hx : RV w O ρ x a) (hy : RV w O ρ y b) :
    (q = 0 ∧ ∃ k m n, a = .int k m ∧ b = .int k n ∧ r = (m == n)) ∨ (q = 1 ∧ ∃ s t, a = .string s ∧ b = .string t ∧ r = (s.toList == t.toList)) ∨ (q = 2 ∧ ∃ s t, a = .bool s ∧ b = .bool t ∧ r = (s == t)) := by
  unfold leafEq at h
  split at h
  · split at h
    · rename_i hk
      have := kindEq_spec hk
      subst this
      cases h
      exact .inl ⟨rfl, _, _, _, hx.scv, hy.scv, rfl⟩
    · cases h
  · cases h; exact .inr (.inl ⟨rfl, _, _, hx.scv, hy.scv, rfl⟩)
  · cases h; exact .inr (.inr ⟨rfl, _, _, hx.scv, hy.scv, rfl⟩)
  · cases h
inductive Leaves : List Nat → List Value → List Value → Bool → Prop
  | nil : Leaves [] [] [] true
  | cons {q : Nat} {qs : List Nat} {a b : Value} {l m : List Value} {r s : Bool} (h : (q = 0 ∧ ∃ k m n, a = .int k m ∧ b = .int k n ∧ r = (m == n)) ∨ (q = 1 ∧ ∃ s t, a = .string s ∧ b = .string t ∧ r = (s.toList == t.toList)) ∨ (q = 2 ∧ ∃ s t, a = .bool s ∧ b = .bool t ∧ r = (s == t)))
      (h' : Leaves qs l m s) : Leaves (q :: qs) (a :: l) (b :: m) (r && s)
theorem allEq_ok : ∀ (q : List Nat) (cs ds : List V) (r : Bool) (l m : List Value), allEq Env.std q cs ds = some r → l.length = cs.length → m.length = ds.length →
    (∀ (j : Nat) (y : V), cs[j]? = some y → ∃ u, l[j]? = some u ∧ RV w O ρ y u) → (∀ (j : Nat) (y : V), ds[j]? = some y → ∃ u, m[j]? = some u ∧ RV w O ρ y u) → Leaves q l m r := by
  intro q
  induction q with
  | nil =>
    intro cs ds r l m h hl hm hc hd
    unfold allEq at h
    split at h
    all_goals first | (rename_i heq; cases heq; done) | skip
    · cases h
      match l, m, hl, hm with
      | [], [], _, _ => exact .nil
    · cases h
  | cons k q ih =>
    intro cs ds r l m h hl hm hc hd
    match cs, ds with
    | [], _ => cases q <;> cases ds <;> simp [allEq] at h
    | _ :: cs, [] => cases q <;> cases cs <;> simp [allEq] at h
    | x :: cs, y :: ds =>
      match l, m, hl, hm with
      | a :: l, b :: m, hl, hm =>
        obtain ⟨u, hu, hx⟩ := hc 0 x rfl
        obtain ⟨u', hu', hy⟩ := hd 0 y rfl
        simp at hu hu'
        subst hu hu'
        have hc' : ∀ (j : Nat) (y : V), cs[j]? = some y → ∃ u, l[j]? = some u ∧ RV w O ρ y u := fun j z hz => by simpa using hc (j + 1) z (by simpa using hz)
        have hd' : ∀ (j : Nat) (y : V), ds[j]? = some y → ∃ u, m[j]? = some u ∧ RV w O ρ y u := fun j z hz => by simpa using hd (j + 1) z (by simpa using hz)
        by_cases hone : q = [] ∧ cs = [] ∧ ds = []
        · obtain ⟨rfl, rfl, rfl⟩ := hone
          have h' : leafEq Env.std k x y = some r := h
          match l, m, hl, hm with
          | [], [], _, _ =>
            have := Leaves.cons (leafEq_ok h' hx hy) .nil
            simpa using this
        · have h' : (match leafEq Env.std k x y, allEq Env.std q cs ds with | some a, some b => some (Env.std.an a b) | _, _ => none) = some r := by
            unfold allEq at h
            split at h
            · rename_i h1 h2 h3; cases h1
            · rename_i h1 h2 h3; cases h1; cases h2; cases h3; exact absurd ⟨rfl, rfl, rfl⟩ hone
            · rename_i h1 h2 h3; cases h1; cases h2; cases h3; exact h
            · cases h
          split at h'
          · rename_i a' b' h1 h2
            cases h'
            exact .cons (leafEq_ok h1 hx hy) (ih cs ds b' l m h2 (by simpa using hl) (by simpa using hm) hc' hd')
          · cases h'
theorem Leaves.length {q : List Nat} {l m : List Value} {r : Bool} (h : Leaves q l m r) : l.length = q.length ∧ m.length = q.length := by
  induction h with
  | nil => simp
  | cons _ _ ih => simp [ih]
theorem Leaves.split : ∀ (q1 q2 : List Nat) (l m : List Value) (r : Bool), Leaves (q1 ++ q2) l m r → ∃ l1 l2 m1 m2 r1 r2, l = l1 ++ l2 ∧ m = m1 ++ m2 ∧ r = (r1 && r2) ∧ Leaves q1 l1 m1 r1 ∧ Leaves q2 l2 m2 r2
  | [], q2, l, m, r, h => ⟨[], l, [], m, true, r, rfl, rfl, by simp, .nil, h⟩
  | k :: q1, q2, l, m, r, h => by
    cases h with
    | cons h h' =>
      obtain ⟨l1, l2, m1, m2, r1, r2, e1, e2, e3, h1, h2⟩ := Leaves.split q1 q2 _ _ _ h'
      exact ⟨_ :: l1, l2, _ :: m1, m2, _, r2, by simp [e1], by simp [e2], by rw [e3, Bool.and_assoc], .cons h h1, h2⟩
theorem equal_ok {tab : Tab} (hT : TabOK P tab) : ∀ (d : Nat) (t : Nat) (q : List Nat), shape tab d t = some q → ∀ (D : Nat), d ≤ D →
    (∀ ti, tab t = some ti → isA ti.kd = true → ∀ (l m : List Value) (r : Bool), Leaves q l m r → (Op.equalIn D t (.agg l.toArray) (.agg m.toArray)).run P w = .ok r w) ∧
    (∀ ti, tab t = some ti → isA ti.kd = false → ∀ (a b : Value) (r : Bool), Leaves q [a] [b] r → (Op.equalIn D t a b).run P w = .ok r w) := by
  intro d
  induction d with
  | zero => intro t q h; simp [shape] at h
  | succ d ih =>
    intro t q h D hD
    obtain ⟨D, rfl⟩ : ∃ D', D = D' + 1 := ⟨D - 1, by omega⟩
    simp only [shape] at h
    split at h
    · rename_i ti hti
      have hk := (hT t ti hti).kd
      split at h
      · rename_i k hkd
        rw [hkd] at hk
        cases h
        refine ⟨fun ti' h' ha => by rw [hti] at h'; cases h'; rw [hkd] at ha; simp [isA] at ha, fun _ _ _ a b r hl => ?_⟩
        cases hl with
        | cons h1 h2 =>
          cases h2
          rcases h1 with ⟨_, k', m, n, rfl, rfl, rfl⟩ | ⟨h0, _⟩ | ⟨h0, _⟩ <;> first | omega | skip
          simpa using run_equalIn_int w D t k' k m n hk
      · rename_i hkd
        rw [hkd] at hk
        cases h
        refine ⟨fun ti' h' ha => by rw [hti] at h'; cases h'; rw [hkd] at ha; simp [isA] at ha, fun _ _ _ a b r hl => ?_⟩
        cases hl with
        | cons h1 h2 =>
          cases h2
          rcases h1 with ⟨h0, _⟩ | ⟨_, s, t', rfl, rfl, rfl⟩ | ⟨h0, _⟩ <;> first | omega | skip
          simpa using run_equalIn_string w D t s t' hk
      · rename_i hkd
        rw [hkd] at hk
        cases h
        refine ⟨fun ti' h' ha => by rw [hti] at h'; cases h'; rw [hkd] at ha; simp [isA] at ha, fun _ _ _ a b r hl => ?_⟩
        cases hl with
        | cons h1 h2 =>
          cases h2
          rcases h1 with ⟨h0, _⟩ | ⟨h0, _⟩ | ⟨_, s, t', rfl, rfl, rfl⟩ <;> first | omega | skip
          simpa using run_equalIn_bool w D t s t' hk
      · rename_i fs hkd
        split at h
        · rename_i heq
          split at h
          rotate_left
          · cases h
          rename_i q' hsh
          split at h
          rotate_left
          · cases h
          rename_i hlq
          cases h
          rw [hkd] at hk
          obtain ⟨fl, hfl, hfs, hnames⟩ := hk
          have hfo : P.fieldsOf t = fl := by simp [Program.fieldsOf, hfl]
          refine ⟨fun ti' h' ha l m r hl => ?_, fun ti' h' ha => by rw [hti] at h'; cases h'; rw [hkd] at ha; simp [isA] at ha⟩
          rw [run_equalIn_struct w D t _ _ (by rw [hfo]; exact hfl) ((hT t ti hti).eq heq).2, hfo]
          have key : ∀ (fl : List Field) (o : Nat) (q : List Nat), shapes (shape tab d) o (fl.map fun f => (f.offset, f.type)) = some q → (fl.all fun f => f.name != "_") = true →
              ∀ (l0 l m0 m : List Value) (r : Bool), l0.length = o → m0.length = o → Leaves q l m r → (Op.eqFields D (l0 ++ l).toArray (m0 ++ m).toArray fl).run P w = .ok r w := by
            intro fl
            induction fl with
            | nil =>
              intro o q h _ l0 l m0 m r _ _ hl
              simp [shapes] at h
              subst h
              cases hl
              simp [Op.eqFields]
            | cons f fl ihf =>
              intro o q h hn l0 l m0 m r h1 h2 hl
              simp only [List.map_cons, shapes] at h
              split at h
              · rename_i hoff
                split at h
                · rename_i q1 hq1
                  split at h
                  · rename_i q2 hq2
                    cases h
                    simp only [List.all_cons, Bool.and_eq_true, bne_iff_ne, ne_eq] at hn
                    obtain ⟨l1, l2, m1, m2, r1, r2, e1, e2, e3, k1, k2⟩ := Leaves.split q1 q2 _ _ _ hl
                    subst e1 e2 e3
                    obtain ⟨n1, n2⟩ := k1.length
                    have rest := ihf (o + q1.length) q2 hq2 hn.2 (l0 ++ l1) l2 (m0 ++ m1) m2 r2 (by simp [h1, n1]) (by simp [h2, n2]) k2
                    obtain ⟨tf, htf⟩ : ∃ tf, tab f.type = some tf := by
                      cases d with
                      | zero => simp [shape] at hq1
                      | succ d => simp only [shape] at hq1; split at hq1 <;> first | (rename_i tf htf; exact ⟨tf, htf⟩) | cases hq1
                    have hTf := hT _ _ htf
                    obtain ⟨i1, i2⟩ := ih f.type q1 hq1 D (by omega)
                    have hsz : tf.sz = q1.length ∨ isA tf.kd = true := by
                      cases hka : isA tf.kd with
                      | true => exact .inr rfl
                      | false =>
                        refine .inl ?_
                        rw [hTf.agg hka]
                        cases d with
                        | zero => simp [shape] at hq1
                        | succ d =>
                          simp only [shape, htf] at hq1
                          cases hkd' : tf.kd <;> simp [hkd', isA] at hq1 hka ⊢ <;> (subst hq1; rfl)
                    have hpart : ∀ (pre xs post : List Value), pre.length = o → xs.length = q1.length → (isA tf.kd = true → tf.sz = q1.length) →
                        (isA tf.kd = true → (part f.type (pre ++ (xs ++ post)).toArray f.offset).run P w = .ok (.agg xs.toArray) w) ∧
                        (isA tf.kd = false → ∃ u, xs = [u] ∧ (part f.type (pre ++ (xs ++ post)).toArray f.offset).run P w = .ok u w) := by
                      intro pre xs post hp hx hs
                      constructor
                      · intro ha
                        have e : ((pre ++ (xs ++ post)).toArray.extract f.offset (f.offset + tf.sz)) = xs.toArray := by
                          rw [hoff, hs ha, ← hp, ← hx]
                          apply Array.ext'
                          simp
                        simp [part, hTf.run_agg w, ha, hTf.run_size w]
                        simpa using e
                      · intro ha
                        have h1 : xs.length = 1 := by rcases hsz with h' | h'; rw [hx, ← h', hTf.agg ha]; rw [ha] at h'; cases h'
                        match xs, h1 with
                        | [u], _ =>
                          refine ⟨u, rfl, ?_⟩
                          have : (pre ++ ([u] ++ post)).toArray[f.offset]? = some u := by
                            rw [hoff, ← hp]; simp
                          simp only [part, Sem.run_bind, hTf.run_agg w, ha, Result.andThen_ok, Bool.false_eq_true, if_false, this, Sem.run_pure]
                    have hszA : isA tf.kd = true → tf.sz = q1.length := by
                      intro ha
                      cases d with
                      | zero => simp [shape] at hq1
                      | succ d =>
                        simp only [shape, htf] at hq1
                        cases hkd' : tf.kd <;> simp only [hkd'] at hq1 ha <;> first | (simp [isA] at ha; done) | (cases hq1; done) | skip
                        split at hq1
                        · split at hq1
                          · split at hq1
                            · rename_i hl'
                              cases hq1
                              exact (lenIs_spec _ _ hl').symm
                            · cases hq1
                          · cases hq1
                        · cases hq1
                    have e1 : (l0 ++ (l1 ++ l2)) = (l0 ++ l1) ++ l2 := (List.append_assoc ..).symm
                    have e2 : (m0 ++ (m1 ++ m2)) = (m0 ++ m1) ++ m2 := (List.append_assoc ..).symm
                    cases ha : isA tf.kd with
                    | true =>
                      have p1 := (hpart l0 l1 l2 h1 n1 hszA).1 ha
                      have p2 := (hpart m0 m1 m2 h2 n2 hszA).1 ha
                      simp only [Op.eqFields, if_pos hn.1, Sem.run_bind, p1, p2, Result.andThen_ok, i1 tf htf ha l1 m1 r1 k1]
                      cases r1
                      · simp
                      · simp only [Bool.not_true, Bool.false_eq_true, if_false, Bool.true_and]
                        rw [e1, e2]
                        exact rest
                    | false =>
                      obtain ⟨u, hu, p1⟩ := (hpart l0 l1 l2 h1 n1 hszA).2 ha
                      obtain ⟨u', hu', p2⟩ := (hpart m0 m1 m2 h2 n2 hszA).2 ha
                      have p3 := i2 tf htf ha u u' r1 (by rw [hu, hu'] at k1; exact k1)
                      simp only [Op.eqFields, if_pos hn.1, Sem.run_bind, p1, p2, Result.andThen_ok, p3]
                      cases r1
                      · simp
                      · simp only [Bool.not_true, Bool.false_eq_true, if_false, Bool.true_and]
                        rw [e1, e2]
                        exact rest
                  · cases h
                · cases h
              · cases h
          have := key fl.toList 0 q (by rw [hfs]; exact hsh) hnames [] l [] m r rfl rfl hl
          simpa using this
        · cases h
      · cases h
    · cases h
end
end Am
end
section
open Go Go.Lib
set_option linter.unusedVariables false
set_option linter.unusedSimpArgs false
namespace Am
section
variable {P : Program} {w : World} {O : Own} {ρ : Place} {H : Heap}
theorem guard_plain (op : BinOp) (t : TypeId) (x y : Operand) (a b : Value) (h : ∀ cs, a ≠ .agg cs) (h' : a ≠ .nilIface) : (eqGuard op t x y a b).run P w = .ok () w := by
  unfold eqGuard
  by_cases hop : (!(match op with | .eql | .neq => true | _ => false)) = true
  · cases op <;> simp at hop ⊢
  · cases a <;> first | exact absurd rfl (h _) | exact absurd rfl h' | (cases op <;> simp at hop ⊢ <;> cases b <;> rfl) | (cases op <;> simp at hop ⊢)
theorem bin_int_ok {s : Nat} (hH : HOK w O ρ H) {op : BinOp} {t : TypeId} {x y : V} {xo yo : Operand} {a b : Value} {r : V} {l : List Prop} (h : binV Env.std op false [0] x y = some (r, l)) (hl : ∀ p ∈ l, p) (hx : RV w O ρ x a) (hy : RV w O ρ y b) :
    StepOK P w O ρ H s (do pure (.value (← (do eqGuard op t xo yo a b; binOp op t a b)))) r [] := by
  unfold binV at h
  simp only [Bool.false_eq_true, if_false] at h
  split at h
  · rename_i k m k' n heq
    cases hx.scv
    cases hy.scv
    have hg := guard_plain (P := P) (w := w) op t xo yo (.int k m) (.int k' n) (by simp) (by simp)
    split at h
    · rename_i hs
      cases h
      have h0 : 0 ≤ n := hl _ (by simp)
      refine .same hH (v' := .int k (Env.std.ib op k m n)) ?_ (scI_ok _ _)
      cases op <;> simp [isShift] at hs <;> simp [hg, binOp, Op.shift, Env.std, show ¬ n < 0 by omega]
    · rename_i hs
      split at h
      · rename_i hk
        have := kindEq_spec hk
        subst this
        split at h
        · rename_i hd
          cases h
          have h0 : n ≠ 0 := hl _ (by simp)
          refine .same hH (v' := .int k (Env.std.ib op k m n)) ?_ (scI_ok _ _)
          cases op <;> simp [isDiv] at hd <;> simp [hg, binOp, Op.intDiv, Env.std, h0]
        · rename_i hd
          split at h
          · rename_i ha
            cases h
            refine .same hH (v' := .int k (Env.std.ib op k m n)) ?_ (scI_ok _ _)
            cases op <;> simp [isDiv, isArith, isShift] at hd ha hs <;> simp [hg, binOp, Op.intArith, Op.intBits, Env.std]
          · rename_i ha
            cases h
            refine .same hH (v' := .bool (Env.std.ic op m n)) ?_ (scB_ok _)
            cases op <;> simp [isDiv, isArith, isShift] at hd ha hs <;> simp [hg, binOp, Op.intCmp, Env.std]
      · cases h
  all_goals first | (rename_i heq _ _; cases heq; done) | (rename_i heq; cases heq; done) | (cases h; done) | skip
theorem bin_str_ok {s : Nat} (hH : HOK w O ρ H) {op : BinOp} {t : TypeId} {x y : V} {xo yo : Operand} {a b : Value} {r : V} {l : List Prop} (h : binV Env.std op false [1] x y = some (r, l)) (hl : ∀ p ∈ l, p) (hx : RV w O ρ x a) (hy : RV w O ρ y b) :
    StepOK P w O ρ H s (do pure (.value (← (do eqGuard op t xo yo a b; binOp op t a b)))) r [] := by
  unfold binV at h
  simp only [Bool.false_eq_true, if_false] at h
  split at h
  all_goals first | (rename_i heq _ _; cases heq; done) | (rename_i heq; cases heq; done) | (cases h; done) | skip
  rename_i s u heq
  cases hx.scv
  cases hy.scv
  have hg := guard_plain (P := P) (w := w) op t xo yo (.string s) (.string u) (by simp) (by simp)
  split at h
  all_goals first | (cases h; done) | skip
  · cases h
    have h0 : (s.size : Int) + (u.size : Int) ≤ 9223372036854775807 := hl _ (.head _)
    refine .same hH (v' := .string (s ++ u)) ?_ (scS_ok _)
    have h1 : ¬ (((s.size + u.size : Nat) : Int) > IntKind.i64.max) := by
      have : IntKind.i64.max = 9223372036854775807 := by decide
      rw [this]; omega
    simp only [hg, binOp, Op.stringOp, Sem.run_bind, Result.andThen_ok, if_neg h1, Sem.run_pure]
  all_goals
    cases h
    refine .same hH ?_ (scB_ok _)
    simp [hg, binOp, Op.stringOp, Env.std]
theorem bin_bool_ok {s : Nat} (hH : HOK w O ρ H) {op : BinOp} {t : TypeId} (ht : P.underlying t = some .bool) {x y : V} {xo yo : Operand} {a b : Value} {r : V} {l : List Prop} (h : binV Env.std op false [2] x y = some (r, l)) (hx : RV w O ρ x a) (hy : RV w O ρ y b) :
    StepOK P w O ρ H s (do pure (.value (← (do eqGuard op t xo yo a b; binOp op t a b)))) r [] := by
  unfold binV at h
  simp only [Bool.false_eq_true, if_false] at h
  split at h
  all_goals first | (rename_i heq _ _; cases heq; done) | (rename_i heq; cases heq; done) | (cases h; done) | skip
  rename_i s u heq
  cases hx.scv
  cases hy.scv
  have hg := guard_plain (P := P) (w := w) op t xo yo (.bool s) (.bool u) (by simp) (by simp)
  have he := run_equalIn_bool w 9999 t s u ht
  split at h
  all_goals first | (cases h; done) | skip
  all_goals
    cases h
    refine .same hH ?_ (scB_ok _)
    simp [hg, binOp, Op.equal, Op.maxDepth, he, Env.std]
theorem bin_agg_ok {s : Nat} {tab : Tab} (hT : TabOK P tab) (hH : HOK w O ρ H) {op : BinOp} {t : TypeId} {ti : TI} (hti : tab t = some ti) {fs : List (Nat × Nat)} (hk : ti.kd = .struct fs) {q : List Nat} (hq : shape tab 20 t = some q) {x y : V} {xo yo : Operand} {a b : Value} {r : V} {l : List Prop}
    (h : binV Env.std op true q x y = some (r, l)) (hx : RV w O ρ x a) (hy : RV w O ρ y b) :
    StepOK P w O ρ H s (do pure (.value (← (do eqGuard op t xo yo a b; binOp op t a b)))) r [] := by
  have heq : ti.eq = true := by
    have hq : shape tab (19 + 1) t = some q := hq
    generalize 19 = d at hq
    simp only [shape, hti, hk] at hq
    split at hq
    · assumption
    · cases hq
  have hgt := ((hT t ti hti).eq heq).1
  unfold binV at h
  simp only [if_true] at h
  split at h
  · rename_i cs ds
    cases hx with
    | ag _ arr g hs ha hr =>
      cases hy with
      | ag _ brr g' hs' ha' hr' =>
        have hg : ∀ op', (eqGuard op' t xo yo (.agg arr) (.agg brr)).run P w = .ok () w := by
          intro op'
          cases op' <;> simp [eqGuard, hgt]
        have key : ∀ r', allEq Env.std q cs ds = some r' → (Op.equal t (.agg arr) (.agg brr)).run P w = .ok r' w := fun r' h' => by
          have hL := allEq_ok (w := w) (O := O) (ρ := ρ) q cs ds r' arr.toList brr.toList h' (by simp [hs]) (by simp [hs']) (fun j y hy => ⟨g j, by simpa using ha j (lt_of_get hy), hr j y hy⟩) (fun j y hy => ⟨g' j, by simpa using ha' j (lt_of_get hy), hr' j y hy⟩)
          have := (equal_ok (w := w) hT 20 t q hq Op.maxDepth (by decide)).1 ti hti (by rw [hk]; rfl) _ _ _ hL
          simpa [Op.equal] using this
        split at h
        all_goals first | (cases h; done) | skip
        all_goals
          split at h
          · rename_i r' h'
            cases h
            refine .same hH ?_ (scB_ok _)
            simp [hg, binOp, key r' h', Env.std]
          · cases h
  · cases h
end
end Am
end
section
open Go Go.Lib
set_option linter.unusedVariables false
set_option linter.unusedSimpArgs false
namespace Am
section
variable {P : Program} {w : World} {O : Own} {ρ : Place} {H : Heap}
theorem fieldsAt {tab : Tab} {t : TypeId} {ti : TI} (ht : TIOK P t ti) {fs : List (Nat × Nat)} (hk : ti.kd = .struct fs) {f off tf : Nat} (hf : fs[f]? = some (off, tf)) :
    ∃ (l : Array Field) (fd : Field), P.underlying t = some (.struct l) ∧ l[f]? = some fd ∧ fd.offset = off ∧ fd.type = tf := by
  have hkd := ht.kd
  rw [hk] at hkd
  obtain ⟨l, hl, hlf, _⟩ := hkd
  rw [← hlf] at hf
  simp only [List.getElem?_map, Array.getElem?_toList] at hf
  cases hq : l[f]? with
  | none => simp [hq] at hf
  | some fd => simp [hq] at hf; exact ⟨l, fd, hl, hq, hf.1, hf.2⟩
theorem fad_run {t : TypeId} {ti : TI} (ht : TIOK P t ti) {fs : List (Nat × Nat)} (hk : ti.kd = .struct fs) {f off tft : Nat} (hf : fs[f]? = some (off, tft)) {tf : TI} (htf : TIOK P tft tf) (hz : tf.sz ≠ 0) (a : Addr) :
    (Instr.fieldAt t (.pointer (some a)) f).run P w = .ok (.pointer (some (a.add off))) w := by
  obtain ⟨l, fd, hl, hlf, ho, hty⟩ := fieldsAt (tab := ⟨fun _ => none, [], fun _ => none, []⟩) ht hk hf
  have hs := htf.run_size w
  rw [← hty] at hs
  simp [Instr.fieldAt, run_underlying hl, hlf, Instr.sureAddr, fieldPlace, hs, hz, ho]
theorem fad_ok (hH : HOK w O ρ H) {t : TypeId} {ti : TI} (ht : TIOK P t ti) {fs : List (Nat × Nat)} (hk : ti.kd = .struct fs) {f off tft : Nat} (hf : fs[f]? = some (off, tft)) {tf : TI} (htf : TIOK P tft tf) (hz : tf.sz ≠ 0) {x r : V} {v : Value} (hx : RV w O ρ x v) {raw : Operand → V} {xo : Operand} (hraw : peel (raw xo) = x) {d : Delta} {l : List Prop} {s : Nat}
    (h : istep Env.std raw H s (.fad off xo) = some (r, d, l)) : StepOK P w O ρ H s (do pure (.value (← Instr.fieldAt t v f))) r d := by
  simp only [istep, hraw] at h
  cases hx with
  | pb b o g cap hg =>
    cases h
    refine .same hH (v' := .pointer (some ((⟨g, o, none⟩ : Addr).add off))) (by simp [fad_run ht hk hf htf hz]) ?_
    rw [add_lit]; exact .pb b _ g cap hg
  | pa b z i f' g cap hg =>
    cases h
    refine .same hH (v' := .pointer (some ((⟨g, i * z + f', none⟩ : Addr).add off))) (by simp [fad_run ht hk hf htf hz]) ?_
    rw [add_lit, Nat.add_assoc]; exact .pa b z i _ g cap hg
  | rp o cs a g ha hc hlt hr =>
    simp only at h
    split at h
    · rename_i q hq
      cases h
      obtain ⟨h1, h2⟩ := dropL_spec off cs q hq
      subst h2
      refine .same hH (v' := .pointer (some (a.add off))) (by simp [fad_run ht hk hf htf hz]) (.rp _ _ _ (fun j => g (off + j)) (by rw [add_block]; exact ha) (fun j hj => ?_) (by rw [add_block]; exact hlt) fun j x hx => ?_)
      · rw [add_add]; exact hc _ (by simp at hj; omega)
      · rw [List.getElem?_drop] at hx; exact hr _ x hx
    · cases h
  | _ => first | (simp at h; done) | (split at h <;> simp_all; done)
theorem run_indexAt_slice {t e : TypeId} {te : TI} (ht : P.underlying t = some (.slice e)) (he : TIOK P e te) (a : Addr) (len cap : Nat) (k : IntKind) (i : Int) (h0 : 0 ≤ i) (h1 : i < len) :
    (Instr.indexAt t (.slice (some a) len cap) (.int k i)).run P w = .ok (.pointer (some (a.add (i.toNat * te.sz)))) w := by
  simp [Instr.indexAt, asIntOf, run_underlying ht, h0, h1, he.run_size w]
theorem run_indexAt_array {t e n : Nat} {te : TI} (ht : P.underlying t = some (.array n e)) (he : TIOK P e te) (a : Addr) (k : IntKind) (i : Int) (h0 : 0 ≤ i) (h1 : i < n) :
    (Instr.indexAt t (.pointer (some a)) (.int k i)).run P w = .ok (.pointer (some (a.add (i.toNat * te.sz)))) w := by
  simp [Instr.indexAt, asIntOf, run_underlying ht, h0, h1, he.run_size w, Instr.sureAddr]
theorem addO_std (o k : Nat) : addO Env.std o k = o + k := by cases o <;> simp [addO, Env.std]
theorem iadS_ok (hH : HOK w O ρ H) {t e : TypeId} {te : TI} (ht : P.underlying t = some (.slice e)) (he : TIOK P e te) {x y r : V} {v u : Value} (hx : RV w O ρ x v) (hy : RV w O ρ y u) {raw : Operand → V} {xo yo : Operand} (hraw : peel (raw xo) = x) (hraw' : peel (raw yo) = y) {d : Delta} {l : List Prop} {s : Nat}
    (h : istep Env.std raw H s (.iadS te.sz xo yo) = some (r, d, l)) (hl : ∀ p ∈ l, p) : StepOK P w O ρ H s (do pure (.value (← Instr.indexAt t v u))) r d := by
  simp only [istep, hraw, hraw'] at h
  split at h
  · rename_i z' n f k i
    cases hy.scv
    split at h
    · rename_i hz
      subst hz
      cases h
      have h0 : 0 ≤ i := hl _ (.head _)
      have h1 : i.toNat < n := hl _ (.tail _ (.head _))
      have h2 : 0 < te.sz := hl _ (.tail _ (.tail _ (.head _)))
      cases hx with
      | u _ _ hu =>
        cases hu with
        | sv _ _ _ c _ a g hc ha hlen hr =>
          rcases ha with h3 | ⟨ad, rfl, ho, hcell⟩
          · have := Nat.mul_pos (show 0 < n by omega) h2; omega
          · refine .same hH (v' := .pointer (some (ad.add (i.toNat * te.sz)))) (by simp [run_indexAt_slice ht he ad n c k i h0 (by omega)]) ?_
            show RV w O ρ (.rp _ (f i.toNat)) _
            have hl' := hlen _ h1
            refine .rp _ _ _ (g i.toNat) (by rw [add_block]; exact ho) (fun j hj => ?_) ?_ fun j x hx => hr _ j x h1 hx
            · rw [add_add]; exact hcell _ _ h1 (by omega)
            · rw [add_block]
              have := cell_lt (hcell _ 0 h1 h2)
              rwa [add_block] at this
    · cases h
  · rename_i b z' off len k i
    cases hy.scv
    split at h
    · rename_i hz
      subst hz
      cases h
      have h0 : 0 ≤ i := hl _ (.head _)
      have h1 : i.toNat < len := hl _ (.tail _ (.head _))
      rw [addO_std]
      cases hx with
      | srN => omega
      | srP _ _ _ g cap hg hc =>
        refine .same hH (v' := .pointer (some ((⟨g, 0, none⟩ : Addr).add (i.toNat * te.sz)))) (by simp [run_indexAt_slice ht he _ len cap k i h0 (by omega)]) ?_
        rw [add_lit]
        simp only [Nat.zero_add]
        exact .pa b te.sz _ 0 g cap hg
      | srO _ _ _ _ c g cap a hg ho ha hc =>
        rcases ha with ha | rfl
        · omega
        · refine .same hH (v' := .pointer (some ((⟨g, off * te.sz, none⟩ : Addr).add (i.toNat * te.sz)))) (by simp [run_indexAt_slice ht he _ len c k i h0 (by omega)]) ?_
          rw [add_lit, ← Nat.add_mul]
          exact .pa b te.sz _ 0 g cap hg
    · cases h
  · rename_i b z' off len k i
    cases hy.scv
    split at h
    · rename_i hz
      subst hz
      cases h
      have h0 : 0 ≤ i := hl _ (.head _)
      have h1 : i.toNat < len := hl _ (.tail _ (.head _))
      cases hx with
      | so _ _ _ _ c a hc ha =>
        rcases ha with ha | ⟨g, cap, hg, rfl⟩
        · omega
        · refine .same hH (v' := .pointer (some ((⟨g, off * te.sz, none⟩ : Addr).add (i.toNat * te.sz)))) (by simp [run_indexAt_slice ht he _ len c k i h0 (by omega)]) ?_
          rw [add_lit, ← Nat.add_mul]
          exact .pa b te.sz _ 0 g cap hg
    · cases h
  · cases h
theorem litNat_spec {i : Int} {j : Nat} (h : litNat i = some j) : i = j := by
  cases i with
  | ofNat n => simp [litNat] at h; subst h; rfl
  | negSucc n => simp [litNat] at h
theorem iadA_ok (hH : HOK w O ρ H) {t e n : Nat} {te : TI} (ht : P.underlying t = some (.array n e)) (he : TIOK P e te) {x y r : V} {v u : Value} (hx : RV w O ρ x v) (hy : RV w O ρ y u) {raw : Operand → V} {xo yo : Operand} (hraw : peel (raw xo) = x) (hraw' : peel (raw yo) = y) {d : Delta} {l : List Prop} {s : Nat}
    (h : istep Env.std raw H s (.iadA n te.sz xo yo) = some (r, d, l)) : StepOK P w O ρ H s (do pure (.value (← Instr.indexAt t v u))) r d := by
  simp only [istep, hraw, hraw'] at h
  split at h
  · rename_i b o k i
    cases hy.scv
    split at h
    · rename_i j hj
      split at h
      · rename_i hlt
        cases h
        have hj' := litNat_spec hj
        have hlt' : j < n := by have : j + 1 ≤ n := by simpa [Nat.blt] using hlt
                                omega
        cases hx with
        | pb _ _ g cap hg =>
          refine .same hH (v' := .pointer (some ((⟨g, o, none⟩ : Addr).add (i.toNat * te.sz)))) (by simp [run_indexAt_array ht he _ k i (by omega) (by omega)]) ?_
          rw [add_lit, hj']
          exact .pb b _ g cap hg
      · cases h
    · cases h
  · cases h
theorem seg_part {cs r : List V} {arr : Array Value} {off z : Nat} (h : CellsRel w O ρ cs arr) (hs : segL off z cs = some r) :
    (arr.toList.drop off).take z = (arr.extract off (off + z)).toList ∧ CellsRel w O ρ r (arr.extract off (off + z)) := by
  obtain ⟨h1, h2, h3⟩ := segL_spec hs
  refine ⟨by simp [Array.toList_extract, List.extract], by simp [h2, h.1]; omega, fun j y hy => ?_⟩
  have hj : j < z := by have := lt_of_get hy; omega
  rw [h3 j hj] at hy
  obtain ⟨u, hu, hr⟩ := h.2 _ y hy
  exact ⟨u, by simp [Array.getElem?_extract, h.1]; exact ⟨by omega, hu⟩, hr⟩
theorem part_ok {t : TypeId} {ti : TI} (ht : TIOK P t ti) {cs r : List V} {arr : Array Value} {off : Nat} (h : CellsRel w O ρ cs arr) (hs : segL off ti.sz cs = some r) {q : V} (ho : oneOr (isA ti.kd) r = some q) :
    ∃ u, (part t arr off).run P w = .ok u w ∧ RV w O ρ q u := by
  obtain ⟨_, h2⟩ := seg_part h hs
  have h2' : ∀ (j : Nat) (y : V), r[j]? = some y → ∃ u, (arr.extract off (off + ti.sz)).toList[j]? = some u ∧ RV w O ρ y u := fun j y hy => by
    obtain ⟨u, hu, hr⟩ := h2.2 j y hy
    exact ⟨u, by rw [Array.getElem?_toList]; exact hu, hr⟩
  obtain ⟨k1, k2⟩ := oneOr_ok (w := w) (O := O) (ρ := ρ) (vs := (arr.extract off (off + ti.sz)).toList) ho (h2.1.symm.trans Array.length_toList.symm) h2'
  cases ha : isA ti.kd with
  | true => exact ⟨.agg (arr.extract off (off + ti.sz)), by simp [part, ht.run_agg w, ha, ht.run_size w], by have := k1 ha; rwa [Array.toArray_toList] at this⟩
  | false =>
    obtain ⟨u, hu, hr⟩ := k2 ha
    have hz := ht.agg ha
    obtain ⟨s1, s2, s3⟩ := segL_spec hs
    have h0 : arr[off]? = some u := by
      have hlen : off < arr.size := by rw [h.1]; omega
      have : (arr.extract off (off + ti.sz)).toList[0]? = some u := by rw [hu]; rfl
      rw [Array.getElem?_toList, Array.getElem?_extract] at this
      simp at this
      obtain ⟨_, e⟩ := this
      exact e
    exact ⟨u, by simp [part, ht.run_agg w, ha, h0], hr⟩
theorem RV.ag_rel {cs : List V} {v : Value} (h : RV w O ρ (.ag cs) v) : ∃ arr, v = .agg arr ∧ CellsRel w O ρ cs arr := by
  cases h with
  | ag _ arr g hs ha hr => exact ⟨arr, rfl, hs, fun j y hy => ⟨g j, ha j (lt_of_get hy), hr j y hy⟩⟩
theorem fld_ok {s : Nat} (hH : HOK w O ρ H) {t : TypeId} {ti : TI} (ht : TIOK P t ti) {fs : List (Nat × Nat)} (hk : ti.kd = .struct fs) {f off tft : Nat} (hf : fs[f]? = some (off, tft)) {tf : TI} (htf : TIOK P tft tf) {cs r : List V} {q : V} {v : Value} (hx : RV w O ρ (.ag cs) v) (hs : segL off tf.sz cs = some r) (ho : oneOr (isA tf.kd) r = some q) :
    StepOK P w O ρ H s (do pure (.value (← Instr.field t v f))) q [] := by
  obtain ⟨l, fd, hl, hlf, hof, hty⟩ := fieldsAt (tab := ⟨fun _ => none, [], fun _ => none, []⟩) ht hk hf
  obtain ⟨arr, rfl, hrel⟩ := hx.ag_rel
  obtain ⟨u, hu, hr⟩ := part_ok (P := P) htf hrel hs ho
  rw [← hty, ← hof] at hu
  exact .same hH (by simp [Instr.field, run_underlying hl, hlf, asAgg, hu]) hr
theorem ixA_ok {s : Nat} (hH : HOK w O ρ H) {t e n : Nat} {te : TI} (ht : P.underlying t = some (.array n e)) (he : TIOK P e te) {cs r : List V} {q : V} {v : Value} (hx : RV w O ρ (.ag cs) v) {k : IntKind} {i : Int} {j : Nat} (hi : i = j) (hj : j < n) (hs : segL (j * te.sz) te.sz cs = some r) (ho : oneOr (isA te.kd) r = some q) :
    StepOK P w O ρ H s (do pure (.value (← Instr.index t v (.int k i)))) q [] := by
  obtain ⟨arr, rfl, hrel⟩ := hx.ag_rel
  obtain ⟨u, hu, hr⟩ := part_ok (P := P) he hrel hs ho
  subst hi
  exact .same hH (by simp [Instr.index, asIntOf, run_underlying ht, hj, he.run_size w, hu]) hr
theorem btI_get {s : ByteArray} {i : Int} (h0 : 0 ≤ i) (h1 : i < s.size) : ∃ b : UInt8, s[i.toNat]? = some b ∧ btI s i = (b.toNat : Int) := by
  have h : i.toNat < s.size := by omega
  refine ⟨s[i.toNat], ?_, ?_⟩
  · exact getElem?_pos s i.toNat h
  · have : i.toNat < s.data.toList.length := by simpa using h
    simp only [btI, List.getD_eq_getElem?_getD, List.getElem?_eq_getElem this, Option.getD_some]
    rfl
theorem ixS_ok {sid : Nat} (hH : HOK w O ρ H) {t : TypeId} (ht : P.underlying t = some .string) {s : ByteArray} {k : IntKind} {i : Int} (h0 : 0 ≤ i) (h1 : i < s.size) :
    StepOK P w O ρ H sid (do pure (.value (← Instr.index t (.string s) (.int k i)))) (scI .u8 (btI s i)) [] := by
  obtain ⟨b, hb, he⟩ := btI_get h0 h1
  rw [he]
  exact .same hH (by simp [Instr.index, asIntOf, run_underlying ht, h0, hb]) (scI_ok _ _)
end
end Am
end
section
open Go Go.Lib
set_option linter.unusedVariables false
set_option linter.unusedSimpArgs false
namespace Am
section
variable {P : Program} {w : World} {O : Own} {ρ : Place} {H : Heap}
theorem good_grown (hH : HOK w O ρ H) {w' : World} (ho : w'.os = w.os) (ht : w'.tape = w.tape) (hp : w'.output = w.output) (hs : w.heap.size ≤ w'.heap.size) (hb : ∀ k, k < w.heap.size → w'.heap[k]? = w.heap[k]?) : Good w O ρ H w' O ρ H := by
  have hk : Keeps w O w' O := ⟨hs, fun k hk ho => ⟨hb k hk, ho⟩, rfl⟩
  refine ⟨⟨fun b x hx => (hH.blk b x hx).mono hk (.refl _) fun g c hg hl => ?_, hH.inj, fun k hk => Nat.lt_of_lt_of_le (hH.lt k hk) hs, fun k hk => ⟨Nat.lt_of_lt_of_le (hH.olt k hk).1 hs, (hH.olt k hk).2⟩⟩, ⟨ho, ht, hp, hs, fun k hk _ => hb k hk⟩, .refl _, fun k hk => .inl hk, fun k hk _ => hk, fun k hk => .inl hk, rfl⟩
  have := img_own hH ⟨b, x, c, hx, hl, hg⟩
  exact ⟨hb g (hH.lt g this), this⟩
theorem cvS_ok {sid : Nat} (hH : HOK w O ρ H) {src dst e : TypeId} (hs : P.underlying src = some .string) (hd : P.underlying dst = some (.slice e)) (he : P.underlying e = some (.int .u8)) (s : ByteArray) :
    StepOK P w O ρ H sid (do pure (.value (← convert src dst (.string s)))) (.u (.sv .any 1 s.size (strRow s))) [] := by
  have hrun := Go.Lib.run_convert_string_bytes (P := P) w src dst e s hs hd he
  have hv : RV (bytesWorld w e s) O ρ (.u (.sv .any 1 s.size (strRow s))) (.slice (some ⟨w.heap.size, 0, none⟩) s.size (grownCap w s.size 0 e)) := by
    refine .u _ _ (.sv .any 1 s.size _ _ _ (fun i _ => .int .u8 (btI s (i : Int))) (grownCap_ge w _ _ e) (.inr ⟨_, rfl, ⟨fun h => ?_, trivial⟩, fun i j hi hj => ?_⟩) (fun _ _ => rfl) fun i j x hi hx => (str_new s).rel i j x hi hx)
    · have := hH.lt _ h
      dsimp only at this
      omega
    · have hj0 : j = 0 := by omega
      subst hj0
      rw [add_lit, show 0 + (i * 1 + 0) = i by omega, bytesWorld_cell w e s i hi]
      simp [btI]
  exact ⟨_, _, bytesWorld w e s, O, ρ, by simp [hrun], .inl rfl, hv, good_grown hH rfl rfl rfl (by rw [bytesWorld_size]; omega) fun k hk => bytesWorld_at_old w e s k hk, fun _ _ => rfl⟩
def byteIn : List U → Int
  | [.sc (.int _ n)] => n
  | _ => 0
theorem foldl_push_any (l : List Int) (r : ByteArray) : l.foldl (fun r n => r.push (UInt8.ofNat n.toNat)) r = ⟨r.data ++ (l.map fun n => UInt8.ofNat n.toNat).toArray⟩ := by
  induction l generalizing r with
  | nil => simp
  | cons n l ih =>
    rw [List.foldl_cons, ih]
    simp [ByteArray.push]
theorem cvB_ok {s : Nat} (hH : HOK w O ρ H) {src dst e : TypeId} (hs : P.underlying src = some (.slice e)) (hd : P.underlying dst = some .string) (he : P.underlying e = some (.int .u8)) {x : V} {v : Value} {n : Nat} {f : Nat → List U} {l : List Prop}
    (h : rowsOf Env.std H 1 x = some (n, f, l)) (hl : ∀ p ∈ l, p) (hb : ∀ i, i < n → ∃ b, f i = [.sc (.int .u8 b)]) (hx : RV w O ρ x v) :
    StepOK P w O ρ H s (do pure (.value (← convert src dst v))) (scS (Env.std.ofB n f)) [] := by
  obtain ⟨a, c, g, rfl, ha, hlen, hr⟩ := rowsOf_ok hH h hl hx
  have hconv := run_convert_bytes_string (P := P) w src dst e a n c hs he hd
  have hof : Env.std.ofB n f = ⟨((List.range n).map fun i => byteU (f i)).toArray⟩ := rfl
  rcases Nat.eq_zero_or_pos n with h0 | h0
  · subst h0
    refine .same hH (v' := .string (Env.std.ofB 0 f)) ?_ (scS_ok _)
    rw [hof]
    cases a with
    | none => simp [hconv, Conv.bytesToString]; rfl
    | some a =>
      have := run_bytesToString (P := P) w a 0 c [] (by simp [loadCells, loadCellsFrom])
      simp [hconv, this]; rfl
  · rcases ha with ha | ⟨ad, rfl, hcell⟩
    · omega
    · have hcells : (loadCells ad n).run P w = .ok (((List.range n).map fun i => byteIn (f i)).map (Value.int .u8)).toArray w := by
        have := run_loadCells (P := P) w ad n (fun i => g i 0) (fun j hj => by simpa using hcell j 0 hj (by omega))
        rw [this]
        congr 2
        rw [List.map_map]
        apply List.map_congr_left
        intro i hi
        simp at hi
        obtain ⟨b, hb'⟩ := hb i hi
        have := hr i 0 (.sc (.int .u8 b)) hi (by rw [hb']; rfl)
        generalize hq : g i 0 = q at this
        cases this
        simp [byteIn, hb', hq]
      have hrun := run_bytesToString (P := P) w ad n c _ hcells
      refine .same hH (v' := .string (Env.std.ofB n f)) ?_ (scS_ok _)
      rw [hof]
      simp only [Sem.run_bind, hconv, hrun, Result.andThen_ok, Sem.run_pure]
      congr 3
      rw [foldl_push_any, List.map_map]
      simp only [ByteArray.mk.injEq]
      show (#[] ++ _ : Array UInt8) = _
      rw [Array.empty_append]
      congr 1
      apply List.map_congr_left
      intro i hi
      simp at hi
      obtain ⟨b, hb'⟩ := hb i hi
      simp [byteIn, byteU, hb']
theorem optI_some {d : Int} {val : Operand → V} {y : Operand} {i : Int} (h : optI d val (some y) = some i) : ∃ k, val y = .u (.sc (.int k i)) := by
  simp only [optI] at h
  split at h
  · rename_i k n hv; cases h; exact ⟨_, hv⟩
  · cases h
theorem slS_ok {sid : Nat} (hH : HOK w O ρ H) {t : TypeId} (ht : P.underlying t = some .string) {s : ByteArray} {val : Operand → V} {ev : Operand → Value} {lo hi : Option Operand} (hlo : ∀ y, lo = some y → RV w O ρ (val y) (ev y)) (hhi : ∀ y, hi = some y → RV w O ρ (val y) (ev y))
    {l h : Int} (h1 : optI 0 val lo = some l) (h2 : optI (s.size : Int) val hi = some h) (g1 : 0 ≤ l) (g2 : l ≤ h) (g3 : h ≤ s.size) :
    StepOK P w O ρ H sid (do pure (.value (← Instr.sliceAt t (.string s) (lo.map ev) (hi.map ev) none))) (scS (s.extract l.toNat h.toNat)) [] := by
  have hs := run_sliceAt_string (P := P) w t (.string s)
  cases lo with
  | none =>
    simp [optI] at h1
    subst h1
    cases hi with
    | none =>
      simp [optI] at h2
      subst h2
      exact .same hH (by simp [hs, ht, run_slice_string_all w t s ht]; rfl) (by simpa using scS_ok _)
    | some y =>
      obtain ⟨k, hk⟩ := optI_some h2
      have := hhi y rfl
      rw [hk] at this
      have e := this.scv
      exact .same hH (by simp [hs, ht, e, run_slice_string_h w t s ht k h (by omega) g3]; rfl) (by simpa using scS_ok _)
  | some x =>
    obtain ⟨k, hk⟩ := optI_some h1
    have := hlo x rfl
    rw [hk] at this
    have e := this.scv
    cases hi with
    | none =>
      simp [optI] at h2
      subst h2
      exact .same hH (by simp [hs, ht, e, run_slice_string_l w t s ht k l g1 g2]; rfl) (by simpa using scS_ok _)
    | some y =>
      obtain ⟨k', hk'⟩ := optI_some h2
      have := hhi y rfl
      rw [hk'] at this
      have e' := this.scv
      exact .same hH (by simp [hs, ht, e, e', run_slice_string w t s k k' l h ht g1 g2 g3]) (scS_ok _)
end
end Am
end
section
open Go Go.Lib
set_option linter.unusedVariables false
set_option linter.unusedSimpArgs false
namespace Am
section
variable {P : Program} {w : World} {O : Own} {ρ : Place} {H : Heap}
theorem elem_of {t e : TypeId} (h : P.underlying t = some (.slice e)) : P.elem t = e := by simp [Program.elem, h]
theorem run_slice_gen {t e : TypeId} {te : TI} (ht : P.underlying t = some (.slice e)) (he : TIOK P e te) (a : Option Addr) (len cap : Nat) {val : Operand → V} {ev : Operand → Value} {lo hi : Option Operand} (hlo : ∀ y, lo = some y → RV w O ρ (val y) (ev y)) (hhi : ∀ y, hi = some y → RV w O ρ (val y) (ev y))
    {l h : Int} (h1 : optI 0 val lo = some l) (h2 : optI (len : Int) val hi = some h) (g1 : 0 ≤ l) (g2 : l ≤ h) (g3 : h ≤ cap) :
    (Instr.sliceAt t (.slice a len cap) (lo.map ev) (hi.map ev) none).run P w = .ok (sliced a l.toNat h.toNat cap te.sz) w := by
  have he' := elem_of ht
  have ht' : P.underlying t = some (.slice (P.elem t)) := by rw [he']; exact ht
  have hs := he.run_size w
  cases lo with
  | none =>
    simp [optI] at h1
    subst h1
    cases hi with
    | none =>
      simp [optI] at h2
      subst h2
      simp [run_sliceAt_slice w t _ _ _ _ ht', run_slice_all w t a len cap ht', he', hs]
    | some y =>
      obtain ⟨k, hk⟩ := optI_some h2
      have := hhi y rfl
      rw [hk] at this
      have e := this.scv
      simp [run_sliceAt_slice w t _ _ _ _ ht', e, run_slice_h w t a len cap ht' k h (by omega) (by omega), he', hs]
  | some x =>
    obtain ⟨k, hk⟩ := optI_some h1
    have := hlo x rfl
    rw [hk] at this
    have e := this.scv
    cases hi with
    | none =>
      simp [optI] at h2
      subst h2
      simp [run_sliceAt_slice w t _ _ _ _ ht', e, run_slice_l w t a len cap ht' k l g1 g2, he', hs]
    | some y =>
      obtain ⟨k', hk'⟩ := optI_some h2
      have := hhi y rfl
      rw [hk'] at this
      have e' := this.scv
      simp [run_sliceAt_slice w t _ _ _ _ ht', e, e', run_slice_lh w t a len cap ht' k k' l h g1 g2 (by omega), he', hs]
theorem sliced_zero (a : Option Addr) (h cap z : Nat) : sliced a 0 h cap z = .slice a h cap := by
  unfold sliced
  have : (a.map fun x => x.add (0 * z)) = a := by cases a <;> simp [Addr.add]
  simp only [this, Nat.sub_zero]
  split <;> rfl
theorem slL_ok (hH : HOK w O ρ H) {t e : TypeId} {te : TI} (ht : P.underlying t = some (.slice e)) (he : TIOK P e te) {x r : V} {v : Value} (hx : RV w O ρ x v) {raw : Operand → V} {ev : Operand → Value} {xo : Operand} (hraw : peel (raw xo) = x) {lo hi : Option Operand}
    (hlo : ∀ y, lo = some y → RV w O ρ (peel (raw y)) (ev y)) (hhi : ∀ y, hi = some y → RV w O ρ (peel (raw y)) (ev y)) {d : Delta} {l : List Prop} {s : Nat}
    (h : istep Env.std raw H s (.slL te.sz xo lo hi) = some (r, d, l)) (hl : ∀ p ∈ l, p) : StepOK P w O ρ H s (do pure (.value (← Instr.sliceAt t v (lo.map ev) (hi.map ev) none))) r d := by
  simp only [istep, hraw] at h
  split at h
  · rename_i z' n f
    split at h
    · rename_i hz
      subst hz
      cases hx with
      | u _ _ hu =>
        cases hu with
        | sv o _ _ c _ a g hc ha hlen hr =>
          have hof : Env.std.iN n = (n : Int) := rfl
          rw [hof] at h
          split at h
          · rename_i l0 h0 q2 q1
            cases h
            simp [optI] at q1
            subst q1
            have g1 : 0 ≤ h0 := hl _ (.head _)
            have g2 : h0 ≤ (n : Int) := hl _ (.tail _ (.head _))
            have hrun := run_slice_gen (w := w) (O := O) (ρ := ρ) ht he a n c hlo hhi (by rfl) q2 (by omega) g1 (by omega)
            rw [show (0 : Int).toNat = 0 from rfl, sliced_zero] at hrun
            have hm : h0.toNat ≤ n := by omega
            refine .same hH (by simp only [Sem.run_bind, hrun, Result.andThen_ok, Sem.run_pure]) (.u _ _ (.sv _ _ h0.toNat c f a g (by omega) ?_ (fun i hi => hlen i (by omega)) fun i j x hi hx => hr i j x (by omega) hx))
            rcases ha with h3 | ⟨ad, rfl, ho, hcell⟩
            · rcases Nat.mul_eq_zero.1 h3 with h3 | h3
              · exact .inl (by simp [show h0.toNat = 0 by omega])
              · exact .inl (by simp [h3])
            · exact .inr ⟨ad, rfl, ho, fun i j hi hj => hcell i j (by omega) hj⟩
          · rename_i y l0 h0 q2 q1
            cases h
            have g0 : 0 ≤ l0 := hl _ (.head _)
            have g1 : l0 ≤ h0 := hl _ (.tail _ (.head _))
            have g2 : h0 ≤ (n : Int) := hl _ (.tail _ (.tail _ (.head _)))
            have hrun := run_slice_gen (w := w) (O := O) (ρ := ρ) ht he a n c hlo hhi q1 q2 g0 g1 (by omega)
            have hm : l0.toNat + (h0 - l0).toNat = h0.toNat := by omega
            have hmn : h0.toNat ≤ n := by omega
            have hd : h0.toNat - l0.toNat = (h0 - l0).toNat := by omega
            unfold sliced at hrun
            rw [hd] at hrun
            refine .same hH (by simp only [Sem.run_bind, hrun, Result.andThen_ok, Sem.run_pure]) (.u _ _ (.sv _ _ (h0 - l0).toNat (c - l0.toNat) (fun k => f (l0.toNat + k)) (if c = l0.toNat then a else a.map (fun x => x.add (l0.toNat * te.sz))) (fun i j => g (l0.toNat + i) j) (by omega) ?_ (fun i hi => hlen _ (by omega)) fun i j x hi hx => hr _ j x (by omega) hx))
            rcases ha with h3 | ⟨ad, rfl, ho, hcell⟩
            · rcases Nat.mul_eq_zero.1 h3 with h3 | h3
              · exact .inl (by simp [show (h0 - l0).toNat = 0 by omega])
              · exact .inl (by simp [h3])
            · by_cases hc0 : c = l0.toNat
              · exact .inl (by simp [show (h0 - l0).toNat = 0 by omega])
              · refine .inr ⟨ad.add (l0.toNat * te.sz), by simp [hc0], by rw [add_block]; exact ho, fun i j hi hj => ?_⟩
                rw [add_add, show l0.toNat * te.sz + (i * te.sz + j) = (l0.toNat + i) * te.sz + j by rw [Nat.add_mul]; omega]
                exact hcell _ j (by omega) hj
          · cases h
    · cases h
  · rename_i b z' len
    split at h
    · rename_i hz
      subst hz
      have hof : Env.std.iN len = (len : Int) := rfl
      rw [hof] at h
      have key : ∀ (h0 : Int), lo = none → optI (len : Int) (fun y => peel (raw y)) hi = some h0 → 0 ≤ h0 → (h0 ≤ (len : Int) ∨ ∃ e n F c, blkAt H b = .arc e te.sz n F c ∧ h0 ≤ (c : Int)) →
          StepOK P w O ρ H s (do pure (.value (← Instr.sliceAt t v (lo.map ev) (hi.map ev) none))) (.sr b te.sz 0 h0.toNat) [] := by
        intro h0 q1 q2 g1 g2
        have q1' : optI 0 (fun y => peel (raw y)) lo = some 0 := by rw [q1]; rfl
        cases hx with
        | srN _ _ hn =>
          have h00 : h0 ≤ 0 := by
            rcases g2 with g2 | ⟨e, n, F, c, hb, hc⟩
            · simpa using g2
            · rcases hH.blk b _ (blkAt_eq hb trivial) with ⟨_, _, e0⟩ | ⟨g, cur, k1, _⟩
              · subst e0; simpa using hc
              · rw [hn] at k1; cases k1
          have hrun := run_slice_gen (w := w) (O := O) (ρ := ρ) ht he none 0 0 hlo hhi q1' q2 (by omega) g1 (by simpa using h00)
          rw [show (0 : Int).toNat = 0 from rfl, sliced_zero] at hrun
          have h00 : h0.toNat = 0 := by omega
          rw [h00] at hrun ⊢
          exact .same hH (by simp only [Sem.run_bind, hrun, Result.andThen_ok, Sem.run_pure]) (.srN b _ hn)
        | srP _ _ _ g cap hg hc =>
          have hcap : h0 ≤ (cap : Int) := by
            rcases g2 with g2 | ⟨e, n, F, c, hb, hc⟩
            · omega
            · rcases hH.blk b _ (blkAt_eq hb trivial) with ⟨k1, _⟩ | ⟨g, cur, k1, _⟩
              · rw [hg] at k1; cases k1
              · rw [hg] at k1; cases k1; exact hc
          have hrun := run_slice_gen (w := w) (O := O) (ρ := ρ) ht he (some ⟨g, 0, none⟩) len cap hlo hhi q1' q2 (by omega) g1 hcap
          rw [show (0 : Int).toNat = 0 from rfl, sliced_zero] at hrun
          exact .same hH (by simp only [Sem.run_bind, hrun, Result.andThen_ok, Sem.run_pure]) (.srP b _ _ g cap hg (by omega))
        | srO _ _ _ _ c g cap a hg ho ha hc => omega
      split at h
      · rename_i l0 h0 q2 q1
        split at h
        · rename_i e z'' n F c hb
          split at h
          · rename_i hz
            subst hz
            cases h
            exact key h0 rfl q2 (hl _ (.head _)) (.inr ⟨e, n, F, c, hb, hl (Env.std.ob (.leI h0 (Env.std.iN c))) (.tail _ (.head _))⟩)
          · cases h
        · cases h
          exact key h0 rfl q2 (hl _ (.head _)) (.inl (hl (Env.std.ob (.leI h0 (Env.std.iN len))) (.tail _ (.head _))))
      · rename_i y l0 h0 q2 q1
        have key2 : 0 ≤ l0 → l0 ≤ h0 → (h0 ≤ (len : Int) ∨ ∃ e n F, blkAt H b = .arr e te.sz n F ∧ h0 ≤ (n : Int)) → StepOK P w O ρ H s (do pure (.value (← Instr.sliceAt t v ((some y).map ev) (hi.map ev) none))) (.so b te.sz l0.toNat (h0 - l0).toNat) [] := by
          intro g0 g1 g2
          have hd : h0.toNat - l0.toNat = (h0 - l0).toNat := by omega
          cases hx with
          | srN _ _ hn =>
            have g2 : h0 ≤ 0 := by
              rcases g2 with g2 | ⟨e, n, F, hb, hc⟩
              · simpa using g2
              · rcases hH.blk b _ (blkAt_eq hb trivial) with ⟨_, e0⟩ | ⟨g, cap, cur, k1, _⟩
                · subst e0; simpa using hc
                · rw [hn] at k1; cases k1
            have hrun := run_slice_gen (w := w) (O := O) (ρ := ρ) ht he none 0 0 hlo hhi q1 q2 (by omega) g1 (by simpa using g2)
            unfold sliced at hrun
            rw [hd] at hrun
            refine .same hH (by simp only [Sem.run_bind, hrun, Result.andThen_ok, Sem.run_pure]; rfl) ?_
            exact .so b _ _ _ _ _ (by show (h0 - l0).toNat ≤ _; omega) (.inl (by show (h0 - l0).toNat = 0; omega))
          | srP _ _ _ g cap hg hc =>
            have hcap : h0 ≤ (cap : Int) := by
              rcases g2 with g2 | ⟨e, n, F, hb, hc⟩
              · omega
              · rcases hH.blk b _ (blkAt_eq hb trivial) with ⟨k1, _⟩ | ⟨g, cap, cur, k1, _, _, _, k5, _⟩
                · rw [hg] at k1; cases k1
                · rw [hg] at k1; cases k1; omega
            have hrun := run_slice_gen (w := w) (O := O) (ρ := ρ) ht he (some ⟨g, 0, none⟩) len cap hlo hhi q1 q2 (by omega) g1 hcap
            unfold sliced at hrun
            rw [hd] at hrun
            refine .same hH (by simp only [Sem.run_bind, hrun, Result.andThen_ok, Sem.run_pure]; rfl) ?_
            refine .so b _ _ _ _ _ (by omega) ?_
            by_cases hcl : cap = l0.toNat
            · exact .inl (by omega)
            · refine .inr ⟨g, cap, hg, ?_⟩
              rw [if_neg hcl]
              simp [add_lit]
          | srO _ _ _ _ c g cap a hg ho ha hc => omega
        split at h
        · rename_i e z'' n F hb
          split at h
          · rename_i hz
            subst hz
            cases h
            exact key2 (hl _ (.head _)) (hl _ (.tail _ (.head _))) (.inr ⟨e, n, F, hb, hl (Env.std.ob (.leI h0 (Env.std.iN n))) (.tail _ (.tail _ (.head _)))⟩)
          · cases h
        · cases h
          exact key2 (hl _ (.head _)) (hl _ (.tail _ (.head _))) (.inl (hl (Env.std.ob (.leI h0 (Env.std.iN len))) (.tail _ (.tail _ (.head _)))))
      · cases h
    · cases h
  · rename_i b z' off len
    split at h
    · rename_i hz
      subst hz
      have hof : Env.std.iN len = (len : Int) := rfl
      rw [hof] at h
      cases hx with
      | so _ _ _ _ c a hc ha =>
        split at h
        · rename_i l0 h0 q2 q1
          cases h
          simp [optI] at q1
          subst q1
          have g1 : 0 ≤ h0 := hl _ (.head _)
          have g2 : h0 ≤ (len : Int) := hl _ (.tail _ (.head _))
          have hrun := run_slice_gen (w := w) (O := O) (ρ := ρ) ht he a len c hlo hhi (by rfl) q2 (by omega) g1 (by omega)
          rw [show (0 : Int).toNat = 0 from rfl, sliced_zero] at hrun
          refine .same hH (by simp only [Sem.run_bind, hrun, Result.andThen_ok, Sem.run_pure]) (.so b _ off h0.toNat c a (by omega) ?_)
          rcases ha with ha | ha
          · exact .inl (by omega)
          · exact .inr ha
        · rename_i y l0 h0 q2 q1
          cases h
          have g0 : 0 ≤ l0 := hl _ (.head _)
          have g1 : l0 ≤ h0 := hl _ (.tail _ (.head _))
          have g2 : h0 ≤ (len : Int) := hl _ (.tail _ (.tail _ (.head _)))
          have hd : h0.toNat - l0.toNat = (h0 - l0).toNat := by omega
          have hrun := run_slice_gen (w := w) (O := O) (ρ := ρ) ht he a len c hlo hhi q1 q2 g0 g1 (by omega)
          unfold sliced at hrun
          rw [hd] at hrun
          refine .same hH (by simp only [Sem.run_bind, hrun, Result.andThen_ok, Sem.run_pure]; rfl) ?_
          refine .so b _ _ _ _ _ (by show (h0 - l0).toNat ≤ _; omega) ?_
          rcases ha with ha | ⟨g, cap, hg, rfl⟩
          · exact .inl (by show (h0 - l0).toNat = 0; omega)
          · by_cases hcl : c = l0.toNat
            · exact .inl (by show (h0 - l0).toNat = 0; omega)
            · refine .inr ⟨g, cap, hg, ?_⟩
              rw [if_neg hcl]
              simp only [Option.map_some, add_lit]; rw [← Nat.add_mul]; rfl
        · cases h
    · cases h
  · cases h
end
end Am
end
section
open Go Go.Lib
set_option linter.unusedVariables false
set_option linter.unusedSimpArgs false
set_option linter.unusedSectionVars false
namespace Am
section
variable {P : Program} {w : World} {O : Own} {ρ : Place} {H : Heap}
theorem good_reblk (h : HOK w O ρ H) {b : Nat} {x : Blk} (hb : H[b]? = some x) (hl : x.live) (x' : Blk) (hx : BOK w O ρ b x') : Good w O ρ H w O ρ (putH H b x') := by
  refine ⟨⟨fun b' y hy => ?_, fun b1 b2 y y' g1 c1 c2 hy hyl hy' hyl' hg1 hg2 => ?_, h.lt, h.olt⟩, .refl _ _, .refl _, fun k ⟨b', y, c', hy, hyl, hg'⟩ => ?_, fun k hk _ => hk, fun k hk => .inl hk, rfl⟩
  · by_cases hbb : b' = b
    · subst hbb; rw [putH_same] at hy; cases hy; exact hx
    · rcases putH_other H b x' b' y hbb hy with hy | hy
      · exact h.blk b' y hy
      · subst hy; trivial
  · have one : ∀ (b1 : Nat) (y : Blk), (putH H b x')[b1]? = some y → y.live → ∃ y0, H[b1]? = some y0 ∧ y0.live := fun b1 y hy hyl => by
      by_cases hbb : b1 = b
      · subst hbb; exact ⟨x, hb, hl⟩
      · exact ⟨y, putH_live hbb hy hyl, hyl⟩
    obtain ⟨u, hu, hul⟩ := one b1 y hy hyl
    obtain ⟨u', hu', hul'⟩ := one b2 y' hy' hyl'
    exact h.inj b1 b2 u u' g1 c1 c2 hu hul hu' hul' hg1 hg2
  · by_cases hbb : b' = b
    · subst hbb; exact .inl ⟨b', x, c', hb, hl, hg'⟩
    · exact .inl ⟨b', y, c', putH_live hbb hy hyl, hyl, hg'⟩
structure Row (w : World) (O : Own) (ρ : Place) (b e z n : Nat) (F : Nat → List U) (c : Option Nat) (g cap : Nat) (cur : Array Value) : Prop where
  pl : ρ b = .at g cap
  ow : O g
  hp : w.heap[g]? = some (.cells cur e (0, 0))
  sz : cur.size = cap * z
  le : n ≤ cap
  mx : cap ≤ maxLen
  ln : ∀ i, i < n → (F i).length = z
  rl : ∀ (i j : Nat) (x : U), i < n → (F i)[j]? = some x → ∃ v, cur[i * z + j]? = some v ∧ RU w O x v
  cp : ∀ c', c = some c' → c' = cap
theorem arrAt_blk {b e z n : Nat} {F : Nat → List U} {c : Option Nat} (h : arrAt H b = some (e, z, n, F, c)) : H[b]? = some (arrB e z n F c) ∧ (arrB e z n F c).live := by
  unfold arrAt at h
  split at h
  · rename_i hb; cases h; exact ⟨blkAt_eq hb trivial, trivial⟩
  · rename_i hb; cases h; exact ⟨blkAt_eq hb trivial, trivial⟩
  · cases h
theorem row_of (hH : HOK w O ρ H) {b e z n : Nat} {F : Nat → List U} {c : Option Nat} (h : H[b]? = some (arrB e z n F c)) : (ρ b = .nil ∧ n = 0 ∧ ∀ c', c = some c' → c' = 0) ∨ ∃ g cap cur, Row w O ρ b e z n F c g cap cur := by
  have := hH.blk b _ h
  cases c with
  | none =>
    rcases this with ⟨h1, h2⟩ | ⟨g, cap, cur, h1, h2, h3, h4, h5, h6, h7, h8⟩
    · exact .inl ⟨h1, h2, fun c' e => nomatch e⟩
    · exact .inr ⟨g, cap, cur, h1, h2, h3, h4, h5, h6, h7, h8, fun c' e => nomatch e⟩
  | some c =>
    rcases this with ⟨h1, h2, h3⟩ | ⟨g, cur, h1, h2, h3, h4, h5, h6, h7, h8⟩
    · exact .inl ⟨h1, h2, fun c' e => by cases e; exact h3⟩
    · exact .inr ⟨g, c, cur, h1, h2, h3, h4, h5, h6, h7, h8, fun c' e => by cases e; rfl⟩
theorem Row.blk {b e z n : Nat} {F : Nat → List U} {c : Option Nat} {g cap : Nat} {cur : Array Value} (h : Row w O ρ b e z n F c g cap cur) : BOK w O ρ b (arrB e z n F c) := by
  cases c with
  | none => exact .inr ⟨g, cap, cur, h.pl, h.ow, h.hp, h.sz, h.le, h.mx, h.ln, h.rl⟩
  | some c =>
    have := h.cp c rfl
    subst this
    exact .inr ⟨g, cur, h.pl, h.ow, h.hp, h.sz, h.le, h.mx, h.ln, h.rl⟩
theorem put_rows (hH : HOK w O ρ H) {b e z n : Nat} {F : Nat → List U} {c : Option Nat} {g cap : Nat} {cur : Array Value} (hb : H[b]? = some (arrB e z n F c)) (hr : Row w O ρ b e z n F c g cap cur) {m off : Nat} {G : Nat → List U} {gg : Nat → Nat → Value}
    (hN : NewCells w O z m G gg) (hoff : off ≤ n) (hfit : off + m ≤ cap) {n' : Nat} (hn1 : n ≤ n') (hn2 : n' = n ∨ n' = off + m) {F' : Nat → List U} (hF : ∀ k, k < n' → F' k = if k < off then F k else if k - off < m then G (k - off) else F k) :
    ∃ new, (storeCells ⟨g, off * z, none⟩ (flat z m gg)).run P w = .ok () (w.setRow g new) ∧ Good w O ρ H (w.setRow g new) O ρ (putH H b (arrB e z n' F' c)) := by
  have hl : (arrB e z n F c).live := by cases c <;> trivial
  have hfit' : off * z + (flat z m gg).length ≤ cur.toList.length := by rw [flat_length, ← Nat.add_mul, Array.length_toList, hr.sz]; exact Nat.mul_le_mul_right _ hfit
  have hrun := run_storeCells_at P g (off * z) e (flat z m gg) 0 cur w hr.hp (by simpa using hfit') hN.one
  simp only [Nat.add_zero] at hrun
  refine ⟨_, hrun, ?_⟩
  generalize hcs : (cur.toList.take (off * z) ++ flat z m gg ++ cur.toList.drop (off * z + (flat z m gg).length)).toArray = cs
  have hget : ∀ k, cs[k]? = if off * z ≤ k ∧ k < off * z + (flat z m gg).length then (flat z m gg)[k - off * z]? else cur[k]? := fun k => by
    rw [← hcs, List.getElem?_toArray, seg_get hfit' k]; simp
  have hsz : cs.size = cap * z := by
    rw [← hcs, ← hr.sz]
    simp only [List.size_toArray, List.length_append, List.length_take, List.length_drop, Array.length_toList] at hfit' ⊢
    omega
  have hk := keeps_setRow (w := w) hr.ow cs
  refine good_set hH hb hl hr.pl cs _ (Row.blk (g := g) (cap := cap) (cur := cs) ⟨hr.pl, hr.ow, setRow_heap w g cur cs e _ hr.hp, hsz, ?_, hr.mx, fun i hi => ?_, fun i j x hi hx => ?_, hr.cp⟩)
  · have := hr.le; rcases hn2 with h | h <;> omega
  · rw [hF i hi]
    split
    · exact hr.ln i (by omega)
    · split
      · exact hN.len _ ‹_›
      · exact hr.ln i (by omega)
  · rw [hF i hi] at hx
    have old : i < n → (i < off ∨ ¬ i - off < m) → (F i)[j]? = some x → ∃ v, cs[i * z + j]? = some v ∧ RU (w.setRow g cs) O x v := fun hin hno hx => by
      obtain ⟨v, hv, hrv⟩ := hr.rl i j x hin hx
      have hj : j < z := by rw [← hr.ln i hin]; exact lt_of_get hx
      refine ⟨v, ?_, hrv.mono hk⟩
      rw [hget, if_neg]
      · exact hv
      · rw [flat_length, ← Nat.add_mul]
        rintro ⟨q1, q2⟩
        rcases hno with hno | hno
        · have : i * z + z ≤ off * z := by rw [← Nat.succ_mul]; exact Nat.mul_le_mul_right _ hno
          omega
        · have h3 : off + m ≤ i ∨ i < off := by omega
          rcases h3 with h3 | h3
          · have : (off + m) * z ≤ i * z := Nat.mul_le_mul_right _ h3
            omega
          · have : i * z + z ≤ off * z := by rw [← Nat.succ_mul]; exact Nat.mul_le_mul_right _ h3
            omega
    split at hx
    · exact old (by omega) (.inl ‹_›) hx
    · split at hx
      · rename_i h1 h2
        have hj : j < z := by rw [← hN.len _ h2]; exact lt_of_get hx
        have hlt := lt_flat h2 hj
        refine ⟨gg (i - off) j, ?_, (hN.rel _ j x h2 hx).mono hk⟩
        have e1 : i * z + j = off * z + ((i - off) * z + j) := by
          have : i * z = off * z + (i - off) * z := by rw [← Nat.add_mul]; congr 1; omega
          omega
        rw [hget, if_pos (by rw [flat_length]; omega), e1, Nat.add_sub_cancel_left]
        exact flat_get gg h2 hj
      · exact old (by omega) (.inr ‹_›) hx
theorem ownAt_ok {x : V} {v : Value} (hx : RV w O ρ x v) {b z len : Nat} {off : Option Nat} (h : ownAt x = some (b, z, off, len)) :
    ∃ a c, v = .slice a len c ∧ len ≤ c ∧ (len = 0 ∨ ∃ g cap, ρ b = .at g cap ∧ a = some ⟨g, off.getD 0 * z, none⟩) ∧ (ρ b = .nil → len = 0) := by
  cases hx with
  | srN b' z' hn => simp [ownAt] at h; obtain ⟨rfl, rfl, rfl, rfl⟩ := h; exact ⟨_, _, rfl, Nat.le_refl _, .inl rfl, fun _ => rfl⟩
  | srP b' z' len' g cap hg hc => simp [ownAt] at h; obtain ⟨rfl, rfl, rfl, rfl⟩ := h; exact ⟨_, _, rfl, hc, .inr ⟨g, cap, hg, by simp⟩, fun e => by rw [hg] at e; cases e⟩
  | srO b' z' off' len' c g cap a hg h0 ha hc =>
    obtain ⟨o, rfl⟩ : ∃ o, off' = o + 1 := ⟨off' - 1, by omega⟩
    simp [ownAt] at h
  | so b' z' off' len' c a hc ha =>
    simp [ownAt] at h; obtain ⟨rfl, rfl, rfl, rfl⟩ := h
    exact ⟨_, _, rfl, hc, ha, fun e => by rcases ha with ha | ⟨g, cap, hg, _⟩; exact ha; rw [hg] at e; cases e⟩
  | _ => simp [ownAt] at h
theorem srcOf_ok (hH : HOK w O ρ H) {z : Nat} {x : V} {v : Value} {m : Nat} {G : Nat → List U} {l : Nat → List Prop} (h : srcOf Env.std H z x = some (m, G, l)) (hv : RV w O ρ x v) {cnt : Nat} (hcnt : cnt ≤ m) (hl : ∀ p ∈ l cnt, p) :
    ∃ (a : Option Addr) (c : Nat) (g : Nat → Nat → Value), v = .slice a m c ∧ (cnt * z = 0 ∨ ∃ ad, a = some ad ∧ ∀ i j, i < cnt → j < z → w.cell? (ad.add (i * z + j)) = some (g i j)) ∧ NewCells w O z cnt G g := by
  have own : ∀ {b z' len : Nat} {off : Option Nat}, ownAt x = some (b, z', off, len) → (if z = z' then (match arrAt H b with
      | some (e, z'', n, F, c) => if z = z'' then (match off with
        | none => some (len, F, fun cnt => [Env.std.ob (.leN cnt n)])
        | some o => some (len, fun k => F (Env.std.aN o k), fun cnt => [Env.std.ob (.leN (Env.std.aN o cnt) n)])) else none
      | none => none) else none) = some (m, G, l) →
      ∃ (a : Option Addr) (c : Nat) (g : Nat → Nat → Value), v = .slice a m c ∧ (cnt * z = 0 ∨ ∃ ad, a = some ad ∧ ∀ i j, i < cnt → j < z → w.cell? (ad.add (i * z + j)) = some (g i j)) ∧ NewCells w O z cnt G g := by
    intro b z' len off ho hq
    obtain ⟨a, c, rfl, hc, ha, hnil⟩ := ownAt_ok hv ho
    split at hq
    · rename_i hz
      subst hz
      split at hq
      · rename_i e z'' n F cc harr
        split at hq
        · rename_i hz
          subst hz
          obtain ⟨hb, _⟩ := arrAt_blk harr
          have hm : len = m ∧ (∀ k, G k = F (off.getD 0 + k)) ∧ off.getD 0 + cnt ≤ n := by
            cases off with
            | none =>
              simp only [Option.some.injEq, Prod.mk.injEq] at hq
              obtain ⟨rfl, rfl, rfl⟩ := hq
              exact ⟨rfl, fun k => by simp, by have : cnt ≤ n := hl _ (.head _); simpa using this⟩
            | some o =>
              simp only [Option.some.injEq, Prod.mk.injEq] at hq
              obtain ⟨rfl, rfl, rfl⟩ := hq
              exact ⟨rfl, fun k => rfl, hl (Env.std.ob (.leN (Env.std.aN o cnt) n)) (.head _)⟩
          obtain ⟨rfl, hG, hle⟩ := hm
          rcases row_of hH hb with ⟨k1, k2, _⟩ | ⟨g, cap, cur, hr⟩
          · have h0 : cnt = 0 := by omega
            subst h0
            exact ⟨a, c, fun _ _ => undef, rfl, .inl (by simp), ⟨fun i hi => absurd hi (by omega), fun i j x hi => absurd hi (by omega)⟩⟩
          · refine ⟨a, c, fun i j => cur.getD ((off.getD 0 + i) * z + j) undef, rfl, ?_, ⟨fun i hi => by rw [hG]; exact hr.ln _ (by omega), fun i j x hi hx => ?_⟩⟩
            · rcases ha with h0 | ⟨g', cap', hg', ha⟩
              · exact .inl (by simp [show cnt = 0 by omega])
              · rw [hr.pl] at hg'; cases hg'
                refine .inr ⟨_, ha, fun i j hi hj => ?_⟩
                have : (off.getD 0 + i) * z + j < cur.size := by rw [hr.sz]; exact lt_flat (by have := hr.le; omega) hj
                rw [add_lit, cell_of_row w _ _ cur e _ hr.hp]
                have e1 : off.getD 0 * z + (i * z + j) = (off.getD 0 + i) * z + j := by rw [Nat.add_mul (off.getD 0) i z]; omega
                rw [e1]
                simp only [Array.getElem?_eq_getElem this, Array.getD, this, dif_pos]
                rfl
            · rw [hG] at hx
              obtain ⟨u, hu, hru⟩ := hr.rl _ j x (by omega) hx
              have : cur.getD ((off.getD 0 + i) * z + j) undef = u := by simp only [Array.getD_eq_getD_getElem?, hu, Option.getD_some]
              show RU w O x (cur.getD ((off.getD 0 + i) * z + j) undef)
              rw [this]; exact hru
        · cases hq
      · cases hq
    · cases hq
  unfold srcOf at h
  split at h
  · rename_i o z' n f
    split at h
    · rename_i hz
      subst hz
      simp only [Option.some.injEq, Prod.mk.injEq] at h
      obtain ⟨rfl, rfl, rfl⟩ := h
      cases hv with | u _ _ hu => cases hu with
      | sv _ _ _ c _ a g hc ha hlen hr =>
        refine ⟨a, c, g, rfl, ?_, fun i hi => hlen i (by omega), fun i j x hi hx => hr i j x (by omega) hx⟩
        rcases ha with h0 | ⟨ad, e, _, hcell⟩
        · rcases Nat.mul_eq_zero.1 h0 with h0 | h0
          · exact .inl (by simp [show cnt = 0 by omega])
          · exact .inl (by simp [h0])
        · exact .inr ⟨ad, e, fun i j hi hj => hcell i j (by omega) hj⟩
    · cases h
  · simp only [Option.some.injEq, Prod.mk.injEq] at h
    obtain ⟨rfl, rfl, rfl⟩ := h
    have := hv.scv
    subst this
    have h0 : cnt = 0 := by omega
    subst h0
    exact ⟨none, 0, fun _ _ => undef, rfl, .inl (by simp), ⟨fun i hi => absurd hi (by omega), fun i j x hi => absurd hi (by omega)⟩⟩
  · split at h
    · rename_i b z' off len ho
      exact own ho h
    · cases h
theorem loaded {z cnt : Nat} {ad : Addr} {g : Nat → Nat → Value} (h : ∀ i j, i < cnt → j < z → w.cell? (ad.add (i * z + j)) = some (g i j)) : ∀ j v, (flat z cnt g)[j]? = some v → w.cell? (ad.add j) = some v := fun j u hu => by
  obtain ⟨h1, h2, h3⟩ := flat_mem hu
  have := h _ _ h1 h2
  have e1 : j / z * z + j % z = j := by rw [Nat.mul_comm]; exact Nat.div_add_mod j z
  rw [e1] at this
  rw [this, h3]
theorem flat_nil {z cnt : Nat} {g : Nat → Nat → Value} (h : cnt * z = 0) : flat z cnt g = [] := List.eq_nil_of_length_eq_zero (by rw [flat_length, h])
theorem first_ok {z cnt m c : Nat} {a : Option Addr} {g : Nat → Nat → Value} (ha : cnt * z = 0 ∨ ∃ ad, a = some ad ∧ ∀ i j, i < cnt → j < z → w.cell? (ad.add (i * z + j)) = some (g i j)) (hn : a = none → cnt = 0) :
    (Builtin.firstCells z cnt (.slice a m c)).run P w = .ok (flat z cnt g).toArray w := by
  cases a with
  | none => rw [hn rfl]; simp [Builtin.firstCells, flat]
  | some ad =>
    rcases ha with h0 | ⟨ad', e, hcell⟩
    · rw [flat_nil h0]
      simp [Builtin.firstCells, h0, loadCells, loadCellsFrom]
    · cases e
      have := run_loadCells_list (P := P) w ad (flat z cnt g) (loaded hcell)
      rw [flat_length] at this
      simp [Builtin.firstCells, this]
theorem min_std (a b : Nat) : Env.std.tn (Env.std.mn (Env.std.iN a) (Env.std.iN b)) = min a b := by
  show (if (b : Int) < (a : Int) then (b : Int) else (a : Int)).toNat = min a b
  split <;> omega
theorem minI_std (a b : Nat) : Env.std.mn (Env.std.iN a) (Env.std.iN b) = ((min a b : Nat) : Int) := by
  show (if (b : Int) < (a : Int) then (b : Int) else (a : Int)) = _
  split <;> omega
theorem rowsPut_std (F G : Nat → List U) (cnt : Nat) (off : Option Nat) (k : Nat) : rowsPut Env.std F G cnt off k = if k < off.getD 0 then F k else if k - off.getD 0 < cnt then G (k - off.getD 0) else F k := by
  cases off with
  | none => simp [rowsPut, Env.std]
  | some o => simp [rowsPut, Env.std]
theorem cpy_ok {s : Nat} (hH : HOK w O ρ H) {t t' ty e : TypeId} {te : TI} (ht : P.underlying t = some (.slice e)) (he : TIOK P e te) {x y r : V} {vx vy : Value} (hx : RV w O ρ x vx) (hy : RV w O ρ y vy) {val : Operand → V} {xo yo : Operand} (ex : val xo = x) (ey : val yo = y)
    {d : Delta} {l : List Prop} (h : xstep Env.std val H s (.cpy te.sz xo yo) = some (r, d, l)) (hl : ∀ p ∈ l, p) : StepOK P w O ρ H s (do pure (.value (← Builtin.copy_ #[t, t'] ty #[vx, vy]))) r d := by
  simp only [xstep, ex, ey] at h
  split at h
  · rename_i m G lo b z' off len hsrc hown
    split at h
    · rename_i hz
      subst hz
      obtain ⟨a, c, rfl, hc, ha, hnil⟩ := ownAt_ok hx hown
      rw [min_std, minI_std] at h
      have main : ∀ (cc : Option Nat) (n n' : Nat) (F : Nat → List U) (e0 : Nat), H[b]? = some (arrB e0 te.sz n F cc) → (∀ p ∈ lo (min m len), p) → off.getD 0 ≤ n → (∀ g cap cur, Row w O ρ b e0 te.sz n F cc g cap cur → off.getD 0 + min m len ≤ cap) → n ≤ n' → (n' = n ∨ n' = off.getD 0 + min m len) →
          StepOK P w O ρ H s (do pure (.value (← Builtin.copy_ #[t, t'] ty #[.slice a len c, vy]))) (scI .i64 ((min m len : Nat) : Int)) [(b, arrB e0 te.sz n' (rowsPut Env.std F G (min m len) off) cc)] := by
        intro cc n n' F e0 hb hlo hoff hcap h1 h2
        obtain ⟨a', c', g', rfl, hcell, hN⟩ := srcOf_ok hH hsrc hy (Nat.min_le_left m len) hlo
        have hnone : a' = none → min m len = 0 ∨ te.sz = 0 := fun e => by
          rcases hcell with h | ⟨ad, e', _⟩
          · exact Nat.mul_eq_zero.1 h
          · rw [e] at e'; cases e'
        have hfirst : (Builtin.firstCells te.sz (min m len) (.slice a' m c')).run P w = .ok (flat te.sz (min m len) g').toArray w := by
          cases a' with
          | none =>
            have : flat te.sz (min m len) g' = [] := flat_nil (Nat.mul_eq_zero.2 (hnone rfl))
            rw [this]; simp [Builtin.firstCells]
          | some ad => exact first_ok hcell (fun e => nomatch e)
        rcases row_of hH hb with ⟨k1, k2, k3⟩ | ⟨g, cap, cur, hr⟩
        · have h0 : len = 0 := hnil k1
          have hm0 : min m len = 0 := by omega
          have hn' : n' = 0 := by omega
          have hf : flat te.sz 0 g' = [] := flat_nil (by simp)
          rw [hm0] at hfirst ⊢
          rw [hf] at hfirst
          have hg := good_reblk hH hb (by cases cc <;> trivial) (arrB e0 te.sz n' (rowsPut Env.std F G 0 off) cc) (by
            cases cc with
            | none => exact .inl ⟨k1, hn'⟩
            | some c0 => exact .inl ⟨k1, hn', k3 c0 rfl⟩)
          refine ⟨_, _, w, O, ρ, ?_, .inl rfl, scI_ok _ _, hg, fun _ _ => rfl⟩
          have hm' : Nat.min m len = 0 := hm0
          cases a <;> simp [Builtin.copy_, run_underlying ht, Builtin.lenOf, he.run_size w, hm', hfirst, storeCells, goInt]
        · obtain ⟨new, hst, hgood⟩ := put_rows (P := P) hH hb hr hN hoff (hcap g cap cur hr) h1 h2 (F' := rowsPut Env.std F G (min m len) off) (fun k _ => rowsPut_std F G _ off k)
          rcases ha with h0 | ⟨g1, cap1, hg1, rfl⟩
          · have hm0 : min m len = 0 := by omega
            have hf : flat te.sz 0 g' = [] := flat_nil (by simp)
            rw [hm0, hf] at hst
            rw [hm0, hf] at hfirst
            have hw : w.setRow g new = w := by
              simp [storeCells] at hst
              exact hst.symm
            rw [hw, hm0] at hgood
            rw [hm0]
            refine ⟨_, _, w, O, ρ, ?_, .inl rfl, scI_ok _ _, hgood, fun _ _ => rfl⟩
            have hm' : Nat.min m len = 0 := hm0
            cases a <;> simp [Builtin.copy_, run_underlying ht, Builtin.lenOf, he.run_size w, hm', hfirst, storeCells, goInt]
          · rw [hr.pl] at hg1; cases hg1
            refine ⟨_, _, w.setRow g new, O, ρ, ?_, .inl rfl, scI_ok _ _, hgood, fun _ _ => rfl⟩
            have hm' : Nat.min m len = min m len := rfl
            simp [Builtin.copy_, run_underlying ht, Builtin.lenOf, he.run_size w, hm', hfirst, hst, goInt]
      split at h
      · rename_i e0 z'' n F hblk
        split at h
        · rename_i hz
          subst hz
          cases h
          have hseg : off.getD 0 + len ≤ n := by
            have := hl _ (.head _)
            cases off with
            | none => simpa [segOb] using this
            | some o => exact this
          exact main none n n F e0 (blkAt_eq hblk trivial) (fun p hp => hl p (.tail _ hp)) (by omega) (fun g cap cur hr => by have := hr.le; have := Nat.min_le_right m len; omega) (Nat.le_refl _) (.inl rfl)
        · cases h
      · rename_i e0 z'' n F cc hblk
        split at h
        · rename_i hz
          subst hz
          split at h
          · rename_i o
            cases h
            have q1 : o + len ≤ cc := hl (Env.std.ob (.leN (Env.std.aN o len) cc)) (.head _)
            have q2 : o ≤ n := hl _ (.tail _ (.head _))
            have hn' : Env.std.aN n (Env.std.sN (Env.std.aN o (min m len)) n) = n + (o + min m len - n) := rfl
            rw [hn']
            refine main (some cc) n _ F e0 (blkAt_eq hblk trivial) (fun p hp => hl p (.tail _ (.tail _ hp))) q2 (fun g cap cur hr => ?_) (by omega) ?_
            · have := hr.cp cc rfl; have := Nat.min_le_right m len; show o + min m len ≤ cap; omega
            · show n + (o + min m len - n) = n ∨ n + (o + min m len - n) = o + min m len; omega
          · cases h
        · cases h
      · cases h
    · cases h
  · cases h
end
end Am
end
section
open Go Go.Lib
set_option linter.unusedVariables false
set_option linter.unusedSimpArgs false
set_option linter.unusedSectionVars false
namespace Am
section
variable {P : Program} {w : World} {O : Own} {ρ : Place} {H : Heap}
theorem append_ty (t t' ty e e' : TypeId) (ht : P.underlying t = some (.slice e)) (ht' : P.underlying t' = some (.slice e')) (x y : Value) : (Builtin.append_ #[t, t'] ty #[x, y]).run P w = (Builtin.append_ #[t, t] ty #[x, y]).run P w := by
  cases x <;> simp [Builtin.append_, run_underlying ht, run_underlying ht']
theorem StepOK.congr {s : Nat} {s1 s2 : Sem Next} {v : V} {d : Delta} (h : s1.run P w = s2.run P w) (h2 : StepOK P w O ρ H s s2 v d) : StepOK P w O ρ H s s1 v d := by
  obtain ⟨r, v', w', O', ρ', h1, h2⟩ := h2
  exact ⟨r, v', w', O', ρ', by rw [h, h1], h2⟩
theorem zero_rows {te : TI} {e : TypeId} (he : TIOK P e te) {us : List U} (hus : toU (ofCells te.zero) = some us) {z : Value} (hzc : z.cells.toList = te.zero) (n : Nat) : NewCells w O te.sz n (fun _ => us) (fun _ j => z.cells.getD j undef) := by
  have hlen : us.length = te.sz := by rw [← ofUs_length, ← toU_spec _ _ hus, ofCells_length, he.len]
  refine ⟨fun _ _ => hlen, fun i j x _ hx => ?_⟩
  obtain ⟨q1, q2⟩ := zero_rel (w := w) (O := O) (ρ := fun _ => .unset) hzc
  rw [toU_spec _ _ hus] at q2
  obtain ⟨u, hu, hr⟩ := q2 j (.u x) (by
    clear hlen q1 q2 hus
    induction us generalizing j with
    | nil => simp at hx
    | cons y l ih => cases j with
      | zero => simp at hx; subst hx; rfl
      | succ j => simpa [ofUs] using ih j (by simpa using hx))
  have : z.cells.getD j undef = u := by simp only [Array.getD_eq_getD_getElem?, hu, Option.getD_some]
  show RU w O x (z.cells.getD j undef)
  rw [this]
  cases hr; assumption
theorem zeroCells_flat (z : Array Value) (n : Nat) : (Builtin.zeroCells z n).toList = flat z.size n (fun _ j => z.getD j undef) := by
  apply List.ext_getElem?
  intro k
  by_cases hk : k < n * z.size
  · have hz : 0 < z.size := by rcases Nat.eq_zero_or_pos z.size with h | h; (rw [h] at hk; simp at hk); exact h
    have hm := Nat.mod_lt k hz
    have h1 : k / z.size < n := (Nat.div_lt_iff_lt_mul hz).2 hk
    have h2 := flat_get (z := z.size) (m := n) (fun _ j => z.getD j undef) h1 hm
    have e1 : k / z.size * z.size + k % z.size = k := by rw [Nat.mul_comm]; exact Nat.div_add_mod k z.size
    rw [e1] at h2
    rw [h2]
    simp [Builtin.zeroCells, hk, hm]
  · rw [List.getElem?_eq_none (by simp [Builtin.zeroCells]; omega), List.getElem?_eq_none (by rw [flat_length]; omega)]
theorem madeCells_flat (z : Array Value) (n : Nat) : (madeCells z (n * z.size)).toList = flat z.size n (fun _ j => z.getD j undef) := by
  rw [← zeroCells_flat]
  simp [madeCells, Builtin.zeroCells]
theorem clr_ok {s : Nat} (hH : HOK w O ρ H) {t ty e : TypeId} {te : TI} (ht : P.underlying t = some (.slice e)) (he : TIOK P e te) {x r : V} {vx : Value} (hx : RV w O ρ x vx) {val : Operand → V} {xo : Operand} (ex : val xo = x)
    {d : Delta} {l : List Prop} (h : xstep Env.std val H s (.clr te.sz te.zero xo) = some (r, d, l)) (hl : ∀ p ∈ l, p) : StepOK P w O ρ H s (do pure (.value (← Builtin.clear_ #[t] ty #[vx]))) r d := by
  obtain ⟨ie, z, hie, hisz, hiby, hiz, hzc⟩ := he.zeroCells
  simp only [xstep, ex] at h
  split at h
  · rename_i us b z' off len hus hown
    split at h
    · rename_i hz
      subst hz
      obtain ⟨a, c, rfl, hc, ha, hnil⟩ := ownAt_ok hx hown
      split at h
      · rename_i e0 z'' n F cc harr
        split at h
        · rename_i hz
          subst hz
          cases h
          obtain ⟨hb, hlive⟩ := arrAt_blk harr
          have hseg : off.getD 0 + len ≤ n := by
            have := hl _ (.head _)
            cases off with
            | none => simpa [segOb] using this
            | some o => exact this
          have hz0 : 0 < te.sz := hl _ (.tail _ (.head _))
          have hzs : z.cells.size = te.sz := by rw [← Array.length_toList, hzc, he.len]
          have hzr : ∀ w : World, (zeroValue e).run P w = .ok z w := fun w => by simp [zeroValue, typeInfo, hie, hiz]
          have zero : len = 0 → StepOK P w O ρ H s (do pure (.value (← Builtin.clear_ #[t] ty #[.slice a len c]))) .un [(b, arrB e0 te.sz n (rowsPut Env.std F (fun _ => us) len off) cc)] := fun h0 => by
            subst h0
            have hg := good_reblk hH hb hlive (arrB e0 te.sz n (rowsPut Env.std F (fun _ => us) 0 off) cc) (by
              have e1 : rowsPut Env.std F (fun _ => us) 0 off = F := by funext k; rw [rowsPut_std]; split <;> simp
              rw [e1]; exact hH.blk b _ hb)
            refine ⟨_, .tuple #[], w, O, ρ, ?_, .inl rfl, .un _, hg, fun _ _ => rfl⟩
            cases a <;> simp [Builtin.clear_, run_underlying ht]
          rcases Nat.eq_zero_or_pos len with h0 | h0
          · exact zero h0
          · rcases ha with h0' | ⟨g, cap, hg, rfl⟩
            · omega
            · rcases row_of hH hb with ⟨k1, _⟩ | ⟨g', cap', cur, hr⟩
              · rw [hg] at k1; cases k1
              have e2 := hr.pl
              rw [hg] at e2
              cases e2
              obtain ⟨new, hst, hgood⟩ := put_rows (P := P) hH hb hr (zero_rows (w := w) (O := O) he hus hzc len) (by omega) (by have := hr.le; omega) (Nat.le_refl _) (.inl rfl) (F' := rowsPut Env.std F (fun _ => us) len off) (fun k _ => rowsPut_std F _ _ off k)
              refine ⟨_, .tuple #[], w.setRow g new, O, ρ, ?_, .inl rfl, .un _, hgood, fun _ _ => rfl⟩
              have e3 := zeroCells_flat z.cells len
              rw [hzs] at e3
              rw [← e3] at hst
              obtain ⟨m, rfl⟩ : ∃ m, len = m + 1 := ⟨len - 1, by omega⟩
              simp [Builtin.clear_, run_underlying ht, hzr, hst]
        · cases h
      · cases h
    · cases h
  · cases h
theorem zeros_new (hH : HOK w O ρ H) {s : Nat} (hs : ρ s = .unset) {e : TypeId} {te : TI} (he : TIOK P e te) {us : List U} (hus : toU (ofCells te.zero) = some us) {z : Value} (hzc : z.cells.toList = te.zero) {n cap : Nat} {cs : Array Value} (hsz : cs.size = cap * te.sz) (hle : n ≤ cap) (hmx : cap ≤ maxLen)
    (hget : ∀ i j, i < n → j < te.sz → cs[i * te.sz + j]? = some (z.cells.getD j undef)) :
    Good w O ρ H (w.alloc (.cells cs e)) (O.add w.heap.size) (upd ρ s (.at w.heap.size cap)) (putH H s (.arr e te.sz n (fun _ => us))) := by
  have hk := keeps_alloc (w := w) (O := O) (.cells cs e)
  have hN := zero_rows (w := w) (O := O) he hus hzc n
  exact good_new hH hs (.cells cs e) cap (.arr e te.sz n (fun _ => us)) (.inr ⟨w.heap.size, _, cs, upd_same _ _ _, .inr rfl, heap_alloc_new w _, hsz, hle, hmx, hN.len, fun i j x hi hx => by
    have hj : j < te.sz := by rw [← hN.len i hi]; exact lt_of_get hx
    exact ⟨_, hget i j hi hj, (hN.rel i j x hi hx).mono hk⟩⟩)
theorem mks_ok {s : Nat} (hH : HOK w O ρ H) (hs : ρ s = .unset) {t e : TypeId} {te : TI} (ht : P.underlying t = some (.slice e)) (he : TIOK P e te) {x r : V} {vx : Value} (hx : RV w O ρ x vx) {val : Operand → V} {xo : Operand} (ex : val xo = x)
    {d : Delta} {l : List Prop} (h : xstep Env.std val H s (.mks e te.sz te.by_ te.zero xo) = some (r, d, l)) (hl : ∀ p ∈ l, p) : StepOK P w O ρ H s (do pure (.value (← Instr.makeSlice t vx vx))) r d := by
  obtain ⟨ie, z, hie, hisz, hiby, hiz, hzc⟩ := he.zeroCells
  simp only [xstep, ex] at h
  split at h
  · rename_i us k hus
    cases h
    rw [hx.scv]
    have g0 : 0 ≤ k := hl _ (.head _)
    have g1 : k * te.by_ ≤ 140737488355328 := hl _ (.tail _ (.head _))
    have g2 : k ≤ 4611686018427387904 := hl _ (.tail _ (.tail _ (.head _)))
    have hzs : z.cells.size = te.sz := by rw [← Array.length_toList, hzc, he.len]
    have hrun := run_make (P := P) w t e ie z ht hie hiz .i64 .i64 k k g0 (Int.le_refl _) (by rw [hiby, Int.mul_comm]; omega) (by omega)
    rw [hisz, ← hzs] at hrun
    have hfl := madeCells_flat z.cells k.toNat
    generalize hcs : madeCells z.cells (k.toNat * z.cells.size) = cs at hrun hfl
    have hsz : cs.size = k.toNat * te.sz := by rw [← hcs, size_madeCells, hzs]
    rw [hzs] at hfl
    have g := zeros_new hH hs he hus hzc (n := k.toNat) (cap := k.toNat) hsz (Nat.le_refl _) (by unfold maxLen; omega) (fun i j hi hj => by
      rw [← Array.getElem?_toList, hfl]
      exact flat_get _ hi hj)
    exact ⟨_, _, _, _, _, by simp [hrun], .inl rfl, .srP s te.sz k.toNat w.heap.size k.toNat (upd_same _ _ _) (Nat.le_refl _), g, fun b hb => upd_other _ _ _ (nmem hb)⟩
  · cases h
theorem bsl0_ok {s : Nat} (hH : HOK w O ρ H) (hs : ρ s = .unset) {t e : TypeId} {te : TI} (ht : P.underlying t = some (.slice e)) (he : TIOK P e te) :
    StepOK P w O ρ H s (do pure (.value (← Instr.buildSlice t 0 #[]))) (.sr s te.sz 0 0) [(s, .arr e te.sz 0 (fun _ => []))] := by
  have hrun : (Instr.buildSlice t 0 #[]).run P w = .ok (.slice (some ⟨w.heap.size, 0, none⟩) 0 0) (w.alloc (.cells #[] e)) := by
    simp [Instr.buildSlice, run_underlying ht, he.run_size w, Instr.fill, newRow, Array.range_zero']
  have g := good_new hH hs (.cells #[] e) 0 (.arr e te.sz 0 (fun _ => [])) (.inr ⟨w.heap.size, 0, #[], upd_same _ _ _, .inr rfl, heap_alloc_new w _, by simp, Nat.le_refl _, by unfold maxLen; omega, fun i hi => by omega, fun i j x hi => by omega⟩)
  exact ⟨_, _, _, _, _, by simp [hrun], .inl rfl, .srP s te.sz 0 w.heap.size 0 (upd_same _ _ _) (Nat.le_refl _), g, fun b hb => upd_other _ _ _ (nmem hb)⟩
theorem appW_ok {s : Nat} (hH : HOK w O ρ H) {t t' ty e e' : TypeId} {te : TI} (ht : P.underlying t = some (.slice e)) (ht' : P.underlying t' = some (.slice e')) (he : TIOK P e te) {x y r : V} {vx vy : Value} (hx : RV w O ρ x vx) (hy : RV w O ρ y vy) {val : Operand → V} {xo yo : Operand} (ex : val xo = x) (ey : val yo = y)
    {d : Delta} {l : List Prop} (h : xstep Env.std val H s (.appW te.sz xo yo) = some (r, d, l)) (hl : ∀ p ∈ l, p) : StepOK P w O ρ H s (do pure (.value (← Builtin.append_ #[t, t'] ty #[vx, vy]))) r d := by
  obtain ⟨ie, z, hie, hisz, hiby, hiz, hzc⟩ := he.zeroCells
  simp only [xstep, ex, ey] at h
  split at h
  · rename_i m G lr b z' len hrows
    split at h
    · rename_i hz
      subst hz
      split at h
      · rename_i e0 z'' n F cc harr
        split at h
        · rename_i hz
          subst hz
          cases h
          have hle : len + m ≤ n := hl (Env.std.ob (.leN (Env.std.aN len m) n)) (.head _)
          obtain ⟨a, c, g', rfl, hcell, hlenG, hrelG⟩ := rowsOf_ok hH hrows (fun p hp => hl p (.tail _ hp)) hy
          obtain ⟨hb, hlive⟩ := arrAt_blk harr
          have hstep : ∀ {v' : Value} {w' : World}, (Builtin.append_ #[t, t'] ty #[vx, .slice a m c]).run P w = .ok v' w' → (do pure (.value (← Builtin.append_ #[t, t'] ty #[vx, .slice a m c])) : Sem Next).run P w = .ok (.value v') w' := fun h => by simp [h]
          rcases Nat.eq_zero_or_pos m with h0 | h0
          · subst h0
            have hg := good_reblk hH hb hlive (arrB e0 te.sz n (rowsPut Env.std F G 0 (some len)) cc) (by
              have e1 : rowsPut Env.std F G 0 (some len) = F := by funext k; rw [rowsPut_std]; split <;> simp
              rw [e1]; exact hH.blk b _ hb)
            cases hx with
            | srN _ _ hn =>
              exact ⟨_, _, w, O, ρ, hstep (by rw [append_ty t t' ty e e' ht ht']; exact run_append_zero ht he none 0 0 (Nat.le_refl _) a c), .inl rfl, .srN b _ hn, hg, fun _ _ => rfl⟩
            | srP _ _ _ g cap hgb hc =>
              exact ⟨_, _, w, O, ρ, hstep (by rw [append_ty t t' ty e e' ht ht']; exact run_append_zero ht he (some ⟨g, 0, none⟩) len cap hc a c), .inl rfl, .srP b _ _ g cap hgb hc, hg, fun _ _ => rfl⟩
            | srO _ _ _ _ _ _ _ _ _ h0 => omega
          · cases hx with
            | srN _ _ hn =>
              rcases row_of hH hb with ⟨k1, k2, _⟩ | ⟨g1, cap1, cur, hr⟩
              · omega
              · have := hr.pl; rw [hn] at this; cases this
            | srO _ _ _ _ _ _ _ _ _ h0 => omega
            | srP _ _ _ g cap hgb hc =>
              rcases row_of hH hb with ⟨k1, _⟩ | ⟨g1, cap1, cur, hr⟩
              · rw [hgb] at k1; cases k1
              have e2 := hr.pl
              rw [hgb] at e2
              cases e2
              have hN : NewCells w O te.sz m G g' := ⟨hlenG, hrelG⟩
              obtain ⟨new, hst, hgood⟩ := put_rows (P := P) hH hb hr (off := len) hN (by omega) (by have := hr.le; omega) (Nat.le_refl _) (.inl rfl) (F' := rowsPut Env.std F G m (some len)) (fun k _ => rowsPut_std F _ _ _ k)
              have hfirst : (Builtin.firstCells te.sz m (.slice a m c)).run P w = .ok (flat te.sz m g').toArray w := by
                cases a with
                | none =>
                  have : flat te.sz m g' = [] := flat_nil (by rcases hcell with h | ⟨ad, e', _⟩; exact h; cases e')
                  rw [this]; simp [Builtin.firstCells]
                | some ad => exact first_ok hcell (fun e => nomatch e)
              have hroom : len + m ≤ cap := by have := hr.le; omega
              refine ⟨_, _, w.setRow g new, O, ρ, hstep (by rw [append_ty t t' ty e e' ht ht']; simp [Builtin.append_, run_underlying ht, he.run_size w, Builtin.lenOf, hroom, hfirst, add_lit, hst]; rfl), .inl rfl, .srP b _ _ g cap hgb hroom, hgood, fun _ _ => rfl⟩
        · cases h
      · cases h
    · cases h
  · cases h
end
end Am
end
section
open Go Go.Lib
set_option linter.unusedVariables false
set_option linter.unusedSimpArgs false
set_option linter.unusedSectionVars false
namespace Am
section
variable {P : Program} {w : World} {O : Own} {ρ : Place} {H : Heap}
theorem appZ_ok {s : Nat} (hH : HOK w O ρ H) (hs : ρ s = .unset) {t t' ty e : TypeId} {te : TI} (ht : P.underlying t = some (.slice e)) (ht' : P.underlying t' = some (.int .i64)) (he : TIOK P e te) {x y r : V} {vx vy : Value} (hx : RV w O ρ x vx) (hy : RV w O ρ y vy) {val : Operand → V} {xo yo : Operand} (ex : val xo = x) (ey : val yo = y)
    {d : Delta} {l : List Prop} (h : xstep Env.std val H s (.appZ e te.sz te.by_ te.zero xo yo) = some (r, d, l)) (hl : ∀ p ∈ l, p) : StepOK P w O ρ H s (do pure (.value (← Builtin.append_ #[t, t'] ty #[vx, vy]))) r d := by
  obtain ⟨ie, z, hie, hisz, hiby, hiz, hzc⟩ := he.zeroCells
  have hzs : z.cells.size = te.sz := by rw [← Array.length_toList, hzc, he.len]
  simp only [xstep, ex, ey] at h
  split at h
  · rename_i us k hus
    cases h
    rw [hx.scv, hy.scv]
    have g0 : 0 ≤ k := hl _ (.head _)
    have g1 : k * te.by_ ≤ 140737488355328 := hl _ (.tail _ (.head _))
    have g2 : k ≤ 4611686018427387904 := hl _ (.tail _ (.tail _ (.head _)))
    have g3 : 0 < te.sz := hl _ (.tail _ (.tail _ (.tail _ (.head _))))
    obtain ⟨n, rfl⟩ : ∃ n : Nat, k = n := ⟨k.toNat, by omega⟩
    have g1' : n * te.by_ ≤ 140737488355328 := by
      have : ((n * te.by_ : Nat) : Int) ≤ 140737488355328 := by rw [Int.natCast_mul]; exact g1
      omega
    have hn : Env.std.tn (n : Int) = n := Int.toNat_natCast n
    rw [hn]
    rcases Nat.eq_zero_or_pos n with h0 | h0
    · subst h0
      have hw : IntKind.i64.wrap (0 : Int) = 0 := by rw [IntKind.wrap_i64]; omega
      have hrun : (Builtin.append_ #[t, t'] ty #[.slice none 0 0, .int .i64 (0 : Nat)]).run P w = .ok (.slice none 0 0) w := by
        simp [Builtin.append_, run_underlying ht, run_underlying ht', he.run_size w, typeInfo, hie, asInt, asIntOf, hw]
      have hrun' : (Builtin.append_ #[t, t'] ty #[.slice none 0 0, .int .i64 0]).run P w = .ok (.slice none 0 0) w := hrun
      exact ⟨_, .slice none 0 0, w, O, upd ρ s .nil, by simp [hrun'], .inl rfl, .srN s _ (upd_same _ _ _), good_nil hH hs e te.sz _, fun b hb => upd_other _ _ _ (nmem hb)⟩
    · have hrun := run_append_nil_zeros (P := P) w t t' ty e ie z .i64 .i64 ht ht' hie hiz n h0 (by rw [hisz]; exact g3) (by omega) (by rw [hiby]; omega)
      have hcapge := grownCap_ge w n 0 e
      have hcapm : grownCap w n 0 e ≤ maxLen := grownCap_le_maxLen w n 0 e (by unfold maxLen; omega)
      generalize hcs : Builtin.zeroCells z.cells n ++ Builtin.zeroCells z.cells (grownCap w n 0 e - n) = cs at hrun
      have hsz : cs.size = grownCap w n 0 e * te.sz := by
        rw [← hcs, Array.size_append, size_zeroCells, size_zeroCells, hzs, ← Nat.add_mul]; congr 1; omega
      have q0 := good_drew (w := w) hH
      have q1 := zeros_new (w := w.drew) q0.hok hs he hus hzc (n := n) hsz hcapge hcapm (fun i j hi hj => by
        have hlt := lt_flat hi hj
        rw [← hcs, Array.getElem?_append_left (by rw [size_zeroCells, hzs]; exact hlt), ← Array.getElem?_toList, zeroCells_flat, hzs]
        exact flat_get _ hi hj)
      exact ⟨_, _, _, _, _, by simp [hrun], .inl rfl, .srP s te.sz n w.heap.size _ (upd_same _ _ _) hcapge, q0.trans hH q1, fun b hb => upd_other _ _ _ (nmem hb)⟩
  · rename_i us b z' len k hus
    split at h
    · rename_i hz
      subst hz
      split at h
      · rename_i e0 z'' n F cc hblk
        split at h
        · rename_i hz
          subst hz
          split at h
          · rename_i hee
            subst hee
            cases h
            rw [hy.scv]
            have g0 : 0 ≤ k := hl _ (.head _)
            have g1 : len ≤ n := hl _ (.tail _ (.head _))
            have g2 : cc < len + k.toNat := hl (Env.std.ob (.ltN cc (Env.std.aN len (Env.std.tn k)))) (.tail _ (.tail _ (.head _)))
            have g3 : (len + k.toNat) * te.by_ ≤ 140737488355328 := hl (Env.std.ob (.room (Env.std.aN len (Env.std.tn k)) te.by_)) (.tail _ (.tail _ (.tail _ (.head _))))
            have g4 : len + k.toNat ≤ 4611686018427387904 := hl (Env.std.ob (.leN (Env.std.aN len (Env.std.tn k)) 4611686018427387904)) (.tail _ (.tail _ (.tail _ (.tail _ (.head _)))))
            have g5 : 0 < te.sz := hl (Env.std.ob (.ltN 0 te.sz)) (.tail _ (.tail _ (.tail _ (.tail _ (.tail _ (.head _))))))
            obtain ⟨m, rfl⟩ : ∃ m : Nat, k = m := ⟨k.toNat, by omega⟩
            simp only [Int.toNat_natCast] at g2 g3 g4
            have hm' : Env.std.aN len (Env.std.tn (m : Int)) = len + m := by show len + (m : Int).toNat = len + m; rw [Int.toNat_natCast]
            rw [hm']
            have hb : H[b]? = some (arrB e te.sz n F (some cc)) := blkAt_eq hblk trivial
            have hm0 : 0 < m ∧ (∀ g cap cur, Row w O ρ b e te.sz n F (some cc) g cap cur → cap < len + m) := ⟨by
              rcases row_of hH hb with ⟨k1, k2, k3⟩ | ⟨g, cap, cur, hr⟩
              · have := k3 cc rfl; omega
              · have := hr.cp cc rfl; have := hr.le; omega, fun g cap cur hr => by have := hr.cp cc rfl; omega⟩
            have hmb : m * te.by_ ≤ 140737488355328 := Nat.le_trans (Nat.mul_le_mul_right _ (by omega)) g3
            have hrow : (fun j => if Env.std.lN j len = true then F j else us) = joined len F (fun _ => us) := by funext j; simp [joined, Env.std]
            rw [hrow]
            have hNz := zero_rows (w := w) (O := O) he hus hzc m
            have main : ∀ (base : Option Addr) (cap : Nat) (olds : List Value), cap < len + m → (∀ w', (∀ a v, w.cell? a = some v → w'.cell? a = some v) → (Builtin.firstCells ie.size len (.slice base len cap)).run P w' = .ok olds.toArray w') → olds.length = len * te.sz →
                (∀ (i j : Nat) (x : U), i < len → (F i)[j]? = some x → ∃ v, olds[i * te.sz + j]? = some v ∧ RU w O x v) → (∀ i, i < len → (F i).length = te.sz) →
                StepOK P w O ρ H s (do pure (.value (← Builtin.append_ #[t, t'] ty #[.slice base len cap, .int .i64 (m : Int)]))) (.sr s te.sz 0 (len + m)) [(s, .arr e te.sz (len + m) (joined len F (fun _ => us)))] := by
              intro base cap olds hcap hold hol hrel hln
              have hrun := run_append_grow_zeros (P := P) w t t' ty e ie z .i64 .i64 ht ht' hie hiz base len cap olds (hold w.drew fun a v h => h) m hm0.1 (by rw [hisz]; exact g5) hcap (by omega) (by rw [hiby]; omega) (growslice_fits (by omega) (by rw [hiby]; exact g3))
              have hcapge := grownCap_ge w (len + m) cap e
              have hcapm : grownCap w (len + m) cap e ≤ maxLen := grownCap_le_maxLen w (len + m) cap e (by unfold maxLen; omega)
              generalize hcs : olds.toArray ++ Builtin.zeroCells z.cells m ++ Builtin.zeroCells z.cells (grownCap w (len + m) cap e - (len + m)) = cs at hrun
              have hsz : cs.size = grownCap w (len + m) cap e * te.sz := by
                rw [← hcs, Array.size_append, Array.size_append, size_zeroCells, size_zeroCells, hzs, List.size_toArray, hol, ← Nat.add_mul, ← Nat.add_mul]; congr 1; omega
              have q0 := good_drew (w := w) hH
              have hk := keeps_alloc (w := w.drew) (O := O) (.cells cs e)
              have hk0 : Keeps w O (w.drew.alloc (.cells cs e)) (O.add w.drew.heap.size) := hk
              have q1 := good_new (w := w.drew) q0.hok hs (.cells cs e) (grownCap w (len + m) cap e) (.arr e te.sz (len + m) (joined len F (fun _ => us))) (.inr ⟨w.heap.size, _, cs, upd_same _ _ _, .inr rfl, heap_alloc_new w.drew _, hsz, hcapge, hcapm, fun i hi => by
                unfold joined; split
                · exact hln i ‹_›
                · exact hNz.len _ (show i - len < m by omega), fun i j x hi hx => by
                unfold joined at hx
                split at hx
                · rename_i hin
                  obtain ⟨v, hv, hr⟩ := hrel i j x hin hx
                  have hj : j < te.sz := by rw [← hln i hin]; exact lt_of_get hx
                  refine ⟨v, ?_, hr.mono hk0⟩
                  have hlt := lt_flat hin hj
                  rw [← hcs, Array.getElem?_append_left (by rw [Array.size_append, List.size_toArray, hol]; omega), Array.getElem?_append_left (by rw [List.size_toArray, hol]; exact hlt)]
                  simpa using hv
                · rename_i hin
                  have hj : j < te.sz := by rw [← hNz.len (i - len) (show i - len < m by omega)]; exact lt_of_get hx
                  refine ⟨z.cells.getD j undef, ?_, (hNz.rel (i - len) j x (show i - len < m by omega) hx).mono hk0⟩
                  have hlt := lt_flat (n := m) (i := i - len) (by omega) hj
                  have e1 : i * te.sz + j = len * te.sz + ((i - len) * te.sz + j) := by
                    have : i * te.sz = len * te.sz + (i - len) * te.sz := by rw [← Nat.add_mul]; congr 1; omega
                    omega
                  rw [← hcs, Array.getElem?_append_left (by rw [Array.size_append, List.size_toArray, hol, size_zeroCells, hzs]; omega), Array.getElem?_append_right (by rw [List.size_toArray, hol]; omega), List.size_toArray, hol, e1, Nat.add_sub_cancel_left, ← Array.getElem?_toList, zeroCells_flat, hzs]
                  exact flat_get (fun _ j => z.cells.getD j undef) (by omega) hj⟩)
              exact ⟨_, _, _, _, _, by simp [hrun], .inl rfl, .srP s te.sz (len + m) w.heap.size _ (upd_same _ _ _) hcapge, q0.trans hH q1, fun b hb => upd_other _ _ _ (nmem hb)⟩
            cases hx with
            | srO _ _ _ _ _ _ _ _ _ h0 => omega
            | srN _ _ hn =>
              refine main none 0 [] (by omega) (fun w' _ => by simp [Builtin.firstCells]) (by simp) (fun i j x hi => by omega) (fun i hi => by omega)
            | srP _ _ _ g cap hgb hc =>
              rcases row_of hH hb with ⟨k1, _⟩ | ⟨g1, cap1, cur, hr⟩
              · rw [hgb] at k1; cases k1
              have e2 := hr.pl
              rw [hgb] at e2
              cases e2
              have hnz : len * te.sz ≤ cur.size := by rw [hr.sz]; exact Nat.mul_le_mul_right _ hc
              refine main (some ⟨g, 0, none⟩) cap (cur.toList.take (len * te.sz)) (hm0.2 g cap cur hr) (fun w' hw' => ?_) (by simp; omega) (fun i j x hi hx => ?_) (fun i hi => hr.ln i (by omega))
              · have := run_loadCells_list (P := P) w' ⟨g, 0, none⟩ (cur.toList.take (len * te.sz)) (fun j v hv => hw' _ _ (by
                  have hj := lt_of_get hv
                  simp only [List.length_take] at hj
                  rw [List.getElem?_take_of_lt (by omega)] at hv
                  rw [add_lit, cell_of_row w g _ cur e _ hr.hp]
                  simpa using hv))
                simp only [List.length_take, Array.length_toList, Nat.min_eq_left hnz] at this
                simp [Builtin.firstCells, hisz, this]
              · obtain ⟨v, hv, hrv⟩ := hr.rl i j x (by omega) hx
                have hj : j < te.sz := by rw [← hr.ln i (by omega)]; exact lt_of_get hx
                exact ⟨v, by rw [List.getElem?_take_of_lt (lt_flat hi hj)]; simpa using hv, hrv⟩
          · cases h
        · cases h
      · cases h
    · cases h
  · cases h
theorem run_slice3 {t e : TypeId} {te : TI} (ht : P.underlying t = some (.slice e)) (he : TIOK P e te) (a : Option Addr) (len cap : Nat) (k1 k2 k3 : IntKind) (l h m : Int) (g0 : 0 ≤ l) (g1 : l ≤ h) (g2 : h ≤ m) (g3 : m ≤ cap) :
    (Instr.sliceAt t (.slice a len cap) (some (.int k1 l)) (some (.int k2 h)) (some (.int k3 m))).run P w = .ok (sliced a l.toNat h.toNat m.toNat te.sz) w := by
  have he' := elem_of ht
  have ht' : P.underlying t = some (.slice (P.elem t)) := by rw [he']; exact ht
  have hs := he.run_size w
  have b1 : 0 ≤ m ∧ m ≤ (cap : Int) := by omega
  have b2 : 0 ≤ h ∧ h ≤ (m.toNat : Int) := by omega
  have b3 : 0 ≤ l ∧ l ≤ (h.toNat : Int) := by omega
  rw [run_sliceAt_slice w t _ _ _ _ ht']
  simp only [Instr.slice, Instr.sliceBounds, Instr.sliceBound, asIntOf, Sem.run_bind, run_underlying ht, Result.andThen_ok, Sem.run_pure, if_pos b1, if_pos b2, if_pos b3, hs, sliced]
theorem sl3_ok {s : Nat} (hH : HOK w O ρ H) {t e : TypeId} {te : TI} (ht : P.underlying t = some (.slice e)) (he : TIOK P e te) {val : Operand → V} {ev : Operand → Value} {xo lo hi mx : Operand} (hv : ∀ y ∈ [xo, lo, hi, mx], RV w O ρ (val y) (ev y))
    {r : V} {d : Delta} {l : List Prop} (h : xstep Env.std val H s (.sl3 te.sz xo lo hi mx) = some (r, d, l)) (hl : ∀ p ∈ l, p) : StepOK P w O ρ H s (do pure (.value (← Instr.sliceAt t (ev xo) (some (ev lo)) (some (ev hi)) (some (ev mx))))) r d := by
  have hx := hv xo (by simp)
  have hlo := hv lo (by simp)
  have hhi := hv hi (by simp)
  have hmx := hv mx (by simp)
  simp only [xstep] at h
  split at h
  · rename_i o z' n f k1 l0 k2 h0 k3 m0 e1 e2 e3 e4
    rw [e1] at hx; rw [e2] at hlo; rw [e3] at hhi; rw [e4] at hmx
    rw [hlo.scv, hhi.scv, hmx.scv]
    split at h
    · rename_i hz
      subst hz
      cases h
      have g0 : 0 ≤ l0 := hl _ (.head _)
      have g1 : l0 ≤ h0 := hl _ (.tail _ (.head _))
      have g2 : h0 ≤ m0 := hl _ (.tail _ (.tail _ (.head _)))
      have g3 : m0 ≤ (n : Int) := hl _ (.tail _ (.tail _ (.tail _ (.head _))))
      generalize ev xo = vx at hx
      cases hx with | u _ _ hu => cases hu with
      | sv _ _ _ c _ a g hc ha hlen hr =>
        have hrun := run_slice3 (w := w) ht he a n c k1 k2 k3 l0 h0 m0 g0 g1 g2 (by omega)
        have hd : h0.toNat - l0.toNat = (h0 - l0).toNat := by omega
        unfold sliced at hrun
        rw [hd] at hrun
        refine .same hH (by simp only [Sem.run_bind, hrun, Result.andThen_ok, Sem.run_pure]) (.u _ _ (.sv _ _ (h0 - l0).toNat (m0.toNat - l0.toNat) (fun k => f (l0.toNat + k)) (if m0.toNat = l0.toNat then a else a.map (fun x => x.add (l0.toNat * te.sz))) (fun i j => g (l0.toNat + i) j) (by omega) ?_ (fun i hi => hlen _ (by omega)) fun i j x hi hx => hr _ j x (by omega) hx))
        rcases ha with h3 | ⟨ad, rfl, ho, hcell⟩
        · rcases Nat.mul_eq_zero.1 h3 with h3 | h3
          · exact .inl (by simp [show (h0 - l0).toNat = 0 by omega])
          · exact .inl (by simp [h3])
        · by_cases hc0 : m0.toNat = l0.toNat
          · exact .inl (by simp [show (h0 - l0).toNat = 0 by omega])
          · refine .inr ⟨ad.add (l0.toNat * te.sz), by simp [hc0], ?_, fun i j hi hj => ?_⟩
            · unfold Stab at ho ⊢; rw [add_block]; exact ho
            · rw [add_add, show l0.toNat * te.sz + (i * te.sz + j) = (l0.toNat + i) * te.sz + j by rw [Nat.add_mul]; omega]
              exact hcell _ j (by omega) hj
    · cases h
  · rename_i b z' n k1 l0 k2 h0 k3 m0 e1 e2 e3 e4
    rw [e1] at hx; rw [e2] at hlo; rw [e3] at hhi; rw [e4] at hmx
    rw [hlo.scv, hhi.scv, hmx.scv]
    split at h
    · rename_i hz
      subst hz
      cases h
      have g0 : 0 ≤ l0 := hl _ (.head _)
      have g1 : l0 ≤ h0 := hl _ (.tail _ (.head _))
      have g2 : h0 ≤ m0 := hl _ (.tail _ (.tail _ (.head _)))
      have g3 : m0 ≤ (n : Int) := hl _ (.tail _ (.tail _ (.tail _ (.head _))))
      have hd : h0.toNat - l0.toNat = (h0 - l0).toNat := by omega
      generalize ev xo = vx at hx
      cases hx with
      | srO _ _ _ _ _ _ _ _ _ h0 => omega
      | srN _ _ hn =>
        have hrun := run_slice3 (w := w) ht he none 0 0 k1 k2 k3 l0 h0 m0 g0 g1 g2 (by simpa using g3)
        unfold sliced at hrun
        rw [hd] at hrun
        refine .same hH (by simp only [Sem.run_bind, hrun, Result.andThen_ok, Sem.run_pure]; rfl) ?_
        exact .so b _ _ _ _ _ (by simp at g3; show (h0 - l0).toNat ≤ _; omega) (.inl (by simp at g3; show (h0 - l0).toNat = 0; omega))
      | srP _ _ _ g cap hgb hc =>
        have hrun := run_slice3 (w := w) ht he (some ⟨g, 0, none⟩) n cap k1 k2 k3 l0 h0 m0 g0 g1 g2 (by omega)
        unfold sliced at hrun
        rw [hd] at hrun
        refine .same hH (by simp only [Sem.run_bind, hrun, Result.andThen_ok, Sem.run_pure]; rfl) ?_
        refine .so b _ _ _ _ _ (by show (h0 - l0).toNat ≤ _; omega) ?_
        by_cases hcl : m0.toNat = l0.toNat
        · exact .inl (by show (h0 - l0).toNat = 0; omega)
        · refine .inr ⟨g, cap, hgb, ?_⟩
          rw [if_neg hcl]
          simp only [Option.map_some, add_lit]; rw [Nat.zero_add]; rfl
    · cases h
  · cases h
theorem findNow_int {k : IntKind} {i : Int} : ∀ (es : List MapEntry) (n : Nat), (∀ e ∈ es, ∃ j, e.key = .int k j) →
    (∃ m e, es[m]? = some e ∧ e.key = .int k i ∧ Instr.findNow (.int k) (.int k i) es n = some (some (n + m, e.val))) ∨ ((∀ e ∈ es, e.key ≠ .int k i) ∧ Instr.findNow (.int k) (.int k i) es n = some none)
  | [], n, _ => .inr ⟨by simp, rfl⟩
  | e :: es, n, h => by
    obtain ⟨j, hj⟩ := h e (.head _)
    by_cases hij : i = j
    · subst hij
      exact .inl ⟨0, e, rfl, hj, by simp [Instr.findNow, Instr.sameNow, hj]⟩
    · have hs : Instr.sameNow (.int k) (.int k i) e.key = some false := by simp [Instr.sameNow, hj, hij]
      rcases findNow_int es (n + 1) (fun e' he => h e' (.tail _ he)) with ⟨m, e', h1, h2, h3⟩ | ⟨h1, h2⟩
      · exact .inl ⟨m + 1, e', by simpa using h1, h2, by simp only [Instr.findNow, hs]; rw [h3]; congr 3; omega⟩
      · exact .inr ⟨fun e' he => by
          rcases List.mem_cons.1 he with rfl | he
          · rw [hj]; simp; exact fun e => hij e.symm
          · exact h1 e' he, by simp only [Instr.findNow, hs]; exact h2⟩
theorem checkKey_int {kt : TypeId} {k : IntKind} (hk : P.underlying kt = some (.int k)) (empty : Bool) (k' : IntKind) (i : Int) : (Instr.checkKey empty 10000 kt (.int k' i)).run P w = .ok () w := by
  rw [show (10000 : Nat) = 9999 + 1 from rfl]
  unfold Instr.checkKey
  simp only [Sem.run_bind, run_underlying hk, Result.andThen_ok, Sem.run_pure]
theorem mkm_ok {s : Nat} (hH : HOK w O ρ H) (hs : ρ s = .unset) (t : TypeId) (k : IntKind) (set : Bool) :
    StepOK P w O ρ H s (do pure (.value (← Instr.makeMap t none))) (.mp s) [(s, if set then .ms k (fun _ => false) else .ml k [])] := by
  have g := good_new hH hs (.map #[] 0) 0 (if set then .ms k (fun _ => false) else .ml k []) (by
    cases set with
    | true => exact ⟨w.heap.size, 0, #[], 0, upd_same _ _ _, .inr rfl, heap_alloc_new w _, by simp, by simp⟩
    | false => exact ⟨w.heap.size, 0, #[], 0, upd_same _ _ _, .inr rfl, heap_alloc_new w _, rfl, by simp⟩)
  have hrun : (Instr.makeMap t none).run P w = .ok (.map (some w.heap.size)) (w.alloc (.map #[] 0)) := rfl
  exact ⟨_, _, _, _, _, by simp [hrun], .inl rfl, .mp s w.heap.size 0 (upd_same _ _ _), g, fun b hb => upd_other _ _ _ (nmem hb)⟩
theorem setObj_map {g cl : Nat} {es : Array MapEntry} (h : w.heap[g]? = some (.map es cl)) (o : Obj) : (setObj g o).run P w = .ok () (setObjW w g o) := by
  simp [setObj, Sem.run, setObjW, h]
theorem getObj_map {g cl : Nat} {es : Array MapEntry} (h : w.heap[g]? = some (.map es cl)) : (getObj g).run P w = .ok (.map es cl) w := by
  simp [getObj, Sem.run, h]
theorem sameBits_int (k : IntKind) (i : Int) (n : Nat) : Instr.sameBits n (.int k i) (.int k i) = true := by cases n <;> simp [Instr.sameBits]
theorem keyStays_int (k : IntKind) (i : Int) : (Instr.keyThatStays (.int k i) (.int k i)).run P w = .ok (.int k i) w := by
  simp [Instr.keyThatStays, sameBits_int]
theorem findKey_of {kt : TypeId} {k : IntKind} (hk : P.underlying kt = some (.int k)) {i : Int} {es : List MapEntry} {r : Option (Nat × Value)} (h : Instr.findNow (.int k) (.int k i) es 0 = some r) : (Instr.findKey kt (.int k i) es).run P w = .ok r w := by
  simp [Instr.findKey, run_underlying hk, h]
theorem modify_same {es : Array MapEntry} {m : Nat} {e : MapEntry} (h : es[m]? = some e) (f : MapEntry → MapEntry) (hf : f e = e) : es.modify m f = es := by
  apply Array.ext_getElem?
  intro j
  rw [Array.getElem?_modify]
  split
  · rename_i hj; subst hj; rw [h]; simp [hf]
  · rfl
theorem mup_ok {s : Nat} (hH : HOK w O ρ H) {t kt et : TypeId} {tk : IntKind} (ht : P.underlying t = some (.map kt et)) (hk : P.underlying kt = some (.int tk)) {val : Operand → V} {ev : Operand → Value} {mo ko vo : Operand} (hv : ∀ y ∈ [mo, ko, vo], RV w O ρ (val y) (ev y))
    {r : V} {d : Delta} {l : List Prop} (h : xstep Env.std val H s (.mup tk mo ko vo) = some (r, d, l)) (hl : ∀ p ∈ l, p) : StepOK P w O ρ H s (do Instr.mapUpdate t (ev mo) (ev ko) (ev vo); pure .skip) r d := by
  have hm := hv mo (by simp)
  have hko := hv ko (by simp)
  have hvo := hv vo (by simp)
  simp only [xstep] at h
  split at h
  · rename_i b kk i e1 e2
    rw [e1] at hm; rw [e2] at hko
    rw [hko.scv]
    generalize ev mo = vm at hm
    cases hm with
    | mp _ g cap hg =>
      have hq : kindEq tk kk = true := by
        cases hq : kindEq tk kk with
        | true => rfl
        | false => simp [hq] at h
      rw [if_pos hq] at h
      have hq := kindEq_spec hq
      subst hq
      split at h
      · rename_i kd p hblk
        split at h
        · rename_i hkk
          have hkk := kindEq_spec hkk
          subst hkk
          split at h
          · rename_i e3
            cases h
            rw [e3] at hvo
            have hag : ev vo = .agg #[] := by
              generalize ev vo = vv at hvo
              cases hvo with | ag cs arr g hs _ _ => rw [Array.eq_empty_of_size_eq_zero hs]
            rw [hag]
            have hb := blkAt_eq hblk trivial
            obtain ⟨g', cap', es, cl, k1, k2, k3, k4, k5⟩ := hH.blk b _ hb
            rw [hg] at k1; cases k1
            have hp' : ∀ j, Env.std.nt (Env.std.an (Env.std.nt (p j)) (Env.std.nt (Env.std.ic .eql j i))) = (p j || (j == i)) := fun j => by simp [Env.std, Bool.not_and]
            have hlt : g < w.heap.size := hH.lt g k2
            have hck := checkKey_int (w := w) hk false kd i
            rcases findNow_int (k := kd) (i := i) es.toList 0 (fun e he => let ⟨j, hj, _⟩ := k4 e he; ⟨j, hj⟩) with ⟨m, e, q1, q2, q3⟩ | ⟨q1, q2⟩
            · have q1' : es[m]? = some e := by simpa using q1
              obtain ⟨_, _, hval⟩ := k4 e (List.mem_of_getElem? q1)
              have hmod : (es.modify m fun e' => { e' with key := Value.int kd i, val := Value.agg #[] }) = es := modify_same q1' _ (by cases e; simp_all)
              have hgood := good_obj hH hb trivial hg (.map es cl) (.ms kd (fun j => Env.std.nt (Env.std.an (Env.std.nt (p j)) (Env.std.nt (Env.std.ic .eql j i))))) ⟨g, cap, es, cl, hg, k2, by simp [setObjW, hlt], k4, fun j => by
                dsimp only
                rw [hp', Bool.or_eq_true, k5 j, beq_iff_eq]
                exact ⟨fun h => h.elim (fun h => h) fun h => ⟨e, List.mem_of_getElem? q1, by rw [h]; exact q2⟩, .inl⟩⟩
              refine ⟨.skip, undef, _, O, ρ, ?_, .inr ⟨rfl, rfl⟩, .un _, hgood, fun _ _ => rfl⟩
              have hfk := findKey_of (w := w) hk q3
              simp only [Nat.zero_add] at hfk
              simp only [Instr.mapUpdate, Sem.run_bind, run_underlying ht, Result.andThen_ok, getObj_map k3, hck, hfk, q1', Option.map_some, Option.getD_some, q2, keyStays_int, hmod, setObj_map k3, Sem.run_pure]
            · have hgood := good_obj hH hb trivial hg (.map (es.push { key := .int kd i, val := .agg #[], born := cl }) (cl + 1)) (.ms kd (fun j => Env.std.nt (Env.std.an (Env.std.nt (p j)) (Env.std.nt (Env.std.ic .eql j i))))) ⟨g, cap, es.push { key := .int kd i, val := .agg #[], born := cl }, cl + 1, hg, k2, by simp [setObjW, hlt], fun e he => by
                simp only [Array.toList_push, List.mem_append, List.mem_singleton] at he
                rcases he with he | rfl
                · exact k4 e he
                · exact ⟨i, rfl, rfl⟩, fun j => by
                dsimp only
                rw [hp', Bool.or_eq_true, k5 j, beq_iff_eq]
                simp only [Array.toList_push, List.mem_append, List.mem_singleton]
                constructor
                · rintro (⟨e, he, h⟩ | rfl)
                  · exact ⟨e, .inl he, h⟩
                  · exact ⟨_, .inr rfl, rfl⟩
                · rintro ⟨e, he | rfl, h⟩
                  · exact .inl ⟨e, he, h⟩
                  · simp at h; exact .inr h.symm⟩
              refine ⟨.skip, undef, _, O, ρ, ?_, .inr ⟨rfl, rfl⟩, .un _, hgood, fun _ _ => rfl⟩
              have hfk := findKey_of (w := w) hk q2
              simp only [Instr.mapUpdate, Sem.run_bind, run_underlying ht, Result.andThen_ok, getObj_map k3, hck, hfk, setObj_map k3, Sem.run_pure]
          · cases h
        · cases h
      · rename_i kd es0 hblk
        split at h
        · rename_i hkk
          have hkk := kindEq_spec hkk
          subst hkk
          split at h
          · rename_i x e3
            cases h
            rw [e3] at hvo
            have hb := blkAt_eq hblk trivial
            obtain ⟨g', cap', es, cl, k1, k2, k3, k4, k5⟩ := hH.blk b _ hb
            rw [hg] at k1; cases k1
            have hlt : g < w.heap.size := hH.lt g k2
            have hck := checkKey_int (w := w) hk false kd i
            have hne : ∀ (es0 : List (Int × U)), (∀ p ∈ neAll Env.std i es0, p) → ∀ (j : Nat) (a : Int) (x : U), es0[j]? = some (a, x) → a ≠ i := by
              intro es0
              induction es0 with
              | nil => intro _ j a x h; simp at h
              | cons y es0 ih =>
                intro hp j a x h
                obtain ⟨y1, y2⟩ := y
                cases j with
                | zero => simp at h; obtain ⟨rfl, rfl⟩ := h; exact hp _ (.head _)
                | succ j => exact ih (fun p hp' => hp p (.tail _ hp')) j a x (by simpa using h)
            have hne := hne es0 hl
            have hkeys : ∀ e ∈ es.toList, ∃ j, e.key = .int kd j ∧ j ≠ i := fun e he => by
              obtain ⟨j, hj⟩ := List.getElem?_of_mem he
              have hjl : j < es0.length := by have := lt_of_get hj; simp at this; omega
              obtain ⟨e', h1, h2, h3⟩ := k5 j es0[j].1 es0[j].2 (by simp [List.getElem?_eq_getElem hjl])
              have : e = e' := by simp at hj; rw [hj] at h1; cases h1; rfl
              subst this
              exact ⟨_, h2, hne j es0[j].1 es0[j].2 (by simp [List.getElem?_eq_getElem hjl])⟩
            have hsn : ∀ (l : List (Int × U)) (y : Int × U), snocL l y = l ++ [y] := fun l y => by induction l with
              | nil => rfl
              | cons z l ih => simp [snocL, ih]
            rcases findNow_int (k := kd) (i := i) es.toList 0 (fun e he => let ⟨j, hj, _⟩ := hkeys e he; ⟨j, hj⟩) with ⟨m, e, q1, q2, q3⟩ | ⟨q1, q2⟩
            · obtain ⟨j, hj, hji⟩ := hkeys e (List.mem_of_getElem? q1)
              rw [q2] at hj; simp at hj; exact absurd hj.symm hji
            · have hk0 := keeps_obj (w := w) k2 (.map (es.push { key := .int kd i, val := ev vo, born := cl }) (cl + 1))
              have hgood := good_obj hH hb trivial hg (.map (es.push { key := .int kd i, val := ev vo, born := cl }) (cl + 1)) (.ml kd (snocL es0 (i, x))) ⟨g, cap, es.push { key := .int kd i, val := ev vo, born := cl }, cl + 1, hg, k2, by simp [setObjW, hlt], by rw [hsn]; simp [k4], fun j a y hj => by
                rw [hsn] at hj
                rcases Nat.lt_or_ge j es0.length with hlt' | hge
                · rw [List.getElem?_append_left hlt'] at hj
                  obtain ⟨e, h1, h2, h3⟩ := k5 j a y hj
                  exact ⟨e, by rw [Array.getElem?_push]; rw [if_neg (by omega)]; exact h1, h2, h3.mono hk0⟩
                · rw [List.getElem?_append_right hge] at hj
                  have hj0 : j - es0.length = 0 := by have := lt_of_get hj; simp at this; omega
                  rw [hj0] at hj
                  simp at hj
                  obtain ⟨rfl, rfl⟩ := hj
                  have hje : j = es.size := by omega
                  subst hje
                  exact ⟨_, by rw [Array.getElem?_push]; simp; rfl, rfl, hvo.toRU.mono hk0⟩⟩
              refine ⟨.skip, undef, _, O, ρ, ?_, .inr ⟨rfl, rfl⟩, .un _, hgood, fun _ _ => rfl⟩
              have hfk := findKey_of (w := w) hk q2
              simp only [Instr.mapUpdate, Sem.run_bind, run_underlying ht, Result.andThen_ok, getObj_map k3, hck, hfk, setObj_map k3, Sem.run_pure]
          · cases h
        · cases h
      · cases h
  · cases h
theorem mlk_ok {s : Nat} (hH : HOK w O ρ H) {t kt et : TypeId} {tk : IntKind} (ht : P.underlying t = some (.map kt et)) (hk : P.underlying kt = some (.int tk)) {te : TI} (he : TIOK P et te) (hte : te.sz = 0) {val : Operand → V} {ev : Operand → Value} {mo ko : Operand} (hv : ∀ y ∈ [mo, ko], RV w O ρ (val y) (ev y)) {ok : Bool}
    {r : V} {d : Delta} {l : List Prop} (h : xstep Env.std val H s (.mlk tk ok mo ko) = some (r, d, l)) (hl : ∀ p ∈ l, p) : StepOK P w O ρ H s (do pure (.value (← Instr.lookup t (ev mo) (ev ko) ok))) r d := by
  obtain ⟨ie, z, hie, hisz, hiby, hiz, hzc⟩ := he.zeroCells
  have hm := hv mo (by simp)
  have hko := hv ko (by simp)
  simp only [xstep] at h
  split at h
  · rename_i b kk i e1 e2
    rw [e1] at hm; rw [e2] at hko
    rw [hko.scv]
    generalize ev mo = vm at hm
    cases hm with
    | mp _ g cap hg =>
      have hq : kindEq tk kk = true := by
        cases hq : kindEq tk kk with
        | true => rfl
        | false => simp [hq] at h
      rw [if_pos hq] at h
      have hq := kindEq_spec hq
      subst hq
      split at h
      · rename_i kd p hblk
        split at h
        · rename_i hkk
          have hkk := kindEq_spec hkk
          subst hkk
          cases h
          have hb := blkAt_eq hblk trivial
          obtain ⟨g', cap', es, cl, k1, k2, k3, k4, k5⟩ := hH.blk b _ hb
          rw [hg] at k1; cases k1
          have hck := checkKey_int (w := w) hk es.isEmpty kd i
          have hz0 : ∃ z', (zeroValue et).run P w = .ok z' w ∧ RV w O ρ (.ag []) z' := by
            refine ⟨z, by simp [zeroValue, typeInfo, hie, hiz], ?_⟩
            have hs0 : z.cells.size = 0 := by rw [← Array.length_toList, hzc, he.len, hte]
            cases z <;> first | (simp [Value.cells] at hs0; done) | skip
            rename_i cs
            have : cs = #[] := Array.eq_empty_of_size_eq_zero hs0
            subst this
            exact ag_mk (arr := #[]) rfl (by simp)
          obtain ⟨z', hz1, hz2⟩ := hz0
          rcases findNow_int (k := kd) (i := i) es.toList 0 (fun e he => let ⟨j, hj, _⟩ := k4 e he; ⟨j, hj⟩) with ⟨m, e, q1, q2, q3⟩ | ⟨q1, q2⟩
          · have hfk := findKey_of (w := w) hk q3
            obtain ⟨_, _, hval⟩ := k4 e (List.mem_of_getElem? q1)
            have hp : p i = true := (k5 i).2 ⟨e, List.mem_of_getElem? q1, q2⟩
            have hrv : RV w O ρ (.ag []) e.val := by rw [hval]; exact ag_mk (arr := #[]) rfl (by simp)
            cases ok with
            | true =>
              refine .same hH (v' := .tuple #[e.val, .bool true]) ?_ ?_
              · simp only [Instr.lookup, Sem.run_bind, run_underlying ht, Result.andThen_ok, getObj_map k3, hck, hfk, Sem.run_pure, if_true]
              · rw [hp]; exact tp_mk rfl (by
                  intro j y hy
                  match j, hy with
                  | 0, hy => simp at hy; subst hy; exact ⟨_, rfl, hrv⟩
                  | 1, hy => simp at hy; subst hy; exact ⟨_, rfl, scB_ok _⟩)
            | false =>
              refine .same hH (v' := e.val) ?_ hrv
              simp only [Instr.lookup, Sem.run_bind, run_underlying ht, Result.andThen_ok, getObj_map k3, hck, hfk, Sem.run_pure]
              rfl
          · have hfk := findKey_of (w := w) hk q2
            have hp : p i = false := by
              cases hp : p i with
              | false => rfl
              | true => obtain ⟨e, h1, h2⟩ := (k5 i).1 hp; exact absurd h2 (q1 e h1)
            cases ok with
            | true =>
              refine .same hH (v' := .tuple #[z', .bool false]) ?_ ?_
              · simp only [Instr.lookup, Sem.run_bind, run_underlying ht, Result.andThen_ok, getObj_map k3, hck, hfk, hz1, Sem.run_pure, if_true]
              · rw [hp]; exact tp_mk rfl (by
                  intro j y hy
                  match j, hy with
                  | 0, hy => simp at hy; subst hy; exact ⟨_, rfl, hz2⟩
                  | 1, hy => simp at hy; subst hy; exact ⟨_, rfl, scB_ok _⟩)
            | false =>
              refine .same hH (v' := z') ?_ hz2
              simp only [Instr.lookup, Sem.run_bind, run_underlying ht, Result.andThen_ok, getObj_map k3, hck, hfk, hz1, Sem.run_pure]
              rfl
        · cases h
      · cases h
  · cases h
end
end Am
end
