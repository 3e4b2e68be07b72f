/- What a stretch of a walk may have turned: the blocks of a set alone. No condition. -/
import Derived.RangeFuncBox
import Derived.RangeFuncLeaves
import Derived.RangeFuncCalls
import Derived.Below
import Derived.Maps.AppendAt
import Derived.Test.YtjgloepeogelnaaDoorWMore
namespace Go.Proofs.YtjgloepeogelnaaDoor
open Go.RowKit Go.Proofs.YtjgloepeogelnaaDoorW.PrintWords

/-- B is A, but for the blocks of S, and for what is new. -/
structure Tch (S : Nat → Prop) (A B : World) : Prop where
  os : B.os = A.os
  tape : B.tape = A.tape
  output : B.output = A.output
  size : A.heap.size ≤ B.heap.size
  block : ∀ k, k < A.heap.size → ¬ S k → B.heap[k]? = A.heap[k]?
variable {S S' : Nat → Prop} {A B C : World}
theorem Tch.refl (S : Nat → Prop) (A : World) : Tch S A A := ⟨rfl, rfl, rfl, Nat.le_refl _, fun _ _ _ => rfl⟩
theorem Tch.trans (h : Tch S A B) (k : Tch S B C) : Tch S A C :=
  ⟨k.os.trans h.os, k.tape.trans h.tape, k.output.trans h.output, Nat.le_trans h.size k.size, fun i hi hs => (k.block i (Nat.lt_of_lt_of_le hi h.size) hs).trans (h.block i hi hs)⟩
theorem Tch.mono (h : Tch S A B) (hs : ∀ k, S k → S' k) : Tch S' A B := ⟨h.os, h.tape, h.output, h.size, fun k hk hn => h.block k hk (fun e => hn (hs k e))⟩
theorem Tch.drewN (h : Tch S A B) (n : Nat) : Tch S A (B.drewN n) := ⟨h.os, h.tape, h.output, h.size, h.block⟩
theorem Tch.drew (h : Tch S A B) : Tch S A B.drew := ⟨h.os, h.tape, h.output, h.size, h.block⟩
theorem Tch.alloc (h : Tch S A B) (o : Obj) : Tch S A (B.alloc o) :=
  h.trans ⟨rfl, rfl, rfl, by simp, fun k hk _ => (World.grownBy_alloc B o none).block k hk (by simp)⟩
theorem Tch.setCell (h : Tch S A B) {p : Addr} (hp : S p.block) (v : Value) : Tch S A (B.setCell p v) :=
  h.trans ⟨rfl, rfl, rfl, by simp [World.setCell], fun k _ hn => Below.heap_setCell B p v k (fun e => hn (by rw [e]; exact hp))⟩
theorem Tch.grown (h : Tch S A B) {row : Option Nat} (hg : B.grownBy C row) (hr : ∀ k, row = some k → S k ∨ A.heap.size ≤ k) : Tch S A C :=
  ⟨hg.os.trans h.os, hg.tape.trans h.tape, hg.output.trans h.output, Nat.le_trans h.size hg.size, fun k hk hn =>
    (hg.block k (Nat.lt_of_lt_of_le hk h.size) (fun e => by rcases hr k e.symm with h' | h'; exact hn h'; omega)).trans (h.block k hk hn)⟩
theorem Tch.belowThen (h : Tch S A B) (hb : Below B.heap.size B C) : Tch S A C :=
  h.trans ⟨hb.os, hb.tape, hb.output, hb.size, fun k hk _ => hb.block k hk⟩
theorem Tch.put (h : Tch S A B) {l : Nat} (o : Obj) (hl : S l ∨ A.heap.size ≤ l) : Tch S A (B.putObj l o) := h.grown (grownBy_putObj' B l o) (fun k e => by cases e; exact hl)
theorem Tch.below (h : Tch S A B) {n : Nat} (hn : n ≤ A.heap.size) (hs : ∀ k, S k → n ≤ k) : Below n A B :=
  ⟨h.os, h.tape, h.output, h.size, fun k hk => h.block k (Nat.lt_of_lt_of_le hk hn) (fun e => Nat.not_le_of_lt hk (hs k e))⟩
theorem Tch.of_below (h : Below A.heap.size A B) : Tch S A B := ⟨h.os, h.tape, h.output, h.size, fun k hk _ => h.block k hk⟩
theorem Tch.others (h : Tch S A B) (hs : ∀ k o, S k → A.heap[k]? = some o → o.isCells = true) : KeepsOthers A B :=
  ⟨h.size, fun k o hk ho => (h.block k (Array.getElem?_eq_some_iff.1 hk).1 (fun e => by rw [hs k o e hk] at ho; cases ho)).trans hk⟩
theorem Tch.boxed (h : Tch S A B) {b : Nat} {t : TypeId} {v : Value} (hb : Boxed A b t v) (hn : ¬ S b) : Boxed B b t v := (h.block b hb.lt hn).trans hb
theorem Tch.own (h : Tch S A B) {base : Nat} {e : TypeId} {size n : Nat} {v : Value} {xs : List Value} (ho : A.ownsRow base e size v n xs) (hn : ∀ k, v.ownBlock = some k → ¬ S k) : B.ownsRow base e size v n xs :=
  own_move ho (fun k hk => h.block k (own_lt ho k hk) (hn k hk))
theorem Tch.reads {α : Type} {d : Kd α} (_ : Kd.Heap d) (h : Tch S A B) {ad : Option Addr} {n : Nat} {xs : List α} {N : Nat} (hN : ∀ k, S k → N ≤ k) {w0 : World} (hw : Below w0.heap.size w0 A) (hle : w0.heap.size ≤ N) (hr : d.C w0 ad n xs) : d.C B ad n xs :=
  Kd.C_below hr (hw.trans (h.below hw.size (fun k hk => Nat.le_trans hle (hN k hk))))
/-- An owned row of whole numbers, in the print's word. -/
theorem R_ints {k : IntKind} {W : World} {base : Nat} {e : TypeId} {v : Value} {xs : List Int} {ok : Nat → Prop} (ho : W.ownsRow base e 1 v xs.length (nums k xs)) (hok : ∀ b, v.ownBlock = some b → ok b) : (Kd.int k).R e W base ok v xs := Kd.R_of_own ho hok
/-- The one cell that an append's new values lie in. -/
theorem news_at (X : World) (n : Nat) (hn : X.heap.size = n) (v : Value) (t : TypeId) : ∀ j u, [v][j]? = some u → (X.alloc (.cells #[v] t)).cell? ((⟨n, 0, none⟩ : Addr).add j) = some u := by
  subst hn; exact cell_one_new X v t
/-- A block that holds cells is none of the blocks that a law on iterators turns. -/
theorem ne_row {A : World} {b : Nat} {cs : Array Value} {t : TypeId} {fr : Nat × Nat} {row : Option Nat} (hb : A.heap[b]? = some (.cells cs t fr)) (hr : ∀ r, row = some r → ∃ o : Obj, A.heap[r]? = some o ∧ o.isCells = false) : some b ≠ row := by
  intro e
  obtain ⟨o, ho, hc⟩ := hr b e.symm
  rw [hb] at ho; cases ho; cases hc
theorem Boxed.keeps {A A' : World} {b : Nat} {t : TypeId} {v : Value} {row : Option Nat} (hb : Boxed A b t v) (hg : A.grownBy A' row) (hr : ∀ r, row = some r → ∃ o : Obj, A.heap[r]? = some o ∧ o.isCells = false) : Boxed A' b t v := hb.kept hg (ne_row hb hr)
theorem own_keeps {A A' : World} {base : Nat} {e : TypeId} {size n : Nat} {v : Value} {xs : List Value} {row : Option Nat} (ho : A.ownsRow base e size v n xs) (hg : A.grownBy A' row) (hr : ∀ r, row = some r → ∃ o : Obj, A.heap[r]? = some o ∧ o.isCells = false) : A'.ownsRow base e size v n xs := by
  refine ho.kept hg ?_
  rcases ho.2 with ⟨rfl, _⟩ | ⟨g, cap, cur, rfl, _, hh, _⟩
  · exact .inl rfl
  · exact .inr (ne_row hh hr)
/-- A limb, 0 behind the last one. -/
def ith (l : List Int) (i : Nat) : Int := l[i]?.getD 0
theorem rd_ith (l : List Int) (i : Nat) : rd l (i : Int) = ith l i := by simp [rd, ith, List.getD_eq_getElem?_getD]
theorem Boxed.drawn {A : World} {b : Nat} {t : TypeId} {v : Value} (h : Boxed A b t v) (n : Nat) : Boxed (A.drewN n) b t v := h
/-- What a round keeps: what lay below n₀, and the iterator's two boxes. -/
def nat_Kp (n₀ Ba Bb : Nat) (A B : World) : Prop := Below n₀ A B ∧ B.heap[Ba]? = A.heap[Ba]? ∧ B.heap[Bb]? = A.heap[Bb]?
theorem nat_Kp.refl (n₀ Ba Bb : Nat) (A : World) : nat_Kp n₀ Ba Bb A A := ⟨Below.refl _ _, rfl, rfl⟩
theorem nat_Kp.trans {n₀ Ba Bb : Nat} {A B C : World} (h : nat_Kp n₀ Ba Bb A B) (k : nat_Kp n₀ Ba Bb B C) : nat_Kp n₀ Ba Bb A C := ⟨h.1.trans k.1, k.2.1.trans h.2.1, k.2.2.trans h.2.2⟩
theorem nat_Kp.cellA {n₀ Ba Bb : Nat} {A B : World} (h : nat_Kp n₀ Ba Bb A B) {v : Value} (hc : A.cell? ⟨Ba, 0, none⟩ = some v) : B.cell? ⟨Ba, 0, none⟩ = some v := by simpa [World.cell?, h.2.1] using hc
theorem nat_Kp.cellB {n₀ Ba Bb : Nat} {A B : World} (h : nat_Kp n₀ Ba Bb A B) {v : Value} (hc : A.cell? ⟨Bb, 0, none⟩ = some v) : B.cell? ⟨Bb, 0, none⟩ = some v := by simpa [World.cell?, h.2.2] using hc
theorem nat_Kp.put {n₀ Ba Bb m : Nat} (hn : n₀ ≤ m) (ha : Ba < m) (hb : Bb < m) (W : World) (l : Nat) (o o' : Obj) (hl : m ≤ l) (h1 : W.heap[l]? = some o) (_ : o.isCells = false) (_ : o.isWalk = false) : nat_Kp n₀ Ba Bb W (W.putObj l o') :=
  have hg := grownBy_putObj' W l o'
  ⟨(Below.refl n₀ W).grown hg (Nat.le_trans (Nat.le_trans hn hl) (Nat.le_of_lt (Array.getElem?_eq_some_iff.1 h1).1)) (fun k hk => by cases hk; omega),
    by
      by_cases hlt : Ba < W.heap.size
      · exact hg.block Ba hlt (by simp; omega)
      · exact absurd (Array.getElem?_eq_some_iff.1 h1).1 (by omega),
    by
      by_cases hlt : Bb < W.heap.size
      · exact hg.block Bb hlt (by simp; omega)
      · exact absurd (Array.getElem?_eq_some_iff.1 h1).1 (by omega)⟩
/-- The cells of a new block. -/
theorem news_row (X : World) (n : Nat) (hn : X.heap.size = n) (cs : List Value) (t : TypeId) : ∀ j u, cs[j]? = some u → (X.alloc (.cells cs.toArray t)).cell? ((⟨n, 0, none⟩ : Addr).add j) = some u := by
  subst hn
  intro j u hu
  have hj : j < cs.length := (List.getElem?_eq_some_iff.1 hu).1
  have e : ((⟨X.heap.size, 0, none⟩ : Addr).add j) = ⟨X.heap.size, j, none⟩ := by
    unfold Addr.add
    by_cases h0 : j = 0 <;> simp [h0]
  rw [e]
  unfold World.cell?
  simp only [World.alloc_heap_new]
  simpa using hu
/-- An owned row is a slice. -/
theorem own_form {A : World} {base : Nat} {e : TypeId} {size n : Nat} {v : Value} {xs : List Value} (h : A.ownsRow base e size v n xs) : ∃ ad c, v = .slice ad n c ∧ n ≤ c := by
  rcases h.2 with ⟨rfl, rfl⟩ | ⟨g, cap, cur, rfl, _, _, hc, _⟩
  · exact ⟨none, 0, rfl, Nat.le_refl _⟩
  · exact ⟨_, cap, rfl, hc⟩
theorem Boxed.under {A B : World} {b : Nat} {t : TypeId} {v : Value} (h : Boxed A b t v) (hB : Below A.heap.size A B) : Boxed B b t v := (hB.block b h.lt).trans h
/-- A store into another block leaves a box. -/
theorem Boxed.far {A : World} {b c : Nat} {t : TypeId} {v : Value} (h : Boxed A b t v) (hne : b ≠ c) (u : Value) : Boxed (A.setCell ⟨c, 0, none⟩ u) b t v := (Below.heap_setCell A _ u _ hne).trans h
end Go.Proofs.YtjgloepeogelnaaDoor
