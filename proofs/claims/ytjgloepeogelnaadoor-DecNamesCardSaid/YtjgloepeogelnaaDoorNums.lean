/- Plain mathematics: limbs of 32 bits and the naturals that they are. No condition. -/
namespace Go.Proofs.YtjgloepeogelnaaDoor.Nums

/-- The natural of limbs, the least one first. -/
def val : List Int → Nat
  | [] => 0
  | x :: xs => x.toNat + 4294967296 * val xs
/-- The limbs of a natural. -/
def toL (n : Nat) : List Int := if n = 0 then [] else ((n % 4294967296 : Nat) : Int) :: toL (n / 4294967296)
termination_by n
decreasing_by omega
/-- Limbs that are limbs. -/
def rng (l : List Int) : Bool := l.all fun x => decide (0 ≤ x) && decide (x < 4294967296)
/-- The last one is not 0. -/
def top (l : List Int) : Bool := l.getLast? != some 0
/-- May a natural be? -/
def may (l : List Int) : Bool := decide (l.length ≤ 65536) && top l
/-- A natural's limbs, or none, if there are too many. -/
def lim (n : Nat) : List Int := if (toL n).length ≤ 65536 then toL n else []

theorem toL_zero : toL 0 = [] := by unfold toL; simp
theorem toL_pos {n : Nat} (h : n ≠ 0) : toL n = ((n % 4294967296 : Nat) : Int) :: toL (n / 4294967296) := by rw [toL]; simp [h]
theorem toL_eq_nil {n : Nat} : toL n = [] ↔ n = 0 := by
  constructor
  · intro h
    by_cases e : n = 0
    · exact e
    · rw [toL_pos e] at h; cases h
  · rintro rfl; exact toL_zero
theorem val_toL (n : Nat) : val (toL n) = n := by
  induction n using Nat.strongRecOn with
  | _ n ih =>
    by_cases e : n = 0
    · subst e; rw [toL_zero]; rfl
    · rw [toL_pos e, val, ih _ (by omega)]
      have : ((n % 4294967296 : Nat) : Int).toNat = n % 4294967296 := Int.toNat_natCast _
      omega
theorem rng_nil : rng [] = true := rfl
theorem rng_cons {x : Int} {xs : List Int} : rng (x :: xs) = true ↔ (0 ≤ x ∧ x < 4294967296) ∧ rng xs = true := by simp [rng]
theorem rng_append {xs ys : List Int} : rng (xs ++ ys) = true ↔ rng xs = true ∧ rng ys = true := by simp [rng, List.all_append]
theorem rng_toL (n : Nat) : rng (toL n) = true := by
  induction n using Nat.strongRecOn with
  | _ n ih =>
    by_cases e : n = 0
    · subst e; rw [toL_zero]; rfl
    · rw [toL_pos e, rng_cons]; exact ⟨by omega, ih _ (by omega)⟩
theorem top_toL (n : Nat) : top (toL n) = true := by
  induction n using Nat.strongRecOn with
  | _ n ih =>
    by_cases e : n = 0
    · subst e; rw [toL_zero]; rfl
    · rw [toL_pos e]
      by_cases e2 : n / 4294967296 = 0
      · rw [e2, toL_zero]; simp [top]; omega
      · have h := ih _ (show n / 4294967296 < n by omega)
        rw [toL_pos e2] at h ⊢
        simpa [top, List.getLast?_cons_cons] using h
theorem top_cons {x y : Int} {xs : List Int} : top (x :: y :: xs) = top (y :: xs) := by simp [top, List.getLast?_cons_cons]
theorem toL_val {l : List Int} (hr : rng l = true) (ht : top l = true) : toL (val l) = l := by
  induction l with
  | nil => exact toL_zero
  | cons x xs ih =>
    obtain ⟨⟨h0, h1⟩, hr'⟩ := rng_cons.1 hr
    cases xs with
    | nil =>
      have hx : x ≠ 0 := by simpa [top] using ht
      have e : val [x] = x.toNat := by simp [val]
      rw [e, toL_pos (by omega), show x.toNat / 4294967296 = 0 by omega, toL_zero]
      congr 1; omega
    | cons y ys =>
      rw [top_cons] at ht
      have h := ih hr' ht
      have hv : val (y :: ys) ≠ 0 := fun e => by rw [e, toL_zero] at h; cases h
      have e : val (x :: y :: ys) = x.toNat + 4294967296 * val (y :: ys) := rfl
      rw [e, toL_pos (by omega), show (x.toNat + 4294967296 * val (y :: ys)) / 4294967296 = val (y :: ys) by omega, h]
      congr 1; omega
theorem val_lt {l : List Int} (hr : rng l = true) : val l < 4294967296 ^ l.length := by
  induction l with
  | nil => simp [val]
  | cons x xs ih =>
    obtain ⟨⟨h0, h1⟩, hr'⟩ := rng_cons.1 hr
    have := ih hr'
    rw [val, List.length_cons, Nat.pow_succ]
    omega
theorem val_ge {l : List Int} (hr : rng l = true) (ht : top l = true) (hl : l ≠ []) : 4294967296 ^ (l.length - 1) ≤ val l := by
  induction l with
  | nil => exact absurd rfl hl
  | cons x xs ih =>
    obtain ⟨⟨h0, h1⟩, hr'⟩ := rng_cons.1 hr
    cases xs with
    | nil =>
      have hx : x ≠ 0 := by simpa [top] using ht
      simp [val]; omega
    | cons y ys =>
      rw [top_cons] at ht
      have h := ih hr' ht (by simp)
      have e : val (x :: y :: ys) = x.toNat + 4294967296 * val (y :: ys) := rfl
      rw [e, show (x :: y :: ys).length - 1 = (y :: ys).length - 1 + 1 by simp, Nat.pow_succ]
      omega
theorem len_toL_le {n k : Nat} : (toL n).length ≤ k ↔ n < 4294967296 ^ k := by
  have hv := val_toL n
  constructor
  · intro h
    have := val_lt (rng_toL n)
    rw [hv] at this
    exact Nat.lt_of_lt_of_le this (Nat.pow_le_pow_right (by omega) h)
  · intro h
    by_cases e : toL n = []
    · rw [e]; simp
    · have := val_ge (rng_toL n) (top_toL n) e
      rw [hv] at this
      apply Nat.le_of_not_lt
      intro hlt
      have h2 : 4294967296 ^ k ≤ 4294967296 ^ ((toL n).length - 1) := Nat.pow_le_pow_right (by omega) (by omega)
      omega
theorem pow_le_gen (b m n : Nat) (hb : 0 < b) (h : m ≤ n) : b ^ m ≤ b ^ n := Nat.pow_le_pow_right hb h
theorem pow_pow_le (a b c k : Nat) (h : a ≤ b ^ c) : a ^ k ≤ b ^ (c * k) := by
  rw [Nat.pow_mul]
  exact Nat.pow_le_pow_left h k
theorem lim_eq {n : Nat} (h : n < 4294967296 ^ 65536) : lim n = toL n := by unfold lim; rw [if_pos (len_toL_le.2 h)]
theorem lim_big {n : Nat} (h : ¬ n < 4294967296 ^ 65536) : lim n = [] := by unfold lim; rw [if_neg (fun e => h ((len_toL_le (n := n) (k := 65536)).1 e))]
theorem may_iff {l : List Int} : may l = true ↔ l.length ≤ 65536 ∧ top l = true := by simp [may]
theorem may_nil : may [] = true := by rfl
theorem may_toL {n : Nat} (h : n < 4294967296 ^ 65536) : may (toL n) = true := may_iff.2 ⟨len_toL_le.2 h, top_toL n⟩
theorem may_val {l : List Int} (hr : rng l = true) (h : may l = true) : toL (val l) = l ∧ val l < 4294967296 ^ 65536 := by
  obtain ⟨h1, h2⟩ := may_iff.1 h
  refine ⟨toL_val hr h2, (len_toL_le (n := val l) (k := 65536)).1 ?_⟩
  rw [toL_val hr h2]; exact h1
theorem rng_lim (n : Nat) : rng (lim n) = true := by
  unfold lim; split
  · exact rng_toL n
  · rfl
theorem may_lim (n : Nat) : may (lim n) = true := by
  by_cases h : n < 4294967296 ^ 65536
  · rw [lim_eq h]; exact may_toL h
  · rw [lim_big h]; rfl
theorem toL_inj {m n : Nat} (h : toL m = toL n) : m = n := by rw [← val_toL m, h, val_toL]
theorem val_append (xs ys : List Int) : val (xs ++ ys) = val xs + 4294967296 ^ xs.length * val ys := by
  induction xs with
  | nil => simp [val]
  | cons x xs ih => simp only [List.cons_append, val, ih, List.length_cons, Nat.pow_succ]; rw [Nat.mul_add, Nat.mul_comm (4294967296 ^ xs.length) 4294967296, Nat.mul_assoc]; omega
theorem val_zeros (k : Nat) : val (List.replicate k 0) = 0 := by
  induction k with
  | zero => rfl
  | succ k ih => simp [List.replicate_succ, val, ih]
theorem rng_zeros (k : Nat) : rng (List.replicate k 0) = true := by simp [rng]
theorem rng_get {l : List Int} (h : rng l = true) {i : Nat} (hi : i < l.length) : 0 ≤ l[i] ∧ l[i] < 4294967296 := by
  have := List.all_eq_true.1 h _ (List.getElem_mem hi)
  simpa using this
theorem rng_of {l : List Int} (h : ∀ i (hi : i < l.length), 0 ≤ l[i] ∧ l[i] < 4294967296) : rng l = true := by
  apply List.all_eq_true.2
  intro x hx
  obtain ⟨i, hi, rfl⟩ := List.mem_iff_getElem.1 hx
  simpa using h i hi
theorem snoc_ind {α : Type} {p : List α → Prop} (h0 : p []) (h1 : ∀ l x, p l → p (l ++ [x])) : ∀ l, p l := by
  intro l
  rw [← List.reverse_reverse l]
  generalize l.reverse = m
  induction m with
  | nil => exact h0
  | cons x m ih => rw [List.reverse_cons]; exact h1 _ _ ih
/-- Limbs, and 0s behind, as far as a length. -/
theorem pad_eq (a : List Int) (m : Nat) (h : a.length ≤ m) : (List.range m).map (fun i => a[i]?.getD 0) = a ++ List.replicate (m - a.length) 0 := by
  apply List.ext_getElem
  · simp; omega
  · intro i h1 h2
    simp only [List.getElem_map, List.getElem_range]
    by_cases hi : i < a.length
    · rw [List.getElem_append_left hi, List.getElem?_eq_getElem hi]; rfl
    · rw [List.getElem_append_right (by omega), List.getElem?_eq_none (by omega)]; simp
theorem val_pad (a : List Int) (m : Nat) (h : a.length ≤ m) : val ((List.range m).map (fun i => a[i]?.getD 0)) = val a := by
  rw [pad_eq a m h, val_append, val_zeros]; simp
theorem rng_getD {a : List Int} (h : rng a = true) (i : Nat) : 0 ≤ a[i]?.getD 0 ∧ a[i]?.getD 0 < 4294967296 := by
  by_cases hi : i < a.length
  · rw [List.getElem?_eq_getElem hi]; exact rng_get h hi
  · rw [List.getElem?_eq_none (by omega)]; simp
/-- 0s behind do not count. -/
theorem val_snoc_zero (xs : List Int) : val (xs ++ [0]) = val xs := by rw [val_append]; simp [val]
theorem dropLast_top {l : List Int} (h : top l = false) : ∃ xs, l = xs ++ [0] := by
  have : l.getLast? = some 0 := by simpa [top] using h
  obtain ⟨xs, e⟩ := List.getLast?_eq_some_iff.1 this
  exact ⟨xs, e⟩
/-- With rounds enough it tells r, and with more of them too. -/
def Ev {α : Type} (f : Nat → Option α) (r : α) : Prop := ∃ n, ∀ k, n ≤ k → f k = some r
theorem Ev.some {α : Type} (r : α) : Ev (fun _ => Option.some r) r := ⟨0, fun _ _ => rfl⟩
theorem Ev.of {α : Type} {f : Nat → Option α} {r : α} (h : ∀ k, f k = Option.some r) : Ev f r := ⟨0, fun k _ => h k⟩
theorem Ev.succ {α : Type} {f g : Nat → Option α} {r : α} (h : Ev g r) (e : ∀ k, f (k + 1) = g k) : Ev f r := by
  obtain ⟨n, hn⟩ := h
  refine ⟨n + 1, fun k hk => ?_⟩
  obtain ⟨k, rfl⟩ : ∃ m, k = m + 1 := ⟨k - 1, by omega⟩
  rw [e, hn k (by omega)]
theorem Ev.now {α : Type} {f : Nat → Option α} {r : α} (e : ∀ k, f (k + 1) = Option.some r) : Ev f r := Ev.succ (g := fun _ => Option.some r) (Ev.some r) e
theorem Ev.congr {α : Type} {f g : Nat → Option α} {r : α} (h : Ev g r) (e : ∀ k, f k = g k) : Ev f r := by
  obtain ⟨n, hn⟩ := h
  exact ⟨n, fun k hk => (e k).trans (hn k hk)⟩
theorem Ev.bind {α β : Type} {f : Nat → Option α} {r : α} {g : Nat → α → Option β} {s : β} (h : Ev f r) (k : Ev (fun n => g n r) s) : Ev (fun n => (f n).bind (g n)) s := by
  obtain ⟨n, hn⟩ := h
  obtain ⟨m, hm⟩ := k
  exact ⟨max n m, fun i hi => by show (f i).bind (g i) = _; rw [hn i (by omega)]; exact hm i (by omega)⟩
theorem Ev.get {α : Type} {f : Nat → Option α} {r : α} (h : Ev f r) : ∃ k, f k = Option.some r := by
  obtain ⟨n, hn⟩ := h
  exact ⟨n, hn n (Nat.le_refl n)⟩
theorem Ev.cast {α : Type} {f : Nat → Option α} {r s : α} (h : Ev f r) (e : r = s) : Ev f s := e ▸ h
theorem val_take_succ (l : List Int) (m : Nat) (hm : m < l.length) : val (l.take (m + 1)) = val (l.take m) + 4294967296 ^ m * l[m].toNat := by
  rw [List.take_add_one, List.getElem?_eq_getElem hm, Option.toList_some, val_append, List.length_take, Nat.min_eq_left (by omega)]
  simp [val]
theorem val_drop (l : List Int) (m : Nat) (hm : m < l.length) : val (l.drop m) = l[m].toNat + 4294967296 * val (l.drop (m + 1)) := by
  rw [List.drop_eq_getElem_cons hm]; rfl
theorem val_drop_set (l : List Int) (m : Nat) (x : Int) (hm : m < l.length) : val ((l.set m x).drop m) = x.toNat + 4294967296 * val (l.drop (m + 1)) := by
  rw [val_drop _ _ (by simpa using hm)]
  simp [List.drop_set]
theorem rng_set {l : List Int} (h : rng l = true) (m : Nat) {x : Int} (hx : 0 ≤ x ∧ x < 4294967296) : rng (l.set m x) = true := by
  simp only [rng, List.all_eq_true, Bool.and_eq_true, decide_eq_true_eq] at h ⊢
  intro y hy
  rcases List.mem_or_eq_of_mem_set hy with h1 | h1
  · exact h y h1
  · exact h1 ▸ hx
theorem val_take_drop (l : List Int) (m : Nat) (hm : m ≤ l.length) : val l = val (l.take m) + 4294967296 ^ m * val (l.drop m) := by
  conv => lhs; rw [← List.take_append_drop m l]
  rw [val_append, List.length_take, Nat.min_eq_left hm]
theorem rng_take {l : List Int} (h : rng l = true) (m : Nat) : rng (l.take m) = true := by
  simp only [rng, List.all_eq_true] at h ⊢
  exact fun x hx => h x (List.mem_of_mem_take hx)
theorem rng_drop {l : List Int} (h : rng l = true) (m : Nat) : rng (l.drop m) = true := by
  simp only [rng, List.all_eq_true] at h ⊢
  exact fun x hx => h x (List.mem_of_mem_drop hx)
/-- So many decimal digits of a number, as bytes, the last one last. -/
def digs : Nat → Nat → List UInt8
  | 0, _ => []
  | k + 1, n => digs k (n / 10) ++ [UInt8.ofNat (48 + n % 10)]
theorem digs_length (k n : Nat) : (digs k n).length = k := by
  induction k generalizing n with
  | zero => rfl
  | succ k ih => simp [digs, ih]
/-- A number by pieces of nine digits, the least one first. -/
def pcs (n : Nat) : List (List UInt8) := if h : n = 0 then [] else digs 9 (n % 1000000000) :: pcs (n / 1000000000)
termination_by n
decreasing_by exact Nat.div_lt_self (by omega) (by decide)
theorem pcs_zero : pcs 0 = [] := by rw [pcs]; simp
theorem pcs_pos {n : Nat} (h : n ≠ 0) : pcs n = digs 9 (n % 1000000000) :: pcs (n / 1000000000) := by rw [pcs]; simp [h]
/-- The text of a natural, by its pieces. -/
def showB (n : Nat) : List UInt8 := if ((pcs n).reverse.flatten.dropWhile (· == 48)) = [] then [48] else (pcs n).reverse.flatten.dropWhile (· == 48)
theorem pcs_len : ∀ (j n : Nat), n < 2 ^ (29 * j) → (pcs n).length ≤ j := by
  intro j
  induction j with
  | zero =>
    intro n h
    obtain rfl : n = 0 := by simpa using h
    simp [pcs_zero]
  | succ j ih =>
    intro n h
    by_cases h0 : n = 0
    · subst h0; simp [pcs_zero]
    · rw [pcs_pos h0, List.length_cons]
      have := ih (n / 1000000000) (by
        refine Nat.div_lt_of_lt_mul (Nat.lt_of_lt_of_le h ?_)
        rw [Nat.mul_add, Nat.mul_one, Nat.add_comm, Nat.pow_add]
        exact Nat.mul_le_mul_right _ (by decide))
      omega
theorem pcs_len_gen {n c j : Nat} (h : n < 4294967296 ^ c) (hc : 32 * c ≤ 29 * j) : (pcs n).length ≤ j :=
  pcs_len j n (Nat.lt_of_lt_of_le h (Nat.le_trans (pow_pow_le 4294967296 2 32 c (by decide)) (pow_le_gen 2 (32 * c) (29 * j) (by decide) hc)))
theorem pcs_len_may {n : Nat} (h : n < 4294967296 ^ 65536) : (pcs n).length ≤ 72316 := pcs_len_gen (c := 65536) (j := 72316) h (by decide)
theorem pcs_nine (n : Nat) : ∀ p ∈ pcs n, p.length = 9 := by
  induction n using Nat.strongRecOn with
  | _ n ih =>
    intro p hp
    by_cases h0 : n = 0
    · subst h0; rw [pcs_zero] at hp; cases hp
    · rw [pcs_pos h0] at hp
      rcases List.mem_cons.1 hp with rfl | hp
      · exact digs_length _ _
      · exact ih _ (Nat.div_lt_self (by omega) (by decide)) p hp
theorem flat_at {α : Type} : ∀ (ps : List (List α)), (∀ p ∈ ps, p.length = 9) → ∀ (k : Nat) (hk : k < ps.length) (j : Nat), j < 9 → ps.flatten[k * 9 + j]? = ps[k][j]?
  | [], _, k, hk, _, _ => absurd hk (by simp)
  | p :: ps, h, 0, _, j, hj => by
    have := h p List.mem_cons_self
    rw [List.flatten_cons, Nat.zero_mul, Nat.zero_add, List.getElem?_append_left (by omega)]
    rfl
  | p :: ps, h, k + 1, hk, j, hj => by
    have h9 := h p List.mem_cons_self
    rw [List.flatten_cons, List.getElem?_append_right (by omega), h9, show (k + 1) * 9 + j - 9 = k * 9 + j by omega, flat_at ps (fun q hq => h q (List.mem_cons_of_mem _ hq)) k (by simpa using hk) j hj]
    rfl
theorem flat_rev_drop {α : Type} (ps : List (List α)) (k : Nat) (hk : k < ps.length) : (ps.drop k).reverse.flatten = (ps.drop (k + 1)).reverse.flatten ++ ps[k] := by
  rw [List.drop_eq_getElem_cons hk, List.reverse_cons, List.flatten_append, List.flatten_cons, List.flatten_nil, List.append_nil]
theorem flat_len {α : Type} (ps : List (List α)) (h : ∀ p ∈ ps, p.length = 9) : ps.flatten.length = ps.length * 9 := by
  induction ps with
  | nil => rfl
  | cons p ps ih => rw [List.flatten_cons, List.length_append, h p List.mem_cons_self, ih (fun q hq => h q (List.mem_cons_of_mem _ hq)), List.length_cons]; omega
/-- The number of decimal digits' bytes. -/
def num (l : List UInt8) : Nat := l.foldl (fun a b => 10 * a + (b.toNat - 48)) 0
/-- Pieces of nine digits, the first one as long as it must be: each one's number, and what its next digit is worth. -/
def parts (l : List UInt8) : List (Nat × Nat) := if h : l = [] then [] else (num (l.take ((l.length - 1) % 9 + 1)), 10 ^ ((l.length - 1) % 9 + 1)) :: parts (l.drop ((l.length - 1) % 9 + 1))
termination_by l.length
decreasing_by have := List.length_pos_iff.2 h; rw [List.length_drop]; omega
theorem parts_nil : parts [] = [] := by rw [parts]; simp
theorem parts_pos {l : List UInt8} (h : l ≠ []) : parts l = (num (l.take ((l.length - 1) % 9 + 1)), 10 ^ ((l.length - 1) % 9 + 1)) :: parts (l.drop ((l.length - 1) % 9 + 1)) := by rw [parts]; simp [h]
theorem num_snoc (l : List UInt8) (b : UInt8) : num (l ++ [b]) = 10 * num l + (b.toNat - 48) := by simp [num, List.foldl_append]
theorem num_lt (l : List UInt8) (h : ∀ b ∈ l, 48 ≤ b.toNat ∧ b.toNat ≤ 57) : num l < 10 ^ l.length := by
  revert h
  refine snoc_ind (p := fun l => (∀ b ∈ l, 48 ≤ b.toNat ∧ b.toNat ≤ 57) → num l < 10 ^ l.length) ?_ ?_ l
  · intro _; decide
  · intro l b ih h
    have h1 := ih (fun c hc => h c (List.mem_append_left _ hc))
    have h2 := h b (List.mem_append_right _ List.mem_cons_self)
    rw [num_snoc, List.length_append, List.length_singleton, Nat.pow_succ]
    omega
theorem num_take_succ (l : List UInt8) (j : Nat) (hj : j < l.length) : num (l.take (j + 1)) = 10 * num (l.take j) + (l[j].toNat - 48) := by
  rw [List.take_add_one, List.getElem?_eq_getElem hj, Option.toList_some, num_snoc]
theorem extract_toList (t : ByteArray) (j : Nat) : (t.extract j t.size).data.toList = t.data.toList.drop j := by
  rw [ByteArray.data_extract, Array.toList_extract, List.extract_eq_take_drop]
  have h : t.size = t.data.toList.length := by rw [Array.length_toList]; rfl
  rw [h, List.take_of_length_le (by rw [List.length_drop]; exact Nat.le_refl _)]
theorem size_toList (t : ByteArray) : t.size = t.data.toList.length := by rw [Array.length_toList]; rfl
theorem val_set (l : List Int) (p : Nat) (x : Int) (hp : p < l.length) : val (l.set p x) + 4294967296 ^ p * l[p].toNat = val l + 4294967296 ^ p * x.toNat := by
  have h1 := val_take_drop (l.set p x) p (by rw [List.length_set]; omega)
  have h2 := val_take_drop l p (by omega)
  rw [val_drop_set _ _ _ hp, List.take_set_of_le (Nat.le_refl _)] at h1
  rw [val_drop _ _ hp] at h2
  rw [h1, h2, Nat.mul_add, Nat.mul_add]
  omega

/-- The digits of a natural, the greatest one first. -/
def deci (n : Nat) : List UInt8 := if n < 10 then [UInt8.ofNat (48 + n)] else deci (n / 10) ++ [UInt8.ofNat (48 + n % 10)]
termination_by n
decreasing_by omega
theorem deci_lt {n : Nat} (h : n < 10) : deci n = [UInt8.ofNat (48 + n)] := by rw [deci]; simp [h]
theorem deci_ge {n : Nat} (h : ¬ n < 10) : deci n = deci (n / 10) ++ [UInt8.ofNat (48 + n % 10)] := by rw [deci]; simp [h]
theorem deci_ne (n : Nat) : deci n ≠ [] := by
  by_cases h : n < 10
  · rw [deci_lt h]; simp
  · rw [deci_ge h]; simp
theorem byte_dig {d : Nat} (h : d < 10) : (UInt8.ofNat (48 + d)).toNat = 48 + d := by
  rw [UInt8.toNat_ofNat']; omega
/-- Bytes that are digits. -/
def isDig (b : UInt8) : Bool := decide (48 ≤ b.toNat) && decide (b.toNat ≤ 57)
def allDig (l : List UInt8) : Bool := l.all isDig
theorem allDig_iff {l : List UInt8} : allDig l = true ↔ ∀ b ∈ l, 48 ≤ b.toNat ∧ b.toNat ≤ 57 := by simp [allDig, isDig]
theorem allDig_append {a b : List UInt8} : allDig (a ++ b) = true ↔ allDig a = true ∧ allDig b = true := by simp [allDig, List.all_append]
theorem isDig_of {d : Nat} (h : d < 10) : isDig (UInt8.ofNat (48 + d)) = true := by unfold isDig; rw [byte_dig h]; simp; omega
theorem allDig_one (b : UInt8) : allDig [b] = isDig b := by simp [allDig]
theorem allDig_of {d : Nat} (h : d < 10) : allDig [UInt8.ofNat (48 + d)] = true := by rw [allDig_one]; exact isDig_of h
theorem deci_dig (n : Nat) : allDig (deci n) = true := by
  induction n using Nat.strongRecOn with
  | _ n ih =>
    by_cases h : n < 10
    · rw [deci_lt h]; exact allDig_of h
    · rw [deci_ge h, allDig_append]; exact ⟨ih _ (by omega), allDig_of (Nat.mod_lt n (by decide : 10 > 0))⟩
theorem num_nil : num [] = 0 := rfl
theorem num_one (b : UInt8) : num [b] = b.toNat - 48 := by simp [num]
theorem num_deci (n : Nat) : num (deci n) = n := by
  induction n using Nat.strongRecOn with
  | _ n ih =>
    by_cases h : n < 10
    · rw [deci_lt h, num_one, byte_dig h]; omega
    · rw [deci_ge h, num_snoc, ih _ (by omega), byte_dig (Nat.mod_lt n (by decide : 10 > 0))]; omega
theorem num_append (a b : List UInt8) : num (a ++ b) = num a * 10 ^ b.length + num b := by
  refine snoc_ind (p := fun b => num (a ++ b) = num a * 10 ^ b.length + num b) ?_ ?_ b
  · simp [num_nil]
  · intro l x ih
    rw [← List.append_assoc, num_snoc, num_snoc, ih, List.length_append, List.length_singleton, Nat.pow_succ, ← Nat.mul_assoc, Nat.mul_comm _ 10]
    omega
theorem num_zeros (k : Nat) : num (List.replicate k 48) = 0 := by
  induction k with
  | zero => rfl
  | succ k ih => rw [List.replicate_succ', num_snoc, ih]; rfl
/-- A text that a natural has. -/
def good (l : List UInt8) : Bool := !l.isEmpty && (l.head? != some 48 || l.length == 1) && allDig l
theorem good_iff {l : List UInt8} : good l = true ↔ l ≠ [] ∧ (l.head? ≠ some 48 ∨ l.length = 1) ∧ allDig l = true := by
  simp [good, and_assoc]
theorem byte_of_dig {b : UInt8} (h : isDig b = true) : UInt8.ofNat (48 + (b.toNat - 48)) = b := by
  have : 48 ≤ b.toNat ∧ b.toNat ≤ 57 := by simpa [isDig] using h
  rw [show 48 + (b.toNat - 48) = b.toNat by omega]
  exact UInt8.ofNat_toNat
theorem num_pos_of_head {l : List UInt8} (hd : allDig l = true) (hne : l ≠ []) (hh : l.head? ≠ some 48) : 0 < num l := by
  cases l with
  | nil => exact absurd rfl hne
  | cons x xs =>
    have h1 : num (x :: xs) = (x.toNat - 48) * 10 ^ xs.length + num xs := by
      have := num_append [x] xs
      rw [num_one] at this
      exact this
    have h2 := (allDig_iff.1 hd) x List.mem_cons_self
    have h3 : x.toNat ≠ 48 := by
      intro e
      apply hh
      simp only [List.head?_cons, Option.some.injEq]
      exact UInt8.toNat_inj.1 e
    have h4 : 0 < (x.toNat - 48) * 10 ^ xs.length := Nat.mul_pos (by omega) (Nat.pow_pos (by decide))
    omega
theorem deci_num (l : List UInt8) : good l = true → deci (num l) = l := by
  refine snoc_ind (p := fun l => good l = true → deci (num l) = l) ?_ ?_ l
  · intro h; cases h
  · intro l b ih h
    obtain ⟨-, h2, h3⟩ := good_iff.1 h
    obtain ⟨h4, h5⟩ := allDig_append.1 h3
    have hb : isDig b = true := by simpa [allDig] using h5
    have hb' : 48 ≤ b.toNat ∧ b.toNat ≤ 57 := by simpa [isDig] using hb
    rw [num_snoc]
    cases l with
    | nil =>
      rw [num_nil, Nat.mul_zero, Nat.zero_add, deci_lt (by omega), byte_of_dig hb]
      rfl
    | cons x xs =>
      have hh : (x :: xs).head? ≠ some 48 := by
        rcases h2 with h2 | h2
        · simpa using h2
        · simp at h2
      have hp := num_pos_of_head h4 (by simp) hh
      rw [deci_ge (by omega), show (10 * num (x :: xs) + (b.toNat - 48)) / 10 = num (x :: xs) by omega, show (10 * num (x :: xs) + (b.toNat - 48)) % 10 = b.toNat - 48 by omega, byte_of_dig hb, ih (good_iff.2 ⟨by simp, .inl hh, h4⟩)]
theorem num_lt_dig {l : List UInt8} (h : allDig l = true) : num l < 10 ^ l.length := num_lt l (allDig_iff.1 h)
theorem head_append {a b : List UInt8} (h : a ≠ []) : (a ++ b).head? = a.head? := by
  cases a with
  | nil => exact absurd rfl h
  | cons x xs => rfl
theorem deci_head {n : Nat} (h : n ≠ 0) : (deci n).head? ≠ some 48 := by
  induction n using Nat.strongRecOn with
  | _ n ih =>
    by_cases h1 : n < 10
    · rw [deci_lt h1, List.head?_cons]
      intro e
      have := congrArg UInt8.toNat (Option.some.inj e)
      rw [byte_dig h1] at this
      have e48 : (48 : UInt8).toNat = 48 := rfl
      omega
    · rw [deci_ge h1, head_append (deci_ne _)]
      exact ih _ (by omega) (by omega)
theorem deci_good (n : Nat) : good (deci n) = true := by
  refine good_iff.2 ⟨deci_ne n, ?_, deci_dig n⟩
  by_cases h : n = 0
  · subst h; right; rw [deci_lt (by decide)]; rfl
  · left; exact deci_head h
theorem deci_inj {m n : Nat} (h : deci m = deci n) : m = n := by rw [← num_deci m, h, num_deci]
theorem deci_len_le {n k : Nat} (hk : 0 < k) : (deci n).length ≤ k ↔ n < 10 ^ k := by
  constructor
  · intro h
    have := num_lt_dig (deci_dig n)
    rw [num_deci] at this
    exact Nat.lt_of_lt_of_le this (Nat.pow_le_pow_right (by decide) h)
  · induction k generalizing n with
    | zero => omega
    | succ k ih =>
      intro h
      by_cases h1 : n < 10
      · rw [deci_lt h1]; simp
      · rw [deci_ge h1, List.length_append, List.length_singleton]
        cases k with
        | zero => simp at h; omega
        | succ k =>
          have := ih (n := n / 10) (by omega) (by rw [Nat.pow_succ] at h; omega)
          omega
theorem deci_pos (n : Nat) : 0 < (deci n).length := List.length_pos_iff.2 (deci_ne n)
/-- A longer text is a greater number's. -/
theorem deci_lt_of_len {m n : Nat} (h : (deci m).length < (deci n).length) : m < n := by
  apply Nat.lt_of_not_le
  intro hle
  have h1 : ¬ (deci n).length ≤ (deci m).length := by omega
  apply h1
  rw [deci_len_le (deci_pos m)]
  exact Nat.lt_of_le_of_lt hle ((deci_len_le (deci_pos m)).1 (Nat.le_refl _))
theorem digs_dig (k n : Nat) : allDig (digs k n) = true := by
  induction k generalizing n with
  | zero => rfl
  | succ k ih => rw [digs, allDig_append]; exact ⟨ih _, allDig_of (Nat.mod_lt n (by decide : 10 > 0))⟩
theorem num_digs (k n : Nat) (h : n < 10 ^ k) : num (digs k n) = n := by
  induction k generalizing n with
  | zero => simp at h; subst h; rfl
  | succ k ih =>
    rw [digs, num_snoc, ih _ (by rw [Nat.pow_succ] at h; omega), byte_dig (Nat.mod_lt n (by decide : 10 > 0))]
    omega
theorem pcs_flat (n : Nat) : num (pcs n).reverse.flatten = n ∧ allDig (pcs n).reverse.flatten = true := by
  induction n using Nat.strongRecOn with
  | _ n ih =>
    by_cases h : n = 0
    · subst h; rw [pcs_zero]; exact ⟨rfl, rfl⟩
    · obtain ⟨i1, i2⟩ := ih (n / 1000000000) (Nat.div_lt_self (by omega) (by decide))
      rw [pcs_pos h, List.reverse_cons, List.flatten_append, List.flatten_cons, List.flatten_nil, List.append_nil, num_append, i1, digs_length, num_digs _ _ (show n % 1000000000 < 10 ^ 9 by omega)]
      exact ⟨by rw [show (10 : Nat) ^ 9 = 1000000000 from rfl]; omega, allDig_append.2 ⟨i2, digs_dig _ _⟩⟩
theorem drop_zeros (l : List UInt8) : ∃ k, l = List.replicate k 48 ++ l.dropWhile (· == 48) := by
  induction l with
  | nil => exact ⟨0, rfl⟩
  | cons x xs ih =>
    by_cases h : x = 48
    · obtain ⟨k, hk⟩ := ih
      refine ⟨k + 1, ?_⟩
      subst h
      rw [List.dropWhile_cons_of_pos (by rfl), List.replicate_succ, List.cons_append, ← hk]
    · exact ⟨0, by rw [List.dropWhile_cons_of_neg (by simpa using h)]; rfl⟩
theorem drop_head (l : List UInt8) : (l.dropWhile (· == 48)).head? ≠ some 48 := by
  induction l with
  | nil => simp
  | cons x xs ih =>
    by_cases h : x = 48
    · rw [List.dropWhile_cons_of_pos (by simpa using h)]; exact ih
    · rw [List.dropWhile_cons_of_neg (by simpa using h), List.head?_cons]; simpa using h
theorem num_drop_zeros (l : List UInt8) : num (l.dropWhile (· == 48)) = num l := by
  obtain ⟨k, hk⟩ := drop_zeros l
  conv => rhs; rw [hk]
  rw [num_append, num_zeros, Nat.zero_mul, Nat.zero_add]
theorem showB_deci (n : Nat) : showB n = deci n := by
  obtain ⟨h1, h2⟩ := pcs_flat n
  unfold showB
  obtain ⟨l, hl⟩ : ∃ l, (pcs n).reverse.flatten = l := ⟨_, rfl⟩
  rw [hl] at h1 h2 ⊢
  have h3 := num_drop_zeros l
  have h4 := drop_head l
  have h5 : allDig (l.dropWhile (· == 48)) = true := by
    obtain ⟨k, hk⟩ := drop_zeros l
    rw [hk] at h2
    exact (allDig_append.1 h2).2
  obtain ⟨d, hd⟩ : ∃ d, l.dropWhile (· == 48) = d := ⟨_, rfl⟩
  rw [hd] at h3 h4 h5 ⊢
  by_cases e : d = []
  · rw [if_pos e]
    subst e
    rw [num_nil] at h3
    have : n = 0 := by omega
    subst this
    rw [deci_lt (by decide)]
    rfl
  · rw [if_neg e, ← h1, ← h3, deci_num d (good_iff.2 ⟨e, .inl h4, h5⟩)]
/-- The limbs of a natural, so many of them. -/
def fixed : Nat → Nat → List Int
  | 0, _ => []
  | m + 1, v => ((v % 4294967296 : Nat) : Int) :: fixed m (v / 4294967296)
theorem fixed_length : ∀ (m v : Nat), (fixed m v).length = m
  | 0, _ => rfl
  | m + 1, v => by rw [fixed, List.length_cons, fixed_length]
theorem rng_fixed : ∀ (m v : Nat), rng (fixed m v) = true
  | 0, _ => rfl
  | m + 1, v => by rw [fixed, rng_cons]; exact ⟨by omega, rng_fixed m _⟩
theorem val_fixed : ∀ (m v : Nat), v < 4294967296 ^ m → val (fixed m v) = v
  | 0, v, h => by
    rw [Nat.pow_zero] at h
    obtain rfl : v = 0 := by omega
    rfl
  | m + 1, v, h => by
    have h1 : v / 4294967296 < 4294967296 ^ m := Nat.div_lt_of_lt_mul (by rw [Nat.pow_succ, Nat.mul_comm] at h; exact h)
    rw [fixed, val, val_fixed m _ h1, Int.toNat_natCast]
    omega
theorem eq_fixed : ∀ (l : List Int), rng l = true → l = fixed l.length (val l)
  | [], _ => rfl
  | x :: xs, h => by
    obtain ⟨h1, h2⟩ := rng_cons.1 h
    rw [List.length_cons, fixed, val, show (x.toNat + 4294967296 * val xs) / 4294967296 = val xs by omega, ← eq_fixed xs h2]
    congr 1
    omega
end Go.Proofs.YtjgloepeogelnaaDoor.Nums
