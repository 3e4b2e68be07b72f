/- Functions with the same answers as the Go functions of the program, with the proofs that the program comes to just these answers; no condition but those that each theorem names. (Laid by this work's own program mk.py out of the translation.) -/
import Derived.Test.YtjgloepeogelnaaDoorPrx0
import Derived.Test.YtjgloepeogelnaaDoorPrx1
import Derived.Test.YtjgloepeogelnaaDoorPrx4
import Derived.Test.YtjgloepeogelnaaDoorPrx5
import Derived.Test.YtjgloepeogelnaaDoorPrx6
namespace Go.Proofs.YtjgloepeogelnaaDoor.Pr
open Go.RowKit Go.Proofs.YtjgloepeogelnaaDoorW.PrintWords Go.Proofs.YtjgloepeogelnaaDoorW.PrintLast Go.Proofs.YtjgloepeogelnaaDoorW.PrintMore
attribute [local go_sem] max2_int min2_int max_two min_two max_three min_three max_four min_four   -- for this text's walks alone
set_option linter.unusedVariables false
set_option linter.unusedSimpArgs false

/-! ### mul_product: function 55 -/
theorem mul_product.calls_short (k : Nat) (A0 : Option Addr) (c0 : Nat) (l0 : List Int) (A1 : Option Addr) (c1 : Nat) (l1 : List Int) (r : List Int) (w : World) (hr0 : Kd.C (Kd.int .u32) w A0 l0.length l0) (hc0 : l0.length ≤ c0) (hr1 : Kd.C (Kd.int .u32) w A1 l1.length l1) (hc1 : l1.length ≤ c1)
    (hs : l0.length ≤ 40 ∨ l1.length ≤ 40) (h : mul_byLimbs.f k l0 l1 = some r) :
    Calls Tryd.prog 55 #[.slice A0 l0.length c0, .slice A1 l1.length c1] w fun e w' => ∃ v0_ : Value, e = .returned (v0_) ∧ Kd.R (Kd.int .u32) 39 w' w.heap.size (fun _ => True) v0_ r ∧ Below w.heap.size w w' := by
  have HR0 := Aside0.mk hr0
  have HC0 := Aside0.mk hc0
  have HR1 := Aside0.mk hr1
  have HC1 := Aside0.mk hc1
  have H := Aside0.mk h
  obtain ⟨m, hm⟩ : ∃ m : Int, (if (l1.length : Int) < (l0.length : Int) then (l1.length : Int) else (l0.length : Int)) = m := ⟨_, rfl⟩
  have hmn : (if l1.length < l0.length then (l1.length : Int) else (l0.length : Int)) = m := by rw [← hm]; simp only [Int.ofNat_lt]
  have hs2 : m ≤ 40 := by rw [← hm]; split <;> omega
  clear hr0 hc0 hr1 hc1 h hs
  go_enter Tryd.func55, Tryd.ntmps55
  go_wp2_with (go_at_call 80; (with_reducible refine (mul_byLimbs.calls k A0 c0 l0 A1 c1 l1 r w HR0.out HC0.out HR1.out HC1.out H.out).mono ?_); rintro e w' ⟨v0, rfl, hR, hB⟩; have HR := Aside0.mk hR; have HB := Aside0.mk hB; clear hR hB)
  go_ret
  exact ⟨_, rfl, HR.out, HB.out⟩
theorem toL_take_zero {l : List Int} {m : Nat} (hm : 0 < m) (hl : m ≤ l.length) (hz : rd l ((m : Int) - 1) = 0) : Nums.val (l.take m) = Nums.val (l.take (m - 1)) := by
  have h := Nums.val_take_succ l (m - 1) (by omega)
  rw [show m - 1 + 1 = m by omega] at h
  rw [h]
  have h2 : rd l (((m - 1 : Nat) : Int)) = l[m - 1] := rd_nat (by omega)
  rw [show ((m : Int) - 1) = ((m - 1 : Nat) : Int) by omega, h2] at hz
  rw [hz]
  simp
theorem toL_take_top {l : List Int} {m : Nat} (hm : 0 < m) (hl : m ≤ l.length) (hr : Nums.rng l = true) (hz : rd l ((m : Int) - 1) ≠ 0) : (Nums.toL (Nums.val (l.take m))).length = m := by
  have h2 : rd l (((m - 1 : Nat) : Int)) = l[m - 1] := rd_nat (by omega)
  rw [show ((m : Int) - 1) = ((m - 1 : Nat) : Int) by omega, h2] at hz
  have ht : Nums.top (l.take m) = true := by
    have : (l.take m).getLast? = some l[m - 1] := by
      rw [List.getLast?_eq_getElem?, List.length_take, Nat.min_eq_left hl, List.getElem?_take_of_lt (by omega), List.getElem?_eq_getElem (by omega)]
    simp only [Nums.top, this, bne_iff_ne, ne_eq, Option.some.injEq]
    exact hz
  rw [Nums.toL_val (Nums.rng_take hr m) ht, List.length_take, Nat.min_eq_left hl]
set_option maxRecDepth 100000 in
set_option maxHeartbeats 1000000 in
theorem mul_trim.reads (A : Option Addr) (n c : Nat) (l : List Int) (w : World) (hr : Kd.C (Kd.int .u32) w A n l) (hc : n ≤ c) (hn : n ≤ 70368744177664) (hrng : Nums.rng l = true) :
    Calls Tryd.prog 79 #[.slice A n c] w fun e w' => e = .returned (.slice A (Nums.toL (Nums.val l)).length c) ∧ w = w' := by
  have hl : l.length = n := hr.1
  have HR := Aside0.mk hr
  have HG := Aside0.mk hrng
  have HL := Aside0.mk hl
  have HV : Aside0 (Nums.val l = Nums.val (l.take n)) := ⟨by rw [List.take_of_length_le (by omega)]⟩
  clear hr hrng hl
  go_enter Tryd.func79, Tryd.ntmps79
  go_wp2
  go_loop [0] (fun v => ∃ m : Nat, m ≤ n ∧ v = .slice A m c ∧ Aside0 (Nums.val l = Nums.val (l.take m))) (fun v => match v with | .slice _ m _ => m | _ => 0)
  case atStart => exact ⟨n, Nat.le_refl _, rfl, HV⟩
  case round =>
    obtain ⟨m, hm, rfl, HT⟩ := hrel
    by_cases h0 : m = 0
    · subst h0
      go_wp2
      go_ret
      refine ⟨?_, rfl⟩
      rw [HT.out, List.take_zero, show Nums.val [] = 0 from rfl, Nums.toL_zero]
      rfl
    · have hp : 0 < m := by omega
      obtain ⟨ad, hA, hcell⟩ := Kd.at_int HR.out ((m : Int) - 1) (by omega) (by omega)
      subst hA
      rw [show ((m : Int) - 1).toNat = m - 1 by omega] at hcell
      have d1 : decide (0 < m) = true := decide_eq_true hp
      clear h0
      by_cases hz : rd l ((m : Int) - 1) = 0
      · rw [hz] at hcell
        have HT2 : Aside0 (Nums.val l = Nums.val (l.take (m - 1))) := ⟨by rw [HT.out]; exact toL_take_zero hp (by have := HL.out; omega) hz⟩
        clear hz HT
        go_wp2
        go_round
        case rel => exact ⟨m - 1, by omega, rfl, HT2⟩
        case measure => simp; omega
      · obtain ⟨x, hx⟩ : ∃ x, rd l ((m : Int) - 1) = x := ⟨_, rfl⟩
        rw [hx] at hcell
        have hx0 : (x == 0) = false := by rw [← hx]; simpa using hz
        have HT2 := Aside0.mk (toL_take_top hp (by have := HL.out; omega) HG.out hz)
        clear hz hx
        go_wp2
        go_ret
        refine ⟨?_, rfl⟩
        rw [HT.out, HT2.out]
        rfl
theorem cut_hm {P : Program} (t e : TypeId) (kh km : IntKind) {i : TypeInfo} (ht : P.underlying t = some (.slice e)) (hi : P.info? e = some i) (A : Option Addr) (n c : Nat) (j : Nat) (hm : j ≤ c) :
    ∀ W : World, (Instr.slice t (.slice A n c) none (some (.int kh (j : Int))) (some (.int km (j : Int)))).run P W = .ok (.slice A j j) W := by
  intro W
  have hel : P.elem t = e := by simp [Program.elem, ht]
  have hu : P.underlying t = some (.slice (P.elem t)) := by rw [hel]; exact ht
  have ha : (A.map fun x => x.add 0) = A := by cases A <;> simp [Addr.add]
  rw [run_slice_hm W t A n c hu kh km (j : Int) (j : Int) (by omega) (by omega) (by omega), hel]
  simp [sizeOf, typeInfo, hi, sliced, Result.andThen, ha]
set_option maxRecDepth 100000 in
set_option maxHeartbeats 1000000 in
theorem mul_parted.reads (A : Option Addr) (n c h : Nat) (l : List Int) (w : World) (hr : Kd.C (Kd.int .u32) w A n l) (hc : n ≤ c) (hn : n ≤ 70368744177664) (hrng : Nums.rng l = true) (hh : h ≤ 70368744177664) :
    Calls Tryd.prog 81 #[.slice A n c, .int .i64 h] w fun e w' => e = .returned (.tuple #[.slice A (Nums.toL (Nums.val (l.take h))).length (min h n), .slice (if c = min h n then A else A.map (·.add (min h n * 1))) (n - min h n) (c - min h n)]) ∧ ∃ nd, w' = w.drewN nd := by
  have hl : l.length = n := hr.1
  obtain ⟨i0, hi, hz0, hz1, hz2⟩ := info_parts info39
  obtain ⟨m, hm⟩ : ∃ m, min h n = m := ⟨_, rfl⟩
  have hmm : (if n < h then (n : Int) else (h : Int)) = (m : Int) := by rw [← hm]; split <;> omega
  have hmn : m ≤ n := by omega
  have hC := Kd.C_take (m := m) (by rw [← hl] at hr; exact hr) (by omega)
  have ht : l.take h = l.take m := by
    rw [← hm]
    by_cases h1 : h ≤ n
    · rw [Nat.min_eq_left h1]
    · rw [Nat.min_eq_right (by omega), List.take_of_length_le (by omega), List.take_of_length_le (by omega)]
  have hlm : (l.take m).length = m := by rw [List.length_take]; omega
  rw [hm, ht]
  have HT := fun nd => mul_trim.reads A m m (l.take m) (w.drewN nd) (by rw [hlm] at hC; exact Kd.C_drewN hC nd) (Nat.le_refl _) (by omega) (Nums.rng_take hrng m)
  have h1 := cut_hm (P := Tryd.prog) 22 39 .i64 .i64 Tryd.underlying22 hi A n c m (by omega)
  have h2 := cut_from (P := Tryd.prog) 22 39 .i64 Tryd.underlying22 hi 1 hz1 A n c (m : Int) (by omega) (by omega)
  rw [Int.toNat_natCast] at h2
  obtain ⟨A1, hA1⟩ : ∃ A1, (if c = m then A else A.map (·.add (m * 1))) = A1 := ⟨_, rfl⟩
  rw [hA1] at h2 ⊢
  obtain ⟨z, hz⟩ : ∃ z, (Nums.toL (Nums.val (l.take m))).length = z := ⟨_, rfl⟩
  rw [hz] at HT ⊢
  have HT := Aside0.mk HT
  clear hz hA1 hlm ht hC hm hi hz0 hz1 hz2 hr hl hrng
  go_enter Tryd.func81, Tryd.ntmps81
  go_wp2_with fail
  go_quiet ((go_at_call 79; exact Calls.quiet_of_same ((HT.out _).mono fun _ _ h => ⟨h.1, h.2.symm⟩)))
  go_wp2
  go_ret2
  exact ⟨rfl, _, rfl⟩
set_option maxRecDepth 100000 in
set_option maxHeartbeats 1000000 in
theorem mul_put.calls (k B : Nat) (P0_ : Nat → Prop) (u : Value) (l0 : List Int) (A1 : Option Addr) (c1 : Nat) (l1 : List Int) (a2 : Int) (r : List Int) (w0 w : World) (hb : Boxed w B 22 u) (hB : Below w0.heap.size w0 w) (ho0 : Kd.R (Kd.int .u32) 39 w w0.heap.size P0_ u l0) (hr1 : ∀ W_, Kept w W_ (fun k_ => P0_ k_) → Kd.C (Kd.int .u32) W_ A1 l1.length l1) (hc1 : l1.length ≤ c1) (h : mul_addAt.f k l0 l1 a2 = some r) :
    Calls Tryd.prog 82 #[.slice A1 l1.length c1, .int .i64 a2, .pointer (some ⟨B, 0, none⟩)] w fun e w' => e = .returned (.tuple #[]) ∧ Kd.R (Kd.int .u32) 39 w' w0.heap.size (fun k_ => (P0_ k_ ∨ w.heap.size ≤ k_)) u r ∧ Below w0.heap.size w0 w' ∧ Kept w w' (fun k_ => P0_ k_) := by
  have HA := Aside0.mk (mul_addAt.calls k P0_ u l0 A1 c1 l1 a2 r w0 w hB ho0 hr1 hc1 h)
  have hbc := hb.cell
  clear hB ho0 hr1 h hb
  go_enter Tryd.func82, Tryd.ntmps82
  go_wp2_with (go_at_call 83; refine HA.out.mono ?_; rintro e w' ⟨rfl, h1, h2, h3⟩; have H1 := Aside0.mk h1; have H2 := Aside0.mk h2; have H3 := Aside0.mk h3; clear h1 h2 h3)
  go_end0
  exact ⟨rfl, H1.out, H2.out, H3.out⟩
theorem trim_prefix (l : List Int) (hr : Nums.rng l = true) : Nums.toL (Nums.val l) = l.take (Nums.toL (Nums.val l)).length ∧ (Nums.toL (Nums.val l)).length ≤ l.length := by
  revert hr
  refine Nums.snoc_ind (p := fun l => Nums.rng l = true → Nums.toL (Nums.val l) = l.take (Nums.toL (Nums.val l)).length ∧ (Nums.toL (Nums.val l)).length ≤ l.length) ?_ ?_ l
  · intro _
    rw [show Nums.val [] = 0 from rfl, Nums.toL_zero]
    exact ⟨rfl, Nat.le_refl _⟩
  · intro xs x ih hr
    by_cases hx : x = 0
    · subst hx
      obtain ⟨h1, h2⟩ := ih (Nums.rng_append.1 hr).1
      rw [Nums.val_snoc_zero]
      refine ⟨?_, by rw [List.length_append]; omega⟩
      rw [List.take_append_of_le_length h2]
      exact h1
    · have ht : Nums.top (xs ++ [x]) = true := by simp [Nums.top, hx]
      rw [Nums.toL_val hr ht, List.take_length]
      exact ⟨rfl, Nat.le_refl _⟩
theorem mul_parted.two (A : Option Addr) (c h : Nat) (l : List Int) (hc : l.length ≤ c) (hn : l.length ≤ 70368744177664) (hrng : Nums.rng l = true) (hh : h ≤ 70368744177664) :
    ∃ (a0 a1 : List Int) (A' : Option Addr) (ca0 ca1 : Nat), Nums.rng a0 = true ∧ Nums.rng a1 = true ∧ Nums.val l = Nums.val a0 + 4294967296 ^ h * Nums.val a1 ∧ a0.length ≤ h ∧ a1.length = l.length - h ∧ a0.length ≤ ca0 ∧ a1.length ≤ ca1 ∧
      (∀ W, Kd.C (Kd.int .u32) W A l.length l → Kd.C (Kd.int .u32) W A a0.length a0 ∧ Kd.C (Kd.int .u32) W A' a1.length a1) ∧
      ∀ W, Kd.C (Kd.int .u32) W A l.length l → Calls Tryd.prog 81 #[.slice A l.length c, .int .i64 h] W fun e W' => e = .returned (.tuple #[.slice A a0.length ca0, .slice A' a1.length ca1]) ∧ ∃ nd, W' = W.drewN nd := by
  have ht : l.take h = l.take (min h l.length) := by
    by_cases h1 : h ≤ l.length
    · rw [Nat.min_eq_left h1]
    · rw [Nat.min_eq_right (by omega), List.take_of_length_le (by omega), List.take_of_length_le (by omega)]
  have hd : l.drop h = l.drop (min h l.length) := by
    by_cases h1 : h ≤ l.length
    · rw [Nat.min_eq_left h1]
    · rw [Nat.min_eq_right (by omega), List.drop_eq_nil_of_le (by omega), List.drop_eq_nil_of_le (by omega)]
  have hld : (l.drop h).length = l.length - h := List.length_drop
  have hlt : (l.take h).length = min h l.length := List.length_take
  obtain ⟨p1, p2⟩ := trim_prefix (l.take h) (Nums.rng_take hrng h)
  refine ⟨Nums.toL (Nums.val (l.take h)), l.drop h, (if c = min h l.length then A else A.map (·.add (min h l.length * 1))), min h l.length, c - min h l.length, Nums.rng_toL _, Nums.rng_drop hrng h, ?_, by omega, hld, by omega, ?_, ?_, fun W hW => ?_⟩
  rotate_left 3
  · have := mul_parted.reads A l.length c h l W hW hc hn hrng hh
    rw [show l.length - min h l.length = (l.drop h).length by omega] at this
    exact this
  · rw [Nums.val_toL]
    by_cases h1 : h ≤ l.length
    · exact Nums.val_take_drop l h h1
    · rw [List.take_of_length_le (by omega), List.drop_eq_nil_of_le (by omega)]
      simp [Nums.val]
  · omega
  · intro W hW
    refine ⟨?_, ?_⟩
    · have h1 := Kd.C_take hW (m := min h l.length) (by omega)
      rw [← ht] at h1
      have h2 := Kd.C_take h1 p2
      rw [← p1] at h2
      exact h2
    · have h1 := Kd.C_drop (m := min h l.length) hW (by omega) hc
      rw [← hd] at h1
      exact h1
theorem R_only {e : Nat} {W : World} {base : Nat} {ok : Nat → Prop} {g n c : Nat} {xs : List Int} (h : (Kd.int .u32).R e W base ok (.slice (some ⟨g, 0, none⟩) n c) xs) : (Kd.int .u32).R e W base (fun k => k = g) (.slice (some ⟨g, 0, none⟩) n c) xs :=
  Kd.R_of_own (Kd.own_of_R h) (fun k hk => by simp [Value.ownBlock] at hk; exact hk.symm)
/-- What the walk of a long product holds: a row of its own in a box, and what lies below. -/
structure Bag (w W : World) (g B n c : Nat) (out : List Int) : Prop where
  below : Below w.heap.size w W
  box : Boxed W B 22 (.slice (some ⟨g, 0, none⟩) n c)
  own : Kd.R (Kd.int .u32) 39 W w.heap.size (fun k => k = g) (.slice (some ⟨g, 0, none⟩) n c) out
  ne : B ≠ g
theorem Bag.g_lt {w W : World} {g B n c : Nat} {out : List Int} (h : Bag w W g B n c out) : g < W.heap.size := Kd.R_lt h.own g rfl
/-- A number that was made beside the bag. -/
def Mate (w W : World) (g B : Nat) (v : Value) (l : List Int) : Prop := Kd.R (Kd.int .u32) 39 W w.heap.size (fun k => k ≠ g ∧ k ≠ B) v l
theorem Bag.under {w W W2 : World} {g B n c : Nat} {out : List Int} (h : Bag w W g B n c out) (hb : Below W.heap.size W W2) : Bag w W2 g B n c out :=
  ⟨h.below.trans (hb.mono h.below.size), Boxed.under h.box hb, Kd.R_kept h.own (Kept.of_below hb (fun _ => False)) (fun _ _ e => e), h.ne⟩
theorem Mate.under {w W W2 : World} {g B : Nat} {v : Value} {l : List Int} (h : Mate w W g B v l) (hb : Below W.heap.size W W2) : Mate w W2 g B v l := Kd.R_kept h (Kept.of_below hb (fun _ => False)) (fun _ _ e => e)
theorem Mate.kept {w W W2 : World} {g B : Nat} {v : Value} {l : List Int} (h : Mate w W g B v l) (hk : Kept W W2 (fun k => k = g)) : Mate w W2 g B v l := Kd.R_kept h hk (fun _ ho e => ho.1 e)
theorem Mate.of {w W W2 : World} {g B n c : Nat} {out : List Int} {v : Value} {l : List Int} (hb : Bag w W g B n c out) (h : Kd.R (Kd.int .u32) 39 W2 W.heap.size (fun _ => True) v l) : Mate w W2 g B v l :=
  Kd.R_lower (Kd.R_mono (Kd.R_bound h) (fun k hk => ⟨fun e => by have := hb.g_lt; have := hk.2.1; omega, fun e => by have := hb.box.lt; have := hk.2.1; omega⟩)) hb.below.size
/-- Behind an addition into the bag's row. -/
theorem Bag.put {w W W2 : World} {g B n c : Nat} {out out2 : List Int} (h : Bag w W g B n c out) (h1 : Kd.R (Kd.int .u32) 39 W2 w.heap.size (fun k_ => (k_ = g ∨ W.heap.size ≤ k_)) (.slice (some ⟨g, 0, none⟩) n c) out2) (h2 : Below w.heap.size w W2) (h3 : Kept W W2 (fun k_ => k_ = g)) : Bag w W2 g B n c out2 :=
  ⟨h2, blk_kept h.box h3 h.ne, R_only h1, h.ne⟩
theorem Bag.puts (k : Nat) {w W : World} {g B n c : Nat} {out : List Int} (h : Bag w W g B n c out) {A : Option Addr} {m : Nat} {l : List Int} (hm : Mate w W g B (.slice A l.length m) l) (a2 : Int) (r : List Int) (hf : mul_addAt.f k out l a2 = some r) :
    Calls Tryd.prog 82 #[.slice A l.length m, .int .i64 a2, .pointer (some ⟨B, 0, none⟩)] W fun e w' => e = .returned (.tuple #[]) ∧ Bag w w' g B n c r ∧ Kept W w' (fun k_ => k_ = g) :=
  (mul_put.calls k B (fun k => k = g) _ out A m l a2 r w W h.box h.below h.own (Kd.C_kept_own hm (fun _ hk => hk.1)) (Kd.R_reads' hm).2.1 hf).mono fun _ _ ⟨e, h1, h2, h3⟩ => ⟨e, h.put h1 h2 h3, h3⟩
theorem Bag.kept {w W W2 : World} {g B n c : Nat} {out : List Int} {S : Nat → Prop} (h : Bag w W g B n c out) (hk : Kept W W2 S) (hb : Below w.heap.size w W2) (h1 : ¬ S g) (h2 : ¬ S B) : Bag w W2 g B n c out :=
  ⟨hb, blk_kept h.box hk h2, Kd.R_kept h.own hk (fun _ e => by rw [e]; exact h1), h.ne⟩
theorem Bag.puts' (k : Nat) {w W : World} {g B n c : Nat} {out : List Int} (h : Bag w W g B n c out) {A : Option Addr} {m : Nat} {l : List Int} (hl : ∀ W_, Kept W W_ (fun k_ => k_ = g) → Kd.C (Kd.int .u32) W_ A l.length l) (hm : l.length ≤ m) (a2 : Int) (r : List Int) (hf : mul_addAt.f k out l a2 = some r) :
    Calls Tryd.prog 82 #[.slice A l.length m, .int .i64 a2, .pointer (some ⟨B, 0, none⟩)] W fun e w' => e = .returned (.tuple #[]) ∧ Bag w w' g B n c r ∧ Kept W w' (fun k_ => k_ = g) :=
  (mul_put.calls k B (fun k => k = g) _ out A m l a2 r w W h.box h.below h.own hl hm hf).mono fun _ _ ⟨e, h1, h2, h3⟩ => ⟨e, h.put h1 h2 h3, h3⟩
/-- A mate that lies apart of another one. -/
def Mate2 (w W : World) (g B : Nat) (u v : Value) (l : List Int) : Prop := Kd.R (Kd.int .u32) 39 W w.heap.size (fun k => (k ≠ g ∧ k ≠ B) ∧ some k ≠ u.ownBlock) v l
theorem Mate2.kept {w W W2 : World} {g B : Nat} {u v : Value} {l : List Int} (h : Mate2 w W g B u v l) (hk : Kept W W2 (fun k => some k = u.ownBlock)) : Mate2 w W2 g B u v l := Kd.R_kept h hk (fun _ ho e => ho.2 e)
theorem Mate2.mate {w W : World} {g B : Nat} {u v : Value} {l : List Int} (h : Mate2 w W g B u v l) : Mate w W g B v l := Kd.R_mono h (fun _ hk => hk.1)
theorem Mate.elder {w W W2 : World} {g B : Nat} {u v : Value} {l l2 : List Int} (h : Mate w W g B v l) (hb : Below W.heap.size W W2) (hu : Kd.R (Kd.int .u32) 39 W2 W.heap.size (fun _ => True) u l2) : Mate2 w W2 g B u v l := Kd.R_elder' h (Kd.R_base hu) hb
theorem Mate.lessens (k : Nat) {w W : World} {g B n c : Nat} {out mid r : List Int} {u : Value} (h : Bag w W g B n c out) (hm : Mate w W g B u mid) {A : Option Addr} {m : Nat} {l : List Int} (hl : Mate2 w W g B u (.slice A l.length m) l) (hf : mul_less.f k mid l = some r) :
    Calls Tryd.prog 85 #[u, .slice A l.length m] W fun e w' => e = .returned (.tuple #[]) ∧ Bag w w' g B n c out ∧ Mate w w' g B u r ∧ Kept W w' (fun k_ => some k_ = u.ownBlock) := by
  have ho : Kd.R (Kd.int .u32) 39 W w.heap.size (fun k_ => some k_ = u.ownBlock) u mid := Kd.R_of_own (Kd.own_of_R hm) (fun k hk => hk.symm)
  refine (mul_less.calls k (fun k_ => some k_ = u.ownBlock) u mid A m l r w W h.below ho (Kd.C_kept_own hl (fun _ hk => hk.2)) (Kd.R_reads' hl).2.1 hf).mono ?_
  rintro e w' ⟨he, h1, h2, h3⟩
  refine ⟨he, h.kept h3 h2 (fun e => (hm.1 g e.symm).1 rfl) (fun e => (hm.1 B e.symm).2 rfl), Kd.R_of_own (Kd.own_of_R h1) (fun k hk => hm.1 k hk), h3⟩
theorem pp_expand (p q r s H : Nat) : (p + H * q) * (r + H * s) = p * r + H * (p * s + q * r) + H * H * (q * s) := by
  rw [Nat.add_mul, Nat.mul_add, Nat.mul_add, Nat.mul_add, Nat.mul_left_comm p H s, Nat.mul_assoc H q r, Nat.mul_assoc H q (H * s), Nat.mul_left_comm q H s, Nat.mul_assoc H H]
  omega
theorem pp_mid (p q r s : Nat) : (p + q) * (r + s) = p * r + (p * s + q * r) + q * s := by
  rw [Nat.add_mul, Nat.mul_add, Nat.mul_add]
  omega
theorem pp_fit {H v N h : Nat} (hH : H = 4294967296 ^ h) (hN : h ≤ N) (hv : H * v < 4294967296 ^ N) : h + (Nums.toL v).length ≤ N := by
  have h1 : 4294967296 ^ N = H * 4294967296 ^ (N - h) := by rw [hH, ← Nat.pow_add]; congr 1; omega
  rw [h1] at hv
  have h2 : v < 4294967296 ^ (N - h) := Nat.lt_of_mul_lt_mul_left hv
  have := Nums.len_toL_le.2 h2
  omega
theorem len_mono {a b : Nat} (h : a ≤ b) : (Nums.toL a).length ≤ (Nums.toL b).length := by
  rw [Nums.len_toL_le]
  have := (Nums.len_toL_le (n := b) (k := (Nums.toL b).length)).1 (Nat.le_refl _)
  omega
/-- The first two sums of a long product. -/
theorem pp_start (X Y N h p q r s : Nat) (hX : X = p + 4294967296 ^ h * q) (hY : Y = r + 4294967296 ^ h * s) (hXY : X * Y < 4294967296 ^ N) (h2 : 2 * h ≤ N) (hN : N ≤ 70368744177664) :
    Nums.Ev (fun k => mul_addAt.f k (List.replicate N 0) (Nums.toL (p * r)) 0) (Nums.fixed N (p * r)) ∧
    Nums.Ev (fun k => mul_addAt.f k (Nums.fixed N (p * r)) (Nums.toL (q * s)) (2 * (h : Int))) (Nums.fixed N (p * r + 4294967296 ^ (2 * h) * (q * s))) ∧ p * r + 4294967296 ^ (2 * h) * (q * s) < 4294967296 ^ N ∧
    X * Y = p * r + 4294967296 ^ (2 * h) * (q * s) + 4294967296 ^ h * (p * s + q * r) := by
  obtain ⟨H, hH⟩ : ∃ H, H = 4294967296 ^ h := ⟨_, rfl⟩
  have hHH : 4294967296 ^ (2 * h) = H * H := by rw [hH, ← Nat.pow_add]; congr 1; omega
  rw [← hH] at hX hY
  have e : X * Y = p * r + H * (p * s + q * r) + H * H * (q * s) := by rw [hX, hY]; exact pp_expand p q r s H
  have hz : (List.replicate N (0 : Int)).length = N := List.length_replicate
  have l1 : (Nums.toL (p * r)).length ≤ N := Nums.len_toL_le.2 (by omega)
  have l2 : 2 * h + (Nums.toL (q * s)).length ≤ N := pp_fit hHH.symm h2 (by omega)
  refine ⟨?_, ?_, by rw [hHH]; omega, by rw [hHH, ← hH]; omega⟩
  · have h1 := addAt_ev (List.replicate N 0) (Nums.toL (p * r)) 0 (Nums.rng_zeros _) (Nums.rng_toL _) (by omega) (by omega) (by rw [hz, Nums.val_zeros, Nums.val_toL, Nat.pow_zero]; omega)
    rw [hz, Nums.val_zeros, Nums.val_toL, Nat.pow_zero, Nat.one_mul, Nat.zero_add] at h1
    exact h1
  · have hv := Nums.val_fixed N (p * r) (by omega)
    have h1 := addAt_ev (Nums.fixed N (p * r)) (Nums.toL (q * s)) (2 * h) (Nums.rng_fixed _ _) (Nums.rng_toL _) (by rw [Nums.fixed_length]; exact hN) (by rw [Nums.fixed_length]; exact l2) (by rw [Nums.fixed_length, hv, Nums.val_toL, hHH]; omega)
    rw [Nums.fixed_length, hv, Nums.val_toL] at h1
    rw [show (2 * (h : Int)) = ((2 * h : Nat) : Int) by omega]
    exact h1
/-- One sum more. -/
theorem pp_add (N h V v : Nat) (hN : N ≤ 70368744177664) (hh : h ≤ N) (hv : V + 4294967296 ^ h * v < 4294967296 ^ N) : Nums.Ev (fun k => mul_addAt.f k (Nums.fixed N V) (Nums.toL v) (h : Int)) (Nums.fixed N (V + 4294967296 ^ h * v)) := by
  have hV := Nums.val_fixed N V (by omega)
  have l := pp_fit (H := 4294967296 ^ h) rfl hh (show 4294967296 ^ h * v < 4294967296 ^ N by omega)
  have h1 := addAt_ev (Nums.fixed N V) (Nums.toL v) h (Nums.rng_fixed _ _) (Nums.rng_toL _) (by rw [Nums.fixed_length]; exact hN) (by rw [Nums.fixed_length]; exact l) (by rw [Nums.fixed_length, hV, Nums.val_toL]; exact hv)
  rw [Nums.fixed_length, hV, Nums.val_toL] at h1
  exact h1
theorem pp_trim (N V : Nat) (hN : N ≤ 70368744177664) (hV : V < 4294967296 ^ N) : Nums.Ev (fun k => mul_trim.f k (Nums.fixed N V)) (Nums.toL V) := by
  have := mul_trim_ev N (Nums.fixed N V) (Nums.fixed_length _ _) hN (Nums.rng_fixed _ _)
  rw [Nums.val_fixed N V hV] at this
  exact this
/-- The middle product, less the two others. -/
theorem pp_middle (p q r s : Nat) (hl : (Nums.toL ((p + q) * (r + s))).length ≤ 70368744177664) :
    Nums.Ev (fun k => mul_less.f k (Nums.toL ((p + q) * (r + s))) (Nums.toL (p * r))) (Nums.fixed (Nums.toL ((p + q) * (r + s))).length ((p * s + q * r) + q * s)) ∧
    Nums.Ev (fun k => mul_less.f k (Nums.fixed (Nums.toL ((p + q) * (r + s))).length ((p * s + q * r) + q * s)) (Nums.toL (q * s))) (Nums.fixed (Nums.toL ((p + q) * (r + s))).length (p * s + q * r)) ∧
    p * s + q * r < 4294967296 ^ (Nums.toL ((p + q) * (r + s))).length := by
  have e := pp_mid p q r s
  have hm := (Nums.len_toL_le (n := (p + q) * (r + s))).1 (Nat.le_refl _)
  obtain ⟨L, hL⟩ : ∃ L, (Nums.toL ((p + q) * (r + s))).length = L := ⟨_, rfl⟩
  rw [hL] at hm hl
  have l1 : (Nums.toL (p * r)).length ≤ L := by rw [← hL]; exact len_mono (by omega)
  have l2 : (Nums.toL (q * s)).length ≤ L := by rw [← hL]; exact len_mono (by omega)
  have h1 := less_ev (Nums.toL ((p + q) * (r + s))) (Nums.toL (p * r)) (Nums.rng_toL _) (Nums.rng_toL _) (by omega) (by omega) (by rw [Nums.val_toL, Nums.val_toL]; omega)
  rw [Nums.val_toL, Nums.val_toL, hL, show (p + q) * (r + s) - p * r = p * s + q * r + q * s by omega] at h1
  have hv := Nums.val_fixed L (p * s + q * r + q * s) (by omega)
  have h2 := less_ev (Nums.fixed L (p * s + q * r + q * s)) (Nums.toL (q * s)) (Nums.rng_fixed _ _) (Nums.rng_toL _) (by rw [Nums.fixed_length]; exact hl) (by rw [Nums.fixed_length]; exact l2) (by rw [hv, Nums.val_toL]; omega)
  rw [hv, Nums.val_toL, Nums.fixed_length, show p * s + q * r + q * s - q * s = p * s + q * r by omega] at h2
  rw [hL]
  exact ⟨h1, h2, by omega⟩
set_option maxRecDepth 100000 in
set_option maxHeartbeats 4000000 in
theorem mul_product.walkN (A0 : Option Addr) (c0 : Nat) (l0 : List Int) (A1 : Option Addr) (c1 : Nat) (l1 : List Int) (w : World) (hr0 : Kd.C (Kd.int .u32) w A0 l0.length l0) (hc0 : l0.length ≤ c0) (hr1 : Kd.C (Kd.int .u32) w A1 l1.length l1) (hc1 : l1.length ≤ c1)
    (hg0 : Nums.rng l0 = true) (hg1 : Nums.rng l1 = true) (hs0 : 40 < l0.length) (hs1 : 40 < l1.length) (hb0 : l0.length ≤ 17592186044416) (hb1 : l1.length ≤ 17592186044416)
    (ih : ∀ (A0 : Option Addr) (c0 : Nat) (x : List Int) (A1 : Option Addr) (c1 : Nat) (y : List Int) (W : World), x.length + y.length < l0.length + l1.length → Nums.rng x = true → Nums.rng y = true → Kd.C (Kd.int .u32) W A0 x.length x → x.length ≤ c0 → Kd.C (Kd.int .u32) W A1 y.length y → y.length ≤ c1 →
      Calls Tryd.prog 55 #[.slice A0 x.length c0, .slice A1 y.length c1] W fun e w' => ∃ v0_ : Value, e = .returned (v0_) ∧ Kd.R (Kd.int .u32) 39 w' W.heap.size (fun _ => True) v0_ (Nums.toL (Nums.val x * Nums.val y)) ∧ Below W.heap.size W w')
    (hA : (max l0.length l1.length + 1) / 2 < l0.length) (hBB : (max l0.length l1.length + 1) / 2 < l1.length) :
    Calls Tryd.prog 55 #[.slice A0 l0.length c0, .slice A1 l1.length c1] w fun e w' => ∃ v0_ : Value, e = .returned (v0_) ∧ Kd.R (Kd.int .u32) 39 w' w.heap.size (fun _ => True) v0_ (Nums.toL (Nums.val l0 * Nums.val l1)) ∧ Below w.heap.size w w' := by
  obtain ⟨mm, hmm⟩ : ∃ mm, max l0.length l1.length = mm := ⟨_, rfl⟩
  have hmx : (if l0.length < l1.length then (l1.length : Int) else (l0.length : Int)) = (mm : Int) := by rw [← hmm]; split <;> omega
  obtain ⟨m, hm⟩ : ∃ m : Int, (if (l1.length : Int) < (l0.length : Int) then (l1.length : Int) else (l0.length : Int)) = m := ⟨_, rfl⟩
  have hmn : (if l1.length < l0.length then (l1.length : Int) else (l0.length : Int)) = m := by rw [← hm]; simp only [Int.ofNat_lt]
  have hs2 : 40 < m := by rw [← hm]; split <;> omega
  have hmb : mm ≤ 17592186044416 := by omega
  obtain ⟨h, hh⟩ : ∃ h, (mm + 1) / 2 = h := ⟨_, rfl⟩
  have hh2 : ((mm : Int) + 1) / 2 = (h : Int) := by omega
  obtain ⟨a0, a1, Aa, ca0, ca1, ra0, ra1, va, la0, la1, hca0, hca1, CA, PA⟩ := mul_parted.two A0 c0 h l0 hc0 (by omega) hg0 (by omega)
  obtain ⟨b0, b1, Ab, cb0, cb1, rb0, rb1, vb, lb0, lb1, hcb0, hcb1, CB, PB⟩ := mul_parted.two A1 c1 h l1 hc1 (by omega) hg1 (by omega)
  have hXY : Nums.val l0 * Nums.val l1 < 4294967296 ^ (l0.length + l1.length + 1) := by
    have h1 : Nums.val l0 * Nums.val l1 < 4294967296 ^ l0.length * 4294967296 ^ l1.length := Nat.mul_lt_mul_of_lt_of_le (Nums.val_lt hg0) (Nat.le_of_lt (Nums.val_lt hg1)) (Nat.pow_pos (by decide))
    rw [← Nat.pow_add] at h1
    exact Nat.lt_of_lt_of_le h1 (Nums.pow_le_gen 4294967296 _ _ (by decide) (by omega))
  obtain ⟨S1, S2, S3, S4⟩ := pp_start (Nums.val l0) (Nums.val l1) (l0.length + l1.length + 1) h _ _ _ _ va vb hXY (by omega) (by omega)
  obtain ⟨k1, e1⟩ := S1.get
  obtain ⟨k2, e2⟩ := S2.get
  have I00 : ∀ W, Below w.heap.size w W → Calls Tryd.prog 55 #[.slice A0 a0.length ca0, .slice A1 b0.length cb0] W fun e w' => ∃ v0_ : Value, e = .returned (v0_) ∧ Kd.R (Kd.int .u32) 39 w' W.heap.size (fun _ => True) v0_ (Nums.toL (Nums.val a0 * Nums.val b0)) ∧ Below W.heap.size W w' :=
    fun W hW => ih A0 ca0 a0 A1 cb0 b0 W (by omega) ra0 rb0 (Kd.C_below (CA w hr0).1 hW) hca0 (Kd.C_below (CB w hr1).1 hW) hcb0
  have I11 : ∀ W, Below w.heap.size w W → Calls Tryd.prog 55 #[.slice Aa a1.length ca1, .slice Ab b1.length cb1] W fun e w' => ∃ v0_ : Value, e = .returned (v0_) ∧ Kd.R (Kd.int .u32) 39 w' W.heap.size (fun _ => True) v0_ (Nums.toL (Nums.val a1 * Nums.val b1)) ∧ Below W.heap.size W w' :=
    fun W hW => ih Aa ca1 a1 Ab cb1 b1 W (by omega) ra1 rb1 (Kd.C_below (CA w hr0).2 hW) hca1 (Kd.C_below (CB w hr1).2 hW) hcb1
  have I00 := Aside0.mk I00
  have I11 := Aside0.mk I11
  obtain ⟨low, hlow⟩ : ∃ low, Nums.toL (Nums.val a0 * Nums.val b0) = low := ⟨_, rfl⟩
  obtain ⟨high, hhigh⟩ : ∃ high, Nums.toL (Nums.val a1 * Nums.val b1) = high := ⟨_, rfl⟩
  rw [hlow] at I00 e1
  rw [hhigh] at I11 e2
  have t1 : ((a1.length : Int) == 0) = false := beq_eq_false_iff_ne.mpr (by omega)
  have t2 : ((b1.length : Int) == 0) = false := beq_eq_false_iff_ne.mpr (by omega)
  have hq : Nums.val a1 < 4294967296 ^ h := Nat.lt_of_lt_of_le (Nums.val_lt ra1) (Nums.pow_le_gen 4294967296 _ _ (by decide) (by omega))
  have hs : Nums.val b1 < 4294967296 ^ h := Nat.lt_of_lt_of_le (Nums.val_lt rb1) (Nums.pow_le_gen 4294967296 _ _ (by decide) (by omega))
  have hp : Nums.val a0 < 4294967296 ^ h := Nat.lt_of_lt_of_le (Nums.val_lt ra0) (Nums.pow_le_gen 4294967296 _ _ (by decide) (by omega))
  have hr : Nums.val b0 < 4294967296 ^ h := Nat.lt_of_lt_of_le (Nums.val_lt rb0) (Nums.pow_le_gen 4294967296 _ _ (by decide) (by omega))
  have ls1 : (Nums.toL (Nums.val a0 + Nums.val a1)).length ≤ h + 1 := by rw [Nums.len_toL_le, Nat.pow_succ]; omega
  have ls2 : (Nums.toL (Nums.val b0 + Nums.val b1)).length ≤ h + 1 := by rw [Nums.len_toL_le, Nat.pow_succ]; omega
  have lmid : (Nums.toL ((Nums.val a0 + Nums.val a1) * (Nums.val b0 + Nums.val b1))).length ≤ (h + 1) + (h + 1) := by
    rw [Nums.len_toL_le, Nat.pow_add]
    exact Nat.mul_lt_mul_of_lt_of_le (Nums.len_toL_le.1 ls1) (Nat.le_of_lt (Nums.len_toL_le.1 ls2)) (Nat.pow_pos (by decide))
  obtain ⟨k3, e3⟩ := (sum_ev a0 a1 ra0 ra1 (by omega) (by omega)).get
  obtain ⟨k4, e4⟩ := (sum_ev b0 b1 rb0 rb1 (by omega) (by omega)).get
  obtain ⟨M1, M2, M3⟩ := pp_middle (Nums.val a0) (Nums.val a1) (Nums.val b0) (Nums.val b1) (by omega)
  obtain ⟨k5, e5⟩ := M1.get
  obtain ⟨k6, e6⟩ := M2.get
  have hfin : Nums.val a0 * Nums.val b0 + 4294967296 ^ (2 * h) * (Nums.val a1 * Nums.val b1) + 4294967296 ^ h * (Nums.val a0 * Nums.val b1 + Nums.val a1 * Nums.val b0) < 4294967296 ^ (l0.length + l1.length + 1) := by rw [← S4]; exact hXY
  obtain ⟨k7, e7⟩ := (pp_add (l0.length + l1.length + 1) h _ _ (by omega) (by omega) hfin).get
  obtain ⟨k8, e8⟩ := (pp_trim (l0.length + l1.length + 1) _ (by omega) hfin).get
  rw [← S4] at e7 e8
  have IM : ∀ (W : World) (A2 : Option Addr) (c2 : Nat) (A3 : Option Addr) (c3 : Nat), Kd.C (Kd.int .u32) W A2 (Nums.toL (Nums.val a0 + Nums.val a1)).length (Nums.toL (Nums.val a0 + Nums.val a1)) → (Nums.toL (Nums.val a0 + Nums.val a1)).length ≤ c2 → Kd.C (Kd.int .u32) W A3 (Nums.toL (Nums.val b0 + Nums.val b1)).length (Nums.toL (Nums.val b0 + Nums.val b1)) → (Nums.toL (Nums.val b0 + Nums.val b1)).length ≤ c3 → Calls Tryd.prog 55 #[.slice A2 (Nums.toL (Nums.val a0 + Nums.val a1)).length c2, .slice A3 (Nums.toL (Nums.val b0 + Nums.val b1)).length c3] W fun e w' => ∃ v0_ : Value, e = .returned (v0_) ∧ Kd.R (Kd.int .u32) 39 w' W.heap.size (fun _ => True) v0_ (Nums.toL ((Nums.val a0 + Nums.val a1) * (Nums.val b0 + Nums.val b1))) ∧ Below W.heap.size W w' := by
    intro W A2 c2 A3 c3 h1 h2 h3 h4
    have := ih A2 c2 _ A3 c3 _ W (by omega) (Nums.rng_toL _) (Nums.rng_toL _) h1 h2 h3 h4
    rw [Nums.val_toL, Nums.val_toL] at this
    exact this
  have IM := Aside0.mk IM
  have LM : Aside0 ((Nums.toL ((Nums.val a0 + Nums.val a1) * (Nums.val b0 + Nums.val b1))).length ≤ 70368744177664) := ⟨by omega⟩
  obtain ⟨s1, hs1'⟩ : ∃ s1, Nums.toL (Nums.val a0 + Nums.val a1) = s1 := ⟨_, rfl⟩
  obtain ⟨s2, hs2'⟩ : ∃ s2, Nums.toL (Nums.val b0 + Nums.val b1) = s2 := ⟨_, rfl⟩
  obtain ⟨mid, hmid⟩ : ∃ mid, Nums.toL ((Nums.val a0 + Nums.val a1) * (Nums.val b0 + Nums.val b1)) = mid := ⟨_, rfl⟩
  rw [hs1'] at e3 IM
  rw [hs2'] at e4 IM
  rw [hmid] at e5 e6 IM LM M3
  rw [hlow] at e5
  rw [hhigh] at e6
  obtain ⟨mid1, hm1⟩ : ∃ mid1, Nums.fixed mid.length (Nums.val a0 * Nums.val b1 + Nums.val a1 * Nums.val b0 + Nums.val a1 * Nums.val b1) = mid1 := ⟨_, rfl⟩
  obtain ⟨mid2, hm2⟩ : ∃ mid2, Nums.fixed mid.length (Nums.val a0 * Nums.val b1 + Nums.val a1 * Nums.val b0) = mid2 := ⟨_, rfl⟩
  have hml2 : Aside0 (mid2.length = mid.length) := ⟨by rw [← hm2, Nums.fixed_length]⟩
  have hmv2 : Aside0 (Nums.toL (Nums.val mid2) = Nums.toL (Nums.val a0 * Nums.val b1 + Nums.val a1 * Nums.val b0)) := ⟨by rw [← hm2, Nums.val_fixed _ _ M3]⟩
  have hmr2 : Aside0 (Nums.rng mid2 = true) := ⟨by rw [← hm2]; exact Nums.rng_fixed _ _⟩
  rw [hm1] at e5 e6
  rw [hm2] at e6
  rw [← hmv2.out] at e7
  obtain ⟨mid3, hm3⟩ : ∃ mid3, Nums.toL (Nums.val mid2) = mid3 := ⟨_, rfl⟩
  have hpre := Aside0.mk (trim_prefix mid2 hmr2.out)
  rw [hm3] at e7 hpre
  obtain ⟨out3, ho3⟩ : ∃ out3, Nums.fixed (l0.length + l1.length + 1) (Nums.val l0 * Nums.val l1) = out3 := ⟨_, rfl⟩
  rw [ho3] at e7 e8
  obtain ⟨res, hres⟩ : ∃ res, Nums.toL (Nums.val l0 * Nums.val l1) = res := ⟨_, rfl⟩
  rw [hres] at e8 ⊢
  have HM3 := Aside0.mk hm3
  have E3 := Aside0.mk e3
  have E4 := Aside0.mk e4
  have E5 := Aside0.mk e5
  have E6 := Aside0.mk e6
  have E7 := Aside0.mk e7
  have E8 := Aside0.mk e8
  have HCA0 := Aside0.mk (CA w hr0).1
  have HCA1 := Aside0.mk (CA w hr0).2
  have HCB0 := Aside0.mk (CB w hr1).1
  have HCB1 := Aside0.mk (CB w hr1).2
  have HLA := Aside0.mk (And.intro (And.intro hca0 hca1) (And.intro hcb0 hcb1))
  clear hq hs hp hr ls1 ls2 lmid M1 M2 M3 hfin e3 e4 e5 e6 e7 e8 hs1' hs2' hmid hm1 hm2 ho3 hres hmv2 hm3
  have E1 := Aside0.mk e1
  have E2 := Aside0.mk e2
  have HPA := Aside0.mk PA
  have HPB := Aside0.mk PB
  have HR0 := Aside0.mk hr0
  have HR1 := Aside0.mk hr1
  clear hr0 hr1 hg0 hg1 ih PA PB va vb la1 lb1 hmm hh CA CB ra0 ra1 rb0 rb1 S1 S2 S3 S4 hXY e1 e2 hlow hhigh
  go_enter Tryd.func55, Tryd.ntmps55
  go_wp2_with fail
  refine (HPA.out w HR0.out).mono ?_
  rintro e w' ⟨rfl, ⟨nd, rfl⟩⟩
  go_wp2_with fail
  refine (HPB.out _ (Kd.C_drewN HR1.out nd)).mono ?_
  rintro e w' ⟨rfl, ⟨nd2, rfl⟩⟩
  have HB := Aside0.mk (pw_below_drewN (Below.refl w.heap.size w) (nd + nd2))
  go_wp2_with (at_make; refine Kd.R_make (Kd.int .u32) (w0 := w) w.heap.size 39 rfl (N := 49) rfl 22 _ _ rfl ((l0.length : Int) + (l1.length : Int) + 1) rfl rfl Tryd.underlying22 (.int .u32 0) 4 info39 rfl (by decide) (by omega) 0 (ok := fun _ => True) (okp := fun _ => True) rfl (fun _ hk => hk) trivial (by omega) (by omega) HB.out (below_size HB.out) ?_; intro vo w1 ho hb hg hnew; go_must (rw [show ((l0.length : Int) + (l1.length : Int) + 1).toNat = l0.length + l1.length + 1 by omega] at ho; obtain ⟨g, cap, hvo, hgb, hgs, hcells⟩ := Kd.R_form ho (by rw [List.length_replicate]; omega); rw [List.length_replicate] at hvo; subst hvo); have HO := Aside0.mk ho; have HB1 := Aside0.mk hb; have HGS := Aside0.mk hgs; clear ho hb hg hnew hgb hgs hcells)
  obtain ⟨B, hB⟩ : ∃ B, w1.heap.size = B := ⟨_, rfl⟩
  have G2 : Aside0 (Bag w (w1.alloc (.cells #[.slice (some ⟨g, 0, none⟩) (l0.length + l1.length + 1) cap] 22)) g B (l0.length + l1.length + 1) cap (List.replicate (l0.length + l1.length + 1) 0)) := by
    refine ⟨⟨below_alloc HB1.out _, ?_, R_only (Kd.R_alloc HO.out _), ?_⟩⟩
    · rw [← hB]; exact Boxed.new w1 _ _
    · have := HGS.out; omega
  rw [hB]
  clear hB HGS HO HB1
  refine (I00.out _ G2.out.below).mono ?_
  rintro e w3 ⟨vl, rfl, hR, hB3⟩
  have HLo := Aside0.mk (Mate.of G2.out hR)
  have G3 := Aside0.mk (Bag.under G2.out hB3)
  clear hR hB3 G2
  obtain ⟨Al, cl, hvl⟩ := Kd.R_slice HLo.out
  subst hvl
  go_wp2_with fail
  refine (I11.out _ G3.out.below).mono ?_
  rintro e w4 ⟨vh, rfl, hR, hB4⟩
  have HHi := Aside0.mk (Mate.of G3.out hR)
  have HLo := Aside0.mk (Mate.under HLo.out hB4)
  have G4 := Aside0.mk (Bag.under G3.out hB4)
  clear hR hB4 G3
  obtain ⟨Ah, ch, hvh⟩ := Kd.R_slice HHi.out
  subst hvh
  go_wp2_with fail
  refine (Bag.puts k1 G4.out HLo.out 0 _ E1.out).mono ?_
  rintro e w5 ⟨rfl, hG, hK⟩
  have G5 := Aside0.mk hG
  have HLo := Aside0.mk (Mate.kept HLo.out hK)
  have HHi := Aside0.mk (Mate.kept HHi.out hK)
  clear hG hK G4
  go_wp2_with fail
  refine (Bag.puts k2 G5.out HHi.out _ _ E2.out).mono ?_
  rintro e w6 ⟨rfl, hG, hK⟩
  have G6 := Aside0.mk hG
  have HLo := Aside0.mk (Mate.kept HLo.out hK)
  have HHi := Aside0.mk (Mate.kept HHi.out hK)
  clear hG hK G5
  go_wp2_with fail
  refine (mul_sum.calls k3 A0 ca0 a0 Aa ca1 a1 s1 w6 (Kd.C_below HCA0.out G6.out.below) HLA.out.1.1 (Kd.C_below HCA1.out G6.out.below) HLA.out.1.2 E3.out).mono ?_
  rintro e w7 ⟨v1, rfl, hR, hB7⟩
  have HS1 := Aside0.mk (Mate.of G6.out hR)
  have G7 := Aside0.mk (Bag.under G6.out hB7)
  have HLo := Aside0.mk (Mate.under HLo.out hB7)
  have HHi := Aside0.mk (Mate.under HHi.out hB7)
  clear hR hB7 G6
  obtain ⟨As1, cs1, hvs1⟩ := Kd.R_slice HS1.out
  subst hvs1
  go_wp2_with fail
  refine (mul_sum.calls k4 A1 cb0 b0 Ab cb1 b1 s2 w7 (Kd.C_below HCB0.out G7.out.below) HLA.out.2.1 (Kd.C_below HCB1.out G7.out.below) HLA.out.2.2 E4.out).mono ?_
  rintro e w8 ⟨v2, rfl, hR, hB8⟩
  have HS2 := Aside0.mk (Mate.of G7.out hR)
  have HS1 := Aside0.mk (Mate.under HS1.out hB8)
  have G8 := Aside0.mk (Bag.under G7.out hB8)
  have HLo := Aside0.mk (Mate.under HLo.out hB8)
  have HHi := Aside0.mk (Mate.under HHi.out hB8)
  clear hR hB8 G7
  obtain ⟨As2, cs2, hvs2⟩ := Kd.R_slice HS2.out
  subst hvs2
  go_wp2_with fail
  refine (IM.out w8 As1 cs1 As2 cs2 (Kd.R_reads' HS1.out).2.2 (Kd.R_reads' HS1.out).2.1 (Kd.R_reads' HS2.out).2.2 (Kd.R_reads' HS2.out).2.1).mono ?_
  rintro e w9 ⟨vm, rfl, hR, hB9⟩
  have HMd := Aside0.mk (Mate.of G8.out hR)
  have HLo := Aside0.mk (Mate.elder HLo.out hB9 hR)
  have HHi := Aside0.mk (Mate.elder HHi.out hB9 hR)
  have G9 := Aside0.mk (Bag.under G8.out hB9)
  clear hR hB9 G8 HS1 HS2
  obtain ⟨Am, cm, hvm⟩ := Kd.R_slice HMd.out
  subst hvm
  go_wp2_with fail
  refine (Mate.lessens k5 G9.out HMd.out HLo.out E5.out).mono ?_
  rintro e w10 ⟨rfl, hG, hM, hK⟩
  have G10 := Aside0.mk hG
  have HMd := Aside0.mk hM
  have HHi := Aside0.mk (Mate2.kept HHi.out hK)
  clear hG hM hK G9 HLo
  go_wp2_with fail
  refine (Mate.lessens k6 G10.out HMd.out HHi.out E6.out).mono ?_
  rintro e w11 ⟨rfl, hG, hM, hK⟩
  have G11 := Aside0.mk hG
  have HMd := Aside0.mk hM
  clear hG hM hK G10 HHi
  go_wp2_with fail
  refine (mul_trim.reads Am mid.length cm mid2 w11 (by have := (Kd.R_reads' HMd.out).2.2; rw [hml2.out] at this; exact this) (Kd.R_reads' HMd.out).2.1 LM.out hmr2.out).mono ?_
  rintro e w12 ⟨rfl, rfl⟩
  rw [HM3.out]
  go_wp2_with fail
  refine (Bag.puts' k7 G11.out (A := Am) (m := cm) (l := mid3) (fun W hW => by have h1 := Kd.C_kept_own HMd.out (fun _ hk => hk.1) W hW; rw [← hml2.out] at h1; have h2 := Kd.C_take h1 hpre.out.2; rw [← hpre.out.1] at h2; exact h2) (by have h1 := hpre.out.2; have h2 := (Kd.R_reads' HMd.out).2.1; have h3 := hml2.out; omega) _ _ E7.out).mono ?_
  rintro e w13 ⟨rfl, hG, hK⟩
  have G13 := Aside0.mk hG
  have hbx := hG.box.cell
  clear hG hK G11 HMd
  go_wp2_with fail
  refine (mul_trim.calls k8 (fun k => k = g) _ out3 res w w13 G13.out.below G13.out.own E8.out).mono ?_
  rintro e w14 ⟨v0, rfl, hR, hB14, hK14⟩
  have HRR := Aside0.mk hR
  have HBB := Aside0.mk hB14
  clear hR hB14 hK14 hbx
  go_wp2
  go_ret
  exact ⟨_, rfl, Kd.R_mono HRR.out (fun _ _ => trivial), HBB.out⟩
set_option maxRecDepth 100000 in
set_option maxHeartbeats 4000000 in
theorem mul_product.walkE1 (A0 : Option Addr) (c0 : Nat) (l0 : List Int) (A1 : Option Addr) (c1 : Nat) (l1 : List Int) (w : World) (hr0 : Kd.C (Kd.int .u32) w A0 l0.length l0) (hc0 : l0.length ≤ c0) (hr1 : Kd.C (Kd.int .u32) w A1 l1.length l1) (hc1 : l1.length ≤ c1)
    (hg0 : Nums.rng l0 = true) (hg1 : Nums.rng l1 = true) (hs0 : 40 < l0.length) (hs1 : 40 < l1.length) (hb0 : l0.length ≤ 17592186044416) (hb1 : l1.length ≤ 17592186044416)
    (ih : ∀ (A0 : Option Addr) (c0 : Nat) (x : List Int) (A1 : Option Addr) (c1 : Nat) (y : List Int) (W : World), x.length + y.length < l0.length + l1.length → Nums.rng x = true → Nums.rng y = true → Kd.C (Kd.int .u32) W A0 x.length x → x.length ≤ c0 → Kd.C (Kd.int .u32) W A1 y.length y → y.length ≤ c1 →
      Calls Tryd.prog 55 #[.slice A0 x.length c0, .slice A1 y.length c1] W fun e w' => ∃ v0_ : Value, e = .returned (v0_) ∧ Kd.R (Kd.int .u32) 39 w' W.heap.size (fun _ => True) v0_ (Nums.toL (Nums.val x * Nums.val y)) ∧ Below W.heap.size W w')
    (hA : l0.length ≤ (max l0.length l1.length + 1) / 2) :
    Calls Tryd.prog 55 #[.slice A0 l0.length c0, .slice A1 l1.length c1] w fun e w' => ∃ v0_ : Value, e = .returned (v0_) ∧ Kd.R (Kd.int .u32) 39 w' w.heap.size (fun _ => True) v0_ (Nums.toL (Nums.val l0 * Nums.val l1)) ∧ Below w.heap.size w w' := by
  obtain ⟨mm, hmm⟩ : ∃ mm, max l0.length l1.length = mm := ⟨_, rfl⟩
  have hmx : (if l0.length < l1.length then (l1.length : Int) else (l0.length : Int)) = (mm : Int) := by rw [← hmm]; split <;> omega
  obtain ⟨m, hm⟩ : ∃ m : Int, (if (l1.length : Int) < (l0.length : Int) then (l1.length : Int) else (l0.length : Int)) = m := ⟨_, rfl⟩
  have hmn : (if l1.length < l0.length then (l1.length : Int) else (l0.length : Int)) = m := by rw [← hm]; simp only [Int.ofNat_lt]
  have hs2 : 40 < m := by rw [← hm]; split <;> omega
  have hmb : mm ≤ 17592186044416 := by omega
  obtain ⟨h, hh⟩ : ∃ h, (mm + 1) / 2 = h := ⟨_, rfl⟩
  have hh2 : ((mm : Int) + 1) / 2 = (h : Int) := by omega
  obtain ⟨a0, a1, Aa, ca0, ca1, ra0, ra1, va, la0, la1, hca0, hca1, CA, PA⟩ := mul_parted.two A0 c0 h l0 hc0 (by omega) hg0 (by omega)
  obtain ⟨b0, b1, Ab, cb0, cb1, rb0, rb1, vb, lb0, lb1, hcb0, hcb1, CB, PB⟩ := mul_parted.two A1 c1 h l1 hc1 (by omega) hg1 (by omega)
  have hXY : Nums.val l0 * Nums.val l1 < 4294967296 ^ (l0.length + l1.length + 1) := by
    have h1 : Nums.val l0 * Nums.val l1 < 4294967296 ^ l0.length * 4294967296 ^ l1.length := Nat.mul_lt_mul_of_lt_of_le (Nums.val_lt hg0) (Nat.le_of_lt (Nums.val_lt hg1)) (Nat.pow_pos (by decide))
    rw [← Nat.pow_add] at h1
    exact Nat.lt_of_lt_of_le h1 (Nums.pow_le_gen 4294967296 _ _ (by decide) (by omega))
  obtain ⟨S1, S2, S3, S4⟩ := pp_start (Nums.val l0) (Nums.val l1) (l0.length + l1.length + 1) h _ _ _ _ va vb hXY (by omega) (by omega)
  obtain ⟨k1, e1⟩ := S1.get
  obtain ⟨k2, e2⟩ := S2.get
  obtain rfl : a1 = [] := List.eq_nil_of_length_eq_zero (by omega)
  have I00 : ∀ W, Below w.heap.size w W → Calls Tryd.prog 55 #[.slice A0 a0.length ca0, .slice A1 b0.length cb0] W fun e w' => ∃ v0_ : Value, e = .returned (v0_) ∧ Kd.R (Kd.int .u32) 39 w' W.heap.size (fun _ => True) v0_ (Nums.toL (Nums.val a0 * Nums.val b0)) ∧ Below W.heap.size W w' :=
    fun W hW => ih A0 ca0 a0 A1 cb0 b0 W (by omega) ra0 rb0 (Kd.C_below (CA w hr0).1 hW) hca0 (Kd.C_below (CB w hr1).1 hW) hcb0
  have I11 : ∀ W, Below w.heap.size w W → Calls Tryd.prog 55 #[.slice Aa ([] : List Int).length ca1, .slice Ab b1.length cb1] W fun e w' => ∃ v0_ : Value, e = .returned (v0_) ∧ Kd.R (Kd.int .u32) 39 w' W.heap.size (fun _ => True) v0_ (Nums.toL (Nums.val ([] : List Int) * Nums.val b1)) ∧ Below W.heap.size W w' :=
    fun W hW => ih Aa ca1 ([] : List Int) Ab cb1 b1 W (by omega) ra1 rb1 (Kd.C_below (CA w hr0).2 hW) hca1 (Kd.C_below (CB w hr1).2 hW) hcb1
  have I00 := Aside0.mk I00
  have I11 := Aside0.mk I11
  obtain ⟨low, hlow⟩ : ∃ low, Nums.toL (Nums.val a0 * Nums.val b0) = low := ⟨_, rfl⟩
  obtain ⟨high, hhigh⟩ : ∃ high, Nums.toL (Nums.val ([] : List Int) * Nums.val b1) = high := ⟨_, rfl⟩
  rw [hlow] at I00 e1
  rw [hhigh] at I11 e2
  have I01 : ∀ W, Below w.heap.size w W → Calls Tryd.prog 55 #[.slice A0 a0.length ca0, .slice Ab b1.length cb1] W fun e w' => ∃ v0_ : Value, e = .returned (v0_) ∧ Kd.R (Kd.int .u32) 39 w' W.heap.size (fun _ => True) v0_ (Nums.toL (Nums.val a0 * Nums.val b1)) ∧ Below W.heap.size W w' :=
    fun W hW => ih A0 ca0 a0 Ab cb1 b1 W (by omega) ra0 rb1 (Kd.C_below (CA w hr0).1 hW) hca0 (Kd.C_below (CB w hr1).2 hW) hcb1
  have I10 : ∀ W, Below w.heap.size w W → Calls Tryd.prog 55 #[.slice Aa ([] : List Int).length ca1, .slice A1 b0.length cb0] W fun e w' => ∃ v0_ : Value, e = .returned (v0_) ∧ Kd.R (Kd.int .u32) 39 w' W.heap.size (fun _ => True) v0_ (Nums.toL (Nums.val ([] : List Int) * Nums.val b0)) ∧ Below W.heap.size W w' :=
    fun W hW => ih Aa ca1 ([] : List Int) A1 cb0 b0 W (by omega) ra1 rb0 (Kd.C_below (CA w hr0).2 hW) hca1 (Kd.C_below (CB w hr1).1 hW) hcb0
  have hfin : Nums.val a0 * Nums.val b0 + 4294967296 ^ (2 * h) * (Nums.val ([] : List Int) * Nums.val b1) + 4294967296 ^ h * (Nums.val a0 * Nums.val b1 + Nums.val ([] : List Int) * Nums.val b0) < 4294967296 ^ (l0.length + l1.length + 1) := by rw [← S4]; exact hXY
  rw [Nat.mul_add, ← Nat.add_assoc] at hfin S4
  obtain ⟨k3, e3⟩ := (pp_add (l0.length + l1.length + 1) h _ _ (by omega) (by omega) (Nat.lt_of_le_of_lt (Nat.le_add_right _ _) hfin)).get
  obtain ⟨k4, e4⟩ := (pp_add (l0.length + l1.length + 1) h _ _ (by omega) (by omega) hfin).get
  obtain ⟨k8, e8⟩ := (pp_trim (l0.length + l1.length + 1) _ (by omega) hfin).get
  rw [← S4] at e4 e8
  have I01 := Aside0.mk I01
  have I10 := Aside0.mk I10
  obtain ⟨x01, hx01⟩ : ∃ x01, Nums.toL (Nums.val a0 * Nums.val b1) = x01 := ⟨_, rfl⟩
  obtain ⟨x10, hx10⟩ : ∃ x10, Nums.toL (Nums.val ([] : List Int) * Nums.val b0) = x10 := ⟨_, rfl⟩
  rw [hx01] at I01 e3
  rw [hx10] at I10 e4
  obtain ⟨res, hres⟩ : ∃ res, Nums.toL (Nums.val l0 * Nums.val l1) = res := ⟨_, rfl⟩
  rw [hres] at e8 ⊢
  have E3 := Aside0.mk e3
  have E4 := Aside0.mk e4
  have E8 := Aside0.mk e8
  clear hfin e3 e4 e8 hx01 hx10 hres
  simp only [List.length_nil] at I11 I10 PA
  clear hA
  have E1 := Aside0.mk e1
  have E2 := Aside0.mk e2
  have HPA := Aside0.mk PA
  have HPB := Aside0.mk PB
  have HR0 := Aside0.mk hr0
  have HR1 := Aside0.mk hr1
  clear hr0 hr1 hg0 hg1 ih PA PB va vb la1 lb1 hmm hh CA CB ra0 ra1 rb0 rb1 S1 S2 S3 S4 hXY e1 e2 hlow hhigh
  go_enter Tryd.func55, Tryd.ntmps55
  go_wp2_with fail
  refine (HPA.out w HR0.out).mono ?_
  rintro e w' ⟨rfl, ⟨nd, rfl⟩⟩
  go_wp2_with fail
  refine (HPB.out _ (Kd.C_drewN HR1.out nd)).mono ?_
  rintro e w' ⟨rfl, ⟨nd2, rfl⟩⟩
  have HB := Aside0.mk (pw_below_drewN (Below.refl w.heap.size w) (nd + nd2))
  go_wp2_with (at_make; refine Kd.R_make (Kd.int .u32) (w0 := w) w.heap.size 39 rfl (N := 49) rfl 22 _ _ rfl ((l0.length : Int) + (l1.length : Int) + 1) rfl rfl Tryd.underlying22 (.int .u32 0) 4 info39 rfl (by decide) (by omega) 0 (ok := fun _ => True) (okp := fun _ => True) rfl (fun _ hk => hk) trivial (by omega) (by omega) HB.out (below_size HB.out) ?_; intro vo w1 ho hb hg hnew; go_must (rw [show ((l0.length : Int) + (l1.length : Int) + 1).toNat = l0.length + l1.length + 1 by omega] at ho; obtain ⟨g, cap, hvo, hgb, hgs, hcells⟩ := Kd.R_form ho (by rw [List.length_replicate]; omega); rw [List.length_replicate] at hvo; subst hvo); have HO := Aside0.mk ho; have HB1 := Aside0.mk hb; have HGS := Aside0.mk hgs; clear ho hb hg hnew hgb hgs hcells)
  obtain ⟨B, hB⟩ : ∃ B, w1.heap.size = B := ⟨_, rfl⟩
  have G2 : Aside0 (Bag w (w1.alloc (.cells #[.slice (some ⟨g, 0, none⟩) (l0.length + l1.length + 1) cap] 22)) g B (l0.length + l1.length + 1) cap (List.replicate (l0.length + l1.length + 1) 0)) := by
    refine ⟨⟨below_alloc HB1.out _, ?_, R_only (Kd.R_alloc HO.out _), ?_⟩⟩
    · rw [← hB]; exact Boxed.new w1 _ _
    · have := HGS.out; omega
  rw [hB]
  clear hB HGS HO HB1
  refine (I00.out _ G2.out.below).mono ?_
  rintro e w3 ⟨vl, rfl, hR, hB3⟩
  have HLo := Aside0.mk (Mate.of G2.out hR)
  have G3 := Aside0.mk (Bag.under G2.out hB3)
  clear hR hB3 G2
  obtain ⟨Al, cl, hvl⟩ := Kd.R_slice HLo.out
  subst hvl
  go_wp2_with fail
  refine (I11.out _ G3.out.below).mono ?_
  rintro e w4 ⟨vh, rfl, hR, hB4⟩
  have HHi := Aside0.mk (Mate.of G3.out hR)
  have HLo := Aside0.mk (Mate.under HLo.out hB4)
  have G4 := Aside0.mk (Bag.under G3.out hB4)
  clear hR hB4 G3
  obtain ⟨Ah, ch, hvh⟩ := Kd.R_slice HHi.out
  subst hvh
  go_wp2_with fail
  refine (Bag.puts k1 G4.out HLo.out 0 _ E1.out).mono ?_
  rintro e w5 ⟨rfl, hG, hK⟩
  have G5 := Aside0.mk hG
  have HLo := Aside0.mk (Mate.kept HLo.out hK)
  have HHi := Aside0.mk (Mate.kept HHi.out hK)
  clear hG hK G4
  go_wp2_with fail
  refine (Bag.puts k2 G5.out HHi.out _ _ E2.out).mono ?_
  rintro e w6 ⟨rfl, hG, hK⟩
  have G6 := Aside0.mk hG
  have HLo := Aside0.mk (Mate.kept HLo.out hK)
  have HHi := Aside0.mk (Mate.kept HHi.out hK)
  clear hG hK G5
  go_wp2_with fail
  refine (I01.out _ G6.out.below).mono ?_
  rintro e w7 ⟨vx, rfl, hR, hB7⟩
  have HX := Aside0.mk (Mate.of G6.out hR)
  have G7 := Aside0.mk (Bag.under G6.out hB7)
  clear hR hB7 G6 HLo HHi
  obtain ⟨Ax, cx, hvx⟩ := Kd.R_slice HX.out
  subst hvx
  go_wp2_with fail
  refine (Bag.puts k3 G7.out HX.out _ _ E3.out).mono ?_
  rintro e w8 ⟨rfl, hG, hK⟩
  have G8 := Aside0.mk hG
  clear hG hK G7 HX
  go_wp2_with fail
  refine (I10.out _ G8.out.below).mono ?_
  rintro e w9 ⟨vy, rfl, hR, hB9⟩
  have HY := Aside0.mk (Mate.of G8.out hR)
  have G9 := Aside0.mk (Bag.under G8.out hB9)
  clear hR hB9 G8
  obtain ⟨Ay, cy, hvy⟩ := Kd.R_slice HY.out
  subst hvy
  go_wp2_with fail
  refine (Bag.puts k4 G9.out HY.out _ _ E4.out).mono ?_
  rintro e w10 ⟨rfl, hG, hK⟩
  have G10 := Aside0.mk hG
  have hbx := hG.box.cell
  clear hG hK G9 HY
  go_wp2_with fail
  refine (mul_trim.calls k8 (fun k => k = g) _ _ res w w10 G10.out.below G10.out.own E8.out).mono ?_
  rintro e w14 ⟨v0, rfl, hR, hB14, hK14⟩
  have HRR := Aside0.mk hR
  have HBB := Aside0.mk hB14
  clear hR hB14 hK14 hbx
  go_wp2
  go_ret
  exact ⟨_, rfl, Kd.R_mono HRR.out (fun _ _ => trivial), HBB.out⟩
set_option maxRecDepth 100000 in
set_option maxHeartbeats 4000000 in
theorem mul_product.walkE2 (A0 : Option Addr) (c0 : Nat) (l0 : List Int) (A1 : Option Addr) (c1 : Nat) (l1 : List Int) (w : World) (hr0 : Kd.C (Kd.int .u32) w A0 l0.length l0) (hc0 : l0.length ≤ c0) (hr1 : Kd.C (Kd.int .u32) w A1 l1.length l1) (hc1 : l1.length ≤ c1)
    (hg0 : Nums.rng l0 = true) (hg1 : Nums.rng l1 = true) (hs0 : 40 < l0.length) (hs1 : 40 < l1.length) (hb0 : l0.length ≤ 17592186044416) (hb1 : l1.length ≤ 17592186044416)
    (ih : ∀ (A0 : Option Addr) (c0 : Nat) (x : List Int) (A1 : Option Addr) (c1 : Nat) (y : List Int) (W : World), x.length + y.length < l0.length + l1.length → Nums.rng x = true → Nums.rng y = true → Kd.C (Kd.int .u32) W A0 x.length x → x.length ≤ c0 → Kd.C (Kd.int .u32) W A1 y.length y → y.length ≤ c1 →
      Calls Tryd.prog 55 #[.slice A0 x.length c0, .slice A1 y.length c1] W fun e w' => ∃ v0_ : Value, e = .returned (v0_) ∧ Kd.R (Kd.int .u32) 39 w' W.heap.size (fun _ => True) v0_ (Nums.toL (Nums.val x * Nums.val y)) ∧ Below W.heap.size W w')
    (hA : (max l0.length l1.length + 1) / 2 < l0.length) (hBB : l1.length ≤ (max l0.length l1.length + 1) / 2) :
    Calls Tryd.prog 55 #[.slice A0 l0.length c0, .slice A1 l1.length c1] w fun e w' => ∃ v0_ : Value, e = .returned (v0_) ∧ Kd.R (Kd.int .u32) 39 w' w.heap.size (fun _ => True) v0_ (Nums.toL (Nums.val l0 * Nums.val l1)) ∧ Below w.heap.size w w' := by
  obtain ⟨mm, hmm⟩ : ∃ mm, max l0.length l1.length = mm := ⟨_, rfl⟩
  have hmx : (if l0.length < l1.length then (l1.length : Int) else (l0.length : Int)) = (mm : Int) := by rw [← hmm]; split <;> omega
  obtain ⟨m, hm⟩ : ∃ m : Int, (if (l1.length : Int) < (l0.length : Int) then (l1.length : Int) else (l0.length : Int)) = m := ⟨_, rfl⟩
  have hmn : (if l1.length < l0.length then (l1.length : Int) else (l0.length : Int)) = m := by rw [← hm]; simp only [Int.ofNat_lt]
  have hs2 : 40 < m := by rw [← hm]; split <;> omega
  have hmb : mm ≤ 17592186044416 := by omega
  obtain ⟨h, hh⟩ : ∃ h, (mm + 1) / 2 = h := ⟨_, rfl⟩
  have hh2 : ((mm : Int) + 1) / 2 = (h : Int) := by omega
  obtain ⟨a0, a1, Aa, ca0, ca1, ra0, ra1, va, la0, la1, hca0, hca1, CA, PA⟩ := mul_parted.two A0 c0 h l0 hc0 (by omega) hg0 (by omega)
  obtain ⟨b0, b1, Ab, cb0, cb1, rb0, rb1, vb, lb0, lb1, hcb0, hcb1, CB, PB⟩ := mul_parted.two A1 c1 h l1 hc1 (by omega) hg1 (by omega)
  have hXY : Nums.val l0 * Nums.val l1 < 4294967296 ^ (l0.length + l1.length + 1) := by
    have h1 : Nums.val l0 * Nums.val l1 < 4294967296 ^ l0.length * 4294967296 ^ l1.length := Nat.mul_lt_mul_of_lt_of_le (Nums.val_lt hg0) (Nat.le_of_lt (Nums.val_lt hg1)) (Nat.pow_pos (by decide))
    rw [← Nat.pow_add] at h1
    exact Nat.lt_of_lt_of_le h1 (Nums.pow_le_gen 4294967296 _ _ (by decide) (by omega))
  obtain ⟨S1, S2, S3, S4⟩ := pp_start (Nums.val l0) (Nums.val l1) (l0.length + l1.length + 1) h _ _ _ _ va vb hXY (by omega) (by omega)
  obtain ⟨k1, e1⟩ := S1.get
  obtain ⟨k2, e2⟩ := S2.get
  obtain rfl : b1 = [] := List.eq_nil_of_length_eq_zero (by omega)
  have I00 : ∀ W, Below w.heap.size w W → Calls Tryd.prog 55 #[.slice A0 a0.length ca0, .slice A1 b0.length cb0] W fun e w' => ∃ v0_ : Value, e = .returned (v0_) ∧ Kd.R (Kd.int .u32) 39 w' W.heap.size (fun _ => True) v0_ (Nums.toL (Nums.val a0 * Nums.val b0)) ∧ Below W.heap.size W w' :=
    fun W hW => ih A0 ca0 a0 A1 cb0 b0 W (by omega) ra0 rb0 (Kd.C_below (CA w hr0).1 hW) hca0 (Kd.C_below (CB w hr1).1 hW) hcb0
  have I11 : ∀ W, Below w.heap.size w W → Calls Tryd.prog 55 #[.slice Aa a1.length ca1, .slice Ab ([] : List Int).length cb1] W fun e w' => ∃ v0_ : Value, e = .returned (v0_) ∧ Kd.R (Kd.int .u32) 39 w' W.heap.size (fun _ => True) v0_ (Nums.toL (Nums.val a1 * Nums.val ([] : List Int))) ∧ Below W.heap.size W w' :=
    fun W hW => ih Aa ca1 a1 Ab cb1 ([] : List Int) W (by omega) ra1 rb1 (Kd.C_below (CA w hr0).2 hW) hca1 (Kd.C_below (CB w hr1).2 hW) hcb1
  have I00 := Aside0.mk I00
  have I11 := Aside0.mk I11
  obtain ⟨low, hlow⟩ : ∃ low, Nums.toL (Nums.val a0 * Nums.val b0) = low := ⟨_, rfl⟩
  obtain ⟨high, hhigh⟩ : ∃ high, Nums.toL (Nums.val a1 * Nums.val ([] : List Int)) = high := ⟨_, rfl⟩
  rw [hlow] at I00 e1
  rw [hhigh] at I11 e2
  have t1 : ((a1.length : Int) == 0) = false := beq_eq_false_iff_ne.mpr (by omega)
  have I01 : ∀ W, Below w.heap.size w W → Calls Tryd.prog 55 #[.slice A0 a0.length ca0, .slice Ab ([] : List Int).length cb1] W fun e w' => ∃ v0_ : Value, e = .returned (v0_) ∧ Kd.R (Kd.int .u32) 39 w' W.heap.size (fun _ => True) v0_ (Nums.toL (Nums.val a0 * Nums.val ([] : List Int))) ∧ Below W.heap.size W w' :=
    fun W hW => ih A0 ca0 a0 Ab cb1 ([] : List Int) W (by omega) ra0 rb1 (Kd.C_below (CA w hr0).1 hW) hca0 (Kd.C_below (CB w hr1).2 hW) hcb1
  have I10 : ∀ W, Below w.heap.size w W → Calls Tryd.prog 55 #[.slice Aa a1.length ca1, .slice A1 b0.length cb0] W fun e w' => ∃ v0_ : Value, e = .returned (v0_) ∧ Kd.R (Kd.int .u32) 39 w' W.heap.size (fun _ => True) v0_ (Nums.toL (Nums.val a1 * Nums.val b0)) ∧ Below W.heap.size W w' :=
    fun W hW => ih Aa ca1 a1 A1 cb0 b0 W (by omega) ra1 rb0 (Kd.C_below (CA w hr0).2 hW) hca1 (Kd.C_below (CB w hr1).1 hW) hcb0
  have hfin : Nums.val a0 * Nums.val b0 + 4294967296 ^ (2 * h) * (Nums.val a1 * Nums.val ([] : List Int)) + 4294967296 ^ h * (Nums.val a0 * Nums.val ([] : List Int) + Nums.val a1 * Nums.val b0) < 4294967296 ^ (l0.length + l1.length + 1) := by rw [← S4]; exact hXY
  rw [Nat.mul_add, ← Nat.add_assoc] at hfin S4
  obtain ⟨k3, e3⟩ := (pp_add (l0.length + l1.length + 1) h _ _ (by omega) (by omega) (Nat.lt_of_le_of_lt (Nat.le_add_right _ _) hfin)).get
  obtain ⟨k4, e4⟩ := (pp_add (l0.length + l1.length + 1) h _ _ (by omega) (by omega) hfin).get
  obtain ⟨k8, e8⟩ := (pp_trim (l0.length + l1.length + 1) _ (by omega) hfin).get
  rw [← S4] at e4 e8
  have I01 := Aside0.mk I01
  have I10 := Aside0.mk I10
  obtain ⟨x01, hx01⟩ : ∃ x01, Nums.toL (Nums.val a0 * Nums.val ([] : List Int)) = x01 := ⟨_, rfl⟩
  obtain ⟨x10, hx10⟩ : ∃ x10, Nums.toL (Nums.val a1 * Nums.val b0) = x10 := ⟨_, rfl⟩
  rw [hx01] at I01 e3
  rw [hx10] at I10 e4
  obtain ⟨res, hres⟩ : ∃ res, Nums.toL (Nums.val l0 * Nums.val l1) = res := ⟨_, rfl⟩
  rw [hres] at e8 ⊢
  have E3 := Aside0.mk e3
  have E4 := Aside0.mk e4
  have E8 := Aside0.mk e8
  clear hfin e3 e4 e8 hx01 hx10 hres
  simp only [List.length_nil] at I11 I01 PB
  clear hA hBB
  have E1 := Aside0.mk e1
  have E2 := Aside0.mk e2
  have HPA := Aside0.mk PA
  have HPB := Aside0.mk PB
  have HR0 := Aside0.mk hr0
  have HR1 := Aside0.mk hr1
  clear hr0 hr1 hg0 hg1 ih PA PB va vb la1 lb1 hmm hh CA CB ra0 ra1 rb0 rb1 S1 S2 S3 S4 hXY e1 e2 hlow hhigh
  go_enter Tryd.func55, Tryd.ntmps55
  go_wp2_with fail
  refine (HPA.out w HR0.out).mono ?_
  rintro e w' ⟨rfl, ⟨nd, rfl⟩⟩
  go_wp2_with fail
  refine (HPB.out _ (Kd.C_drewN HR1.out nd)).mono ?_
  rintro e w' ⟨rfl, ⟨nd2, rfl⟩⟩
  have HB := Aside0.mk (pw_below_drewN (Below.refl w.heap.size w) (nd + nd2))
  go_wp2_with (at_make; refine Kd.R_make (Kd.int .u32) (w0 := w) w.heap.size 39 rfl (N := 49) rfl 22 _ _ rfl ((l0.length : Int) + (l1.length : Int) + 1) rfl rfl Tryd.underlying22 (.int .u32 0) 4 info39 rfl (by decide) (by omega) 0 (ok := fun _ => True) (okp := fun _ => True) rfl (fun _ hk => hk) trivial (by omega) (by omega) HB.out (below_size HB.out) ?_; intro vo w1 ho hb hg hnew; go_must (rw [show ((l0.length : Int) + (l1.length : Int) + 1).toNat = l0.length + l1.length + 1 by omega] at ho; obtain ⟨g, cap, hvo, hgb, hgs, hcells⟩ := Kd.R_form ho (by rw [List.length_replicate]; omega); rw [List.length_replicate] at hvo; subst hvo); have HO := Aside0.mk ho; have HB1 := Aside0.mk hb; have HGS := Aside0.mk hgs; clear ho hb hg hnew hgb hgs hcells)
  obtain ⟨B, hB⟩ : ∃ B, w1.heap.size = B := ⟨_, rfl⟩
  have G2 : Aside0 (Bag w (w1.alloc (.cells #[.slice (some ⟨g, 0, none⟩) (l0.length + l1.length + 1) cap] 22)) g B (l0.length + l1.length + 1) cap (List.replicate (l0.length + l1.length + 1) 0)) := by
    refine ⟨⟨below_alloc HB1.out _, ?_, R_only (Kd.R_alloc HO.out _), ?_⟩⟩
    · rw [← hB]; exact Boxed.new w1 _ _
    · have := HGS.out; omega
  rw [hB]
  clear hB HGS HO HB1
  refine (I00.out _ G2.out.below).mono ?_
  rintro e w3 ⟨vl, rfl, hR, hB3⟩
  have HLo := Aside0.mk (Mate.of G2.out hR)
  have G3 := Aside0.mk (Bag.under G2.out hB3)
  clear hR hB3 G2
  obtain ⟨Al, cl, hvl⟩ := Kd.R_slice HLo.out
  subst hvl
  go_wp2_with fail
  refine (I11.out _ G3.out.below).mono ?_
  rintro e w4 ⟨vh, rfl, hR, hB4⟩
  have HHi := Aside0.mk (Mate.of G3.out hR)
  have HLo := Aside0.mk (Mate.under HLo.out hB4)
  have G4 := Aside0.mk (Bag.under G3.out hB4)
  clear hR hB4 G3
  obtain ⟨Ah, ch, hvh⟩ := Kd.R_slice HHi.out
  subst hvh
  go_wp2_with fail
  refine (Bag.puts k1 G4.out HLo.out 0 _ E1.out).mono ?_
  rintro e w5 ⟨rfl, hG, hK⟩
  have G5 := Aside0.mk hG
  have HLo := Aside0.mk (Mate.kept HLo.out hK)
  have HHi := Aside0.mk (Mate.kept HHi.out hK)
  clear hG hK G4
  go_wp2_with fail
  refine (Bag.puts k2 G5.out HHi.out _ _ E2.out).mono ?_
  rintro e w6 ⟨rfl, hG, hK⟩
  have G6 := Aside0.mk hG
  have HLo := Aside0.mk (Mate.kept HLo.out hK)
  have HHi := Aside0.mk (Mate.kept HHi.out hK)
  clear hG hK G5
  go_wp2_with fail
  refine (I01.out _ G6.out.below).mono ?_
  rintro e w7 ⟨vx, rfl, hR, hB7⟩
  have HX := Aside0.mk (Mate.of G6.out hR)
  have G7 := Aside0.mk (Bag.under G6.out hB7)
  clear hR hB7 G6 HLo HHi
  obtain ⟨Ax, cx, hvx⟩ := Kd.R_slice HX.out
  subst hvx
  go_wp2_with fail
  refine (Bag.puts k3 G7.out HX.out _ _ E3.out).mono ?_
  rintro e w8 ⟨rfl, hG, hK⟩
  have G8 := Aside0.mk hG
  clear hG hK G7 HX
  go_wp2_with fail
  refine (I10.out _ G8.out.below).mono ?_
  rintro e w9 ⟨vy, rfl, hR, hB9⟩
  have HY := Aside0.mk (Mate.of G8.out hR)
  have G9 := Aside0.mk (Bag.under G8.out hB9)
  clear hR hB9 G8
  obtain ⟨Ay, cy, hvy⟩ := Kd.R_slice HY.out
  subst hvy
  go_wp2_with fail
  refine (Bag.puts k4 G9.out HY.out _ _ E4.out).mono ?_
  rintro e w10 ⟨rfl, hG, hK⟩
  have G10 := Aside0.mk hG
  have hbx := hG.box.cell
  clear hG hK G9 HY
  go_wp2_with fail
  refine (mul_trim.calls k8 (fun k => k = g) _ _ res w w10 G10.out.below G10.out.own E8.out).mono ?_
  rintro e w14 ⟨v0, rfl, hR, hB14, hK14⟩
  have HRR := Aside0.mk hR
  have HBB := Aside0.mk hB14
  clear hR hB14 hK14 hbx
  go_wp2
  go_ret
  exact ⟨_, rfl, Kd.R_mono HRR.out (fun _ _ => trivial), HBB.out⟩
theorem mul_product.all : ∀ (N : Nat) (A0 : Option Addr) (c0 : Nat) (l0 : List Int) (A1 : Option Addr) (c1 : Nat) (l1 : List Int) (w : World), l0.length + l1.length ≤ N → N ≤ 17592186044416 → Nums.rng l0 = true → Nums.rng l1 = true → Kd.C (Kd.int .u32) w A0 l0.length l0 → l0.length ≤ c0 → Kd.C (Kd.int .u32) w A1 l1.length l1 → l1.length ≤ c1 →
    Calls Tryd.prog 55 #[.slice A0 l0.length c0, .slice A1 l1.length c1] w fun e w' => ∃ v0_ : Value, e = .returned (v0_) ∧ Kd.R (Kd.int .u32) 39 w' w.heap.size (fun _ => True) v0_ (Nums.toL (Nums.val l0 * Nums.val l1)) ∧ Below w.heap.size w w' := by
  intro N
  induction N with
  | zero =>
    intro A0 c0 l0 A1 c1 l1 w hN hM g0 g1 r0 e0 r1 e1
    obtain ⟨k, hk⟩ := (mul_byLimbs_ev l0 l1 (by omega) g0 g1).get
    exact mul_product.calls_short k A0 c0 l0 A1 c1 l1 _ w r0 e0 r1 e1 (by omega) hk
  | succ N ih =>
    intro A0 c0 l0 A1 c1 l1 w hN hM g0 g1 r0 e0 r1 e1
    by_cases hs : l0.length ≤ 40 ∨ l1.length ≤ 40
    · obtain ⟨k, hk⟩ := (mul_byLimbs_ev l0 l1 (by omega) g0 g1).get
      exact mul_product.calls_short k A0 c0 l0 A1 c1 l1 _ w r0 e0 r1 e1 hs hk
    · have hi : ∀ (A2 : Option Addr) (c2 : Nat) (x : List Int) (A3 : Option Addr) (c3 : Nat) (y : List Int) (W : World), x.length + y.length < l0.length + l1.length → Nums.rng x = true → Nums.rng y = true → Kd.C (Kd.int .u32) W A2 x.length x → x.length ≤ c2 → Kd.C (Kd.int .u32) W A3 y.length y → y.length ≤ c3 →
          Calls Tryd.prog 55 #[.slice A2 x.length c2, .slice A3 y.length c3] W fun e w' => ∃ v0_ : Value, e = .returned (v0_) ∧ Kd.R (Kd.int .u32) 39 w' W.heap.size (fun _ => True) v0_ (Nums.toL (Nums.val x * Nums.val y)) ∧ Below W.heap.size W w' :=
        fun A2 c2 x A3 c3 y W hlt gx gy rx ex ry ey => ih A2 c2 x A3 c3 y W (by omega) (by omega) gx gy rx ex ry ey
      by_cases hA : (max l0.length l1.length + 1) / 2 < l0.length
      · by_cases hB : (max l0.length l1.length + 1) / 2 < l1.length
        · exact mul_product.walkN A0 c0 l0 A1 c1 l1 w r0 e0 r1 e1 g0 g1 (by omega) (by omega) (by omega) (by omega) hi hA hB
        · exact mul_product.walkE2 A0 c0 l0 A1 c1 l1 w r0 e0 r1 e1 g0 g1 (by omega) (by omega) (by omega) (by omega) hi hA (by omega)
      · exact mul_product.walkE1 A0 c0 l0 A1 c1 l1 w r0 e0 r1 e1 g0 g1 (by omega) (by omega) (by omega) (by omega) hi (by omega)
def mul_product.f (l0 l1 : List Int) : Option (List Int) := if (Nums.rng l0 && Nums.rng l1 && decide (l0.length + l1.length ≤ 17592186044416)) = true then some (Nums.toL (Nums.val l0 * Nums.val l1)) else none
theorem mul_product.calls (A0 : Option Addr) (c0 : Nat) (l0 : List Int) (A1 : Option Addr) (c1 : Nat) (l1 : List Int) (r : List Int) (w : World) (hr0 : Kd.C (Kd.int .u32) w A0 l0.length l0) (hc0 : l0.length ≤ c0) (hr1 : Kd.C (Kd.int .u32) w A1 l1.length l1) (hc1 : l1.length ≤ c1) (h : mul_product.f l0 l1 = some r) :
    Calls Tryd.prog 55 #[.slice A0 l0.length c0, .slice A1 l1.length c1] w fun e w' => ∃ v0_ : Value, e = .returned (v0_) ∧ Kd.R (Kd.int .u32) 39 w' w.heap.size (fun _ => True) v0_ r ∧ Below w.heap.size w w' := by
  unfold mul_product.f at h
  split at h
  case isFalse => cases h
  case isTrue hc =>
  simp only [Bool.and_eq_true, decide_eq_true_eq] at hc
  obtain rfl := Option.some.inj h
  exact mul_product.all _ A0 c0 l0 A1 c1 l1 w (Nat.le_refl _) hc.2 hc.1.1 hc.1.2 hr0 hc0 hr1 hc1
/-- Products of which one is short enough are told. -/
def MulTells (c : Nat) : Prop := ∀ a b : List Int, Nums.rng a = true → Nums.rng b = true → Nums.may a = true → Nums.may b = true → (a.length ≤ c ∨ b.length ≤ c) → a.length + b.length ≤ 65537 → mul_product.f a b = some (Nums.toL (Nums.val a * Nums.val b))
theorem mul_tells : MulTells 65536 := by
  intro a b ha hb _ _ _ hl
  unfold mul_product.f
  rw [if_pos]
  simp only [ha, hb, Bool.true_and, decide_eq_true_eq]
  omega

end Go.Proofs.YtjgloepeogelnaaDoor.Pr
