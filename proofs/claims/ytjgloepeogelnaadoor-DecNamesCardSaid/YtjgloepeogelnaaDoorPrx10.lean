/- Functions with the same answers as the Go functions of the program, with the proofs that the program comes to just these answers; no condition but those that each theorem names. (Laid by this work's own program mk.py out of the translation.) -/
import Derived.Test.YtjgloepeogelnaaDoorPrx0
import Derived.Test.YtjgloepeogelnaaDoorPrx1
import Derived.Test.YtjgloepeogelnaaDoorPrx9
namespace Go.Proofs.YtjgloepeogelnaaDoor.Pr
open Go.RowKit Go.Proofs.YtjgloepeogelnaaDoorW.PrintWords Go.Proofs.YtjgloepeogelnaaDoorW.PrintLast Go.Proofs.YtjgloepeogelnaaDoorW.PrintMore
attribute [local go_sem] max2_int min2_int max_two min_two max_three min_three max_four min_four   -- for this text's walks alone
set_option linter.unusedVariables false
set_option linter.unusedSimpArgs false

/-! ### cmp_Compare_int: function 46 -/
def cmp_Compare_int.f (a0 : Int) (a1 : Int) : Option (Int) := (cmp_isNaN_int.f a0).bind fun t201 => ((cmp_isNaN_int.f a1).bind fun t202 => (if t201 = true then (if t202 = true then (some 0) else (some (-1))) else (if t202 = true then (some 1) else (if a0 < a1 then (some (-1)) else (if a0 > a1 then (some 1) else (some 0))))))
set_option maxHeartbeats 8000000 in
set_option maxRecDepth 100000 in
theorem cmp_Compare_int.calls (a0 : Int) (a1 : Int) (r : Int) (w : World) (h : cmp_Compare_int.f a0 a1 = some r) :
    Calls Tryd.prog 46 #[.int .i64 a0, .int .i64 a1] w fun e w' => e = .returned (.int .i64 r) ∧ Drawn0 w w' := by
  have H : ((cmp_isNaN_int.f a0).bind fun t201 => ((cmp_isNaN_int.f a1).bind fun t202 => (if t201 = true then (if t202 = true then (some 0) else (some (-1))) else (if t202 = true then (some 1) else (if a0 < a1 then (some (-1)) else (if a0 > a1 then (some 1) else (some 0))))))) = some r := h
  clear h
  replace H := Option.bind_eq_some_iff.mp H
  obtain ⟨t201, A30, H⟩ := H
  replace H : ((cmp_isNaN_int.f a1).bind fun t202 => (if t201 = true then (if t202 = true then (some 0) else (some (-1))) else (if t202 = true then (some 1) else (if a0 < a1 then (some (-1)) else (if a0 > a1 then (some 1) else (some 0)))))) = some r := H
  have A3 := Aside0.mk A30
  clear A30
  replace H := Option.bind_eq_some_iff.mp H
  obtain ⟨t202, A40, H⟩ := H
  replace H : (if t201 = true then (if t202 = true then (some 0) else (some (-1))) else (if t202 = true then (some 1) else (if a0 < a1 then (some (-1)) else (if a0 > a1 then (some 1) else (some 0))))) = some r := H
  have A4 := Aside0.mk A40
  clear A40
  by_cases c5 : t201 = true
  · subst c5
    have H1 : (if t202 = true then (some 0) else (some (-1))) = some r := by rw [if_pos rfl] at H; exact H
    clear H
    have H := H1
    clear H1
    by_cases c6 : t202 = true
    · subst c6
      have H1 : (some 0) = some r := by rw [if_pos rfl] at H; exact H
      clear H
      have H := H1
      clear H1
      obtain rfl := Option.some.inj H
      go_enter Tryd.func46, Tryd.ntmps46
      go_wp2_with (first | ((with_reducible refine gate_callee (f := 75) rfl ?_); refine goesL_ (some 8) rfl rfl Tryd.func75 (by kernel_rfl) rfl #[.int .i64 a0] rfl (by (try simp only [List.map_toArray, List.map_cons, List.map_nil]); first | done | rfl | (simp only [List.length_drop, List.length_take]; rfl)) ?_; (with_reducible refine (cmp_isNaN_int.calls a0 true _ A3.out).mono ?_); rintro e w' ⟨rfl, ⟨nd, rfl⟩⟩; refine ⟨_, rfl, ?_⟩) | ((with_reducible refine gate_callee (f := 75) rfl ?_); refine goesL_ (some 10) rfl rfl Tryd.func75 (by kernel_rfl) rfl #[.int .i64 a1] rfl (by (try simp only [List.map_toArray, List.map_cons, List.map_nil]); first | done | rfl | (simp only [List.length_drop, List.length_take]; rfl)) ?_; (with_reducible refine (cmp_isNaN_int.calls a1 true _ A4.out).mono ?_); rintro e w' ⟨rfl, ⟨nd, rfl⟩⟩; refine ⟨_, rfl, ?_⟩))
      go_ret
      exact ⟨by first | rfl | (simp; done) | (simp [*]; done), by repeat (first | exact Drawn0.refl _ | apply Drawn0.step)⟩
    · replace c6 := Bool.eq_false_iff.mpr c6
      subst c6
      have H1 : (some (-1)) = some r := by rw [if_neg (show ¬ (false = true) by decide)] at H; exact H
      clear H
      have H := H1
      clear H1
      obtain rfl := Option.some.inj H
      go_enter Tryd.func46, Tryd.ntmps46
      go_wp2_with (first | ((with_reducible refine gate_callee (f := 75) rfl ?_); refine goesL_ (some 8) rfl rfl Tryd.func75 (by kernel_rfl) rfl #[.int .i64 a0] rfl (by (try simp only [List.map_toArray, List.map_cons, List.map_nil]); first | done | rfl | (simp only [List.length_drop, List.length_take]; rfl)) ?_; (with_reducible refine (cmp_isNaN_int.calls a0 true _ A3.out).mono ?_); rintro e w' ⟨rfl, ⟨nd, rfl⟩⟩; refine ⟨_, rfl, ?_⟩) | ((with_reducible refine gate_callee (f := 75) rfl ?_); refine goesL_ (some 10) rfl rfl Tryd.func75 (by kernel_rfl) rfl #[.int .i64 a1] rfl (by (try simp only [List.map_toArray, List.map_cons, List.map_nil]); first | done | rfl | (simp only [List.length_drop, List.length_take]; rfl)) ?_; (with_reducible refine (cmp_isNaN_int.calls a1 false _ A4.out).mono ?_); rintro e w' ⟨rfl, ⟨nd, rfl⟩⟩; refine ⟨_, rfl, ?_⟩))
      go_ret
      exact ⟨by first | rfl | (simp; done) | (simp [*]; done), by repeat (first | exact Drawn0.refl _ | apply Drawn0.step)⟩
  · replace c5 := Bool.eq_false_iff.mpr c5
    subst c5
    have H1 : (if t202 = true then (some 1) else (if a0 < a1 then (some (-1)) else (if a0 > a1 then (some 1) else (some 0)))) = some r := by rw [if_neg (show ¬ (false = true) by decide)] at H; exact H
    clear H
    have H := H1
    clear H1
    by_cases c7 : t202 = true
    · subst c7
      have H1 : (some 1) = some r := by rw [if_pos rfl] at H; exact H
      clear H
      have H := H1
      clear H1
      obtain rfl := Option.some.inj H
      go_enter Tryd.func46, Tryd.ntmps46
      go_wp2_with (first | ((with_reducible refine gate_callee (f := 75) rfl ?_); refine goesL_ (some 8) rfl rfl Tryd.func75 (by kernel_rfl) rfl #[.int .i64 a0] rfl (by (try simp only [List.map_toArray, List.map_cons, List.map_nil]); first | done | rfl | (simp only [List.length_drop, List.length_take]; rfl)) ?_; (with_reducible refine (cmp_isNaN_int.calls a0 false _ A3.out).mono ?_); rintro e w' ⟨rfl, ⟨nd, rfl⟩⟩; refine ⟨_, rfl, ?_⟩) | ((with_reducible refine gate_callee (f := 75) rfl ?_); refine goesL_ (some 10) rfl rfl Tryd.func75 (by kernel_rfl) rfl #[.int .i64 a1] rfl (by (try simp only [List.map_toArray, List.map_cons, List.map_nil]); first | done | rfl | (simp only [List.length_drop, List.length_take]; rfl)) ?_; (with_reducible refine (cmp_isNaN_int.calls a1 true _ A4.out).mono ?_); rintro e w' ⟨rfl, ⟨nd, rfl⟩⟩; refine ⟨_, rfl, ?_⟩))
      go_ret
      exact ⟨by first | rfl | (simp; done) | (simp [*]; done), by repeat (first | exact Drawn0.refl _ | apply Drawn0.step)⟩
    · replace c7 := Bool.eq_false_iff.mpr c7
      subst c7
      have H1 : (if a0 < a1 then (some (-1)) else (if a0 > a1 then (some 1) else (some 0))) = some r := by rw [if_neg (show ¬ (false = true) by decide)] at H; exact H
      clear H
      have H := H1
      clear H1
      by_cases c8 : a0 < a1
      · rw [if_pos c8] at H
        have c8b0 : decide (a0 < a1) = true := decide_eq_true c8
        clear c8
        obtain rfl := Option.some.inj H
        go_enter Tryd.func46, Tryd.ntmps46
        go_wp2_with (first | ((with_reducible refine gate_callee (f := 75) rfl ?_); refine goesL_ (some 8) rfl rfl Tryd.func75 (by kernel_rfl) rfl #[.int .i64 a0] rfl (by (try simp only [List.map_toArray, List.map_cons, List.map_nil]); first | done | rfl | (simp only [List.length_drop, List.length_take]; rfl)) ?_; (with_reducible refine (cmp_isNaN_int.calls a0 false _ A3.out).mono ?_); rintro e w' ⟨rfl, ⟨nd, rfl⟩⟩; refine ⟨_, rfl, ?_⟩) | ((with_reducible refine gate_callee (f := 75) rfl ?_); refine goesL_ (some 10) rfl rfl Tryd.func75 (by kernel_rfl) rfl #[.int .i64 a1] rfl (by (try simp only [List.map_toArray, List.map_cons, List.map_nil]); first | done | rfl | (simp only [List.length_drop, List.length_take]; rfl)) ?_; (with_reducible refine (cmp_isNaN_int.calls a1 false _ A4.out).mono ?_); rintro e w' ⟨rfl, ⟨nd, rfl⟩⟩; refine ⟨_, rfl, ?_⟩))
        go_ret
        exact ⟨by first | rfl | (simp; done) | (simp [*]; done), by repeat (first | exact Drawn0.refl _ | apply Drawn0.step)⟩
      · rw [if_neg c8] at H
        have c8b0 : decide (a0 < a1) = false := decide_eq_false c8
        clear c8
        by_cases c9 : a0 > a1
        · rw [if_pos c9] at H
          have c9b0 : decide (a1 < a0) = true := decide_eq_true c9
          clear c9
          obtain rfl := Option.some.inj H
          go_enter Tryd.func46, Tryd.ntmps46
          go_wp2_with (first | ((with_reducible refine gate_callee (f := 75) rfl ?_); refine goesL_ (some 8) rfl rfl Tryd.func75 (by kernel_rfl) rfl #[.int .i64 a0] rfl (by (try simp only [List.map_toArray, List.map_cons, List.map_nil]); first | done | rfl | (simp only [List.length_drop, List.length_take]; rfl)) ?_; (with_reducible refine (cmp_isNaN_int.calls a0 false _ A3.out).mono ?_); rintro e w' ⟨rfl, ⟨nd, rfl⟩⟩; refine ⟨_, rfl, ?_⟩) | ((with_reducible refine gate_callee (f := 75) rfl ?_); refine goesL_ (some 10) rfl rfl Tryd.func75 (by kernel_rfl) rfl #[.int .i64 a1] rfl (by (try simp only [List.map_toArray, List.map_cons, List.map_nil]); first | done | rfl | (simp only [List.length_drop, List.length_take]; rfl)) ?_; (with_reducible refine (cmp_isNaN_int.calls a1 false _ A4.out).mono ?_); rintro e w' ⟨rfl, ⟨nd, rfl⟩⟩; refine ⟨_, rfl, ?_⟩))
          go_ret
          exact ⟨by first | rfl | (simp; done) | (simp [*]; done), by repeat (first | exact Drawn0.refl _ | apply Drawn0.step)⟩
        · rw [if_neg c9] at H
          have c9b0 : decide (a1 < a0) = false := decide_eq_false c9
          clear c9
          obtain rfl := Option.some.inj H
          go_enter Tryd.func46, Tryd.ntmps46
          go_wp2_with (first | ((with_reducible refine gate_callee (f := 75) rfl ?_); refine goesL_ (some 8) rfl rfl Tryd.func75 (by kernel_rfl) rfl #[.int .i64 a0] rfl (by (try simp only [List.map_toArray, List.map_cons, List.map_nil]); first | done | rfl | (simp only [List.length_drop, List.length_take]; rfl)) ?_; (with_reducible refine (cmp_isNaN_int.calls a0 false _ A3.out).mono ?_); rintro e w' ⟨rfl, ⟨nd, rfl⟩⟩; refine ⟨_, rfl, ?_⟩) | ((with_reducible refine gate_callee (f := 75) rfl ?_); refine goesL_ (some 10) rfl rfl Tryd.func75 (by kernel_rfl) rfl #[.int .i64 a1] rfl (by (try simp only [List.map_toArray, List.map_cons, List.map_nil]); first | done | rfl | (simp only [List.length_drop, List.length_take]; rfl)) ?_; (with_reducible refine (cmp_isNaN_int.calls a1 false _ A4.out).mono ?_); rintro e w' ⟨rfl, ⟨nd, rfl⟩⟩; refine ⟨_, rfl, ?_⟩))
          go_ret
          exact ⟨by first | rfl | (simp; done) | (simp [*]; done), by repeat (first | exact Drawn0.refl _ | apply Drawn0.step)⟩

/-! ### slices_Backward_uint32_uint32: function 47 -/
/-- The next one from the end on. -/
def back_at (n k : Nat) : List (Fin n) := if h : n - 1 - k < n then [⟨n - 1 - k, h⟩] else []
/-- What has come of a row of n, from its end on, when k rounds are over. -/
def back_upto (n : Nat) : Nat → List (Fin n)
  | 0 => []
  | k + 1 => back_upto n k ++ back_at n k
theorem back_upto_succ (n k : Nat) (h : n - 1 - k < n) : back_upto n (k + 1) = back_upto n k ++ [⟨n - 1 - k, h⟩] := by rw [back_upto, back_at, dif_pos h]
theorem back_upto_length (n k : Nat) (hk : k ≤ n) : (back_upto n k).length = k := by
  induction k with
  | zero => rfl
  | succ k ih => rw [back_upto_succ n k (by omega)]; simp [ih (by omega)]
theorem mem_back_upto {n k : Nat} (hk : k ≤ n) (i : Fin n) : i ∈ back_upto n k ↔ n - k ≤ i.1 := by
  induction k with
  | zero => have := i.2; simp only [back_upto, List.not_mem_nil, false_iff]; omega
  | succ k ih =>
    have := i.2
    rw [back_upto_succ n k (by omega), List.mem_append, ih (by omega), List.mem_singleton, Fin.ext_iff]
    simp only
    omega
/-- The limbs that a round is handed. -/
abbrev back_enc (a : List Int) (x : Fin a.length) : Array Value := #[Value.int .i64 (x.1 : Int), Value.int .u32 (ith a x.1)]
section
attribute [local go_sem] Oper.semAt_some
set_option maxRecDepth 100000 in
set_option maxHeartbeats 4000000 in
/-- slices.Backward's closure, for every loop body that keeps what lay below n₀ and the iterator's box. -/
theorem back1.in_ (F : Fence) (n : Nat) (h76 : F.fn 76) (hro : F.round = none) (hn : 1 ≤ n) (l Ba n₀ : Nat) (A0 : Option Addr) (c0 : Nat) (a : List Int) (J Jx : List (Fin a.length) → World → Prop)
    (hla : a.length ≤ 70368744177664)
    (hY : ∀ pre x W, J pre W → pre.length < a.length → YieldAt F (n - 1) Tryd.prog l (back_enc a x) W fun e W' =>
      (e = .returned (.bool true) ∧ J (pre ++ [x]) W' ∧ nat_Kp n₀ Ba Ba W W') ∨ (e = .returned (.bool false) ∧ Jx (pre ++ [x]) W'))
    (W : World) (hBa : W.cell? ⟨Ba, 0, none⟩ = some (.slice A0 a.length c0))
    (w0 : World) (hra : Kd.C (Kd.int .u32) w0 A0 a.length a) (hw0 : w0.heap.size ≤ n₀) (hbw : Below w0.heap.size w0 W) (h0 : J [] W) :
    CallsIn F n Tryd.prog 76 #[.func (.yield l) #[] #[], .pointer (some ⟨Ba, 0, none⟩)] W fun e W' => (∃ v, e = .returned v) ∧
      ((∃ ys, ys = back_upto a.length a.length ∧ J ys W') ∨ (∃ pre, (∃ k, k ≤ a.length ∧ pre = back_upto a.length k) ∧ Jx pre W')) := by
  refine callsIn_of_wp Tryd.func76 rfl h76 ?_ hro
  simp only [Tryd.ntmps76, List.size_toArray, List.length_cons, List.length_nil, Nat.reduceAdd, Nat.reduceSub, Array.replicate_succ, Array.replicate_zero, List.push_toArray, List.append_toArray, List.nil_append, List.cons_append]
  gi_wp2
  gi_loopw [3] (fun i wr => ∃ k : Nat, k ≤ a.length ∧ i = .int .i64 ((a.length : Int) - 1 - k) ∧ J (back_upto a.length k) wr ∧ nat_Kp n₀ Ba Ba W wr)
    (fun i _ => (intOf i + 1).toNat)
  case atStart => exact ⟨0, Nat.zero_le _, by simp, h0, nat_Kp.refl _ _ _ _⟩
  case round =>
    obtain ⟨k, hk, rfl, hJs, hnx⟩ := hrel
    have hBa2 := hnx.cellA hBa
    by_cases hlt : k < a.length
    · obtain ⟨j, hj⟩ : ∃ j, a.length - 1 - k = j := ⟨_, rfl⟩
      have ej : (a.length : Int) - 1 - k = (j : Int) := by omega
      have hjl : j < a.length := by omega
      have hkj : Aside0 (k + j + 1 = a.length) := ⟨by omega⟩
      obtain ⟨ad, rfl, hc⟩ := Kd.at_int hra (j : Int) (by omega) (by omega)
      have hca := pw_cell_below (hbw.trans (hnx.1.mono hw0)) hc
      have hs : Aside0 (back_upto a.length (k + 1) = back_upto a.length k ++ [⟨j, hjl⟩]) := ⟨by rw [back_upto_succ _ k (by omega)]; simp only [hj]⟩
      obtain ⟨x, hx⟩ : ∃ x, ith a j = x := ⟨_, rfl⟩
      have hrd : rd a (j : Int) = x := (rd_ith _ _).trans hx
      rw [hrd, Int.toNat_natCast] at hca
      rw [ej]
      have hpl := back_upto_length a.length k hk
      obtain ⟨fn, tmps, assign, body, hy, hR⟩ := hY _ ⟨j, hjl⟩ wr hJs (by rw [hpl]; have := hkj.out; omega)
      dsimp only [back_enc] at hy
      rw [hx] at hy
      clear hc hrd hx hj ej hlt hpl
      gi_wp2
      refine hR.mono ?_
      rintro e W3 (⟨rfl, hJ3, hk3⟩ | ⟨rfl, hJx3⟩)
      · gi_wp2
        have hkj' := hkj.out
        go_roundw
        case rel => exact ⟨k + 1, by omega, by first | (congr 1; done) | (congr 1; omega), by rw [hs.out]; exact hJ3, hnx.trans hk3⟩
        case measure => simp [intOf] <;> omega
      · gi_wp2
        refine bodyPost_ret (results_none rfl _ _ _) rfl ?_
        exact ⟨⟨_, rfl⟩, .inr ⟨_, ⟨k + 1, by have := hkj.out; omega, hs.out.symm⟩, hJx3⟩⟩
    · obtain rfl : k = a.length := by omega
      have e1 : (a.length : Int) - 1 - a.length = -1 := by omega
      rw [e1]
      gi_wp2
      go_end0
      exact ⟨⟨_, rfl⟩, .inl ⟨_, rfl, hJs⟩⟩
set_option maxHeartbeats 1000000 in
theorem back.in_ (F : Fence) (n : Nat) (h47 : F.fn 47) (hro : F.round = none) (A0 : Option Addr) (n0 c0 : Nat) (w : World) :
    CallsIn F n Tryd.prog 47 #[.slice A0 n0 c0] w fun e w' => e = .returned (.func (.func 76) #[] #[.pointer (some ⟨w.heap.size, 0, none⟩)]) ∧ w' = w.alloc (.cells #[.slice A0 n0 c0] 22) := by
  refine callsIn_of_wp Tryd.func47 rfl h47 ?_ hro
  simp only [Tryd.ntmps47, List.size_toArray, List.length_cons, List.length_nil, Nat.reduceAdd, Nat.reduceSub, Array.replicate_succ, Array.replicate_zero, List.push_toArray, List.append_toArray, List.nil_append, List.cons_append]
  gi_wp2
  go_ret
  exact ⟨rfl, rfl⟩
theorem back.stops (F : Fence) (n : Nat) (h76 : F.fn 76) (hro : F.round = none) (hn : 1 ≤ n) (Ba n₀ : Nat) (A0 : Option Addr) (c0 : Nat) (a : List Int)
    (hla : a.length ≤ 70368744177664) (w0 w : World) (hBa : Ba < w.heap.size) (hca : w.cell? ⟨Ba, 0, none⟩ = some (.slice A0 a.length c0))
    (hra : Kd.C (Kd.int .u32) w0 A0 a.length a) (hw0 : w0.heap.size ≤ n₀) (hbw : Below w0.heap.size w0 w) :
    SeqStopsK F n Tryd.prog 76 #[.pointer (some ⟨Ba, 0, none⟩)] (back_enc a) (nat_Kp n₀ Ba Ba) (fun ys => ys = back_upto a.length a.length) (fun pre => ∃ k, k ≤ a.length ∧ pre = back_upto a.length k) a.length w := fun l J Jx W hW _ _ hY h0 =>
  back1.in_ F n h76 hro hn l Ba n₀ A0 c0 a J Jx hla hY W ((hW.cell (p := ⟨Ba, 0, none⟩) hBa).trans hca) w0 hra hw0 (hbw.trans (hW.mono hbw.size)) h0
end

/-! ### cmp_isNaN_uint32: function 77 -/
def cmp_isNaN_uint32.f (a0 : Int) : Option (Bool) := some (a0 != a0)
set_option maxHeartbeats 8000000 in
set_option maxRecDepth 100000 in
theorem cmp_isNaN_uint32.calls (a0 : Int) (r : Bool) (w : World) (h : cmp_isNaN_uint32.f a0 = some r) :
    Calls Tryd.prog 77 #[.int .u32 a0] w fun e w' => e = .returned (.bool r) ∧ Drawn0 w w' := by
  have H : (some (a0 != a0)) = some r := h
  clear h
  obtain rfl := Option.some.inj H
  go_enter Tryd.func77, Tryd.ntmps77
  go_wp2
  go_ret
  exact ⟨by first | rfl | (simp; done) | (simp [*]; done), by repeat (first | exact Drawn0.refl _ | apply Drawn0.step)⟩

/-! ### cmp_Compare_uint32: function 48 -/
def cmp_Compare_uint32.f (a0 : Int) (a1 : Int) : Option (Int) := (cmp_isNaN_uint32.f a0).bind fun t203 => ((cmp_isNaN_uint32.f a1).bind fun t204 => (if t203 = true then (if t204 = true then (some 0) else (some (-1))) else (if t204 = true then (some 1) else (if a0 < a1 then (some (-1)) else (if a0 > a1 then (some 1) else (some 0))))))
set_option maxHeartbeats 8000000 in
set_option maxRecDepth 100000 in
theorem cmp_Compare_uint32.calls (a0 : Int) (a1 : Int) (r : Int) (w : World) (h : cmp_Compare_uint32.f a0 a1 = some r) :
    Calls Tryd.prog 48 #[.int .u32 a0, .int .u32 a1] w fun e w' => e = .returned (.int .i64 r) ∧ Drawn0 w w' := by
  have H : ((cmp_isNaN_uint32.f a0).bind fun t203 => ((cmp_isNaN_uint32.f a1).bind fun t204 => (if t203 = true then (if t204 = true then (some 0) else (some (-1))) else (if t204 = true then (some 1) else (if a0 < a1 then (some (-1)) else (if a0 > a1 then (some 1) else (some 0))))))) = some r := h
  clear h
  replace H := Option.bind_eq_some_iff.mp H
  obtain ⟨t203, A30, H⟩ := H
  replace H : ((cmp_isNaN_uint32.f a1).bind fun t204 => (if t203 = true then (if t204 = true then (some 0) else (some (-1))) else (if t204 = true then (some 1) else (if a0 < a1 then (some (-1)) else (if a0 > a1 then (some 1) else (some 0)))))) = some r := H
  have A3 := Aside0.mk A30
  clear A30
  replace H := Option.bind_eq_some_iff.mp H
  obtain ⟨t204, A40, H⟩ := H
  replace H : (if t203 = true then (if t204 = true then (some 0) else (some (-1))) else (if t204 = true then (some 1) else (if a0 < a1 then (some (-1)) else (if a0 > a1 then (some 1) else (some 0))))) = some r := H
  have A4 := Aside0.mk A40
  clear A40
  by_cases c5 : t203 = true
  · subst c5
    have H1 : (if t204 = true then (some 0) else (some (-1))) = some r := by rw [if_pos rfl] at H; exact H
    clear H
    have H := H1
    clear H1
    by_cases c6 : t204 = true
    · subst c6
      have H1 : (some 0) = some r := by rw [if_pos rfl] at H; exact H
      clear H
      have H := H1
      clear H1
      obtain rfl := Option.some.inj H
      go_enter Tryd.func48, Tryd.ntmps48
      go_wp2_with (first | ((with_reducible refine gate_callee (f := 77) rfl ?_); refine goesL_ (some 8) rfl rfl Tryd.func77 (by kernel_rfl) rfl #[.int .u32 a0] rfl (by (try simp only [List.map_toArray, List.map_cons, List.map_nil]); first | done | rfl | (simp only [List.length_drop, List.length_take]; rfl)) ?_; (with_reducible refine (cmp_isNaN_uint32.calls a0 true _ A3.out).mono ?_); rintro e w' ⟨rfl, ⟨nd, rfl⟩⟩; refine ⟨_, rfl, ?_⟩) | ((with_reducible refine gate_callee (f := 77) rfl ?_); refine goesL_ (some 10) rfl rfl Tryd.func77 (by kernel_rfl) rfl #[.int .u32 a1] rfl (by (try simp only [List.map_toArray, List.map_cons, List.map_nil]); first | done | rfl | (simp only [List.length_drop, List.length_take]; rfl)) ?_; (with_reducible refine (cmp_isNaN_uint32.calls a1 true _ A4.out).mono ?_); rintro e w' ⟨rfl, ⟨nd, rfl⟩⟩; refine ⟨_, rfl, ?_⟩))
      go_ret
      exact ⟨by first | rfl | (simp; done) | (simp [*]; done), by repeat (first | exact Drawn0.refl _ | apply Drawn0.step)⟩
    · replace c6 := Bool.eq_false_iff.mpr c6
      subst c6
      have H1 : (some (-1)) = some r := by rw [if_neg (show ¬ (false = true) by decide)] at H; exact H
      clear H
      have H := H1
      clear H1
      obtain rfl := Option.some.inj H
      go_enter Tryd.func48, Tryd.ntmps48
      go_wp2_with (first | ((with_reducible refine gate_callee (f := 77) rfl ?_); refine goesL_ (some 8) rfl rfl Tryd.func77 (by kernel_rfl) rfl #[.int .u32 a0] rfl (by (try simp only [List.map_toArray, List.map_cons, List.map_nil]); first | done | rfl | (simp only [List.length_drop, List.length_take]; rfl)) ?_; (with_reducible refine (cmp_isNaN_uint32.calls a0 true _ A3.out).mono ?_); rintro e w' ⟨rfl, ⟨nd, rfl⟩⟩; refine ⟨_, rfl, ?_⟩) | ((with_reducible refine gate_callee (f := 77) rfl ?_); refine goesL_ (some 10) rfl rfl Tryd.func77 (by kernel_rfl) rfl #[.int .u32 a1] rfl (by (try simp only [List.map_toArray, List.map_cons, List.map_nil]); first | done | rfl | (simp only [List.length_drop, List.length_take]; rfl)) ?_; (with_reducible refine (cmp_isNaN_uint32.calls a1 false _ A4.out).mono ?_); rintro e w' ⟨rfl, ⟨nd, rfl⟩⟩; refine ⟨_, rfl, ?_⟩))
      go_ret
      exact ⟨by first | rfl | (simp; done) | (simp [*]; done), by repeat (first | exact Drawn0.refl _ | apply Drawn0.step)⟩
  · replace c5 := Bool.eq_false_iff.mpr c5
    subst c5
    have H1 : (if t204 = true then (some 1) else (if a0 < a1 then (some (-1)) else (if a0 > a1 then (some 1) else (some 0)))) = some r := by rw [if_neg (show ¬ (false = true) by decide)] at H; exact H
    clear H
    have H := H1
    clear H1
    by_cases c7 : t204 = true
    · subst c7
      have H1 : (some 1) = some r := by rw [if_pos rfl] at H; exact H
      clear H
      have H := H1
      clear H1
      obtain rfl := Option.some.inj H
      go_enter Tryd.func48, Tryd.ntmps48
      go_wp2_with (first | ((with_reducible refine gate_callee (f := 77) rfl ?_); refine goesL_ (some 8) rfl rfl Tryd.func77 (by kernel_rfl) rfl #[.int .u32 a0] rfl (by (try simp only [List.map_toArray, List.map_cons, List.map_nil]); first | done | rfl | (simp only [List.length_drop, List.length_take]; rfl)) ?_; (with_reducible refine (cmp_isNaN_uint32.calls a0 false _ A3.out).mono ?_); rintro e w' ⟨rfl, ⟨nd, rfl⟩⟩; refine ⟨_, rfl, ?_⟩) | ((with_reducible refine gate_callee (f := 77) rfl ?_); refine goesL_ (some 10) rfl rfl Tryd.func77 (by kernel_rfl) rfl #[.int .u32 a1] rfl (by (try simp only [List.map_toArray, List.map_cons, List.map_nil]); first | done | rfl | (simp only [List.length_drop, List.length_take]; rfl)) ?_; (with_reducible refine (cmp_isNaN_uint32.calls a1 true _ A4.out).mono ?_); rintro e w' ⟨rfl, ⟨nd, rfl⟩⟩; refine ⟨_, rfl, ?_⟩))
      go_ret
      exact ⟨by first | rfl | (simp; done) | (simp [*]; done), by repeat (first | exact Drawn0.refl _ | apply Drawn0.step)⟩
    · replace c7 := Bool.eq_false_iff.mpr c7
      subst c7
      have H1 : (if a0 < a1 then (some (-1)) else (if a0 > a1 then (some 1) else (some 0))) = some r := by rw [if_neg (show ¬ (false = true) by decide)] at H; exact H
      clear H
      have H := H1
      clear H1
      by_cases c8 : a0 < a1
      · rw [if_pos c8] at H
        have c8b0 : decide (a0 < a1) = true := decide_eq_true c8
        clear c8
        obtain rfl := Option.some.inj H
        go_enter Tryd.func48, Tryd.ntmps48
        go_wp2_with (first | ((with_reducible refine gate_callee (f := 77) rfl ?_); refine goesL_ (some 8) rfl rfl Tryd.func77 (by kernel_rfl) rfl #[.int .u32 a0] rfl (by (try simp only [List.map_toArray, List.map_cons, List.map_nil]); first | done | rfl | (simp only [List.length_drop, List.length_take]; rfl)) ?_; (with_reducible refine (cmp_isNaN_uint32.calls a0 false _ A3.out).mono ?_); rintro e w' ⟨rfl, ⟨nd, rfl⟩⟩; refine ⟨_, rfl, ?_⟩) | ((with_reducible refine gate_callee (f := 77) rfl ?_); refine goesL_ (some 10) rfl rfl Tryd.func77 (by kernel_rfl) rfl #[.int .u32 a1] rfl (by (try simp only [List.map_toArray, List.map_cons, List.map_nil]); first | done | rfl | (simp only [List.length_drop, List.length_take]; rfl)) ?_; (with_reducible refine (cmp_isNaN_uint32.calls a1 false _ A4.out).mono ?_); rintro e w' ⟨rfl, ⟨nd, rfl⟩⟩; refine ⟨_, rfl, ?_⟩))
        go_ret
        exact ⟨by first | rfl | (simp; done) | (simp [*]; done), by repeat (first | exact Drawn0.refl _ | apply Drawn0.step)⟩
      · rw [if_neg c8] at H
        have c8b0 : decide (a0 < a1) = false := decide_eq_false c8
        clear c8
        by_cases c9 : a0 > a1
        · rw [if_pos c9] at H
          have c9b0 : decide (a1 < a0) = true := decide_eq_true c9
          clear c9
          obtain rfl := Option.some.inj H
          go_enter Tryd.func48, Tryd.ntmps48
          go_wp2_with (first | ((with_reducible refine gate_callee (f := 77) rfl ?_); refine goesL_ (some 8) rfl rfl Tryd.func77 (by kernel_rfl) rfl #[.int .u32 a0] rfl (by (try simp only [List.map_toArray, List.map_cons, List.map_nil]); first | done | rfl | (simp only [List.length_drop, List.length_take]; rfl)) ?_; (with_reducible refine (cmp_isNaN_uint32.calls a0 false _ A3.out).mono ?_); rintro e w' ⟨rfl, ⟨nd, rfl⟩⟩; refine ⟨_, rfl, ?_⟩) | ((with_reducible refine gate_callee (f := 77) rfl ?_); refine goesL_ (some 10) rfl rfl Tryd.func77 (by kernel_rfl) rfl #[.int .u32 a1] rfl (by (try simp only [List.map_toArray, List.map_cons, List.map_nil]); first | done | rfl | (simp only [List.length_drop, List.length_take]; rfl)) ?_; (with_reducible refine (cmp_isNaN_uint32.calls a1 false _ A4.out).mono ?_); rintro e w' ⟨rfl, ⟨nd, rfl⟩⟩; refine ⟨_, rfl, ?_⟩))
          go_ret
          exact ⟨by first | rfl | (simp; done) | (simp [*]; done), by repeat (first | exact Drawn0.refl _ | apply Drawn0.step)⟩
        · rw [if_neg c9] at H
          have c9b0 : decide (a1 < a0) = false := decide_eq_false c9
          clear c9
          obtain rfl := Option.some.inj H
          go_enter Tryd.func48, Tryd.ntmps48
          go_wp2_with (first | ((with_reducible refine gate_callee (f := 77) rfl ?_); refine goesL_ (some 8) rfl rfl Tryd.func77 (by kernel_rfl) rfl #[.int .u32 a0] rfl (by (try simp only [List.map_toArray, List.map_cons, List.map_nil]); first | done | rfl | (simp only [List.length_drop, List.length_take]; rfl)) ?_; (with_reducible refine (cmp_isNaN_uint32.calls a0 false _ A3.out).mono ?_); rintro e w' ⟨rfl, ⟨nd, rfl⟩⟩; refine ⟨_, rfl, ?_⟩) | ((with_reducible refine gate_callee (f := 77) rfl ?_); refine goesL_ (some 10) rfl rfl Tryd.func77 (by kernel_rfl) rfl #[.int .u32 a1] rfl (by (try simp only [List.map_toArray, List.map_cons, List.map_nil]); first | done | rfl | (simp only [List.length_drop, List.length_take]; rfl)) ?_; (with_reducible refine (cmp_isNaN_uint32.calls a1 false _ A4.out).mono ?_); rintro e w' ⟨rfl, ⟨nd, rfl⟩⟩; refine ⟨_, rfl, ?_⟩))
          go_ret
          exact ⟨by first | rfl | (simp; done) | (simp [*]; done), by repeat (first | exact Drawn0.refl _ | apply Drawn0.step)⟩

/-! ### nat_Cmp: function 23 -/
def nat_Cmp.f (l0 l1 : List Int) : Option Int := if (Nums.rng l0 && Nums.rng l1) = true then some (if (Nums.may l0 && Nums.may l1) = true then (if Nums.val l0 < Nums.val l1 then -1 else if Nums.val l1 < Nums.val l0 then 1 else 0) else 0) else none
theorem cmp_uint32_eq (x y : Int) : cmp_Compare_uint32.f x y = some (if x < y then -1 else if y < x then 1 else 0) := by
  have e : ∀ z : Int, (z != z) = false := by simp
  simp only [cmp_Compare_uint32.f, cmp_isNaN_uint32.f, e, Option.bind_some, Bool.false_eq_true, if_false, gt_iff_lt]
  split
  · rfl
  · split <;> rfl
theorem cmp_int_eq (x y : Int) : cmp_Compare_int.f x y = some (if x < y then -1 else if y < x then 1 else 0) := by
  have e : ∀ z : Int, (z != z) = false := by simp
  simp only [cmp_Compare_int.f, cmp_isNaN_int.f, e, Option.bind_some, Bool.false_eq_true, if_false, gt_iff_lt]
  split
  · rfl
  · split <;> rfl
theorem nat_val_lt_len {a b : List Int} (ha : Nums.rng a = true) (hb : Nums.rng b = true) (hm : Nums.may b = true) (h : a.length < b.length) : Nums.val a < Nums.val b := by
  have h1 := Nums.val_lt ha
  have h2 := Nums.val_ge hb (Nums.may_iff.1 hm).2 (by intro e; subst e; simp at h)
  exact Nat.lt_of_lt_of_le h1 (Nat.le_trans (Nat.pow_le_pow_right (by decide) (by omega)) h2)
theorem nat_same_ith {a b : List Int} (hl : a.length = b.length) (h : ∀ j, j < a.length → ith a j = ith b j) : a = b := by
  refine List.ext_getElem hl fun i h1 h2 => ?_
  have := h i h1
  simpa [ith, List.getElem?_eq_getElem h1, List.getElem?_eq_getElem h2] using this
theorem nat_val_lt_at : ∀ (a b : List Int), a.length = b.length → Nums.rng a = true → Nums.rng b = true → ∀ j, j < a.length → (∀ i, j < i → i < a.length → ith a i = ith b i) → ith a j < ith b j → Nums.val a < Nums.val b
  | [], _, _, _, _, j, hj, _, _ => absurd hj (by simp)
  | x :: xs, [], hl, _, _, _, _, _, _ => absurd hl (by simp)
  | x :: xs, y :: ys, hl, ha, hb, j, hj, he, h => by
    obtain ⟨hx, hxs⟩ := Nums.rng_cons.1 ha
    obtain ⟨hy, hys⟩ := Nums.rng_cons.1 hb
    simp only [List.length_cons] at hl hj he
    show x.toNat + 4294967296 * Nums.val xs < y.toNat + 4294967296 * Nums.val ys
    cases j with
    | zero =>
      have e : xs = ys := nat_same_ith (by omega) fun i hi => by simpa [ith] using he (i + 1) (by omega) (by omega)
      subst e
      have : x < y := by simpa [ith] using h
      omega
    | succ j =>
      have := nat_val_lt_at xs ys (by omega) hxs hys j (by omega) (fun i h1 h2 => by simpa [ith] using he (i + 1) (by omega) (by omega)) (by simpa [ith] using h)
      omega
section
attribute [local go_sem] Oper.semAt_some
set_option maxRecDepth 100000 in
set_option maxHeartbeats 4000000 in
theorem nat_Cmp.calls_no (A0 : Option Addr) (c0 : Nat) (l0 : List Int) (A1 : Option Addr) (c1 : Nat) (l1 : List Int) (w : World) (hr0 : Kd.C (Kd.int .u32) w A0 l0.length l0) (hc0 : l0.length ≤ c0) (hr1 : Kd.C (Kd.int .u32) w A1 l1.length l1) (hc1 : l1.length ≤ c1) (h : (Nums.may l0 && Nums.may l1) = false) :
    Calls Tryd.prog 23 #[.slice A0 l0.length c0, .slice A1 l1.length c1] w fun e w' => e = .returned (.int .i64 0) ∧ Below w.heap.size w w' := by
  have HM := Aside0.mk (nat_may2.calls A0 A1 c0 c1 l0 l1 _ _ (w.heap.size + 2) (((w.alloc (.cells #[.slice A1 l1.length c1] 22)).alloc (.cells #[.int .i64 0] 3)).alloc (.cells #[.slice A0 l0.length c0, .slice A1 l1.length c1] 22)) (by have h_ := World.alloc_heap_new ((w.alloc (.cells #[.slice A1 l1.length c1] 22)).alloc (.cells #[.int .i64 0] 3)) (.cells #[.slice A0 l0.length c0, .slice A1 l1.length c1] 22); simpa using h_) (Kd.C_alloc (Kd.C_alloc (Kd.C_alloc hr0 _) _) _) (Kd.C_alloc (Kd.C_alloc (Kd.C_alloc hr1 _) _) _) hc0 hc1 (nat_May_eq l0) (nat_May_eq l1))
  rw [h] at HM
  clear hr0 hc0 hr1 hc1 h
  refine (callsIn_wide (n := 3)).1 ?_
  refine callsIn_of_wp_marks Tryd.func23 rfl trivial ?_
  simp only [Tryd.ntmps23, List.size_toArray, List.length_cons, List.length_nil, Nat.reduceAdd, Nat.reduceSub, Array.replicate_succ, Array.replicate_zero, List.push_toArray, List.append_toArray, List.nil_append, List.cons_append]
  gi_wp2_with (refine ⟨trivial, ?_⟩; gi_at_call 45; refine (callsIn_wide.2 HM.out).mono ?_; rintro e w' ⟨rfl, ⟨nd, rfl⟩⟩)
  refine ⟨.int .i64 0, by simp [results, Tryd.f23, go_sem], rfl, ?_⟩
  exact ((pw_below_drewN (below_alloc (below_alloc (below_alloc (Below.refl _ _) _) _) _) nd).setCell (by simp) _)
set_option maxRecDepth 100000 in
set_option maxHeartbeats 4000000 in
theorem nat_Cmp.calls_len (A0 : Option Addr) (c0 : Nat) (l0 : List Int) (A1 : Option Addr) (c1 : Nat) (l1 : List Int) (w : World) (hr0 : Kd.C (Kd.int .u32) w A0 l0.length l0) (hc0 : l0.length ≤ c0) (hr1 : Kd.C (Kd.int .u32) w A1 l1.length l1) (hc1 : l1.length ≤ c1) (h : (Nums.may l0 && Nums.may l1) = true)
    (hne : l0.length ≠ l1.length) (r : Int) (hcmp : cmp_Compare_int.f l0.length l1.length = some r) :
    Calls Tryd.prog 23 #[.slice A0 l0.length c0, .slice A1 l1.length c1] w fun e w' => e = .returned (.int .i64 r) ∧ Below w.heap.size w w' := by
  have HM := Aside0.mk (nat_may2.calls A0 A1 c0 c1 l0 l1 _ _ (w.heap.size + 2) (((w.alloc (.cells #[.slice A1 l1.length c1] 22)).alloc (.cells #[.int .i64 0] 3)).alloc (.cells #[.slice A0 l0.length c0, .slice A1 l1.length c1] 22)) (by have h_ := World.alloc_heap_new ((w.alloc (.cells #[.slice A1 l1.length c1] 22)).alloc (.cells #[.int .i64 0] 3)) (.cells #[.slice A0 l0.length c0, .slice A1 l1.length c1] 22); simpa using h_) (Kd.C_alloc (Kd.C_alloc (Kd.C_alloc hr0 _) _) _) (Kd.C_alloc (Kd.C_alloc (Kd.C_alloc hr1 _) _) _) hc0 hc1 (nat_May_eq l0) (nat_May_eq l1))
  rw [h] at HM
  have HC := Aside0.mk hcmp
  clear hr0 hc0 hr1 hc1 h hcmp
  have hne1 : ((l0.length : Int) == (l1.length : Int)) = false := by simp; omega
  have hne2 : ((l0.length : Int) != (l1.length : Int)) = true := by simp; omega
  refine (callsIn_wide (n := 3)).1 ?_
  refine callsIn_of_wp_marks Tryd.func23 rfl trivial ?_
  simp only [Tryd.ntmps23, List.size_toArray, List.length_cons, List.length_nil, Nat.reduceAdd, Nat.reduceSub, Array.replicate_succ, Array.replicate_zero, List.push_toArray, List.append_toArray, List.nil_append, List.cons_append]
  gi_wp2_with (first | (refine ⟨trivial, ?_⟩; gi_at_call 45; refine (callsIn_wide.2 HM.out).mono ?_; rintro e w' ⟨rfl, ⟨nd, rfl⟩⟩) | (refine ⟨trivial, ?_⟩; gi_at_call 46; refine (callsIn_wide.2 (cmp_Compare_int.calls _ _ r _ HC.out)).mono ?_; rintro e w' ⟨rfl, ⟨nd2, rfl⟩⟩))
  refine ⟨.int .i64 r, by simp [results, Tryd.f23, go_sem], rfl, ?_⟩
  refine Below.setCell ?_ (by simp) _
  repeat (first | (with_reducible first | exact Below.refl _ _ | apply below_alloc | apply pw_below_drewN | apply below_drew1))
set_option maxRecDepth 100000 in
set_option maxHeartbeats 4000000 in
theorem nat_Cmp.calls_eq (A0 : Option Addr) (c0 : Nat) (l0 : List Int) (A1 : Option Addr) (c1 : Nat) (l1 : List Int) (w : World) (hr0 : Kd.C (Kd.int .u32) w A0 l0.length l0) (hc0 : l0.length ≤ c0) (hr1 : Kd.C (Kd.int .u32) w A1 l1.length l1) (hc1 : l1.length ≤ c1) (h : (Nums.may l0 && Nums.may l1) = true)
    (heq : l0.length = l1.length) (R : Int → Prop) (h0 : (∀ j, j < l0.length → ith l0 j = ith l1 j) → R 0)
    (h1 : ∀ j, j < l0.length → (∀ i, j < i → i < l0.length → ith l0 i = ith l1 i) → ith l0 j ≠ ith l1 j → R (if ith l0 j < ith l1 j then -1 else if ith l1 j < ith l0 j then 1 else 0)) :
    Calls Tryd.prog 23 #[.slice A0 l0.length c0, .slice A1 l1.length c1] w fun e w' => (∃ r, e = .returned (.int .i64 r) ∧ R r) ∧ Below w.heap.size w w' := by
  have HM := Aside0.mk (nat_may2.calls A0 A1 c0 c1 l0 l1 _ _ (w.heap.size + 2) (((w.alloc (.cells #[.slice A1 l1.length c1] 22)).alloc (.cells #[.int .i64 0] 3)).alloc (.cells #[.slice A0 l0.length c0, .slice A1 l1.length c1] 22)) (by have h_ := World.alloc_heap_new ((w.alloc (.cells #[.slice A1 l1.length c1] 22)).alloc (.cells #[.int .i64 0] 3)) (.cells #[.slice A0 l0.length c0, .slice A1 l1.length c1] 22); simpa using h_) (Kd.C_alloc (Kd.C_alloc (Kd.C_alloc hr0 _) _) _) (Kd.C_alloc (Kd.C_alloc (Kd.C_alloc hr1 _) _) _) hc0 hc1 (nat_May_eq l0) (nat_May_eq l1))
  rw [h] at HM
  have hl0 : l0.length ≤ 65536 := (Nums.may_iff.1 (by simpa using h : Nums.may l0 = true ∧ Nums.may l1 = true).1).1
  have HR0 := Aside0.mk hr0
  have HR1 := Aside0.mk hr1
  have H0 := Aside0.mk h0
  have H1 := Aside0.mk h1
  clear hr0 hc0 hr1 hc1 h h0 h1
  have hne1 : ((l0.length : Int) == (l1.length : Int)) = true := by simp; omega
  have hne2 : ((l0.length : Int) != (l1.length : Int)) = false := by simp; omega
  have HEQ := Aside0.mk heq
  clear heq
  refine (callsIn_wide (n := 3)).1 ?_
  refine callsIn_of_wp_marks Tryd.func23 rfl trivial ?_
  simp only [Tryd.ntmps23, List.size_toArray, List.length_cons, List.length_nil, Nat.reduceAdd, Nat.reduceSub, Array.replicate_succ, Array.replicate_zero, List.push_toArray, List.append_toArray, List.nil_append, List.cons_append]
  gi_wp2_with (first | (refine ⟨trivial, ?_⟩; gi_at_call 45; refine (callsIn_wide.2 HM.out).mono ?_; rintro e w' ⟨rfl, ⟨nd, rfl⟩⟩) | (refine ⟨trivial, ?_⟩; gi_at_call 47; refine (back.in_ Fence.wide _ trivial rfl _ _ _ _).mono ?_; rintro e w' ⟨rfl, rfl⟩))
  have bN := Boxed.new w 22 (.slice A1 l1.length c1)
  have bR := Boxed.new (w.alloc (.cells #[.slice A1 l1.length c1] 22)) 3 (.int .i64 0)
  have bN := bN.alloc (.cells #[.int .i64 0] 3)
  have bN := bN.alloc (.cells #[.slice A0 l0.length c0, .slice A1 l1.length c1] 22)
  have bR := bR.alloc (.cells #[.slice A0 l0.length c0, .slice A1 l1.length c1] 22)
  have bN := Boxed.drawn bN nd
  have bR := Boxed.drawn bR nd
  have bN := bN.alloc (.cells #[.slice A0 l0.length c0] 22)
  have bR := bR.alloc (.cells #[.slice A0 l0.length c0] 22)
  have bA := Boxed.new (World.drewN (((w.alloc (.cells #[.slice A1 l1.length c1] 22)).alloc (.cells #[.int .i64 0] 3)).alloc (.cells #[.slice A0 l0.length c0, .slice A1 l1.length c1] 22)) nd) 22 (.slice A0 l0.length c0)
  have HB0 : Below w.heap.size w ((World.drewN (((w.alloc (.cells #[.slice A1 l1.length c1] 22)).alloc (.cells #[.int .i64 0] 3)).alloc (.cells #[.slice A0 l0.length c0, .slice A1 l1.length c1] 22)) nd).alloc (.cells #[.slice A0 l0.length c0] 22)) := by
    repeat (first | exact Below.refl _ _ | apply below_alloc | apply pw_below_drewN)
  have hs3 : (World.drewN (((w.alloc (.cells #[.slice A1 l1.length c1] 22)).alloc (.cells #[.int .i64 0] 3)).alloc (.cells #[.slice A0 l0.length c0, .slice A1 l1.length c1] 22)) nd).heap.size = w.heap.size + 1 + 1 + 1 := by
    show (World.alloc _ _).heap.size = _
    simp only [World.size_alloc]
  rw [hs3] at bA
  simp only [World.size_alloc] at bN bR
  obtain ⟨W0, hW0⟩ : ∃ W0, ((World.drewN (((w.alloc (.cells #[.slice A1 l1.length c1] 22)).alloc (.cells #[.int .i64 0] 3)).alloc (.cells #[.slice A0 l0.length c0, .slice A1 l1.length c1] 22)) nd).alloc (.cells #[.slice A0 l0.length c0] 22)) = W0 := ⟨_, rfl⟩
  have hs0 : W0.heap.size = w.heap.size + 1 + 1 + 1 + 1 := by rw [← hW0, World.size_alloc, hs3]
  rw [hW0] at bN bR bA HB0 ⊢
  clear hW0
  have hl1 : l1.length ≤ 65536 := by have := HEQ.out; omega
  refine wpIn_rangeFunc_ownG rfl (by omega) (gf := 76) (lb := #[.pointer (some ⟨w.heap.size + 1 + 1 + 1, 0, none⟩)]) rfl trivial (enters_of Tryd.func76 (by kernel_rfl) rfl)
    (back.stops Fence.wide 2 trivial rfl (by omega) (w.heap.size + 1 + 1 + 1) w.heap.size A0 c0 l0 (by omega) w W0 (by omega) bA.cell HR0.out (Nat.le_refl _) HB0)
    nat_Kp.trans (nat_Kp.put (by omega) (by omega) (by omega)) (Below.refl _ _) (fun _ => rfl)
    (fun pre W => ((∀ i ∈ pre, ith l0 i.1 = ith l1 i.1) ∧ Boxed W w.heap.size 22 (.slice A1 l1.length c1) ∧ Boxed W (w.heap.size + 1) 3 (.int .i64 0) ∧ w.heap.size + 4 ≤ W.heap.size) ∧ Below w.heap.size w W)
    (fun c pre W => (c = .ret ∧ ∃ ini last, pre = ini ++ [last] ∧ (∀ i ∈ ini, ith l0 i.1 = ith l1 i.1) ∧ ith l0 last.1 ≠ ith l1 last.1 ∧ Boxed W (w.heap.size + 1) 3 (.int .i64 (if ith l0 last.1 < ith l1 last.1 then -1 else if ith l1 last.1 < ith l0 last.1 then 1 else 0))) ∧ Below w.heap.size w W)
    (OwnFrom.and (Own.from (fun s A B row hs hg hr => ⟨hs.1, Boxed.keeps hs.2.1 hg hr, Boxed.keeps hs.2.2.1 hg hr, Nat.le_trans hs.2.2.2 hg.size⟩) _) (ownFrom_below (Nat.le_refl _) (by omega)))
    (fun c => OwnFrom.and (Own.from (fun s A B row hs hg hr => by obtain ⟨hc, ini, last, e1, e2, e3, e4⟩ := hs; exact ⟨hc, ini, last, e1, e2, e3, Boxed.keeps e4 hg hr⟩) _) (ownFrom_below (Nat.le_refl _) (by omega)))
    ⟨⟨by simp, bN, bR, by omega⟩, HB0⟩
    (fun x => { tmps := #[.slice A0 l0.length c0, .slice A1 l1.length c1, undef, .pointer (some ⟨w.heap.size, 0, none⟩), .pointer (some ⟨w.heap.size + 1, 0, none⟩), .int .i64 (x.1 : Int), .int .u32 (ith l0 x.1), .slice A0 l0.length c0, .slice A1 l1.length c1, .slice (some ⟨w.heap.size + 1 + 1, 0, none⟩) 2 2, .bool true, .bool false, .slice A0 l0.length c0, .int .i64 l0.length, .slice A1 l1.length c1, .int .i64 l1.length, .bool false, undef, undef, undef, undef, undef, .slice A0 l0.length c0, .func (.func 76) #[] #[.pointer (some ⟨w.heap.size + 1 + 1 + 1, 0, none⟩)], .int .i64 (x.1 : Int), .int .u32 (ith l0 x.1), undef, undef, undef, undef, undef, undef, undef, undef, undef, undef, undef, undef], defers := [] }) ?assign ?body ?done ?stop
  case assign =>
    intro l x W K hK
    gi_wp2
    exact hK
  case body =>
    rintro l pre x W ⟨⟨hE, hN, hR, hsW⟩, hB⟩ hlt
    obtain ⟨ad, hA1, hc⟩ := Kd.at_int HR1.out (x.1 : Int) (by omega) (by have := x.2; have := HEQ.out; omega)
    have hca := pw_cell_below hB hc
    have hxl : (x.1 : Int) < l1.length := by have := x.2; have := HEQ.out; omega
    have hNc := hN.cell
    obtain ⟨X, hX⟩ : ∃ X, ith l0 x.1 = X := ⟨_, rfl⟩
    obtain ⟨Y, hY⟩ : ∃ Y, ith l1 x.1 = Y := ⟨_, rfl⟩
    have hrd : rd l1 (x.1 : Int) = Y := (rd_ith _ _).trans hY
    rw [hrd, Int.toNat_natCast] at hca
    obtain ⟨j, hj⟩ : ∃ j : Nat, x.1 = j := ⟨_, rfl⟩
    rw [hX, hj]
    rw [hj] at hca hxl
    have HX := Aside0.mk hX
    have HY := Aside0.mk hY
    subst hA1
    clear hc hrd hX hY hlt hj
    have hRc := hR.cell
    have hRf := hR.frozen
    by_cases hXY : X = Y
    · subst hXY
      gi_wp2
      exact ⟨KeepsFrom.refl _ _, nat_Kp.refl _ _ _ _, ⟨fun i hi => (List.mem_append.1 hi).elim (hE i) (fun e => by simp at e; subst e; exact HX.out.trans HY.out.symm), hN, hR, hsW⟩, hB⟩
    · obtain ⟨s, hs⟩ : ∃ s : Int, (if X < Y then -1 else if Y < X then 1 else 0) = s := ⟨_, rfl⟩
      have HC := Aside0.mk (by rw [cmp_uint32_eq, hs] : cmp_Compare_uint32.f X Y = some s)
      have HS := Aside0.mk hs
      clear hs
      have hne' : (X == Y) = false := by simpa using hXY
      gi_wp2_with (refine ⟨trivial, ?_⟩; gi_at_call 48; refine (CallsIn.inRound l (callsIn_wide.2 (cmp_Compare_uint32.calls _ _ _ _ HC.out))).mono ?_; rintro e w' ⟨rfl, ⟨nd2, rfl⟩⟩)
      refine ⟨((Tch.setCell (S := fun k => k = w.heap.size + 1) ((Tch.refl _ W).drewN nd2) (p := ⟨w.heap.size + 1, 0, none⟩) rfl _).others (by rintro k o rfl ho; rw [show W.heap[w.heap.size + 1]? = _ from hR] at ho; cases ho; rfl)).from _, ⟨rfl, pre, x, rfl, hE, ?_, ?_⟩, ?_⟩
      · rw [HX.out, HY.out]; exact hXY
      · rw [HX.out, HY.out, HS.out]; exact (Boxed.drawn hR nd2).set _
      · exact (pw_below_drewN hB nd2).setCell (p := ⟨w.heap.size + 1, 0, none⟩) (by simp) _
  case done =>
    rintro D ys W hD rfl ⟨⟨hE, hN, hR, hsW⟩, hB⟩ hK
    have hRc := hR.cell
    have hRf := hR.frozen
    gi_wp2
    have hK' := (KeepsOthers.setCell W ⟨w.heap.size + 1, 0, none⟩ (.int .i64 0)).same D _ hK rfl
    refine ⟨by simp, .inl ⟨_, _, rfl, run_takeDeferred hK', ?_⟩⟩
    have hR2 := (hR.set (.int .i64 0)).kept (grownBy_putObj' _ D (.deferred none)) (by simp; omega)
    have hc5 := hR2.cell
    refine ⟨.int .i64 0, ?_, ⟨0, rfl, H0.out fun j hj => hE ⟨j, hj⟩ ((mem_back_upto (Nat.le_refl _) _).2 (by omega))⟩, ?_⟩
    · simp [results, Tryd.f23, go_sem, hc5]
    · exact (hB.setCell (p := ⟨w.heap.size + 1, 0, none⟩) (by simp) _).grown (grownBy_putObj' _ D _) (by have := hB.size; simp; omega) (fun k e => by cases e; omega)
  case stop =>
    rintro D c pre W hD ⟨k, hk, rfl⟩ ⟨⟨rfl, ini, last, e1, e2, e3, hR⟩, hB⟩ hK
    gi_wp2
    refine ⟨by simp, .inl ⟨_, _, rfl, run_takeDeferred hK, ?_⟩⟩
    have hR2 := hR.kept (grownBy_putObj' _ D (.deferred none)) (by simp; omega)
    have hc5 := hR2.cell
    obtain ⟨k', rfl⟩ : ∃ k', k = k' + 1 := by
      cases k with
      | zero => exact absurd (congrArg List.length e1) (by simp [back_upto])
      | succ k' => exact ⟨k', rfl⟩
    rw [back_upto_succ _ _ (by omega)] at e1
    obtain ⟨rfl, e5⟩ := List.append_inj' e1 rfl
    obtain rfl : (⟨l0.length - 1 - k', by omega⟩ : Fin l0.length) = last := by simpa using e5
    refine ⟨.int .i64 _, ?_, ⟨_, rfl, H1.out (l0.length - 1 - k') (by omega) (fun i h1 h2 => e2 ⟨i, h2⟩ ((mem_back_upto (by omega) _).2 (by simp only; omega))) e3⟩, hB.grown (grownBy_putObj' _ D _) (by have := hB.size; omega) (fun k e => by cases e; omega)⟩
    simp [results, Tryd.f23, go_sem, hc5]
theorem nat_Cmp.calls (A0 : Option Addr) (c0 : Nat) (l0 : List Int) (A1 : Option Addr) (c1 : Nat) (l1 : List Int) (r : Int) (w : World) (hr0 : Kd.C (Kd.int .u32) w A0 l0.length l0) (hc0 : l0.length ≤ c0) (hr1 : Kd.C (Kd.int .u32) w A1 l1.length l1) (hc1 : l1.length ≤ c1) (h : nat_Cmp.f l0 l1 = some r) :
    Calls Tryd.prog 23 #[.slice A0 l0.length c0, .slice A1 l1.length c1] w fun e w' => e = .returned (.int .i64 r) ∧ Below w.heap.size w w' := by
  unfold nat_Cmp.f at h
  split at h
  case isFalse => cases h
  case isTrue hr =>
  obtain ⟨ha, hb⟩ := Bool.and_eq_true_iff.1 hr
  obtain rfl := Option.some.inj h
  cases hm : Nums.may l0 && Nums.may l1 with
  | false =>
    rw [if_neg (by simp)]
    exact nat_Cmp.calls_no A0 c0 l0 A1 c1 l1 w hr0 hc0 hr1 hc1 hm
  | true =>
    rw [if_pos rfl]
    obtain ⟨hm0, hm1⟩ := Bool.and_eq_true_iff.1 hm
    by_cases hl : l0.length = l1.length
    · refine (nat_Cmp.calls_eq A0 c0 l0 A1 c1 l1 w hr0 hc0 hr1 hc1 hm hl (fun s => s = if Nums.val l0 < Nums.val l1 then -1 else if Nums.val l1 < Nums.val l0 then 1 else 0) ?_ ?_).mono ?_
      · intro he
        rw [nat_same_ith hl he]
        simp
      · intro j hj habove hne
        rcases Int.lt_trichotomy (ith l0 j) (ith l1 j) with h1 | h1 | h1
        · have h2 := nat_val_lt_at l0 l1 hl ha hb j hj habove h1
          simp [h1, h2]
        · exact absurd h1 hne
        · have h2 := nat_val_lt_at l1 l0 hl.symm hb ha j (by omega) (fun i a b => (habove i a (by omega)).symm) h1
          rw [if_neg (by omega), if_pos h1, if_neg (by omega), if_pos h2]
      · rintro e w' ⟨⟨r, rfl, rfl⟩, hB⟩
        exact ⟨rfl, hB⟩
    · have hv : (if Nums.val l0 < Nums.val l1 then (-1 : Int) else if Nums.val l1 < Nums.val l0 then 1 else 0) = if (l0.length : Int) < l1.length then -1 else if (l1.length : Int) < l0.length then 1 else 0 := by
        rcases Nat.lt_trichotomy l0.length l1.length with h1 | h1 | h1
        · have h2 := nat_val_lt_len ha hb hm1 h1
          rw [if_pos h2, if_pos (by omega)]
        · exact absurd h1 hl
        · have h2 := nat_val_lt_len hb ha hm0 h1
          rw [if_neg (by omega), if_pos h2, if_neg (by omega), if_pos (by omega)]
      rw [hv]
      exact nat_Cmp.calls_len A0 c0 l0 A1 c1 l1 w hr0 hc0 hr1 hc1 hm hl _ (cmp_int_eq _ _)
end

/-! ### bits_Div32: function 49 -/
theorem u32_wrap (x : Int) : IntKind.u32.wrap x = x % 4294967296 := by rfl
theorem u64_wraps (n : Int) (h₀ : 0 ≤ n) (h₁ : n < 2 ^ 64) : IntKind.u64.wrap n = n := by rw [u64_wrap]; omega
/-- Two limbs, the high one and the low one. -/
theorem u64_join {x y : Int} (hx : 0 ≤ x) (hx1 : x < 4294967296) (hy : 0 ≤ y) (hy1 : y < 4294967296) : Go.bits .or .u64 (x * 4294967296) y = x * 4294967296 + y :=
  bits_join .u64 64 (by decide) u64_wraps 32 (x * 4294967296) y (by omega) (by omega) (by omega) hy (by omega) (by omega)
def bits_Div32.f (a0 a1 a2 : Int) : Option (Int × Int) := if 0 ≤ a0 ∧ 0 ≤ a1 ∧ a1 < 4294967296 ∧ a0 < a2 ∧ a2 < 4294967296 then some ((a0 * 4294967296 + a1) / a2, (a0 * 4294967296 + a1) % a2) else none
theorem bits_Div32.calls (a0 : Int) (a1 : Int) (a2 : Int) (r1 : Int) (r2 : Int) (w : World) (h : bits_Div32.f a0 a1 a2 = some (r1, r2)) :
    Calls Tryd.prog 49 #[.int .u32 a0, .int .u32 a1, .int .u32 a2] w fun e w' => e = .returned (.tuple #[.int .u32 r1, .int .u32 r2]) ∧ Drawn0 w w' := by
  unfold bits_Div32.f at h
  split at h
  case isFalse => cases h
  case isTrue hb =>
  obtain ⟨h0, h1, h2, h3, h4⟩ := hb
  simp only [Option.some.injEq, Prod.mk.injEq] at h
  obtain ⟨rfl, rfl⟩ := h
  have z1 : a2 ≠ 0 := by omega
  have z2 : (a2 == 0) = false := by simpa using z1
  have z3 : (a2 != 0) = true := by simpa using z1
  have z4 : decide (a2 ≤ a0) = false := by simp; omega
  have z5 : decide (a2 = 0) = false := by simpa using z1
  go_enter Tryd.func49, Tryd.ntmps49
  go_wp2
  rw [u64_join h0 (by omega) h1 h2]
  obtain ⟨z, hz⟩ : ∃ z, a0 * 4294967296 + a1 = z := ⟨_, rfl⟩
  rw [hz]
  have hz0 : 0 ≤ z := by omega
  have hq0 : 0 ≤ z / a2 := Int.ediv_nonneg hz0 (by omega)
  have hz1 : z < a2 * 4294967296 := by
    have k1 : z < (a0 + 1) * 4294967296 := by omega
    have k2 : (a0 + 1) * 4294967296 ≤ a2 * 4294967296 := Int.mul_le_mul_of_nonneg_right (by omega) (by decide)
    omega
  have hq1 : z / a2 < 4294967296 := Int.ediv_lt_of_lt_mul (by omega) (by rw [Int.mul_comm]; exact hz1)
  have hr0 : 0 ≤ z % a2 := Int.emod_nonneg _ z1
  have hr1 : z % a2 < a2 := Int.emod_lt_of_pos _ (by omega)
  have e1 : z.tdiv a2 = z / a2 := Int.tdiv_eq_ediv_of_nonneg hz0
  have e2 : z.tmod a2 = z % a2 := Int.tmod_eq_emod_of_nonneg hz0
  go_quiet (fail)
  go_wp2
  go_ret2
  exact ⟨by rw [hz]; rfl, ⟨_, rfl⟩⟩

end Go.Proofs.YtjgloepeogelnaaDoor.Pr
