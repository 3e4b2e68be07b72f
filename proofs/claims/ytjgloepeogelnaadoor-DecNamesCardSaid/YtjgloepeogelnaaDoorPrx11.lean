/- Functions with the same answers as the Go functions of the program, with the proofs that the program comes to just these answers; no condition but those that each theorem names. (Laid by this work's own program mk.py out of the translation.) -/
import Derived.Test.YtjgloepeogelnaaDoorPrx0
import Derived.Test.YtjgloepeogelnaaDoorPrx1
import Derived.Test.YtjgloepeogelnaaDoorPrx3
import Derived.Test.YtjgloepeogelnaaDoorPrx5
import Derived.Test.YtjgloepeogelnaaDoorPrx10
namespace Go.Proofs.YtjgloepeogelnaaDoor.Pr
open Go.RowKit Go.Proofs.YtjgloepeogelnaaDoorW.PrintWords Go.Proofs.YtjgloepeogelnaaDoorW.PrintLast Go.Proofs.YtjgloepeogelnaaDoorW.PrintMore
attribute [local go_sem] max2_int min2_int max_two min_two max_three min_three max_four min_four   -- for this text's walks alone
set_option linter.unusedVariables false
set_option linter.unusedSimpArgs false

/-! ### div_cut: function 50 -/
def div_cut.l0 : Nat → List Int → Option (List Int)
  | 0, _ => none
  | k + 1, x0 => if (x0.length : Int) > 0 then (if 0 ≤ (wrap64 ((x0.length : Int) - 1)) then (if (wrap64 ((x0.length : Int) - 1)) < (x0.length : Int) then (if (rd x0 (wrap64 ((x0.length : Int) - 1))) = 0 then (if (wrap64 ((x0.length : Int) - 1)) ≤ (x0.length : Int) then (div_cut.l0 k (x0.take ((wrap64 ((x0.length : Int) - 1)) : Int).toNat)) else (none)) else (some x0)) else (none)) else (none)) else (some x0)
def div_cut.f (k : Nat) (l0 : List Int) : Option (List Int) := div_cut.l0 k l0
theorem div_cut.mono_l : ∀ k, (∀ y0, LeO (div_cut.l0 k y0) (div_cut.l0 (k + 1) y0))
  | 0 => fun _ r h => by simp [div_cut.l0] at h
  | k + 1 => by
    have ih0 := div_cut.mono_l k
    · intro y0
      unfold div_cut.l0
      repeat' first
      | (with_reducible exact ih0 _)
      | (with_reducible exact LeO.refl _)
      | (with_reducible exact LeO.none _)
      | (with_reducible refine LeO.ite ?_ ?_)
      | (with_reducible refine LeO.bind ?_ (fun _ => ?_))
      | exact ih0 _
      | exact LeO.none _
      | refine LeO.ite ?_ ?_
      | refine LeO.bind ?_ (fun _ => ?_)
theorem div_cut.mono : ∀ a0 k, LeO (div_cut.f k a0) (div_cut.f (k + 1) a0) := by
  intro a0 k
  have ih0 := div_cut.mono_l k
  unfold div_cut.f
  repeat' first
      | (with_reducible exact ih0 _)
      | (with_reducible exact LeO.refl _)
      | (with_reducible exact LeO.none _)
      | (with_reducible refine LeO.ite ?_ ?_)
      | (with_reducible refine LeO.bind ?_ (fun _ => ?_))
      | exact ih0 _
      | exact LeO.none _
      | refine LeO.ite ?_ ?_
      | refine LeO.bind ?_ (fun _ => ?_)
set_option maxHeartbeats 8000000 in
set_option maxRecDepth 100000 in
theorem div_cut.calls (k : Nat) (P0_ : Nat → Prop) (u9000_ : Value) (l0 : List Int) (r : List Int) (w0 w : World) (hB : Below w0.heap.size w0 w) (ho0 : Kd.R (Kd.int .u32) 39 w w0.heap.size P0_ u9000_ l0) (h : div_cut.f k l0 = some r) :
    Calls Tryd.prog 50 #[u9000_] w fun e w' => ∃ v0_ : Value, e = .returned (v0_) ∧ Kd.R (Kd.int .u32) 39 w' w0.heap.size (fun k_ => (P0_ k_ ∨ w.heap.size ≤ k_)) v0_ r ∧ Below w0.heap.size w0 w' ∧ Kept w w' (fun k_ => P0_ k_) := by
  have HO0 := Aside0.mk (show Kd.R (Kd.int .u32) 39 w w0.heap.size (fun k_ => (P0_ k_ ∨ w.heap.size ≤ k_)) u9000_ l0 from Kd.R_mono ho0 (fun k_ hk => (.inl hk)))
  have HK := Aside0.mk (Kept.refl w (fun k_ => P0_ k_))
  have HW0 := Aside0.mk hB.size
  have HB := Aside0.mk hB
  clear hB
  have H : (div_cut.l0 k l0) = some r := h
  clear h
  have H' := Aside0.mk H
  clear H
  go_enter Tryd.func50, Tryd.ntmps50
  go_wp2
  go_loopg [0] k (fun kq v0 w' => ∃ (x0_1 : List Int), Aside0 (div_cut.l0 kq x0_1 = some r) ∧ Aside0 (kq ≤ k) ∧ Aside0 (Kd.R (Kd.int .u32) 39 w' w0.heap.size (fun k_ => (P0_ k_ ∨ w.heap.size ≤ k_)) v0 x0_1) ∧ Aside0 (Kept w w' (fun k_ => P0_ k_)) ∧ Aside0 (Below w0.heap.size w0 w'))
  case atStart => exact ⟨(l0), H', ⟨Nat.le_refl _⟩, ⟨by (with_reducible repeat (first | apply Kd.R_alloc | apply Kd.R_drewN | apply Kd.R_drew)); exact HO0.out⟩, ⟨by repeat (first | (with_reducible first | exact HK.out | apply Kept.alloc | apply Kept.drewN | apply Kept.drew) | exact HK.out)⟩, ⟨by repeat (first | (with_reducible first | exact HB.out | apply below_alloc | apply pw_below_drewN | apply below_drew1) | exact HB.out)⟩⟩
  case round =>
    clear H'
    obtain ⟨x0_1, HA, HK1, HO_0, HK, HB⟩ := hrel
    cases gk with
    | zero => exact absurd HA.out (by simp [div_cut.l0])
    | succ k1 =>
      have H := HA.out
      clear HA
      simp only [div_cut.l0] at H
      by_cases c2 : (x0_1.length : Int) > 0
      · rw [if_pos c2] at H
        have c2b0 : decide (0 < (x0_1.length : Int)) = true := decide_eq_true c2
        have c2b1 : decide (0 < x0_1.length) = true := decide_eq_true (by omega)
        clear c2
        obtain ⟨ji3, hji3⟩ : ∃ j_ : Int, (wrap64 ((x0_1.length : Int) - 1)) = j_ := ⟨_, rfl⟩
        replace H : (if 0 ≤ (ji3) then (if (ji3) < (x0_1.length : Int) then (if (rd x0_1 (ji3)) = 0 then (if (ji3) ≤ (x0_1.length : Int) then (div_cut.l0 k1 (x0_1.take ((ji3) : Int).toNat)) else (none)) else (some x0_1)) else (none)) else (none)) = some r := by first | (rw [hji3] at H; exact H) | (simp only [hji3] at H ⊢; exact H)
        have hji3w : (IntKind.i64.wrap ((x0_1.length : Int) - 1)) = ji3 := (i64_w _).trans hji3
        by_cases c4 : 0 ≤ (ji3)
        · rw [if_pos c4] at H
          have c4b0 : decide (0 ≤ (ji3)) = true := decide_eq_true c4
          clear c4
          by_cases c5 : (ji3) < (x0_1.length : Int)
          · rw [if_pos c5] at H
            have c5b0 : decide ((ji3) < (x0_1.length : Int)) = true := decide_eq_true c5
            clear c5
            by_cases c6 : (rd x0_1 (ji3)) = 0
            · rw [if_pos c6] at H
              have c6b0 : ((rd x0_1 (ji3)) == 0) = true := beq_iff_eq.mpr c6
              have c6b1 : ((rd x0_1 (ji3)) != 0) = false := bne_eq_false_iff_eq.mpr c6
              clear c6
              by_cases c7 : (ji3) ≤ (x0_1.length : Int)
              · rw [if_pos c7] at H
                have c7b0 := eq_true c7
                have c7b1 : decide ((ji3) ≤ (x0_1.length : Int)) = true := decide_eq_true c7
                clear c7
                obtain ⟨y206, hy206⟩ : ∃ y_ : List Int, y_ = (x0_1.take ((ji3) : Int).toNat) := ⟨_, rfl⟩
                replace H : (div_cut.l0 k1 y206) = some r := by first | (rw [hy206]; with_reducible exact H) | (have H2_ := (Option.bind_some _ _).symm.trans H; rw [hy206]; with_reducible exact H2_) | (have H2_ := (Option.bind_some _ _).symm.trans H; with_reducible exact H2_) | with_reducible exact H | (rw [hy206]; exact H) | exact H
                have Ny206 := Aside0.mk hy206
                clear hy206
                have H' := Aside0.mk H
                clear H
                obtain ⟨Ao8, co8, eo8⟩ := Kd.R_slice HO_0.out
                subst eo8
                have p205 : 0 ≤ ((ji3) : Int) := of_decide_eq_true (by first | (with_reducible assumption) | assumption)
                have q205 : (ji3) < (x0_1.length : Int) := of_decide_eq_true (by first | (with_reducible assumption) | assumption)
                obtain ⟨ad205, e205, hx205_0⟩ := Kd.at_int (Kd.R_reads' HO_0.out).2.2 (ji3) p205 q205
                cases e205
                replace p205 := eq_true p205
                replace q205 := eq_true q205
                have q9 : ((ji3) : Int) ≤ ((x0_1.length : Int) : Int) := of_decide_eq_true (by first | (with_reducible assumption) | assumption)
                obtain ⟨i09, hi09, _, hsz9, _⟩ := info_parts info39
                have hcut9 := cut_to (P := Tryd.prog) 22 39 .i64 Tryd.underlying22 hi09 (some ad205) x0_1.length co8 (ji3) (of_decide_eq_true (by first | (with_reducible assumption) | assumption)) q9 (Kd.R_reads' HO_0.out).2.1
                have hr9 := Kd.R_take (m := ((ji3) : Int).toNat) HO_0.out (by omega)
                have hy9 : y206.length = ((ji3) : Int).toNat := (by rw [Ny206.out, List.length_take]; omega)
                rw [← Ny206.out] at hr9
                rw [← hy9] at hr9 hcut9
                clear hy9 hi09 hsz9 HO_0
                have HO208 := Aside0.mk hr9
                clear hr9
                replace q9 := eq_true q9
                go_wp2
                go_roundg k1
                case measure => have := HK1.out; omega
                case rel => exact ⟨(y206), H', ⟨by have := HK1.out; omega⟩, ⟨by (with_reducible repeat (first | apply Kd.R_alloc | apply Kd.R_drewN | apply Kd.R_drew)); exact HO208.out⟩, ⟨by repeat (first | (with_reducible first | exact HK.out | apply Kept.alloc | apply Kept.drewN | apply Kept.drew) | exact HK.out)⟩, ⟨by repeat (first | (with_reducible first | exact HB.out | apply below_alloc | apply pw_below_drewN | apply below_drew1) | exact HB.out)⟩⟩
              · rw [if_neg c7] at H
                exact absurd H (by simp)
            · rw [if_neg c6] at H
              have c6b0 : ((rd x0_1 (ji3)) == 0) = false := beq_eq_false_iff_ne.mpr c6
              have c6b1 : ((rd x0_1 (ji3)) != 0) = true := bne_iff_ne.mpr c6
              obtain rfl := Option.some.inj H
              obtain ⟨Ao10, co10, eo10⟩ := Kd.R_slice HO_0.out
              subst eo10
              have p205 : 0 ≤ ((ji3) : Int) := of_decide_eq_true (by first | (with_reducible assumption) | assumption)
              have q205 : (ji3) < (x0_1.length : Int) := of_decide_eq_true (by first | (with_reducible assumption) | assumption)
              obtain ⟨ad205, e205, hx205_0⟩ := Kd.at_int (Kd.R_reads' HO_0.out).2.2 (ji3) p205 q205
              cases e205
              replace p205 := eq_true p205
              replace q205 := eq_true q205
              go_wp2
              go_ret
              exact ⟨_, by first | rfl | (simp [errW_none, errW_some] <;> rfl) | (simp only [← hji3]; first | rfl | (simp [errW_none, errW_some] <;> rfl)) | (simp [*, errW_none, errW_some] <;> rfl), by (with_reducible repeat (first | apply Kd.R_alloc | apply Kd.R_drewN | apply Kd.R_drew)); exact HO_0.out, by repeat (first | (with_reducible first | exact HB.out | apply below_alloc | apply pw_below_drewN | apply below_drew1) | exact HB.out), by repeat (first | (with_reducible first | exact HK.out | apply Kept.alloc | apply Kept.drewN | apply Kept.drew) | exact HK.out)⟩
          · rw [if_neg c5] at H
            exact absurd H (by simp)
        · rw [if_neg c4] at H
          exact absurd H (by simp)
      · rw [if_neg c2] at H
        have c2b0 : decide (0 < (x0_1.length : Int)) = false := decide_eq_false c2
        have c2b1 : decide (0 < x0_1.length) = false := decide_eq_false (by omega)
        clear c2
        obtain rfl := Option.some.inj H
        obtain ⟨Ao11, co11, eo11⟩ := Kd.R_slice HO_0.out
        subst eo11
        go_wp2
        go_ret
        exact ⟨_, by first | rfl | (simp [errW_none, errW_some] <;> rfl) | (simp [*, errW_none, errW_some] <;> rfl), by (with_reducible repeat (first | apply Kd.R_alloc | apply Kd.R_drewN | apply Kd.R_drew)); exact HO_0.out, by repeat (first | (with_reducible first | exact HB.out | apply below_alloc | apply pw_below_drewN | apply below_drew1) | exact HB.out), by repeat (first | (with_reducible first | exact HK.out | apply Kept.alloc | apply Kept.drewN | apply Kept.drew) | exact HK.out)⟩
theorem div_cut_ev (d : Nat) : ∀ (l : List Int), l.length = d → d ≤ 70368744177664 → Nums.rng l = true → Nums.Ev (fun k => div_cut.l0 k l) (Nums.toL (Nums.val l)) := by
  induction d with
  | zero =>
    intro l hl _ _
    obtain rfl : l = [] := List.eq_nil_of_length_eq_zero hl
    refine Nums.Ev.now fun k => ?_
    show div_cut.l0 (k + 1) [] = some (Nums.toL 0)
    rw [Nums.toL_zero]
    rfl
  | succ d ih =>
    intro l hl hd hr
    have hne : l ≠ [] := fun e => by rw [e] at hl; cases hl
    have hp : (l.length : Int) > 0 := by omega
    by_cases h0 : l.getLast hne = 0
    · have e : l = l.take (l.length - 1) ++ [0] := by
        rw [← List.dropLast_eq_take, ← h0]
        exact (List.dropLast_concat_getLast hne).symm
      have hv : Nums.val l = Nums.val (l.take (l.length - 1)) := by
        conv => lhs; rw [e]
        exact Nums.val_snoc_zero _
      have hr' : Nums.rng (l.take (l.length - 1)) = true := by rw [e] at hr; exact (Nums.rng_append.1 hr).1
      rw [hv]
      refine (ih (l.take (l.length - 1)) (by rw [List.length_take]; omega) (by omega) hr').succ fun k => ?_
      simp only [div_cut.l0]
      rw [if_pos hp, wrap64_len _ (by omega), if_pos (by omega), if_pos (by omega), rd_last l hne, if_pos h0, if_pos (by omega), show ((l.length : Int) - 1).toNat = l.length - 1 by omega]
    · have ht : Nums.top l = true := by simp [Nums.top, List.getLast?_eq_some_getLast hne, h0]
      refine Nums.Ev.now fun k => ?_
      simp only [div_cut.l0]
      rw [if_pos hp, wrap64_len _ (by omega), if_pos (by omega), if_pos (by omega), rd_last l hne, if_neg h0, Nums.toL_val hr ht]

/-! ### div_Small: function 24 -/
def div_Small.l0 : Nat → List Int → Int → List Int → Int → Int → Option (List Int × Int × Int)
  | 0, _, _, _, _, _ => none
  | k + 1, x0, x1, x4, x5, x7 => if x7 ≥ 0 then (if 0 ≤ x7 then (if x7 < (x0.length : Int) then ((bits_Div32.f x5 (rd x0 x7) x1).bind fun bt214 => (if x7 < (x4.length : Int) then (div_Small.l0 k x0 x1 (x4.set (x7 : Int).toNat bt214.1) bt214.2 (wrap64 (x7 - 1))) else (none))) else (none)) else (none)) else ((div_cut.f k x4).bind fun t217 => (some (t217, x5, 0)))
def div_Small.f (k : Nat) (l0 : List Int) (a1 : Int) : Option (List Int × Int × Int) := (nat_May.f l0).bind fun t209 => (if t209 = true then (if a1 = 0 then (some (([] : List Int), 0, 41)) else (if 0 ≤ (l0.length : Int) then (if ((l0.length : Int) : Int).toNat ≤ 70368744177664 then (div_Small.l0 k l0 a1 (List.replicate ((l0.length : Int) : Int).toNat 0) 0 (wrap64 ((l0.length : Int) - 1))) else (none)) else (none))) else (some (([] : List Int), 0, 4)))
theorem div_Small.mono_l : ∀ k, (∀ y0 y1 y2 y3 y4, LeO (div_Small.l0 k y0 y1 y2 y3 y4) (div_Small.l0 (k + 1) y0 y1 y2 y3 y4))
  | 0 => fun _ _ _ _ _ r h => by simp [div_Small.l0] at h
  | k + 1 => by
    have ih0 := div_Small.mono_l k
    · intro y0 y1 y2 y3 y4
      unfold div_Small.l0
      repeat' first
      | (with_reducible exact ih0 _ _ _ _ _)
      | (with_reducible exact div_cut.mono _ _)
      | (with_reducible exact LeO.refl _)
      | (with_reducible exact LeO.none _)
      | (with_reducible refine LeO.ite ?_ ?_)
      | (with_reducible refine LeO.bind ?_ (fun _ => ?_))
      | exact ih0 _ _ _ _ _
      | exact div_cut.mono _ _
      | exact LeO.none _
      | refine LeO.ite ?_ ?_
      | refine LeO.bind ?_ (fun _ => ?_)
theorem div_Small.mono : ∀ a0 a1 k, LeO (div_Small.f k a0 a1) (div_Small.f (k + 1) a0 a1) := by
  intro a0 a1 k
  have ih0 := div_Small.mono_l k
  unfold div_Small.f
  repeat' first
      | (with_reducible exact ih0 _ _ _ _ _)
      | (with_reducible exact div_cut.mono _ _)
      | (with_reducible exact LeO.refl _)
      | (with_reducible exact LeO.none _)
      | (with_reducible refine LeO.ite ?_ ?_)
      | (with_reducible refine LeO.bind ?_ (fun _ => ?_))
      | exact ih0 _ _ _ _ _
      | exact div_cut.mono _ _
      | exact LeO.none _
      | refine LeO.ite ?_ ?_
      | refine LeO.bind ?_ (fun _ => ?_)
set_option maxHeartbeats 8000000 in
set_option maxRecDepth 100000 in
theorem div_Small.calls (k : Nat) (A0 : Option Addr) (c0 : Nat) (l0 : List Int) (a1 : Int) (r1 : List Int) (r2 : Int) (r3 : Int) (w : World) (hr0 : Kd.C (Kd.int .u32) w A0 l0.length l0) (hc0 : l0.length ≤ c0) (h : div_Small.f k l0 a1 = some (r1, r2, r3)) :
    Calls Tryd.prog 24 #[.slice A0 l0.length c0, .int .u32 a1] w fun e w' => ∃ v0_ : Value, e = .returned (.tuple #[v0_, .int .u32 r2, .int .i64 r3]) ∧ Kd.R (Kd.int .u32) 39 w' w.heap.size (fun _ => True) v0_ r1 ∧ Below w.heap.size w w' := by
  have HR0 := Aside0.mk hr0
  have HC0 := Aside0.mk hc0
  clear hr0 hc0
  have HB := Aside0.mk (Below.refl w.heap.size w)
  have H : ((nat_May.f l0).bind fun t209 => (if t209 = true then (if a1 = 0 then (some (([] : List Int), 0, 41)) else (if 0 ≤ (l0.length : Int) then (if ((l0.length : Int) : Int).toNat ≤ 70368744177664 then (div_Small.l0 k l0 a1 (List.replicate ((l0.length : Int) : Int).toNat 0) 0 (wrap64 ((l0.length : Int) - 1))) else (none)) else (none))) else (some (([] : List Int), 0, 4)))) = some (r1, r2, r3) := h
  clear h
  replace H := Option.bind_eq_some_iff.mp H
  obtain ⟨t209, A30, H⟩ := H
  replace H : (if t209 = true then (if a1 = 0 then (some (([] : List Int), 0, 41)) else (if 0 ≤ (l0.length : Int) then (if ((l0.length : Int) : Int).toNat ≤ 70368744177664 then (div_Small.l0 k l0 a1 (List.replicate ((l0.length : Int) : Int).toNat 0) 0 (wrap64 ((l0.length : Int) - 1))) else (none)) else (none))) else (some (([] : List Int), 0, 4))) = some (r1, r2, r3) := H
  have A3 := Aside0.mk A30
  clear A30
  by_cases c4 : t209 = true
  · subst c4
    have H1 : (if a1 = 0 then (some (([] : List Int), 0, 41)) else (if 0 ≤ (l0.length : Int) then (if ((l0.length : Int) : Int).toNat ≤ 70368744177664 then (div_Small.l0 k l0 a1 (List.replicate ((l0.length : Int) : Int).toNat 0) 0 (wrap64 ((l0.length : Int) - 1))) else (none)) else (none))) = some (r1, r2, r3) := by rw [if_pos rfl] at H; exact H
    clear H
    have H := H1
    clear H1
    by_cases c5 : a1 = 0
    · rw [if_pos c5] at H
      have c5b0 : (a1 == 0) = true := beq_iff_eq.mpr c5
      have c5b1 : (a1 != 0) = false := bne_eq_false_iff_eq.mpr c5
      clear c5
      simp only [Option.some.injEq, Prod.mk.injEq] at H
      obtain ⟨rfl, rfl, rfl⟩ := H
      go_enter Tryd.func24, Tryd.ntmps24
      go_wp2_with (first | ((with_reducible refine gate_callee (f := 22) rfl ?_); refine goesL_ (some 10) rfl rfl Tryd.func22 (by kernel_rfl) rfl #[.slice A0 l0.length c0] rfl (by (try simp only [List.map_toArray, List.map_cons, List.map_nil]); first | done | rfl | (simp only [List.length_drop, List.length_take]; rfl)) ?_; (with_reducible refine (nat_May.calls _ _ l0 true _ ?side1 ?side2 A3.out).mono ?_); (case side1 => repeat (first | exact HR0.out | (with_reducible refine Kd.C_alloc ?_ _) | (with_reducible refine Kd.C_drewN ?_ _) | (with_reducible refine Kd.C_drew ?_))); (case side2 => exact HC0.out); rintro e w' ⟨rfl, ⟨nd, rfl⟩⟩; refine ⟨_, rfl, ?_⟩))
      go_ret3
      exact ⟨_, by first | rfl | (simp [errW_none, errW_some] <;> rfl) | (simp [*, errW_none, errW_some] <;> rfl), by first | exact Kd.R_nil _ _ _ _ _ | exact Kd.N_nil _ _ _ _ _ | exact Kd.V_nil _ _ _ _ _ | exact Kd.Q_nil _ _ _ _ _ | exact Kd.S_nil _ _ _ _ _, by repeat (first | (with_reducible first | exact HB.out | apply below_alloc | apply pw_below_drewN | apply below_drew1) | exact HB.out)⟩
    · rw [if_neg c5] at H
      have c5b0 : (a1 == 0) = false := beq_eq_false_iff_ne.mpr c5
      have c5b1 : (a1 != 0) = true := bne_iff_ne.mpr c5
      by_cases c6 : 0 ≤ (l0.length : Int)
      · rw [if_pos c6] at H
        have c6b0 := eq_true c6
        have c6b1 : decide (0 ≤ (l0.length : Int)) = true := decide_eq_true c6
        clear c6
        by_cases c7 : ((l0.length : Int) : Int).toNat ≤ 70368744177664
        · rw [if_pos c7] at H
          have c7b0 := eq_true c7
          have c7b1 : decide (((l0.length : Int) : Int).toNat ≤ 70368744177664) = true := decide_eq_true c7
          clear c7
          obtain ⟨y210, hy210⟩ : ∃ y_ : List Int, y_ = (List.replicate ((l0.length : Int) : Int).toNat 0) := ⟨_, rfl⟩
          replace H : (div_Small.l0 k l0 a1 y210 0 (wrap64 ((l0.length : Int) - 1))) = some (r1, r2, r3) := by first | (rw [hy210]; with_reducible exact H) | (have H2_ := (Option.bind_some _ _).symm.trans H; rw [hy210]; with_reducible exact H2_) | (have H2_ := (Option.bind_some _ _).symm.trans H; with_reducible exact H2_) | with_reducible exact H | (rw [hy210]; exact H) | exact H
          have Ny210 := Aside0.mk hy210
          clear hy210
          have H' := Aside0.mk H
          clear H
          go_enter Tryd.func24, Tryd.ntmps24
          go_wp2_with (first | ((with_reducible refine gate_callee (f := 22) rfl ?_); refine goesL_ (some 10) rfl rfl Tryd.func22 (by kernel_rfl) rfl #[.slice A0 l0.length c0] rfl (by (try simp only [List.map_toArray, List.map_cons, List.map_nil]); first | done | rfl | (simp only [List.length_drop, List.length_take]; rfl)) ?_; (with_reducible refine (nat_May.calls _ _ l0 true _ ?side1 ?side2 A3.out).mono ?_); (case side1 => repeat (first | exact HR0.out | (with_reducible refine Kd.C_alloc ?_ _) | (with_reducible refine Kd.C_drewN ?_ _) | (with_reducible refine Kd.C_drew ?_))); (case side2 => exact HC0.out); rintro e w' ⟨rfl, ⟨nd, rfl⟩⟩; refine ⟨_, rfl, ?_⟩) | ((with_reducible refine gate_dst (N := 17) rfl ?_); refine Kd.R_make (Kd.int .u32) _ 39 rfl (N := 17) rfl 22 _ _ rfl (l0.length : Int) rfl rfl Tryd.underlying22 (.int .u32 0) 4 info39 rfl (by decide) (by omega) 0 (ok := fun _ => True) (okp := fun _ => True) rfl (fun _ hk => hk) trivial (of_decide_eq_true (by first | (with_reducible assumption) | assumption)) (Nat.le_trans (Nat.mul_le_mul_right _ (of_decide_eq_true (by first | (with_reducible assumption) | assumption) : (l0.length : Int).toNat ≤ 70368744177664)) (by omega)) (Below.refl _ _) (Nat.le_refl _) ?_; intro v211 w8 ho9 hb hg_ hnew_; clear hg_ hnew_; (first | rw [← Ny210.out] at ho9 | (simp only [Int.reduceToNat] at ho9; rw [← Ny210.out] at ho9)); have n0_ := Aside0.mk (Kd.R_lower ho9 (below_size (by repeat (first | (with_reducible first | exact HB.out | apply below_alloc | apply pw_below_drewN | apply below_drew1) | exact HB.out)))); have n1_ := Aside0.mk (below_step (by repeat (first | (with_reducible first | exact HB.out | apply below_alloc | apply pw_below_drewN | apply below_drew1) | exact HB.out)) hb); clear HB; have HO212 := n0_; have HB := n1_; clear n0_ n1_; clear hb ho9))
          go_loopg [5, 7] k (fun kq v5 v7 w' => ∃ (x4_1 : List Int) (x5_1 : Int) (x7_1 : Int), v5 = .int .u32 x5_1 ∧ v7 = .int .i64 x7_1 ∧ Aside0 (div_Small.l0 kq l0 a1 x4_1 x5_1 x7_1 = some (r1, r2, r3)) ∧ Aside0 (kq ≤ k) ∧ Aside0 (Kd.R (Kd.int .u32) 39 w' w.heap.size (fun _ => True) v211 x4_1) ∧ Aside0 (Below w.heap.size w w'))
          case atStart => exact ⟨(y210), (0), (wrap64 ((l0.length : Int) - 1)), (by first | rfl | (simp; done) | (simp [*]; done)), (by first | rfl | (simp; done) | (simp [*]; done)), H', ⟨Nat.le_refl _⟩, ⟨by (with_reducible repeat (first | apply Kd.R_alloc | apply Kd.R_drewN | apply Kd.R_drew)); exact HO212.out⟩, ⟨by repeat (first | (with_reducible first | exact HB.out | apply below_alloc | apply pw_below_drewN | apply below_drew1) | exact HB.out)⟩⟩
          case round =>
            clear H'
            try clear c2
            try clear p2
            try clear c4
            try clear c5
            try clear c5b0
            try clear c5b1
            try clear c6
            try clear c6b0
            try clear c6b1
            try clear p6
            try clear c7
            try clear c7b0
            try clear c7b1
            obtain ⟨x4_1, x5_1, x7_1, rfl, rfl, HA, HK1, HO_4, HB⟩ := hrel
            cases gk with
            | zero => exact absurd HA.out (by simp [div_Small.l0])
            | succ k1 =>
              have H := HA.out
              clear HA
              simp only [div_Small.l0] at H
              by_cases c10 : x7_1 ≥ 0
              · rw [if_pos c10] at H
                have c10b0 : decide (0 ≤ x7_1) = true := decide_eq_true c10
                clear c10
                by_cases c11 : 0 ≤ x7_1
                · rw [if_pos c11] at H
                  have c11b0 : decide (0 ≤ x7_1) = true := decide_eq_true c11
                  clear c11
                  by_cases c12 : x7_1 < (l0.length : Int)
                  · rw [if_pos c12] at H
                    have c12b0 : decide (x7_1 < (l0.length : Int)) = true := decide_eq_true c12
                    clear c12
                    replace H := Option.bind_eq_some_iff.mp H
                    obtain ⟨⟨t214, t215⟩, A130, H⟩ := H
                    replace H : (if x7_1 < (x4_1.length : Int) then (div_Small.l0 k1 l0 a1 (x4_1.set (x7_1 : Int).toNat t214) t215 (wrap64 (x7_1 - 1))) else (none)) = some (r1, r2, r3) := H
                    have A13 := Aside0.mk A130
                    clear A130
                    by_cases c14 : x7_1 < (x4_1.length : Int)
                    · rw [if_pos c14] at H
                      have c14b0 : decide (x7_1 < (x4_1.length : Int)) = true := decide_eq_true c14
                      clear c14
                      obtain ⟨y216, hy216⟩ : ∃ y_ : List Int, y_ = (x4_1.set (x7_1 : Int).toNat t214) := ⟨_, rfl⟩
                      replace H : (div_Small.l0 k1 l0 a1 y216 t215 (wrap64 (x7_1 - 1))) = some (r1, r2, r3) := by first | (rw [hy216]; with_reducible exact H) | (have H2_ := (Option.bind_some _ _).symm.trans H; rw [hy216]; with_reducible exact H2_) | (have H2_ := (Option.bind_some _ _).symm.trans H; with_reducible exact H2_) | with_reducible exact H | (rw [hy216]; exact H) | exact H
                      have Ny216 := Aside0.mk hy216
                      clear hy216
                      have H' := Aside0.mk H
                      clear H
                      have p213 : 0 ≤ (x7_1 : Int) := of_decide_eq_true (by first | (with_reducible assumption) | assumption)
                      have q213 : x7_1 < (l0.length : Int) := of_decide_eq_true (by first | (with_reducible assumption) | assumption)
                      obtain ⟨ad213, e213, hx213_0⟩ := Kd.at_int HR0.out x7_1 p213 q213
                      cases e213
                      replace hx213_0 := (HB.out.cell (World.block_lt_of_cell? w _ hx213_0)).trans hx213_0
                      replace p213 := eq_true p213
                      replace q213 := eq_true q213
                      go_wp2_with (first | ((with_reducible refine gate_callee (f := 49) rfl ?_); refine goesL_ (some 34) rfl rfl Tryd.func49 (by kernel_rfl) rfl #[.int .u32 x5_1, .int .u32 (rd l0 x7_1), .int .u32 a1] rfl (by (try simp only [List.map_toArray, List.map_cons, List.map_nil]); first | done | rfl | (simp only [List.length_drop, List.length_take]; rfl)) ?_; (with_reducible refine (bits_Div32.calls x5_1 (rd l0 x7_1) a1 t214 t215 _ A13.out).mono ?_); rintro e w' ⟨rfl, ⟨nd, rfl⟩⟩; refine ⟨_, rfl, ?_⟩; (try (rw [drewN_self wr]; generalize hq_ : World.drewN wr _ = wr; have n0_ : Aside0 (Kd.R (Kd.int .u32) 39 wr w.heap.size (fun _ => True) v211 x4_1) := ⟨by rw [← hq_]; exact (by (with_reducible repeat (first | apply Kd.R_alloc | apply Kd.R_drewN | apply Kd.R_drew)); exact HO_4.out)⟩; have n1_ : Aside0 (Below w.heap.size w wr) := ⟨by rw [← hq_]; exact (by repeat (first | (with_reducible first | exact HB.out | apply below_alloc | apply pw_below_drewN | apply below_drew1) | exact HB.out))⟩; clear HO_4 HB hq_; have HO_4 := n0_; have HB := n1_; clear n0_ n1_)); have p15 : 0 ≤ (x7_1 : Int) := of_decide_eq_true (by first | (with_reducible assumption) | assumption); have q15 : (x7_1 : Int) < ((x4_1.length : Int) : Int) := of_decide_eq_true (by first | (with_reducible assumption) | assumption); obtain ⟨go15, co15, eo15, gb15, gl15, cl15, HG15⟩ := Kd.R_form HO_4.out (by omega); (first | cases eo15 | (injection eo15 with ea_ en_ ec_; (first | subst ea_ | (injection ea_ with ea_; subst ea_)); subst ec_; clear en_)); have GB15 := Aside0.mk gb15; have GG15 := Aside0.mk HG15; clear gb15 gl15 HG15; obtain ⟨hx15_0, hf15_0⟩ := Kd.R_celln 0 HO_4.out (x7_1 : Int) p15 q15; replace p15 := eq_true p15; replace q15 := eq_true q15; obtain ⟨hy16_, hz16_⟩ := Kd.R_celln 0 HO_4.out (x7_1 : Int) (of_decide_eq_true (by first | (with_reducible assumption) | assumption)) (of_decide_eq_true (by first | (with_reducible assumption) | assumption)); have HP16 := Kd.R_putg HO_4.out (x7_1 : Int) t214) | ((with_reducible refine gate_store (t := 39) (p := 37) rfl ?_); refine store_event (t := 39) (p := 37) (v := ?vo_w17) (w1 := (wr.setCell ⟨go15, (x7_1 : Int).toNat, none⟩ (.int .u32 t214))) ?hg ?ho ?hn ?hr ?_; (case ho => rfl); (case hg => rfl); (case hn => rfl); (case hr => first | (go_simp; done) | (go_simp; rfl)); intro w17 hw; have hg : wr.grownBy w17 (some go15) := (by rw [hw]; exact HP16.2); have hp_ : Kd.R (Kd.int .u32) 39 w17 w.heap.size (fun _ => True) (.slice (some ⟨go15, 0, none⟩) x4_1.length co15) y216 := (by rw [hw, Ny216.out]; exact HP16.1); clear HP16; have n0_ := Aside0.mk (hp_); have n1_ := Aside0.mk ((by rw [hw]; exact below_set (HB.out) GB15.out : Below w.heap.size w w17)); clear HO_4; clear HB; have HO_4 := n0_; have HB := n1_; clear n0_ n1_; clear hg hw hp_))
                      go_roundg k1
                      case measure => have := HK1.out; omega
                      case rel => exact ⟨(y216), (t215), (wrap64 (x7_1 - 1)), (by first | rfl | (simp; done) | (simp [*]; done)), (by first | rfl | (simp; done) | (simp [*]; done)), H', ⟨by have := HK1.out; omega⟩, ⟨by (with_reducible repeat (first | apply Kd.R_alloc | apply Kd.R_drewN | apply Kd.R_drew)); exact HO_4.out⟩, ⟨by repeat (first | (with_reducible first | exact HB.out | apply below_alloc | apply pw_below_drewN | apply below_drew1) | exact HB.out)⟩⟩
                    · rw [if_neg c14] at H
                      exact absurd H (by simp)
                  · rw [if_neg c12] at H
                    exact absurd H (by simp)
                · rw [if_neg c11] at H
                  exact absurd H (by simp)
              · rw [if_neg c10] at H
                have c10b0 : decide (0 ≤ x7_1) = false := decide_eq_false c10
                clear c10
                replace H := Option.bind_eq_some_iff.mp H
                obtain ⟨t217, A180, H⟩ := H
                replace H : (some (t217, x5_1, 0)) = some (r1, r2, r3) := H
                have A18 := Aside0.mk A180
                clear A180
                simp only [Option.some.injEq, Prod.mk.injEq] at H
                obtain ⟨rfl, rfl, rfl⟩ := H
                obtain ⟨Ao19, co19, eo19⟩ := Kd.R_slice HO_4.out
                subst eo19
                go_wp2_with (first | ((with_reducible refine gate_callee (f := 50) rfl ?_); refine goesL_ (some 39) rfl rfl Tryd.func50 (by kernel_rfl) rfl #[.slice Ao19 x4_1.length co19] rfl (by (try simp only [List.map_toArray, List.map_cons, List.map_nil]); first | done | rfl | (simp only [List.length_drop, List.length_take]; rfl)) ?_; (with_reducible refine (div_cut.calls k1 (fun k_ => some k_ = (.slice Ao19 x4_1.length co19 : Value).ownBlock) (.slice Ao19 x4_1.length co19) x4_1 t217 w _ ?side1 ?side2 A18.out).mono ?_); (case side1 => repeat (first | (with_reducible first | exact HB.out | apply below_alloc | apply pw_below_drewN | apply below_drew1) | exact HB.out)); (case side2 => exact Kd.R_tight rfl HO_4.out); rintro e w20 ⟨v218, rfl, ho0, hb, hkp⟩; refine ⟨_, rfl, ?_⟩; have n0_ := Aside0.mk (Kd.R_mono (ok' := fun k_ => True) ho0 (fun k_ hk_ => trivial)); have n1_ := Aside0.mk (hb); clear HB; clear HO_4; have HO219 := n0_; have HB := n1_; clear n0_ n1_; (try clear hb); (try clear hkp); (try clear ho0)))
                go_ret3
                exact ⟨_, by first | rfl | (simp [errW_none, errW_some] <;> rfl) | (simp [*, errW_none, errW_some] <;> rfl), by (with_reducible repeat (first | apply Kd.R_alloc | apply Kd.R_drewN | apply Kd.R_drew)); exact HO219.out, by repeat (first | (with_reducible first | exact HB.out | apply below_alloc | apply pw_below_drewN | apply below_drew1) | exact HB.out)⟩
        · rw [if_neg c7] at H
          exact absurd H (by simp)
      · rw [if_neg c6] at H
        exact absurd H (by simp)
  · replace c4 := Bool.eq_false_iff.mpr c4
    subst c4
    have H1 : (some (([] : List Int), 0, 4)) = some (r1, r2, r3) := by rw [if_neg (show ¬ (false = true) by decide)] at H; exact H
    clear H
    have H := H1
    clear H1
    simp only [Option.some.injEq, Prod.mk.injEq] at H
    obtain ⟨rfl, rfl, rfl⟩ := H
    go_enter Tryd.func24, Tryd.ntmps24
    go_wp2_with (first | ((with_reducible refine gate_callee (f := 22) rfl ?_); refine goesL_ (some 10) rfl rfl Tryd.func22 (by kernel_rfl) rfl #[.slice A0 l0.length c0] rfl (by (try simp only [List.map_toArray, List.map_cons, List.map_nil]); first | done | rfl | (simp only [List.length_drop, List.length_take]; rfl)) ?_; (with_reducible refine (nat_May.calls _ _ l0 false _ ?side1 ?side2 A3.out).mono ?_); (case side1 => repeat (first | exact HR0.out | (with_reducible refine Kd.C_alloc ?_ _) | (with_reducible refine Kd.C_drewN ?_ _) | (with_reducible refine Kd.C_drew ?_))); (case side2 => exact HC0.out); rintro e w' ⟨rfl, ⟨nd, rfl⟩⟩; refine ⟨_, rfl, ?_⟩))
    go_ret3
    exact ⟨_, by first | rfl | (simp [errW_none, errW_some] <;> rfl) | (simp [*, errW_none, errW_some] <;> rfl), by first | exact Kd.R_nil _ _ _ _ _ | exact Kd.N_nil _ _ _ _ _ | exact Kd.V_nil _ _ _ _ _ | exact Kd.Q_nil _ _ _ _ _ | exact Kd.S_nil _ _ _ _ _, by repeat (first | (with_reducible first | exact HB.out | apply below_alloc | apply pw_below_drewN | apply below_drew1) | exact HB.out)⟩
theorem bits_Div32_eq {r a w : Int} (hr : 0 ≤ r) (ha : 0 ≤ a ∧ a < 4294967296) (hw : r < w) (hw1 : w < 4294967296) : bits_Div32.f r a w = some ((r * 4294967296 + a) / w, (r * 4294967296 + a) % w) := if_pos ⟨hr, ha.1, ha.2, hw, hw1⟩
theorem div_Small_ev_l (a : List Int) (w : Int) (hr : Nums.rng a = true) (hla : a.length ≤ 70368744177664) (hw : 0 < w) (hw1 : w < 4294967296) :
    ∀ (m : Nat) (q : List Int) (r : Int), m ≤ a.length → q.length = a.length → Nums.rng q = true → 0 ≤ r → r < w →
      Nums.Ev (fun k => div_Small.l0 k a w q r ((m : Int) - 1)) (Nums.toL ((Nums.val (a.take m) + 4294967296 ^ m * r.toNat) / w.toNat + 4294967296 ^ m * Nums.val (q.drop m)), (((Nums.val (a.take m) + 4294967296 ^ m * r.toNat) % w.toNat : Nat) : Int), 0) := by
  intro m
  induction m with
  | zero =>
    intro q r _ hq hrq h0 h1
    have e1 : r.toNat / w.toNat = 0 := Nat.div_eq_of_lt (by omega)
    have e2 : r.toNat % w.toNat = r.toNat := Nat.mod_eq_of_lt (by omega)
    simp only [List.take_zero, Nums.val, Nat.pow_zero, List.drop_zero, Nat.zero_add, Nat.one_mul]
    rw [e1, e2, Nat.zero_add]
    refine Nums.Ev.succ (g := fun k => (div_cut.f k q).bind fun t => some (t, r, 0)) (Nums.Ev.bind (f := fun k => div_cut.f k q) (div_cut_ev _ q rfl (by omega) hrq) (Nums.Ev.of fun _ => by rw [Int.toNat_of_nonneg h0])) fun k => ?_
    simp only [div_Small.l0]
    rw [if_neg (by omega)]
  | succ m ih =>
    intro q r hm hq hrq h0 h1
    have ha := Nums.rng_get hr (i := m) (by omega)
    have e3 : rd a (((m + 1 : Nat) : Int) - 1) = a[m] := by
      rw [show (((m + 1 : Nat) : Int) - 1) = (m : Int) by omega]
      simp [rd, List.getD_eq_getElem?_getD, List.getElem?_eq_getElem (show m < a.length by omega)]
    obtain ⟨x, hx⟩ : ∃ x, a[m] = x := ⟨_, rfl⟩
    rw [hx] at ha e3
    obtain ⟨z, hz⟩ : ∃ z, r * 4294967296 + x = z := ⟨_, rfl⟩
    have hz0 : 0 ≤ z := by omega
    have hd0 : 0 ≤ z / w := Int.ediv_nonneg hz0 (by omega)
    have hz1 : z < w * 4294967296 := by
      have k1 : z < (r + 1) * 4294967296 := by omega
      have k2 : (r + 1) * 4294967296 ≤ w * 4294967296 := Int.mul_le_mul_of_nonneg_right (by omega) (by decide)
      omega
    have hd1 : z / w < 4294967296 := Int.ediv_lt_of_lt_mul hw (by rw [Int.mul_comm]; exact hz1)
    have hr0 : 0 ≤ z % w := Int.emod_nonneg _ (by omega)
    have hr1 : z % w < w := Int.emod_lt_of_pos _ hw
    have h2 := ih (q.set m (z / w)) (z % w) (by omega) (by simpa using hq) (Nums.rng_set hrq m ⟨hd0, hd1⟩) hr0 hr1
    rw [Nums.val_drop_set _ _ _ (by omega)] at h2
    have key : Nums.val (a.take (m + 1)) + 4294967296 ^ (m + 1) * r.toNat = (Nums.val (a.take m) + 4294967296 ^ m * (z % w).toNat) + w.toNat * (4294967296 ^ m * (z / w).toNat) := by
      rw [Nums.val_take_succ _ _ (by omega), hx]
      have k0 : x.toNat + 4294967296 * r.toNat = (z % w).toNat + w.toNat * (z / w).toNat := by
        have k1 := Int.emod_add_mul_ediv z w
        have k2 : (w.toNat * (z / w).toNat : Int) = w * (z / w) := by
          rw [show ((w.toNat : Nat) : Int) = w by omega, show (((z / w).toNat : Nat) : Int) = z / w by omega]
        have k3 : ((w.toNat * (z / w).toNat : Nat) : Int) = w * (z / w) := by rw [Int.natCast_mul]; exact k2
        omega
      have k4 := congrArg (4294967296 ^ m * ·) k0
      simp only [Nat.mul_add] at k4
      rw [Nat.pow_succ, Nat.mul_assoc, Nat.mul_left_comm w.toNat]
      omega
    rw [key, Nat.add_mul_div_left _ _ (by omega), Nat.add_mul_mod_self_left]
    have key2 : ∀ A B C D : Nat, A + D * (B + 4294967296 * C) = A + D * B + D * 4294967296 * C := fun A B C D => by rw [Nat.mul_add, Nat.mul_assoc, Nat.add_assoc]
    rw [key2, ← Nat.pow_succ] at h2
    refine h2.succ fun k => ?_
    simp only [div_Small.l0]
    rw [if_pos (by omega), if_pos (by omega), if_pos (by omega), e3, bits_Div32_eq h0 ha h1 hw1, hz, Option.bind_some, if_pos (by omega)]
    rw [show (((m + 1 : Nat) : Int) - 1).toNat = m by omega]
    congr 1
    simp only [wrap64]
    omega
theorem div_Small_ev (a : List Int) (w : Int) (hr : Nums.rng a = true) (hm : Nums.may a = true) (hw : 0 < w) (hw1 : w < 4294967296) :
    Nums.Ev (fun k => div_Small.f k a w) (Nums.toL (Nums.val a / w.toNat), ((Nums.val a % w.toNat : Nat) : Int), 0) := by
  have hl := (Nums.may_iff.1 hm).1
  have h := div_Small_ev_l a w hr (by omega) hw hw1 a.length (List.replicate a.length 0) 0 (Nat.le_refl _) (by simp) (Nums.rng_zeros _) (by omega) hw
  rw [List.take_length, List.drop_eq_nil_of_le (by simp)] at h
  simp only [Int.toNat_zero, Nat.mul_zero, Nat.add_zero, Nums.val] at h
  refine h.congr fun k => ?_
  unfold div_Small.f
  rw [nat_May_eq, hm, Option.bind_some, if_pos rfl, if_neg (by omega), if_pos (by omega), if_pos (by omega), Int.toNat_natCast, wrap64_len _ (by omega)]

/-! ### bits_LeadingZeros32: function 67 -/
def lays133_ren : Go.Shelf.Ren := ⟨fun | 133 => 67 | 128 => 93 | n => n, fun | 46 => 83 | 51 => 39 | n => n, fun | n => n⟩
theorem lays133 : Go.Proofs.Lays.n133 Tryd.prog lays133_ren := {
  mixed := by kernel_rfl
  f128 := Tryd.func93.trans (congrArg some (by kernel_rfl))
  f133 := Tryd.func67.trans (congrArg some (by kernel_rfl))
  t3 := Tryd.underlying3
  a3 := Tryd.isAgg3
  z3 := Tryd.sizeOf3
  v3 := Tryd.zeroValue3
  t4 := Tryd.underlying4
  a4 := Tryd.isAgg4
  z4 := Tryd.sizeOf4
  v4 := Tryd.zeroValue4
  t5 := Tryd.underlying5
  a5 := Tryd.isAgg5
  z5 := Tryd.sizeOf5
  v5 := Tryd.zeroValue5
  t9 := Tryd.underlying9
  a9 := Tryd.isAgg9
  z9 := Tryd.sizeOf9
  v9 := Tryd.zeroValue9
  t46 := Tryd.underlying83
  a46 := Tryd.isAgg83
  z46 := Tryd.sizeOf83
  v46 := Tryd.zeroValue83
  t51 := Tryd.underlying39
  a51 := Tryd.isAgg39
  z51 := Tryd.sizeOf39
  v51 := Tryd.zeroValue39 }
/-- bits.LeadingZeros32. -/
theorem bits_LeadingZeros32.laid (x : Int) (w : World) (h0 : 0 ≤ x) (h1 : x ≤ 4294967295) :
    Calls Tryd.prog 67 #[.int .u32 x] w fun e w' => e = .returned (.int .i64 (32 - (Lib.bitLen x.toNat : Int))) ∧ w' = w := Any.bits_LeadingZeros32 lays133 x w h0 h1

/-! ### nat_Shl: function 68 -/
/-- Limbs shifted left by s < 32 bits: what is behind the first k limbs. -/
structure ShlInv (l : List Int) (s k : Nat) (out : List Int) (r : Int) : Prop where
  len : out.length = k
  rg : Nums.rng out = true
  nn : 0 ≤ r
  lt : r < 2 ^ s
  eq : Nums.val out + 4294967296 ^ k * r.toNat = Nums.val (l.take k) * 2 ^ s
theorem pow_small {s : Nat} (hs : s < 32) : 1 ≤ 2 ^ s ∧ (2 : Nat) ^ s ≤ 2147483648 := ⟨Nat.one_le_two_pow, Nat.le_trans (Nat.pow_le_pow_right (by decide) (show s ≤ 31 by omega)) (by decide)⟩
theorem powi (s : Nat) : (2 : Int) ^ s = ((2 ^ s : Nat) : Int) := by simp
theorem ShlInv.start {l : List Int} {s : Nat} : ShlInv l s 0 [] 0 := ⟨rfl, rfl, by decide, by rw [powi]; have : 1 ≤ 2 ^ s := Nat.one_le_two_pow; omega, by simp [Nums.val]⟩
theorem shl_bound {s : Nat} {x : Int} (hs : s < 32) (hx : 0 ≤ x ∧ x < 4294967296) : 0 ≤ x * 2 ^ s ∧ x * 2 ^ s ≤ 4294967295 * 2 ^ s := by
  obtain ⟨h1, h2⟩ := pow_small hs
  rw [powi]
  exact ⟨Int.mul_nonneg hx.1 (by omega), Int.mul_le_mul_of_nonneg_right (by omega) (by omega)⟩
theorem ShlInv.step {l out : List Int} {s k : Nat} {r x : Int} (h : ShlInv l s k out r) (hs : s < 32) (hk : k < l.length) (hl : Nums.rng l = true) (hx : l[k] = x) :
    ShlInv l s (k + 1) (out ++ [(r + x * 2 ^ s) % 4294967296]) ((r + x * 2 ^ s) / 4294967296) := by
  have hxr := Nums.rng_get hl (i := k) hk
  have hts := Nums.val_take_succ l k hk
  rw [hx] at hxr hts
  have hb := shl_bound hs hxr
  have h1 := h.nn
  have h2 := h.lt
  have heq := h.eq
  rw [powi] at h2 hb ⊢
  obtain ⟨S, hS⟩ : ∃ S, 2 ^ s = S := ⟨_, rfl⟩
  have hp := pow_small hs
  rw [hS] at h2 hb heq hp
  have hxn : (x * (S : Int)).toNat = x.toNat * S := by
    have : ((x.toNat * S : Nat) : Int) = x * (S : Int) := by rw [Int.natCast_mul, show ((x.toNat : Nat) : Int) = x by omega]
    omega
  obtain ⟨z, hz⟩ : ∃ z, x * (S : Int) = z := ⟨_, rfl⟩
  rw [hz] at hb hxn
  refine ⟨by simp [h.len], Nums.rng_append.2 ⟨h.rg, by simp [Nums.rng]; omega⟩, ?_, ?_, ?_⟩
  · rw [hS, hz]; omega
  · rw [powi, hS, hz]; omega
  · rw [hS, hz, hts, Nums.val_append, h.len, Nat.add_mul, ← heq]
    simp only [Nums.val, Nat.mul_zero, Nat.add_zero]
    have e : ((r + z) % 4294967296).toNat + 4294967296 * ((r + z) / 4294967296).toNat = r.toNat + z.toNat := by omega
    have e2 := congrArg (fun t => 4294967296 ^ k * t) e
    simp only [Nat.mul_add] at e2
    rw [← Nat.mul_assoc] at e2
    rw [Nat.pow_succ, Nat.mul_assoc (4294967296 ^ k) x.toNat S, ← hxn]
    omega
theorem ShlInv.done {l out : List Int} {s : Nat} {r : Int} (h : ShlInv l s l.length out r) (hs : s < 32) :
    Nums.rng (out ++ [r]) = true ∧ Nums.val (out ++ [r]) = Nums.val l * 2 ^ s ∧ (out ++ [r]).length = l.length + 1 := by
  have hp := pow_small hs
  have h1 := h.nn
  have h2 := h.lt
  rw [powi] at h2
  have heq := h.eq
  rw [List.take_length] at heq
  refine ⟨Nums.rng_append.2 ⟨h.rg, by simp [Nums.rng]; omega⟩, ?_, by simp [h.len]⟩
  rw [Nums.val_append, h.len, ← heq]
  simp [Nums.val]
/-- Limbs shifted right by s < 32 bits: a limb of the result. -/
def shrLimb (l : List Int) (s k : Nat) : Int := (((l[k]?.getD 0).toNat + 4294967296 * (l[k + 1]?.getD 0).toNat) / 2 ^ s % 4294967296 : Nat)
theorem val_div_pow : ∀ (l : List Int) (s : Nat), s < 32 → Nums.rng l = true → Nums.rng ((List.range l.length).map (shrLimb l s)) = true ∧ Nums.val ((List.range l.length).map (shrLimb l s)) = Nums.val l / 2 ^ s := by
  intro l s hs
  have hp := pow_small hs
  have hd : 2 ^ s * 2 ^ (32 - s) = 4294967296 := by rw [← Nat.pow_add, show s + (32 - s) = 32 by omega]
  induction l with
  | nil => intro _; simp [Nums.val, Nums.rng]
  | cons x xs ih =>
    intro hr
    obtain ⟨h1, h2⟩ := Nums.rng_cons.1 hr
    obtain ⟨i1, i2⟩ := ih h2
    rw [List.length_cons, List.range_succ_eq_map, List.map_cons, List.map_map]
    have e : (List.range xs.length).map (shrLimb (x :: xs) s ∘ Nat.succ) = (List.range xs.length).map (shrLimb xs s) := by
      apply List.map_congr_left
      intro a _
      simp [shrLimb]
    rw [e]
    refine ⟨Nums.rng_cons.2 ⟨by unfold shrLimb; omega, i1⟩, ?_⟩
    rw [Nums.val, i2, Nums.val]
    unfold shrLimb
    have e3 : Nums.val xs = (xs[0]?.getD 0).toNat + 4294967296 * Nums.val (xs.drop 1) := by
      cases xs with
      | nil => simp [Nums.val]
      | cons y ys => simp [Nums.val]
    have e4 : (xs[0]?.getD 0).toNat < 4294967296 := by have := Nums.rng_getD h2 0; omega
    obtain ⟨y, hy⟩ : ∃ y, (xs[0]?.getD 0).toNat = y := ⟨_, rfl⟩
    obtain ⟨V, hV⟩ : ∃ V, Nums.val (xs.drop 1) = V := ⟨_, rfl⟩
    simp only [List.getElem?_cons_zero, Option.getD_some, List.getElem?_cons_succ, Nat.zero_add, Int.toNat_natCast]
    rw [e3, hy, hV]
    rw [hy] at e4
    obtain ⟨X, hX⟩ : ∃ X, x.toNat = X := ⟨_, rfl⟩
    rw [hX]
    have hXl : X < 4294967296 := by omega
    obtain ⟨S, hS⟩ : ∃ S, 2 ^ s = S := ⟨_, rfl⟩
    obtain ⟨T, hT⟩ : ∃ T, 2 ^ (32 - s) = T := ⟨_, rfl⟩
    rw [hS, hT] at hd
    rw [hS] at hp ⊢
    have hS0 : 0 < S := hp.1
    have k1 : (X + 4294967296 * y) / S = X / S + T * y := by
      rw [← hd, Nat.mul_assoc, Nat.add_mul_div_left _ _ hS0]
    have k2 : (X + 4294967296 * (y + 4294967296 * V)) / S = X / S + T * (y + 4294967296 * V) := by
      rw [← hd, Nat.mul_assoc, Nat.add_mul_div_left _ _ hS0]
    have k3 : (y + 4294967296 * V) / S = y / S + T * V := by
      rw [← hd, Nat.mul_assoc, Nat.add_mul_div_left _ _ hS0]
    rw [k1, k2, k3]
    have k4 : T * y = T * (y % S) + 4294967296 * (y / S) := by
      have := Nat.div_add_mod y S
      calc T * y = T * (S * (y / S) + y % S) := by rw [this]
        _ = T * (y % S) + S * T * (y / S) := by rw [Nat.mul_add, Nat.add_comm]; congr 1; rw [← Nat.mul_assoc, Nat.mul_comm T S]
        _ = _ := by rw [hd]
    have k5 : X / S < T := by rw [Nat.div_lt_iff_lt_mul hS0, Nat.mul_comm, hd]; exact hXl
    have k6 : T * (y % S) + T ≤ 4294967296 := by
      have : y % S + 1 ≤ S := Nat.mod_lt _ hS0
      calc T * (y % S) + T = T * (y % S + 1) := by rw [Nat.mul_add, Nat.mul_one]
        _ ≤ T * S := Nat.mul_le_mul_left _ this
        _ = _ := by rw [Nat.mul_comm, hd]
    have k7 : T * (y + 4294967296 * V) = T * y + 4294967296 * (T * V) := by rw [Nat.mul_add, Nat.mul_left_comm]
    rw [k7]
    clear k1 k2 k3 k7 i2 e e3
    obtain ⟨a, ha⟩ : ∃ a, X / S = a := ⟨_, rfl⟩
    obtain ⟨b, hb⟩ : ∃ b, y / S = b := ⟨_, rfl⟩
    obtain ⟨c, hc⟩ : ∃ c, T * (y % S) = c := ⟨_, rfl⟩
    rw [ha] at k5 ⊢
    rw [hb, hc] at k4
    rw [hb, k4]
    rw [hc] at k6
    omega
set_option maxRecDepth 100000 in
set_option maxHeartbeats 1000000 in
theorem nat_Shl.short (A0 : Option Addr) (c0 s : Nat) (l0 : List Int) (w : World) (hr0 : Kd.C (Kd.int .u32) w A0 l0.length l0) (hc0 : l0.length ≤ c0) (hm : Nums.may l0 = true) (hrg : Nums.rng l0 = true) (hp : 0 < l0.length) (hs : s < 32) :
    Calls Tryd.prog 68 #[.slice A0 l0.length c0, .int .i64 (s : Int)] w fun e w' => ∃ v0_ : Value, e = .returned v0_ ∧ Kd.R (Kd.int .u32) 39 w' w.heap.size (fun _ => True) v0_ (Nums.lim (Nums.val l0 * 2 ^ s)) ∧ Below w.heap.size w w' := by
  have hll := (Nums.may_iff.1 hm).1
  have HMR := Aside0.mk hrg
  have HM := Aside0.mk (nat_May.calls A0 c0 l0 _ w hr0 hc0 (nat_May_eq l0))
  rw [hm] at HM
  have d1 : ((l0.length : Int) == 0) = false := beq_eq_false_iff_ne.mpr (by omega)
  have d2 : (s : Int) / 32 = 0 := by omega
  have d3 : (s : Int) % 32 = s := by omega
  have HR := Aside0.mk hr0
  obtain ⟨i0, hi, hz0, hz1, hz2⟩ := info_parts info39
  clear hr0 hm
  go_enter Tryd.func68, Tryd.ntmps68
  go_wp2_with fail
  refine HM.out.mono ?_
  rintro e w' ⟨rfl, ⟨nd, rfl⟩⟩
  go_wp2_with (at_make; refine wpList_make_own _ rfl _ _ 22 rfl w.heap.size 39 i0 (.int .u32 0) 1 Tryd.underlying22 hi hz0 hz1 .i64 .i64 _ (l0.length + 1) rfl rfl (by omega) (by rw [hz2]; omega) (by unfold maxLen; omega) (by simp) ?_; intro w1 hown hgr1)
  replace hown : w1.ownsRow w.heap.size 39 1 (.slice (some ⟨w.heap.size, 0, none⟩) 0 (l0.length + 1)) 0 [] := by simpa using hown

  go_loopw [5, 6, 36] (fun v5 v6 v36 wr => ∃ (k : Nat) (out : List Int) (r : Int), k ≤ l0.length ∧ v5 = .slice (some ⟨w.heap.size, 0, none⟩) k (l0.length + 1) ∧ v6 = .int .u64 r ∧ v36 = .int .i64 (k : Int) ∧ Aside0 (ShlInv l0 s k out r) ∧ Aside0 (wr.ownsRow w.heap.size 39 1 (.slice (some ⟨w.heap.size, 0, none⟩) k (l0.length + 1)) k (nums .u32 out)) ∧ Aside0 (Below w.heap.size w wr) ∧ (0 ≤ r ∧ r < 2 ^ 31)) (fun _ _ v36 _ => l0.length - (match v36 with | .int _ k => k.toNat | _ => 0))
  case atStart => exact ⟨0, [], 0, Nat.zero_le _, rfl, rfl, rfl, ⟨ShlInv.start⟩, ⟨hown⟩, ⟨pw_below_grown (pw_below_drewN (Below.refl _ _) nd) none (by simp) hgr1 (fun _ e => by cases e)⟩, by decide, by decide⟩
  case round =>
    obtain ⟨k, out, r, hk, rfl, rfl, rfl, HT, HO, HB, hr⟩ := hrel
    by_cases hlt : k < l0.length
    · have hvk := Kd.C_below HR.out HB.out
      obtain ⟨ad, hA, hcv2⟩ := Kd.at_int hvk (k : Int) (by omega) (by omega)
      subst hA
      obtain ⟨x, hx⟩ : ∃ x, l0[k] = x := ⟨_, rfl⟩
      have hxr := Nums.rng_get HMR.out hlt
      have hrd := rd_nat hlt
      have HN := Aside0.mk (HT.out.step hs hlt HMR.out hx)
      rw [hx] at hxr hrd
      rw [hrd, Int.toNat_natCast] at hcv2
      have hsb := shl_bound hs hxr
      have hpw := pow_small hs
      have f1 : IntKind.u64.wrap (x * 2 ^ s) = x * 2 ^ s := by rw [powi] at hsb ⊢; exact u64_wraps _ (by omega) (by omega)
      have f2 : bits .or .u64 r (x * 2 ^ s) = r + x * 2 ^ s := bits_join_low .u64 64 (by decide) wraps_u64 s r _ hr.1 HT.out.lt (by have := HT.out.lt; rw [powi] at this; omega) hsb.1 (Int.mul_emod_left _ _) (by rw [powi] at hsb; rw [powi]; omega)
      have HP := Aside0.mk hsb
      obtain ⟨P, hP⟩ : ∃ P, r + x * 2 ^ s = P := ⟨_, rfl⟩
      have hP2 : 0 ≤ P ∧ P / 4294967296 < 2147483648 := by rw [powi] at hsb hP; omega
      rw [hP] at f2 HN
      clear hx hrd hvk hsb hP hpw
      go_wp2_with (at_builtin; refine wpList_append_fits _ rfl _ _ 22 rfl w.heap.size 39 i0 1 Tryd.underlying22 hi hz1 w.heap.size k (l0.length + 1) (nums .u32 out) rfl (HO.out.alloc _) ⟨wr.heap.size, 0, none⟩ 1 1 [.int .u32 (P % 4294967296)] rfl rfl (cell_one_new _ _ _) (by simp [Value.oneCell']) (by omega) ?_; intro w2 hown2 hg2)
      go_roundw
      case rel => exact ⟨k + 1, out ++ [P % 4294967296], P / 4294967296, by omega, rfl, rfl, by go_num, HN, ⟨by rw [nums_append]; exact hown2⟩, ⟨(below_alloc HB.out _).grown hg2 (by have := HB.out.size; simp; omega) (fun b hb => by cases hb; exact Nat.le_refl _)⟩, by omega, by omega⟩
      case measure => simp; omega
    · obtain rfl : k = l0.length := by omega
      obtain ⟨n1, n2, n3⟩ := HT.out.done hs
      have HC := Aside0.mk (nat_cut_eq _ _ (l0.length + 2) rfl (by omega) (by omega) n1)
      rw [n2] at HC
      have e1 : r % 4294967296 = r := by omega
      clear n1 n2
      go_wp2_with (first | (at_builtin; refine wpList_append_fits _ rfl _ _ 22 rfl w.heap.size 39 i0 1 Tryd.underlying22 hi hz1 w.heap.size l0.length (l0.length + 1) (nums .u32 out) rfl (HO.out.alloc _) ⟨wr.heap.size, 0, none⟩ 1 1 [.int .u32 r] rfl rfl (cell_one_new _ _ _) (by simp [Value.oneCell']) (by omega) ?_; intro w2 hown2 hg2) | (go_at_call 53; refine (nat_cut.calls (l0.length + 2) (fun k => k = w.heap.size) (.slice (some ⟨w.heap.size, 0, none⟩) (l0.length + 1) (l0.length + 1)) (out ++ [r]) (Nums.lim (Nums.val l0 * 2 ^ s)) w _ ?cB ?cR HC.out).mono ?_; (case cB => exact (below_alloc HB.out _).grown hg2 (by have := HB.out.size; simp; omega) (fun b hb => by cases hb; exact Nat.le_refl _)); (case cR => exact R_ints (by rw [nums_append, n3]; exact hown2) (by intro k hk; cases hk; rfl)); rintro e w3 ⟨v0, rfl, hR3, hB3, hK3⟩))
      go_ret
      exact ⟨v0, rfl, Kd.R_mono hR3 (fun _ _ => trivial), hB3⟩

end Go.Proofs.YtjgloepeogelnaaDoor.Pr
