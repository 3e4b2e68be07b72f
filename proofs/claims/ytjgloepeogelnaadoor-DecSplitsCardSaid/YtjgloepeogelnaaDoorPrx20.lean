/- Functions with the same answers as the Go functions of the program, with the proofs that the program comes to just these answers; no condition but those that each theorem names. (Laid by this work's own program mk.py out of the translation.) -/
import Derived.Test.YtjgloepeogelnaaDoorPrx0
import Derived.Test.YtjgloepeogelnaaDoorPrx2
import Derived.Test.YtjgloepeogelnaaDoorPrx4
import Derived.Test.YtjgloepeogelnaaDoorPrx9
import Derived.Test.YtjgloepeogelnaaDoorPrx19
namespace Go.Proofs.YtjgloepeogelnaaDoor.Pr
open Go.RowKit Go.Proofs.YtjgloepeogelnaaDoorW.PrintWords Go.Proofs.YtjgloepeogelnaaDoorW.PrintLast Go.Proofs.YtjgloepeogelnaaDoorW.PrintMore
attribute [local go_sem] max2_int min2_int max_two min_two max_three min_three max_four min_four   -- for this text's walks alone
set_option linter.unusedVariables false
set_option linter.unusedSimpArgs false

/-! ### alidaderef04_Parse: function 15 -/
mutual
def alidaderef04_Parse.l0 : Nat → ByteArray → Int → Option (List Int × Int)
  | 0, _, _ => none
  | k + 1, x0, x4 => if x4 < (x0.size : Int) then (if 0 ≤ x4 then (if (bt x0 x4) < 48 then (some (([] : List Int), 4)) else (if (bt x0 x4) > 57 then (some (([] : List Int), 4)) else (alidaderef04_Parse.l0 k x0 (wrap64 (x4 + 1))))) else (none)) else (if x0.toList = ([] : List UInt8) then (alidaderef04_Parse.j1 k x0 true) else (if 0 < (x0.size : Int) then (if (bt x0 0) = 48 then (alidaderef04_Parse.j1 k x0 (decide ((x0.size : Int) > 1))) else (alidaderef04_Parse.j1 k x0 false)) else (none)))
def alidaderef04_Parse.j1 : Nat → ByteArray → Bool → Option (List Int × Int)
  | 0, _, _ => none
  | k + 1, x0, x35 => if x35 = true then (some (([] : List Int), 4)) else (alidaderef04_Parse.l1 k x0 ([] : List Int) 0)
def alidaderef04_Parse.l1 : Nat → ByteArray → List Int → Int → Option (List Int × Int)
  | 0, _, _, _ => none
  | k + 1, x0, x5, x6 => if x6 < (x0.size : Int) then (if 0 ≤ x6 then ((alidaderef02_Small.f k x5 10 (((bt x0 x6) - 48) % 256)).bind fun t335 => (if (t335.length : Int) = 0 then (if (x5.length : Int) > 0 then (some (([] : List Int), 40)) else (alidaderef04_Parse.l1 k x0 t335 (wrap64 (x6 + 1)))) else (alidaderef04_Parse.l1 k x0 t335 (wrap64 (x6 + 1))))) else (none)) else (some (x5, 0))
end
def alidaderef04_Parse.f (k : Nat) (a0 : ByteArray) : Option (List Int × Int) := alidaderef04_Parse.l0 k a0 0
theorem alidaderef04_Parse.mono_l : ∀ k, (∀ y0 y1, LeO (alidaderef04_Parse.l0 k y0 y1) (alidaderef04_Parse.l0 (k + 1) y0 y1)) ∧ (∀ y0 y1, LeO (alidaderef04_Parse.j1 k y0 y1) (alidaderef04_Parse.j1 (k + 1) y0 y1)) ∧ (∀ y0 y1 y2, LeO (alidaderef04_Parse.l1 k y0 y1 y2) (alidaderef04_Parse.l1 (k + 1) y0 y1 y2))
  | 0 => ⟨fun _ _ r h => by simp [alidaderef04_Parse.l0] at h, fun _ _ r h => by simp [alidaderef04_Parse.j1] at h, fun _ _ _ r h => by simp [alidaderef04_Parse.l1] at h⟩
  | k + 1 => by
    obtain ⟨ih0, ih1, ih2⟩ := alidaderef04_Parse.mono_l k
    refine ⟨?_, ?_, ?_⟩
    · intro y0 y1
      unfold alidaderef04_Parse.l0
      repeat' first
      | (with_reducible exact ih0 _ _)
      | (with_reducible exact ih1 _ _)
      | (with_reducible exact ih2 _ _ _)
      | (with_reducible exact alidaderef02_Small.mono _ _ _ _)
      | (with_reducible exact LeO.refl _)
      | (with_reducible exact LeO.none _)
      | (with_reducible refine LeO.ite ?_ ?_)
      | (with_reducible refine LeO.bind ?_ (fun _ => ?_))
      | exact ih0 _ _
      | exact ih1 _ _
      | exact ih2 _ _ _
      | exact alidaderef02_Small.mono _ _ _ _
      | exact LeO.none _
      | refine LeO.ite ?_ ?_
      | refine LeO.bind ?_ (fun _ => ?_)
    · intro y0 y1
      unfold alidaderef04_Parse.j1
      repeat' first
      | (with_reducible exact ih0 _ _)
      | (with_reducible exact ih1 _ _)
      | (with_reducible exact ih2 _ _ _)
      | (with_reducible exact alidaderef02_Small.mono _ _ _ _)
      | (with_reducible exact LeO.refl _)
      | (with_reducible exact LeO.none _)
      | (with_reducible refine LeO.ite ?_ ?_)
      | (with_reducible refine LeO.bind ?_ (fun _ => ?_))
      | exact ih0 _ _
      | exact ih1 _ _
      | exact ih2 _ _ _
      | exact alidaderef02_Small.mono _ _ _ _
      | exact LeO.none _
      | refine LeO.ite ?_ ?_
      | refine LeO.bind ?_ (fun _ => ?_)
    · intro y0 y1 y2
      unfold alidaderef04_Parse.l1
      repeat' first
      | (with_reducible exact ih0 _ _)
      | (with_reducible exact ih1 _ _)
      | (with_reducible exact ih2 _ _ _)
      | (with_reducible exact alidaderef02_Small.mono _ _ _ _)
      | (with_reducible exact LeO.refl _)
      | (with_reducible exact LeO.none _)
      | (with_reducible refine LeO.ite ?_ ?_)
      | (with_reducible refine LeO.bind ?_ (fun _ => ?_))
      | exact ih0 _ _
      | exact ih1 _ _
      | exact ih2 _ _ _
      | exact alidaderef02_Small.mono _ _ _ _
      | exact LeO.none _
      | refine LeO.ite ?_ ?_
      | refine LeO.bind ?_ (fun _ => ?_)
theorem alidaderef04_Parse.mono : ∀ a0 k, LeO (alidaderef04_Parse.f k a0) (alidaderef04_Parse.f (k + 1) a0) := by
  intro a0 k
  obtain ⟨ih0, ih1, ih2⟩ := alidaderef04_Parse.mono_l k
  unfold alidaderef04_Parse.f
  repeat' first
      | (with_reducible exact ih0 _ _)
      | (with_reducible exact ih1 _ _)
      | (with_reducible exact ih2 _ _ _)
      | (with_reducible exact alidaderef02_Small.mono _ _ _ _)
      | (with_reducible exact LeO.refl _)
      | (with_reducible exact LeO.none _)
      | (with_reducible refine LeO.ite ?_ ?_)
      | (with_reducible refine LeO.bind ?_ (fun _ => ?_))
      | exact ih0 _ _
      | exact ih1 _ _
      | exact ih2 _ _ _
      | exact alidaderef02_Small.mono _ _ _ _
      | exact LeO.none _
      | refine LeO.ite ?_ ?_
      | refine LeO.bind ?_ (fun _ => ?_)
set_option maxHeartbeats 8000000 in
set_option maxRecDepth 100000 in
theorem alidaderef04_Parse.calls (k : Nat) (a0 : ByteArray) (r1 : List Int) (r2 : Int) (w : World) (h : alidaderef04_Parse.f k a0 = some (r1, r2)) :
    Calls Tryd.prog 15 #[.string a0] w fun e w' => ∃ v0_ : Value, e = .returned (.tuple #[v0_, .int .i64 r2]) ∧ Kd.V (Kd.int .u32) 39 w' w.heap.size (fun k_ => (w.heap.size ≤ k_)) v0_ r1 ∧ Below w.heap.size w w' := by
  have HB := Aside0.mk (Below.refl w.heap.size w)
  have H : (alidaderef04_Parse.l0 k a0 0) = some (r1, r2) := h
  clear h
  have H' := Aside0.mk H
  clear H
  go_enter Tryd.func15, Tryd.ntmps15
  go_wp2
  go_loopg [4] k (fun kq v4 w' => ∃ (x4_1 : Int), v4 = .int .i64 x4_1 ∧ Aside0 (alidaderef04_Parse.l0 kq a0 x4_1 = some (r1, r2)) ∧ Aside0 (kq ≤ k) ∧ Aside0 (Below w.heap.size w w'))
  case atStart => exact ⟨(0), (by first | rfl | (simp; done) | (simp [*]; done)), H', ⟨Nat.le_refl _⟩, ⟨by repeat (first | (with_reducible first | exact HB.out | apply below_alloc | apply pw_below_drewN | apply below_drew1) | exact HB.out)⟩⟩
  case round =>
    clear H'
    try clear c1
    obtain ⟨x4_1, rfl, HA, HK1, HB⟩ := hrel
    cases gk with
    | zero => exact absurd HA.out (by simp [alidaderef04_Parse.l0])
    | succ k1 =>
      have H := HA.out
      clear HA
      simp only [alidaderef04_Parse.l0] at H
      by_cases c2 : x4_1 < (a0.size : Int)
      · rw [if_pos c2] at H
        have c2b0 : decide (x4_1 < (a0.size : Int)) = true := decide_eq_true c2
        clear c2
        by_cases c3 : 0 ≤ x4_1
        · rw [if_pos c3] at H
          have c3b0 : decide (0 ≤ x4_1) = true := decide_eq_true c3
          clear c3
          by_cases c5 : (bt a0 x4_1) < 48
          · rw [if_pos c5] at H
            have c5b0 : decide ((bt a0 x4_1) < 48) = true := decide_eq_true c5
            clear c5
            simp only [Option.some.injEq, Prod.mk.injEq] at H
            obtain ⟨rfl, rfl⟩ := H
            have p4 : 0 ≤ (x4_1 : Int) := of_decide_eq_true (by first | (with_reducible assumption) | assumption)
            have q4 : x4_1 < (a0.size : Int) := of_decide_eq_true (by first | (with_reducible assumption) | assumption)
            have hx4 := bt_at a0 x4_1
            replace p4 := eq_true p4
            replace q4 := eq_true q4
            go_wp2
            go_ret2
            exact ⟨_, by first | rfl | (simp [errW_none, errW_some] <;> rfl) | (simp [*, errW_none, errW_some] <;> rfl), Kd.V_nil _ _ _ _ _, by repeat (first | (with_reducible first | exact HB.out | apply below_alloc | apply pw_below_drewN | apply below_drew1) | exact HB.out)⟩
          · rw [if_neg c5] at H
            have c5b0 : decide ((bt a0 x4_1) < 48) = false := decide_eq_false c5
            clear c5
            by_cases c7 : (bt a0 x4_1) > 57
            · rw [if_pos c7] at H
              have c7b0 : decide (57 < (bt a0 x4_1)) = true := decide_eq_true c7
              clear c7
              simp only [Option.some.injEq, Prod.mk.injEq] at H
              obtain ⟨rfl, rfl⟩ := H
              have p4 : 0 ≤ (x4_1 : Int) := of_decide_eq_true (by first | (with_reducible assumption) | assumption)
              have q4 : x4_1 < (a0.size : Int) := of_decide_eq_true (by first | (with_reducible assumption) | assumption)
              have hx4 := bt_at a0 x4_1
              replace p4 := eq_true p4
              replace q4 := eq_true q4
              have p6 : 0 ≤ (x4_1 : Int) := of_decide_eq_true (by first | (with_reducible assumption) | assumption)
              have q6 : x4_1 < (a0.size : Int) := of_decide_eq_true (by first | (with_reducible assumption) | assumption)
              have hx6 := bt_at a0 x4_1
              replace p6 := eq_true p6
              replace q6 := eq_true q6
              go_wp2
              go_ret2
              exact ⟨_, by first | rfl | (simp [errW_none, errW_some] <;> rfl) | (simp [*, errW_none, errW_some] <;> rfl), Kd.V_nil _ _ _ _ _, by repeat (first | (with_reducible first | exact HB.out | apply below_alloc | apply pw_below_drewN | apply below_drew1) | exact HB.out)⟩
            · rw [if_neg c7] at H
              have c7b0 : decide (57 < (bt a0 x4_1)) = false := decide_eq_false c7
              clear c7
              have H' := Aside0.mk H
              clear H
              have p4 : 0 ≤ (x4_1 : Int) := of_decide_eq_true (by first | (with_reducible assumption) | assumption)
              have q4 : x4_1 < (a0.size : Int) := of_decide_eq_true (by first | (with_reducible assumption) | assumption)
              have hx4 := bt_at a0 x4_1
              replace p4 := eq_true p4
              replace q4 := eq_true q4
              have p6 : 0 ≤ (x4_1 : Int) := of_decide_eq_true (by first | (with_reducible assumption) | assumption)
              have q6 : x4_1 < (a0.size : Int) := of_decide_eq_true (by first | (with_reducible assumption) | assumption)
              have hx6 := bt_at a0 x4_1
              replace p6 := eq_true p6
              replace q6 := eq_true q6
              go_wp2
              go_roundg k1
              case measure => have := HK1.out; omega
              case rel => exact ⟨(wrap64 (x4_1 + 1)), (by first | rfl | (simp; done) | (simp [*]; done)), H', ⟨by have := HK1.out; omega⟩, ⟨by repeat (first | (with_reducible first | exact HB.out | apply below_alloc | apply pw_below_drewN | apply below_drew1) | exact HB.out)⟩⟩
        · rw [if_neg c3] at H
          exact absurd H (by simp)
      · rw [if_neg c2] at H
        have c2b0 : decide (x4_1 < (a0.size : Int)) = false := decide_eq_false c2
        clear c2
        have HC8 := Aside0.mk H
        clear H
        go_upto_region 6 with (fail)
        go_cut [35] (fun v35 wc => ∃ (kq : Nat) (x35_7 : Bool), v35 = .bool x35_7 ∧ Aside0 (alidaderef04_Parse.j1 kq a0 x35_7 = some (r1, r2)) ∧ Aside0 (kq ≤ k1) ∧ Aside0 (Below w.heap.size w wc))
        case first =>
          have H := HC8.out
          clear HC8
          by_cases c9 : a0.toList = ([] : List UInt8)
          · rw [if_pos c9] at H
            have c9b0 : (a0.toList == ([] : List UInt8)) = true := beq_iff_eq.mpr c9
            have c9b1 : (a0.toList != ([] : List UInt8)) = false := bne_eq_false_iff_eq.mpr c9
            clear c9
            (first | rw [c9b0] | (simp only [i64_w, i32_w]; rw [c9b0]) | skip)
            have H' := Aside0.mk H
            clear H
            go_wp2
            go_meet
            case rel => exact ⟨_, (true), (by first | rfl | (simp; done) | (simp [*]; done)), H', ⟨by have := HK1.out; first | omega | exact Nat.le_refl _⟩, ⟨by repeat (first | (with_reducible first | exact HB.out | apply below_alloc | apply pw_below_drewN | apply below_drew1) | exact HB.out)⟩⟩
          · rw [if_neg c9] at H
            have c9b0 : (a0.toList == ([] : List UInt8)) = false := beq_eq_false_iff_ne.mpr c9
            have c9b1 : (a0.toList != ([] : List UInt8)) = true := bne_iff_ne.mpr c9
            (first | rw [c9b0] | (simp only [i64_w, i32_w]; rw [c9b0]) | skip)
            by_cases c10 : 0 < (a0.size : Int)
            · rw [if_pos c10] at H
              have c10b0 : decide (0 < (a0.size : Int)) = true := decide_eq_true c10
              have c10b1 : decide (0 < a0.size) = true := decide_eq_true (by omega)
              clear c10
              by_cases c12 : (bt a0 0) = 48
              · rw [if_pos c12] at H
                have c12b0 : ((bt a0 0) == 48) = true := beq_iff_eq.mpr c12
                have c12b1 : ((bt a0 0) != 48) = false := bne_eq_false_iff_eq.mpr c12
                clear c12
                have H' := Aside0.mk H
                clear H
                have p11 : 0 ≤ (0 : Int) := (by omega)
                have q11 : 0 < a0.size := (by have : (0 : Int) < (a0.size : Int) := of_decide_eq_true (by first | (with_reducible assumption) | assumption); omega)
                have hx11 : ∀ h : 0 < a0.size, ((a0[0]'h).toNat : Int) = bt a0 0 := bt_at a0 0
                clear p11
                have qi11 : (0 < (a0.size : Int)) = True := eq_true (of_decide_eq_true (by first | (with_reducible assumption) | assumption))
                replace q11 := eq_true q11
                go_wp2
                go_meet
                case rel => exact ⟨_, (decide ((a0.size : Int) > 1)), (by first | rfl | (simp; done) | (simp [*]; done)), H', ⟨by have := HK1.out; first | omega | exact Nat.le_refl _⟩, ⟨by repeat (first | (with_reducible first | exact HB.out | apply below_alloc | apply pw_below_drewN | apply below_drew1) | exact HB.out)⟩⟩
              · rw [if_neg c12] at H
                have c12b0 : ((bt a0 0) == 48) = false := beq_eq_false_iff_ne.mpr c12
                have c12b1 : ((bt a0 0) != 48) = true := bne_iff_ne.mpr c12
                have H' := Aside0.mk H
                clear H
                have p11 : 0 ≤ (0 : Int) := (by omega)
                have q11 : 0 < a0.size := (by have : (0 : Int) < (a0.size : Int) := of_decide_eq_true (by first | (with_reducible assumption) | assumption); omega)
                have hx11 : ∀ h : 0 < a0.size, ((a0[0]'h).toNat : Int) = bt a0 0 := bt_at a0 0
                clear p11
                have qi11 : (0 < (a0.size : Int)) = True := eq_true (of_decide_eq_true (by first | (with_reducible assumption) | assumption))
                replace q11 := eq_true q11
                go_wp2
                go_meet
                case rel => exact ⟨_, (false), (by first | rfl | (simp; done) | (simp [*]; done)), H', ⟨by have := HK1.out; first | omega | exact Nat.le_refl _⟩, ⟨by repeat (first | (with_reducible first | exact HB.out | apply below_alloc | apply pw_below_drewN | apply below_drew1) | exact HB.out)⟩⟩
            · rw [if_neg c10] at H
              exact absurd H (by simp)
        case rest =>
          clear HC8
          try clear c1
          try clear p1
          try clear q1
          try clear hx1
          try clear qi1
          try clear c2
          try clear c2b0
          try clear p2
          try clear c3
          try clear c3b0
          try clear p4
          try clear q4
          try clear hx4
          try clear c5
          try clear c5b0
          try clear p6
          try clear q6
          try clear hx6
          try clear c7
          try clear c7b0
          try clear c9
          try clear c9b0
          try clear c9b1
          try clear c10
          try clear c10b0
          try clear c10b1
          try clear p11
          try clear q11
          try clear hx11
          try clear qi11
          try clear c12
          try clear c12b0
          try clear c12b1
          try clear p11
          try clear p4
          try clear p6
          try clear q11
          try clear q4
          try clear q6
          obtain ⟨kq, x35_7, rfl, HA, HJ7, HB⟩ := hcut
          cases kq with
          | zero => exact absurd HA.out (by simp [alidaderef04_Parse.j1])
          | succ kj7 =>
            have H := HA.out
            clear HA
            simp only [alidaderef04_Parse.j1] at H
            by_cases c13 : x35_7 = true
            · subst c13
              have H1 : (some (([] : List Int), 4)) = some (r1, r2) := by rw [if_pos rfl] at H; exact H
              clear H
              have H := H1
              clear H1
              simp only [Option.some.injEq, Prod.mk.injEq] at H
              obtain ⟨rfl, rfl⟩ := H
              go_wp2
              go_ret2
              exact ⟨_, by first | rfl | (simp [errW_none, errW_some] <;> rfl) | (simp [*, errW_none, errW_some] <;> rfl), Kd.V_nil _ _ _ _ _, by repeat (first | (with_reducible first | exact HB.out | apply below_alloc | apply pw_below_drewN | apply below_drew1) | exact HB.out)⟩
            · replace c13 := Bool.eq_false_iff.mpr c13
              subst c13
              have H1 : (alidaderef04_Parse.l1 kj7 a0 ([] : List Int) 0) = some (r1, r2) := by rw [if_neg (show ¬ (false = true) by decide)] at H; exact H
              clear H
              have H := H1
              clear H1
              have H' := Aside0.mk H
              clear H
              go_wp2
              go_loopg [5, 6] kj7 (fun kq v5 v6 w' => ∃ (x5_3 : List Int) (x6_3 : Int), v6 = .int .i64 x6_3 ∧ Aside0 (alidaderef04_Parse.l1 kq a0 x5_3 x6_3 = some (r1, r2)) ∧ Aside0 (kq ≤ kj7) ∧ Aside0 (Kd.V (Kd.int .u32) 39 w' w.heap.size (fun k_ => (w.heap.size ≤ k_)) v5 x5_3) ∧ Aside0 (Below w.heap.size w w'))
              case atStart => exact ⟨(([] : List Int)), (0), (by first | rfl | (simp; done) | (simp [*]; done)), H', ⟨Nat.le_refl _⟩, ⟨Kd.V_nil _ _ _ _ _⟩, ⟨by repeat (first | (with_reducible first | exact HB.out | apply below_alloc | apply pw_below_drewN | apply below_drew1) | exact HB.out)⟩⟩
              case round =>
                clear H'
                try clear c1
                try clear p1
                try clear q1
                try clear hx1
                try clear qi1
                try clear c2
                try clear c2b0
                try clear p2
                try clear c3
                try clear c3b0
                try clear p4
                try clear q4
                try clear hx4
                try clear c5
                try clear c5b0
                try clear p6
                try clear q6
                try clear hx6
                try clear c7
                try clear c7b0
                try clear c9
                try clear c9b0
                try clear c9b1
                try clear c10
                try clear c10b0
                try clear c10b1
                try clear p11
                try clear q11
                try clear hx11
                try clear qi11
                try clear c12
                try clear c12b0
                try clear c12b1
                try clear c13
                try clear p1
                try clear p11
                try clear p2
                try clear p4
                try clear p6
                try clear q1
                try clear q11
                try clear q4
                try clear q6
                obtain ⟨x5_3, x6_3, rfl, HA, HK3, HO_5, HB⟩ := hrel
                cases gk with
                | zero => exact absurd HA.out (by simp [alidaderef04_Parse.l1])
                | succ k3 =>
                  have H := HA.out
                  clear HA
                  simp only [alidaderef04_Parse.l1] at H
                  by_cases c14 : x6_3 < (a0.size : Int)
                  · rw [if_pos c14] at H
                    have c14b0 : decide (x6_3 < (a0.size : Int)) = true := decide_eq_true c14
                    clear c14
                    by_cases c15 : 0 ≤ x6_3
                    · rw [if_pos c15] at H
                      have c15b0 : decide (0 ≤ x6_3) = true := decide_eq_true c15
                      clear c15
                      replace H := Option.bind_eq_some_iff.mp H
                      obtain ⟨t335, A170, H⟩ := H
                      replace H : (if (t335.length : Int) = 0 then (if (x5_3.length : Int) > 0 then (some (([] : List Int), 40)) else (alidaderef04_Parse.l1 k3 a0 t335 (wrap64 (x6_3 + 1)))) else (alidaderef04_Parse.l1 k3 a0 t335 (wrap64 (x6_3 + 1)))) = some (r1, r2) := H
                      have A17 := Aside0.mk A170
                      clear A170
                      by_cases c18 : (t335.length : Int) = 0
                      · rw [if_pos c18] at H
                        have c18b0 : ((t335.length : Int) == 0) = true := beq_iff_eq.mpr c18
                        have c18b1 : ((t335.length : Int) != 0) = false := bne_eq_false_iff_eq.mpr c18
                        clear c18
                        by_cases c19 : (x5_3.length : Int) > 0
                        · rw [if_pos c19] at H
                          have c19b0 : decide (0 < (x5_3.length : Int)) = true := decide_eq_true c19
                          have c19b1 : decide (0 < x5_3.length) = true := decide_eq_true (by omega)
                          clear c19
                          simp only [Option.some.injEq, Prod.mk.injEq] at H
                          obtain ⟨rfl, rfl⟩ := H
                          have p16 : 0 ≤ (x6_3 : Int) := of_decide_eq_true (by first | (with_reducible assumption) | assumption)
                          have q16 : x6_3 < (a0.size : Int) := of_decide_eq_true (by first | (with_reducible assumption) | assumption)
                          have hx16 := bt_at a0 x6_3
                          replace p16 := eq_true p16
                          replace q16 := eq_true q16
                          obtain ⟨Ao20, co20, eo20⟩ := Kd.V_slice HO_5.out
                          subst eo20
                          go_wp2_with (first | ((with_reducible refine gate_callee (f := 40) rfl ?_); refine goesL_ (some 48) rfl rfl Tryd.func40 (by kernel_rfl) rfl #[.slice Ao20 x5_3.length co20, .int .u32 10, .int .u32 (((bt a0 x6_3) - 48) % 256)] rfl (by (try simp only [List.map_toArray, List.map_cons, List.map_nil]); first | done | rfl | (simp only [List.length_drop, List.length_take]; rfl)) ?_; (with_reducible refine (alidaderef02_Small.calls k3 _ _ x5_3 10 (((bt a0 x6_3) - 48) % 256) t335 _ ?side1 ?side2 A17.out).mono ?_); (case side1 => repeat (first | exact (Kd.V_reads' HO_5.out).2.2 | (with_reducible refine Kd.C_alloc ?_ _) | (with_reducible refine Kd.C_drewN ?_ _) | (with_reducible refine Kd.C_drew ?_))); (case side2 => exact (Kd.V_reads' HO_5.out).2.1); rintro e w21 ⟨v336, rfl, ho0, hb⟩; refine ⟨_, rfl, ?_⟩; have n0_ := Aside0.mk (Kd.V_below (by (with_reducible repeat (first | apply Kd.V_alloc | apply Kd.V_drewN | apply Kd.V_drew)); exact HO_5.out) hb); have n1_ := Aside0.mk (Kd.V_lower (Kd.V_mono (ok' := fun k_ => (w.heap.size ≤ k_)) ho0 (fun k_ hk_ => (Nat.le_trans (below_size (by repeat (first | (with_reducible first | exact HB.out | apply below_alloc | apply pw_below_drewN | apply below_drew1) | exact HB.out))) hk_))) (below_size (by repeat (first | (with_reducible first | exact HB.out | apply below_alloc | apply pw_below_drewN | apply below_drew1) | exact HB.out)))); have n2_ := Aside0.mk (below_step (by repeat (first | (with_reducible first | exact HB.out | apply below_alloc | apply pw_below_drewN | apply below_drew1) | exact HB.out)) hb); clear HO_5; clear HB; have HO_5 := n0_; have HO337 := n1_; have HB := n2_; clear n0_ n1_ n2_; (try clear hb); (try clear hb2); (try clear hk); (try clear hi); (try clear ho0); obtain ⟨Ao22, co22, eo22⟩ := Kd.V_slice HO337.out; subst eo22))
                          go_ret2
                          exact ⟨_, by first | rfl | (simp [errW_none, errW_some] <;> rfl) | (simp [*, errW_none, errW_some] <;> rfl), Kd.V_nil _ _ _ _ _, by repeat (first | (with_reducible first | exact HB.out | apply below_alloc | apply pw_below_drewN | apply below_drew1) | exact HB.out)⟩
                        · rw [if_neg c19] at H
                          have c19b0 : decide (0 < (x5_3.length : Int)) = false := decide_eq_false c19
                          have c19b1 : decide (0 < x5_3.length) = false := decide_eq_false (by omega)
                          clear c19
                          have H' := Aside0.mk H
                          clear H
                          have p16 : 0 ≤ (x6_3 : Int) := of_decide_eq_true (by first | (with_reducible assumption) | assumption)
                          have q16 : x6_3 < (a0.size : Int) := of_decide_eq_true (by first | (with_reducible assumption) | assumption)
                          have hx16 := bt_at a0 x6_3
                          replace p16 := eq_true p16
                          replace q16 := eq_true q16
                          obtain ⟨Ao23, co23, eo23⟩ := Kd.V_slice HO_5.out
                          subst eo23
                          go_wp2_with (first | ((with_reducible refine gate_callee (f := 40) rfl ?_); refine goesL_ (some 48) rfl rfl Tryd.func40 (by kernel_rfl) rfl #[.slice Ao23 x5_3.length co23, .int .u32 10, .int .u32 (((bt a0 x6_3) - 48) % 256)] rfl (by (try simp only [List.map_toArray, List.map_cons, List.map_nil]); first | done | rfl | (simp only [List.length_drop, List.length_take]; rfl)) ?_; (with_reducible refine (alidaderef02_Small.calls k3 _ _ x5_3 10 (((bt a0 x6_3) - 48) % 256) t335 _ ?side1 ?side2 A17.out).mono ?_); (case side1 => repeat (first | exact (Kd.V_reads' HO_5.out).2.2 | (with_reducible refine Kd.C_alloc ?_ _) | (with_reducible refine Kd.C_drewN ?_ _) | (with_reducible refine Kd.C_drew ?_))); (case side2 => exact (Kd.V_reads' HO_5.out).2.1); rintro e w24 ⟨v336, rfl, ho0, hb⟩; refine ⟨_, rfl, ?_⟩; have n0_ := Aside0.mk (Kd.V_below (by (with_reducible repeat (first | apply Kd.V_alloc | apply Kd.V_drewN | apply Kd.V_drew)); exact HO_5.out) hb); have n1_ := Aside0.mk (Kd.V_lower (Kd.V_mono (ok' := fun k_ => (w.heap.size ≤ k_)) ho0 (fun k_ hk_ => (Nat.le_trans (below_size (by repeat (first | (with_reducible first | exact HB.out | apply below_alloc | apply pw_below_drewN | apply below_drew1) | exact HB.out))) hk_))) (below_size (by repeat (first | (with_reducible first | exact HB.out | apply below_alloc | apply pw_below_drewN | apply below_drew1) | exact HB.out)))); have n2_ := Aside0.mk (below_step (by repeat (first | (with_reducible first | exact HB.out | apply below_alloc | apply pw_below_drewN | apply below_drew1) | exact HB.out)) hb); clear HO_5; clear HB; have HO_5 := n0_; have HO337 := n1_; have HB := n2_; clear n0_ n1_ n2_; (try clear hb); (try clear hb2); (try clear hk); (try clear hi); (try clear ho0); obtain ⟨Ao25, co25, eo25⟩ := Kd.V_slice HO337.out; subst eo25))
                          go_roundg k3
                          case measure => have := HK1.out; have := HJ7.out; have := HK3.out; omega
                          case rel => exact ⟨(t335), (wrap64 (x6_3 + 1)), (by first | rfl | (simp; done) | (simp [*]; done)), H', ⟨by have := HK1.out; have := HJ7.out; have := HK3.out; omega⟩, ⟨by (with_reducible repeat (first | apply Kd.V_alloc | apply Kd.V_drewN | apply Kd.V_drew)); exact HO337.out⟩, ⟨by repeat (first | (with_reducible first | exact HB.out | apply below_alloc | apply pw_below_drewN | apply below_drew1) | exact HB.out)⟩⟩
                      · rw [if_neg c18] at H
                        have c18b0 : ((t335.length : Int) == 0) = false := beq_eq_false_iff_ne.mpr c18
                        have c18b1 : ((t335.length : Int) != 0) = true := bne_iff_ne.mpr c18
                        have c18b2 : ¬ (t335 = []) := fun h_ => c18 (by rw [h_]; rfl)
                        have H' := Aside0.mk H
                        clear H
                        have p16 : 0 ≤ (x6_3 : Int) := of_decide_eq_true (by first | (with_reducible assumption) | assumption)
                        have q16 : x6_3 < (a0.size : Int) := of_decide_eq_true (by first | (with_reducible assumption) | assumption)
                        have hx16 := bt_at a0 x6_3
                        replace p16 := eq_true p16
                        replace q16 := eq_true q16
                        obtain ⟨Ao26, co26, eo26⟩ := Kd.V_slice HO_5.out
                        subst eo26
                        go_wp2_with (first | ((with_reducible refine gate_callee (f := 40) rfl ?_); refine goesL_ (some 48) rfl rfl Tryd.func40 (by kernel_rfl) rfl #[.slice Ao26 x5_3.length co26, .int .u32 10, .int .u32 (((bt a0 x6_3) - 48) % 256)] rfl (by (try simp only [List.map_toArray, List.map_cons, List.map_nil]); first | done | rfl | (simp only [List.length_drop, List.length_take]; rfl)) ?_; (with_reducible refine (alidaderef02_Small.calls k3 _ _ x5_3 10 (((bt a0 x6_3) - 48) % 256) t335 _ ?side1 ?side2 A17.out).mono ?_); (case side1 => repeat (first | exact (Kd.V_reads' HO_5.out).2.2 | (with_reducible refine Kd.C_alloc ?_ _) | (with_reducible refine Kd.C_drewN ?_ _) | (with_reducible refine Kd.C_drew ?_))); (case side2 => exact (Kd.V_reads' HO_5.out).2.1); rintro e w27 ⟨v336, rfl, ho0, hb⟩; refine ⟨_, rfl, ?_⟩; have n0_ := Aside0.mk (Kd.V_below (by (with_reducible repeat (first | apply Kd.V_alloc | apply Kd.V_drewN | apply Kd.V_drew)); exact HO_5.out) hb); have n1_ := Aside0.mk (Kd.V_lower (Kd.V_mono (ok' := fun k_ => (w.heap.size ≤ k_)) ho0 (fun k_ hk_ => (Nat.le_trans (below_size (by repeat (first | (with_reducible first | exact HB.out | apply below_alloc | apply pw_below_drewN | apply below_drew1) | exact HB.out))) hk_))) (below_size (by repeat (first | (with_reducible first | exact HB.out | apply below_alloc | apply pw_below_drewN | apply below_drew1) | exact HB.out)))); have n2_ := Aside0.mk (below_step (by repeat (first | (with_reducible first | exact HB.out | apply below_alloc | apply pw_below_drewN | apply below_drew1) | exact HB.out)) hb); clear HO_5; clear HB; have HO_5 := n0_; have HO337 := n1_; have HB := n2_; clear n0_ n1_ n2_; (try clear hb); (try clear hb2); (try clear hk); (try clear hi); (try clear ho0); obtain ⟨Ao28, co28, eo28⟩ := Kd.V_slice HO337.out; subst eo28))
                        go_roundg k3
                        case measure => have := HK1.out; have := HJ7.out; have := HK3.out; omega
                        case rel => exact ⟨(t335), (wrap64 (x6_3 + 1)), (by first | rfl | (simp; done) | (simp [*]; done)), H', ⟨by have := HK1.out; have := HJ7.out; have := HK3.out; omega⟩, ⟨by (with_reducible repeat (first | apply Kd.V_alloc | apply Kd.V_drewN | apply Kd.V_drew)); exact HO337.out⟩, ⟨by repeat (first | (with_reducible first | exact HB.out | apply below_alloc | apply pw_below_drewN | apply below_drew1) | exact HB.out)⟩⟩
                    · rw [if_neg c15] at H
                      exact absurd H (by simp)
                  · rw [if_neg c14] at H
                    have c14b0 : decide (x6_3 < (a0.size : Int)) = false := decide_eq_false c14
                    clear c14
                    simp only [Option.some.injEq, Prod.mk.injEq] at H
                    obtain ⟨rfl, rfl⟩ := H
                    go_wp2
                    go_ret2
                    exact ⟨_, by first | rfl | (simp [errW_none, errW_some] <;> rfl) | (simp [*, errW_none, errW_some] <;> rfl), by (with_reducible repeat (first | apply Kd.V_alloc | apply Kd.V_drewN | apply Kd.V_drew)); exact HO_5.out, by repeat (first | (with_reducible first | exact HB.out | apply below_alloc | apply pw_below_drewN | apply below_drew1) | exact HB.out)⟩
theorem num_take_le (l : List UInt8) (i : Nat) (hd : Nums.allDig l = true) : Nums.num (l.take i) ≤ Nums.num l := by
  have h := Nums.num_append (l.take i) (l.drop i)
  rw [List.take_append_drop] at h
  rw [h]
  exact Nat.le_trans (Nat.le_mul_of_pos_right _ (Nat.pow_pos (by decide))) (Nat.le_add_right _ _)
theorem bt_at_nat (s : ByteArray) (i : Nat) (h : i < s.data.toList.length) : bt s (i : Int) = s.data.toList[i].toNat := by
  have hz := Nums.size_toList s
  unfold bt
  rw [dif_pos (show (i : Int).toNat < s.size by omega)]
  rfl
theorem refparse_l1 (s : ByteArray) (hs : s.size ≤ 140737488355328) (hd : Nums.allDig s.data.toList = true) :
    ∀ (d i : Nat), i + d = s.data.toList.length → Nums.num (s.data.toList.take i) < 4294967296 ^ 65536 →
      Nums.Ev (fun k => alidaderef04_Parse.l1 k s (Nums.toL (Nums.num (s.data.toList.take i))) (i : Int)) (if Nums.num s.data.toList < 4294967296 ^ 65536 then (Nums.toL (Nums.num s.data.toList), 0) else ([], 40)) := by
  have hz := Nums.size_toList s
  have hlim := fun n => @Nums.lim_eq n
  have hbig := fun n => @Nums.lim_big n
  have hsm : ∀ V c : Nat, V < 4294967296 ^ 65536 → c < 10 → Nums.Ev (fun k => alidaderef02_Small.f k (Nums.toL V) 10 (c : Int)) (Nums.lim (V * 10 + c)) := by
    intro V c hV hc
    have h := ref_Small_ev (Nums.toL V) 10 (c : Int) (Nums.rng_toL V) (Nums.may_toL hV) (by decide) ⟨by omega, by omega⟩
    rw [Nums.val_toL, Int.toNat_natCast] at h
    exact h
  have hM0 : 10 ≤ 4294967296 ^ 65536 := Nat.le_trans (show 10 ≤ 4294967296 ^ 1 by decide) (Nums.pow_le_gen 4294967296 1 65536 (by decide) (by decide))
  obtain ⟨M, hMM⟩ : ∃ M, 4294967296 ^ 65536 = M := ⟨_, rfl⟩
  rw [hMM] at hlim hbig hsm hM0 ⊢
  clear hMM
  intro d
  induction d with
  | zero =>
    intro i hi hV
    obtain rfl : i = s.data.toList.length := by omega
    rw [List.take_length] at hV ⊢
    rw [if_pos hV]
    have hni : ¬ ((s.data.toList.length : Int) < (s.size : Int)) := by omega
    refine Nums.Ev.now fun k => ?_
    rw [alidaderef04_Parse.l1, if_neg hni]
  | succ d ih =>
    intro i hi hV
    have hin : i < s.data.toList.length := by omega
    have hb := Nums.allDig_iff.1 hd _ (List.getElem_mem hin)
    have hbt := bt_at_nat s i hin
    have hnx := Nums.num_take_succ s.data.toList i hin
    have hle := num_take_le s.data.toList (i + 1) hd
    have hii : (i : Int) < (s.size : Int) := by omega
    have hsi := Aside0.mk (w64_succ (a := i) (by omega))
    obtain ⟨x, hx⟩ : ∃ x, s.data.toList[i] = x := ⟨_, rfl⟩
    rw [hx] at hb hbt hnx
    obtain ⟨V, hVV⟩ : ∃ V, Nums.num (s.data.toList.take i) = V := ⟨_, rfl⟩
    rw [hVV] at hV hnx ⊢
    have hc : ((x.toNat : Int) - 48) % 256 = ((x.toNat - 48 : Nat) : Int) := by omega
    have h1 := hsm V (x.toNat - 48) hV (by omega)
    have e10 : V * 10 + (x.toNat - 48) = Nums.num (s.data.toList.take (i + 1)) := by rw [hnx]; omega
    rw [e10] at h1
    refine Nums.Ev.succ (g := fun k => (alidaderef02_Small.f k (Nums.toL V) 10 ((x.toNat - 48 : Nat) : Int)).bind fun t => (if (t.length : Int) = 0 then (if ((Nums.toL V).length : Int) > 0 then (some (([] : List Int), 40)) else (alidaderef04_Parse.l1 k s t ((i + 1 : Nat) : Int))) else (alidaderef04_Parse.l1 k s t ((i + 1 : Nat) : Int)))) (Nums.Ev.bind (f := fun k => alidaderef02_Small.f k (Nums.toL V) 10 ((x.toNat - 48 : Nat) : Int)) h1 ?_) fun k => ?_
    · by_cases hW : Nums.num (s.data.toList.take (i + 1)) < M
      · have h2 := ih (i + 1) (by omega) hW
        rw [hlim _ hW]
        by_cases h0 : Nums.num (s.data.toList.take (i + 1)) = 0
        · have hV0 : V = 0 := by omega
          rw [h0] at h2 ⊢
          subst hV0
          rw [Nums.toL_zero] at h2 ⊢
          simp only [List.length_nil]
          refine h2.congr fun k => ?_
          rw [if_pos (by decide), if_neg (by decide)]
        · have hne := toL_len_ne (show 0 < Nums.num (s.data.toList.take (i + 1)) by omega)
          simp only [if_neg hne]
          exact h2
      · have hV0 : 0 < V := by omega
        have hVl : ((Nums.toL V).length : Int) > 0 := by have := toL_ne hV0; omega
        rw [hbig _ hW, if_neg (show ¬ Nums.num s.data.toList < M by omega)]
        refine Nums.Ev.of fun k => ?_
        simp only [List.length_nil]
        rw [if_pos (by rfl), if_pos hVl]
    · rw [alidaderef04_Parse.l1, if_pos hii, if_pos (Int.natCast_nonneg _), hbt, hc, hsi.out]
theorem refparse_l0 (s : ByteArray) (hs : s.size ≤ 140737488355328) :
    ∀ (d i : Nat), i + d = s.data.toList.length → Nums.allDig (s.data.toList.take i) = true →
      Nums.Ev (fun k => alidaderef04_Parse.l0 k s (i : Int)) (if Nums.good s.data.toList = true then (if Nums.num s.data.toList < 4294967296 ^ 65536 then (Nums.toL (Nums.num s.data.toList), 0) else ([], 40)) else ([], 4)) := by
  have hz := Nums.size_toList s
  intro d
  induction d with
  | zero =>
    intro i hi hd
    obtain rfl : i = s.data.toList.length := by omega
    rw [List.take_length] at hd
    have hni : ¬ ((s.data.toList.length : Int) < (s.size : Int)) := by omega
    have hj : Nums.Ev (fun k => alidaderef04_Parse.j1 k s true) (([] : List Int), (4 : Int)) := Nums.Ev.now fun k => by rw [alidaderef04_Parse.j1, if_pos rfl]
    have hl1 := refparse_l1 s hs hd s.data.toList.length 0 (by omega) (by
      rw [List.take_zero, Nums.num_nil]
      exact Nat.lt_of_lt_of_le (show 0 < 4294967296 ^ 1 by decide) (Nums.pow_le_gen 4294967296 1 65536 (by decide) (by decide)))
    rw [List.take_zero, Nums.num_nil, Nums.toL_zero] at hl1
    have hj0 : Nums.Ev (fun k => alidaderef04_Parse.j1 k s false) (if Nums.num s.data.toList < 4294967296 ^ 65536 then (Nums.toL (Nums.num s.data.toList), 0) else ([], 40)) := hl1.succ fun k => by rw [alidaderef04_Parse.j1, if_neg (by decide)]; rfl
    by_cases h0 : s.data.toList = []
    · rw [if_neg (by rw [h0]; decide)]
      refine hj.succ fun k => ?_
      rw [alidaderef04_Parse.l0, if_neg hni, Lib.toList_data, if_pos h0]
    · have hp := List.length_pos_iff.2 h0
      have hps : (0 : Int) < (s.size : Int) := by omega
      by_cases h1 : bt s 0 = 48
      · have h2 := (bt_head s (by omega)).1 h1
        by_cases h3 : s.data.toList.length = 1
        · rw [if_pos (Nums.good_iff.2 ⟨h0, .inr h3, hd⟩)]
          refine hj0.succ fun k => ?_
          rw [alidaderef04_Parse.l0, if_neg hni, Lib.toList_data, if_neg h0, if_pos hps, if_pos h1, decide_eq_false (by omega)]
        · rw [if_neg (fun hg => by rcases (Nums.good_iff.1 hg).2.1 with h | h; exact h h2; exact h3 h)]
          refine hj.succ fun k => ?_
          rw [alidaderef04_Parse.l0, if_neg hni, Lib.toList_data, if_neg h0, if_pos hps, if_pos h1, decide_eq_true (by omega)]
      · rw [if_pos (Nums.good_iff.2 ⟨h0, .inl (fun h => h1 ((bt_head s (by omega)).2 h)), hd⟩)]
        refine hj0.succ fun k => ?_
        rw [alidaderef04_Parse.l0, if_neg hni, Lib.toList_data, if_neg h0, if_pos hps, if_neg h1]
  | succ d ih =>
    intro i hi hd
    have hin : i < s.data.toList.length := by omega
    have hbt := bt_at_nat s i hin
    have hii : (i : Int) < (s.size : Int) := by omega
    have hsi := Aside0.mk (w64_succ (a := i) (by omega))
    have hmem := List.getElem_mem hin
    have hts : s.data.toList.take (i + 1) = s.data.toList.take i ++ [s.data.toList[i]] := by rw [List.take_add_one, List.getElem?_eq_getElem hin]; rfl
    obtain ⟨x, hx⟩ : ∃ x, s.data.toList[i] = x := ⟨_, rfl⟩
    rw [hx] at hbt hmem hts
    by_cases hdx : Nums.isDig x = true
    · have hxx : 48 ≤ x.toNat ∧ x.toNat ≤ 57 := by simpa [Nums.isDig] using hdx
      have h2 := ih (i + 1) (by omega) (by rw [hts]; exact Nums.allDig_append.2 ⟨hd, by rw [Nums.allDig_one]; exact hdx⟩)
      refine h2.succ fun k => ?_
      rw [alidaderef04_Parse.l0, if_pos hii, if_pos (Int.natCast_nonneg _), hbt, if_neg (by omega), if_neg (by omega), hsi.out]
    · have hng : ¬ Nums.good s.data.toList = true := fun hg => hdx (by
        have := (Nums.allDig_iff.1 (Nums.good_iff.1 hg).2.2) x hmem
        simp [Nums.isDig, this])
      have hxx : ¬ (48 ≤ x.toNat ∧ x.toNat ≤ 57) := fun h => hdx (by simp [Nums.isDig, h])
      rw [if_neg hng]
      refine Nums.Ev.now fun k => ?_
      rw [alidaderef04_Parse.l0, if_pos hii, if_pos (Int.natCast_nonneg _), hbt]
      by_cases h1 : (x.toNat : Int) < 48
      · rw [if_pos h1]
      · rw [if_neg h1, if_pos (by omega)]
theorem ref_Parse_ev (s : ByteArray) (hs : s.size ≤ 140737488355328) : Nums.Ev (fun k => alidaderef04_Parse.f k s) (if Nums.good s.data.toList = true then (if Nums.num s.data.toList < 4294967296 ^ 65536 then (Nums.toL (Nums.num s.data.toList), 0) else ([], 40)) else ([], 4)) :=
  refparse_l0 s hs s.data.toList.length 0 (by omega) rfl

end Go.Proofs.YtjgloepeogelnaaDoor.Pr
