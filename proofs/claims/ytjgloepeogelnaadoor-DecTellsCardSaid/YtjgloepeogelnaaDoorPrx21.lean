/- Functions with the same answers as the Go functions of the program, with the proofs that the program comes to just these answers; no condition but those that each theorem names. (Laid by this work's own program mk.py out of the translation.) -/
import Derived.Test.YtjgloepeogelnaaDoorPrx0
import Derived.Test.YtjgloepeogelnaaDoorPrx2
import Derived.Test.YtjgloepeogelnaaDoorPrx3
import Derived.Test.YtjgloepeogelnaaDoorPrx9
import Derived.Test.YtjgloepeogelnaaDoorPrx12
import Derived.Test.YtjgloepeogelnaaDoorPrx13
import Derived.Test.YtjgloepeogelnaaDoorPrx15
import Derived.Test.YtjgloepeogelnaaDoorPrx17
import Derived.Test.YtjgloepeogelnaaDoorPrx19
import Derived.Test.YtjgloepeogelnaaDoorPrx20
namespace Go.Proofs.YtjgloepeogelnaaDoor.Pr
open Go.RowKit Go.Proofs.YtjgloepeogelnaaDoorW.PrintWords Go.Proofs.YtjgloepeogelnaaDoorW.PrintLast Go.Proofs.YtjgloepeogelnaaDoorW.PrintMore
attribute [local go_sem] max2_int min2_int max_two min_two max_three min_three max_four min_four   -- for this text's walks alone
set_option linter.unusedVariables false
set_option linter.unusedSimpArgs false

/-! ### alidadelaw04_DecTells: function 3 -/
mutual
def alidadelaw04_DecTells.j0 : Nat → List Int → ByteArray → Int → Bool → Option (Bool)
  | 0, _, _, _, _ => none
  | k + 1, x0, x1, x2, x32 => if x32 = true then ((alidadelaw04_works.f k).bind fun t373 => (some t373)) else ((some (([] : List Int) : List Int)).bind fun y374 => (if y374.length + x0.length < 35184372088832 then ((some (y374 ++ x0 : List Int)).bind fun y377 => ((alidaderef04_Show.f k x0).bind fun t380 => ((dec_Show.f y377).bind fun t381 => (if t381.toList = t380.toList then ((dec_Digits.f y377).bind fun t382 => (alidadelaw04_DecTells.j1 k x0 x1 x2 y377 t380 (t382 != (t380.size : Int)))) else (alidadelaw04_DecTells.j1 k x0 x1 x2 y377 t380 true))))) else (none)))
def alidadelaw04_DecTells.j1 : Nat → List Int → ByteArray → Int → List Int → ByteArray → Bool → Option (Bool)
  | 0, _, _, _, _, _, _ => none
  | k + 1, x0, x1, x2, x7, x8, x49 => if x49 = true then (some false) else (alidadelaw04_DecTells.l0 k x0 x1 x2 x7 x8 0)
def alidadelaw04_DecTells.l0 : Nat → List Int → ByteArray → Int → List Int → ByteArray → Int → Option (Bool)
  | 0, _, _, _, _, _, _ => none
  | k + 1, x0, x1, x2, x7, x8, x9 => if x9 < 2 then ((dec_Parse.f x1).bind fun bt390 => ((alidaderef04_Parse.f k x1).bind fun bt394 => ((dec_Parse.f x8).bind fun bt398 => ((alidadelaw04_same.f k bt390.1 bt394.1).bind fun t402 => (if t402 = true then (if bt390.2 = bt394.2 then (if x8.toList = ([] : List UInt8) then (alidadelaw04_DecTells.j3 k x0 x1 x2 x7 x8 x9 bt390.1 bt398.1 false) else ((alidadelaw04_same.f k bt398.1 x0).bind fun t403 => (if t403 = true then (alidadelaw04_DecTells.j3 k x0 x1 x2 x7 x8 x9 bt390.1 bt398.1 (bt398.2 != 0)) else (alidadelaw04_DecTells.j3 k x0 x1 x2 x7 x8 x9 bt390.1 bt398.1 true)))) else (alidadelaw04_DecTells.j3 k x0 x1 x2 x7 x8 x9 bt390.1 bt398.1 true)) else (alidadelaw04_DecTells.j3 k x0 x1 x2 x7 x8 x9 bt390.1 bt398.1 true)))))) else (if x2 < 1099511627776 then ((alidadelaw04_same.f k x7 x0).bind fun t383 => (if t383 = true then ((alidadelaw04_works.f k).bind fun t384 => (some t384)) else (some false))) else ((dec_Ten.f k x2).bind fun t385 => (if (t385.length : Int) = 0 then ((alidadelaw04_same.f k x7 x0).bind fun t388 => (if t388 = true then ((alidadelaw04_works.f k).bind fun t389 => (some t389)) else (some false))) else (some false))))
def alidadelaw04_DecTells.j3 : Nat → List Int → ByteArray → Int → List Int → ByteArray → Int → List Int → List Int → Bool → Option (Bool)
  | 0, _, _, _, _, _, _, _, _, _ => none
  | k + 1, x0, x1, x2, x7, x8, x9, x10, x14, x91 => if x91 = true then (some false) else (if x2 ≤ 3000 then ((dec_Ten.f k x2).bind fun t404 => ((alidaderef04_Ten.f k x2).bind fun t407 => ((alidadelaw04_same.f k t404 t407).bind fun t410 => (if t410 = true then ((alidadelaw04_spoil.f k t404).bind fun t411 => ((alidadelaw04_spoil.f k x10).bind fun t412 => ((alidadelaw04_spoil.f k x14).bind fun t413 => (alidadelaw04_DecTells.l0 k x0 x1 x2 x7 x8 (wrap64 (x9 + 1)))))) else (some false))))) else ((alidadelaw04_spoil.f k x10).bind fun t414 => ((alidadelaw04_spoil.f k x14).bind fun t415 => (alidadelaw04_DecTells.l0 k x0 x1 x2 x7 x8 (wrap64 (x9 + 1))))))
end
def alidadelaw04_DecTells.f (k : Nat) (l0 : List Int) (a1 : ByteArray) (a2 : Int) : Option (Bool) := if (l0.length : Int) > 300 then (alidadelaw04_DecTells.j0 k l0 a1 a2 true) else (if (a1.size : Int) > 3000 then (alidadelaw04_DecTells.j0 k l0 a1 a2 true) else (if a2 > 3000 then (alidadelaw04_DecTells.j0 k l0 a1 a2 (decide (a2 < 1099511627776))) else (alidadelaw04_DecTells.j0 k l0 a1 a2 false)))
theorem alidadelaw04_DecTells.mono_l : ∀ k, (∀ y0 y1 y2 y3, LeO (alidadelaw04_DecTells.j0 k y0 y1 y2 y3) (alidadelaw04_DecTells.j0 (k + 1) y0 y1 y2 y3)) ∧ (∀ y0 y1 y2 y3 y4 y5, LeO (alidadelaw04_DecTells.j1 k y0 y1 y2 y3 y4 y5) (alidadelaw04_DecTells.j1 (k + 1) y0 y1 y2 y3 y4 y5)) ∧ (∀ y0 y1 y2 y3 y4 y5, LeO (alidadelaw04_DecTells.l0 k y0 y1 y2 y3 y4 y5) (alidadelaw04_DecTells.l0 (k + 1) y0 y1 y2 y3 y4 y5)) ∧ (∀ y0 y1 y2 y3 y4 y5 y6 y7 y8, LeO (alidadelaw04_DecTells.j3 k y0 y1 y2 y3 y4 y5 y6 y7 y8) (alidadelaw04_DecTells.j3 (k + 1) y0 y1 y2 y3 y4 y5 y6 y7 y8))
  | 0 => ⟨fun _ _ _ _ r h => by simp [alidadelaw04_DecTells.j0] at h, fun _ _ _ _ _ _ r h => by simp [alidadelaw04_DecTells.j1] at h, fun _ _ _ _ _ _ r h => by simp [alidadelaw04_DecTells.l0] at h, fun _ _ _ _ _ _ _ _ _ r h => by simp [alidadelaw04_DecTells.j3] at h⟩
  | k + 1 => by
    obtain ⟨ih0, ih1, ih2, ih3⟩ := alidadelaw04_DecTells.mono_l k
    refine ⟨?_, ?_, ?_, ?_⟩
    · intro y0 y1 y2 y3
      unfold alidadelaw04_DecTells.j0
      repeat' first
      | (with_reducible exact ih0 _ _ _ _)
      | (with_reducible exact ih1 _ _ _ _ _ _)
      | (with_reducible exact ih2 _ _ _ _ _ _)
      | (with_reducible exact ih3 _ _ _ _ _ _ _ _ _)
      | (with_reducible exact alidadelaw04_same.mono _ _ _)
      | (with_reducible exact alidadelaw04_spoil.mono _ _)
      | (with_reducible exact alidadelaw04_works.mono _)
      | (with_reducible exact alidaderef04_Parse.mono _ _)
      | (with_reducible exact alidaderef04_Show.mono _ _)
      | (with_reducible exact alidaderef04_Ten.mono _ _)
      | (with_reducible exact dec_Ten.mono _ _)
      | (with_reducible exact LeO.refl _)
      | (with_reducible exact LeO.none _)
      | (with_reducible refine LeO.ite ?_ ?_)
      | (with_reducible refine LeO.bind ?_ (fun _ => ?_))
      | exact ih0 _ _ _ _
      | exact ih1 _ _ _ _ _ _
      | exact ih2 _ _ _ _ _ _
      | exact ih3 _ _ _ _ _ _ _ _ _
      | exact alidadelaw04_same.mono _ _ _
      | exact alidadelaw04_spoil.mono _ _
      | exact alidadelaw04_works.mono _
      | exact alidaderef04_Parse.mono _ _
      | exact alidaderef04_Show.mono _ _
      | exact alidaderef04_Ten.mono _ _
      | exact dec_Ten.mono _ _
      | exact LeO.none _
      | refine LeO.ite ?_ ?_
      | refine LeO.bind ?_ (fun _ => ?_)
    · intro y0 y1 y2 y3 y4 y5
      unfold alidadelaw04_DecTells.j1
      repeat' first
      | (with_reducible exact ih0 _ _ _ _)
      | (with_reducible exact ih1 _ _ _ _ _ _)
      | (with_reducible exact ih2 _ _ _ _ _ _)
      | (with_reducible exact ih3 _ _ _ _ _ _ _ _ _)
      | (with_reducible exact alidadelaw04_same.mono _ _ _)
      | (with_reducible exact alidadelaw04_spoil.mono _ _)
      | (with_reducible exact alidadelaw04_works.mono _)
      | (with_reducible exact alidaderef04_Parse.mono _ _)
      | (with_reducible exact alidaderef04_Show.mono _ _)
      | (with_reducible exact alidaderef04_Ten.mono _ _)
      | (with_reducible exact dec_Ten.mono _ _)
      | (with_reducible exact LeO.refl _)
      | (with_reducible exact LeO.none _)
      | (with_reducible refine LeO.ite ?_ ?_)
      | (with_reducible refine LeO.bind ?_ (fun _ => ?_))
      | exact ih0 _ _ _ _
      | exact ih1 _ _ _ _ _ _
      | exact ih2 _ _ _ _ _ _
      | exact ih3 _ _ _ _ _ _ _ _ _
      | exact alidadelaw04_same.mono _ _ _
      | exact alidadelaw04_spoil.mono _ _
      | exact alidadelaw04_works.mono _
      | exact alidaderef04_Parse.mono _ _
      | exact alidaderef04_Show.mono _ _
      | exact alidaderef04_Ten.mono _ _
      | exact dec_Ten.mono _ _
      | exact LeO.none _
      | refine LeO.ite ?_ ?_
      | refine LeO.bind ?_ (fun _ => ?_)
    · intro y0 y1 y2 y3 y4 y5
      unfold alidadelaw04_DecTells.l0
      repeat' first
      | (with_reducible exact ih0 _ _ _ _)
      | (with_reducible exact ih1 _ _ _ _ _ _)
      | (with_reducible exact ih2 _ _ _ _ _ _)
      | (with_reducible exact ih3 _ _ _ _ _ _ _ _ _)
      | (with_reducible exact alidadelaw04_same.mono _ _ _)
      | (with_reducible exact alidadelaw04_spoil.mono _ _)
      | (with_reducible exact alidadelaw04_works.mono _)
      | (with_reducible exact alidaderef04_Parse.mono _ _)
      | (with_reducible exact alidaderef04_Show.mono _ _)
      | (with_reducible exact alidaderef04_Ten.mono _ _)
      | (with_reducible exact dec_Ten.mono _ _)
      | (with_reducible exact LeO.refl _)
      | (with_reducible exact LeO.none _)
      | (with_reducible refine LeO.ite ?_ ?_)
      | (with_reducible refine LeO.bind ?_ (fun _ => ?_))
      | exact ih0 _ _ _ _
      | exact ih1 _ _ _ _ _ _
      | exact ih2 _ _ _ _ _ _
      | exact ih3 _ _ _ _ _ _ _ _ _
      | exact alidadelaw04_same.mono _ _ _
      | exact alidadelaw04_spoil.mono _ _
      | exact alidadelaw04_works.mono _
      | exact alidaderef04_Parse.mono _ _
      | exact alidaderef04_Show.mono _ _
      | exact alidaderef04_Ten.mono _ _
      | exact dec_Ten.mono _ _
      | exact LeO.none _
      | refine LeO.ite ?_ ?_
      | refine LeO.bind ?_ (fun _ => ?_)
    · intro y0 y1 y2 y3 y4 y5 y6 y7 y8
      unfold alidadelaw04_DecTells.j3
      repeat' first
      | (with_reducible exact ih0 _ _ _ _)
      | (with_reducible exact ih1 _ _ _ _ _ _)
      | (with_reducible exact ih2 _ _ _ _ _ _)
      | (with_reducible exact ih3 _ _ _ _ _ _ _ _ _)
      | (with_reducible exact alidadelaw04_same.mono _ _ _)
      | (with_reducible exact alidadelaw04_spoil.mono _ _)
      | (with_reducible exact alidadelaw04_works.mono _)
      | (with_reducible exact alidaderef04_Parse.mono _ _)
      | (with_reducible exact alidaderef04_Show.mono _ _)
      | (with_reducible exact alidaderef04_Ten.mono _ _)
      | (with_reducible exact dec_Ten.mono _ _)
      | (with_reducible exact LeO.refl _)
      | (with_reducible exact LeO.none _)
      | (with_reducible refine LeO.ite ?_ ?_)
      | (with_reducible refine LeO.bind ?_ (fun _ => ?_))
      | exact ih0 _ _ _ _
      | exact ih1 _ _ _ _ _ _
      | exact ih2 _ _ _ _ _ _
      | exact ih3 _ _ _ _ _ _ _ _ _
      | exact alidadelaw04_same.mono _ _ _
      | exact alidadelaw04_spoil.mono _ _
      | exact alidadelaw04_works.mono _
      | exact alidaderef04_Parse.mono _ _
      | exact alidaderef04_Show.mono _ _
      | exact alidaderef04_Ten.mono _ _
      | exact dec_Ten.mono _ _
      | exact LeO.none _
      | refine LeO.ite ?_ ?_
      | refine LeO.bind ?_ (fun _ => ?_)
theorem alidadelaw04_DecTells.mono : ∀ a0 a1 a2 k, LeO (alidadelaw04_DecTells.f k a0 a1 a2) (alidadelaw04_DecTells.f (k + 1) a0 a1 a2) := by
  intro a0 a1 a2 k
  obtain ⟨ih0, ih1, ih2, ih3⟩ := alidadelaw04_DecTells.mono_l k
  unfold alidadelaw04_DecTells.f
  repeat' first
      | (with_reducible exact ih0 _ _ _ _)
      | (with_reducible exact ih1 _ _ _ _ _ _)
      | (with_reducible exact ih2 _ _ _ _ _ _)
      | (with_reducible exact ih3 _ _ _ _ _ _ _ _ _)
      | (with_reducible exact alidadelaw04_same.mono _ _ _)
      | (with_reducible exact alidadelaw04_spoil.mono _ _)
      | (with_reducible exact alidadelaw04_works.mono _)
      | (with_reducible exact alidaderef04_Parse.mono _ _)
      | (with_reducible exact alidaderef04_Show.mono _ _)
      | (with_reducible exact alidaderef04_Ten.mono _ _)
      | (with_reducible exact dec_Ten.mono _ _)
      | (with_reducible exact LeO.refl _)
      | (with_reducible exact LeO.none _)
      | (with_reducible refine LeO.ite ?_ ?_)
      | (with_reducible refine LeO.bind ?_ (fun _ => ?_))
      | exact ih0 _ _ _ _
      | exact ih1 _ _ _ _ _ _
      | exact ih2 _ _ _ _ _ _
      | exact ih3 _ _ _ _ _ _ _ _ _
      | exact alidadelaw04_same.mono _ _ _
      | exact alidadelaw04_spoil.mono _ _
      | exact alidadelaw04_works.mono _
      | exact alidaderef04_Parse.mono _ _
      | exact alidaderef04_Show.mono _ _
      | exact alidaderef04_Ten.mono _ _
      | exact dec_Ten.mono _ _
      | exact LeO.none _
      | refine LeO.ite ?_ ?_
      | refine LeO.bind ?_ (fun _ => ?_)
set_option maxHeartbeats 8000000 in
set_option maxRecDepth 100000 in
theorem alidadelaw04_DecTells.calls_true (k : Nat) (A0 : Option Addr) (c0 : Nat) (l0 : List Int) (a1 : ByteArray) (a2 : Int) (w : World) (hr0 : Kd.C (Kd.int .u32) w A0 l0.length l0) (hc0 : l0.length ≤ c0) (h : alidadelaw04_DecTells.f k l0 a1 a2 = some true) :
    Calls Tryd.prog 3 #[.slice A0 l0.length c0, .string a1, .int .i64 a2] w fun e w' => e = .returned (.bool true) ∧ Below w.heap.size w w' := by
  have HR0 := Aside0.mk hr0
  have HC0 := Aside0.mk hc0
  clear hr0 hc0
  have HB := Aside0.mk (Below.refl w.heap.size w)
  have H : (if (l0.length : Int) > 300 then (alidadelaw04_DecTells.j0 k l0 a1 a2 true) else (if (a1.size : Int) > 3000 then (alidadelaw04_DecTells.j0 k l0 a1 a2 true) else (if a2 > 3000 then (alidadelaw04_DecTells.j0 k l0 a1 a2 (decide (a2 < 1099511627776))) else (alidadelaw04_DecTells.j0 k l0 a1 a2 false)))) = some true := h
  clear h
  have HC4 := Aside0.mk H
  clear H
  go_enter Tryd.func3, Tryd.ntmps3
  go_upto_region 1 with (fail)
  go_cut [32] (fun v32 wc => ∃ (kq : Nat) (x32_3 : Bool), v32 = .bool x32_3 ∧ Aside0 (alidadelaw04_DecTells.j0 kq l0 a1 a2 x32_3 = some true) ∧ Aside0 (kq ≤ k) ∧ Aside0 (Below w.heap.size w wc))
  case first =>
    have H := HC4.out
    clear HC4
    by_cases c5 : (l0.length : Int) > 300
    · rw [if_pos c5] at H
      have c5b0 : decide (300 < (l0.length : Int)) = true := decide_eq_true c5
      have c5b1 : decide (300 < l0.length) = true := decide_eq_true (by omega)
      clear c5
      (first | rw [c5b0] | (simp only [i64_w, i32_w]; rw [c5b0]) | skip)
      have H' := Aside0.mk H
      clear H
      go_wp2
      go_meet
      case rel => exact ⟨_, (true), (by first | rfl | (simp; done) | (simp [*]; done)), H', ⟨by first | omega | exact Nat.le_refl _⟩, ⟨by repeat (first | (with_reducible first | exact HB.out | apply below_alloc | apply pw_below_drewN | apply below_drew1) | exact HB.out)⟩⟩
    · rw [if_neg c5] at H
      have c5b0 : decide (300 < (l0.length : Int)) = false := decide_eq_false c5
      have c5b1 : decide (300 < l0.length) = false := decide_eq_false (by omega)
      clear c5
      (first | rw [c5b0] | (simp only [i64_w, i32_w]; rw [c5b0]) | skip)
      by_cases c6 : (a1.size : Int) > 3000
      · rw [if_pos c6] at H
        have c6b0 : decide (3000 < (a1.size : Int)) = true := decide_eq_true c6
        have c6b1 : decide (3000 < a1.size) = true := decide_eq_true (by omega)
        clear c6
        have H' := Aside0.mk H
        clear H
        go_wp2
        go_meet
        case rel => exact ⟨_, (true), (by first | rfl | (simp; done) | (simp [*]; done)), H', ⟨by first | omega | exact Nat.le_refl _⟩, ⟨by repeat (first | (with_reducible first | exact HB.out | apply below_alloc | apply pw_below_drewN | apply below_drew1) | exact HB.out)⟩⟩
      · rw [if_neg c6] at H
        have c6b0 : decide (3000 < (a1.size : Int)) = false := decide_eq_false c6
        have c6b1 : decide (3000 < a1.size) = false := decide_eq_false (by omega)
        clear c6
        by_cases c7 : a2 > 3000
        · rw [if_pos c7] at H
          have c7b0 : decide (3000 < a2) = true := decide_eq_true c7
          clear c7
          have H' := Aside0.mk H
          clear H
          go_wp2
          go_meet
          case rel => exact ⟨_, (decide (a2 < 1099511627776)), (by first | rfl | (simp; done) | (simp [*]; done)), H', ⟨by first | omega | exact Nat.le_refl _⟩, ⟨by repeat (first | (with_reducible first | exact HB.out | apply below_alloc | apply pw_below_drewN | apply below_drew1) | exact HB.out)⟩⟩
        · rw [if_neg c7] at H
          have c7b0 : decide (3000 < a2) = false := decide_eq_false c7
          clear c7
          have H' := Aside0.mk H
          clear H
          go_wp2
          go_meet
          case rel => exact ⟨_, (false), (by first | rfl | (simp; done) | (simp [*]; done)), H', ⟨by first | omega | exact Nat.le_refl _⟩, ⟨by repeat (first | (with_reducible first | exact HB.out | apply below_alloc | apply pw_below_drewN | apply below_drew1) | exact HB.out)⟩⟩
  case rest =>
    clear HC4
    try clear p2
    try clear c3
    try clear c5
    try clear c5b0
    try clear c5b1
    try clear c6
    try clear c6b0
    try clear c6b1
    try clear c7
    try clear c7b0
    obtain ⟨kq, x32_3, rfl, HA, HJ3, HB⟩ := hcut
    cases kq with
    | zero => exact absurd HA.out (by simp [alidadelaw04_DecTells.j0])
    | succ kj3 =>
      have H := HA.out
      clear HA
      simp only [alidadelaw04_DecTells.j0] at H
      by_cases c8 : x32_3 = true
      · subst c8
        have H1 : ((alidadelaw04_works.f kj3).bind fun t373 => (some t373)) = some true := by rw [if_pos rfl] at H; exact H
        clear H
        have H := H1
        clear H1
        replace H := Option.bind_eq_some_iff.mp H
        obtain ⟨t373, A90, H⟩ := H
        replace H : (some t373) = some true := H
        have A9 := Aside0.mk A90
        clear A90
        obtain rfl := Option.some.inj H
        go_wp2_with (first | ((with_reducible refine gate_callee (f := 10) rfl ?_); refine goesL_ (some 33) rfl rfl Tryd.func10 (by kernel_rfl) rfl #[] rfl (by (try simp only [List.map_toArray, List.map_cons, List.map_nil]); first | done | rfl | (simp only [List.length_drop, List.length_take]; rfl)) ?_; (with_reducible refine (alidadelaw04_works.calls kj3  true _ A9.out).mono ?_); rintro e w10 ⟨rfl, hb⟩; refine ⟨_, rfl, ?_⟩; have n0_ := Aside0.mk (below_step (by repeat (first | (with_reducible first | exact HB.out | apply below_alloc | apply pw_below_drewN | apply below_drew1) | exact HB.out)) hb); clear HB; have HB := n0_; clear n0_; (try clear hb); (try clear hb2); (try clear hk); (try clear hi)))
        go_ret
        exact ⟨by first | rfl | (simp [errW_none, errW_some] <;> rfl) | (simp [*, errW_none, errW_some] <;> rfl), by repeat (first | (with_reducible first | exact HB.out | apply below_alloc | apply pw_below_drewN | apply below_drew1) | exact HB.out)⟩
      · replace c8 := Bool.eq_false_iff.mpr c8
        subst c8
        have H1 : ((some (([] : List Int) : List Int)).bind fun y374 => (if y374.length + l0.length < 35184372088832 then ((some (y374 ++ l0 : List Int)).bind fun y377 => ((alidaderef04_Show.f kj3 l0).bind fun t380 => ((dec_Show.f y377).bind fun t381 => (if t381.toList = t380.toList then ((dec_Digits.f y377).bind fun t382 => (alidadelaw04_DecTells.j1 kj3 l0 a1 a2 y377 t380 (t382 != (t380.size : Int)))) else (alidadelaw04_DecTells.j1 kj3 l0 a1 a2 y377 t380 true))))) else (none))) = some true := by rw [if_neg (show ¬ (false = true) by decide)] at H; exact H
        clear H
        have H := H1
        clear H1
        obtain ⟨y374, hy374⟩ : ∃ y_ : List Int, y_ = (([] : List Int)) := ⟨_, rfl⟩
        replace H : (if y374.length + l0.length < 35184372088832 then ((some (y374 ++ l0 : List Int)).bind fun y377 => ((alidaderef04_Show.f kj3 l0).bind fun t380 => ((dec_Show.f y377).bind fun t381 => (if t381.toList = t380.toList then ((dec_Digits.f y377).bind fun t382 => (alidadelaw04_DecTells.j1 kj3 l0 a1 a2 y377 t380 (t382 != (t380.size : Int)))) else (alidadelaw04_DecTells.j1 kj3 l0 a1 a2 y377 t380 true))))) else (none)) = some true := by first | (rw [hy374]; with_reducible exact H) | (have H2_ := (Option.bind_some _ _).symm.trans H; rw [hy374]; with_reducible exact H2_) | (have H2_ := (Option.bind_some _ _).symm.trans H; with_reducible exact H2_) | with_reducible exact H | (rw [hy374]; exact H) | exact H
        have Ny374 := Aside0.mk hy374
        clear hy374
        by_cases c11 : y374.length + l0.length < 35184372088832
        · rw [if_pos c11] at H
          have LMc11 := Aside0.mk c11
          clear c11
          obtain ⟨y377, hy377⟩ : ∃ y_ : List Int, y_ = (y374 ++ l0) := ⟨_, rfl⟩
          replace H : ((alidaderef04_Show.f kj3 l0).bind fun t380 => ((dec_Show.f y377).bind fun t381 => (if t381.toList = t380.toList then ((dec_Digits.f y377).bind fun t382 => (alidadelaw04_DecTells.j1 kj3 l0 a1 a2 y377 t380 (t382 != (t380.size : Int)))) else (alidadelaw04_DecTells.j1 kj3 l0 a1 a2 y377 t380 true)))) = some true := by first | (rw [hy377]; with_reducible exact H) | (have H2_ := (Option.bind_some _ _).symm.trans H; rw [hy377]; with_reducible exact H2_) | (have H2_ := (Option.bind_some _ _).symm.trans H; with_reducible exact H2_) | with_reducible exact H | (rw [hy377]; exact H) | exact H
          have Ny377 := Aside0.mk hy377
          clear hy377
          replace H := Option.bind_eq_some_iff.mp H
          obtain ⟨t380, A120, H⟩ := H
          replace H : ((dec_Show.f y377).bind fun t381 => (if t381.toList = t380.toList then ((dec_Digits.f y377).bind fun t382 => (alidadelaw04_DecTells.j1 kj3 l0 a1 a2 y377 t380 (t382 != (t380.size : Int)))) else (alidadelaw04_DecTells.j1 kj3 l0 a1 a2 y377 t380 true))) = some true := H
          have A12 := Aside0.mk A120
          clear A120
          have HC13 := Aside0.mk H
          clear H
          go_upto_region 5 with (first | ((with_reducible refine gate_dst (N := 34) rfl ?_); (try (refine gate_guard (by rfl) ?_; dsimp only)); refine Kd.R_lit (Kd.int .u32) _ 39 ?hg (N := 34) ?hd (xs := ([] : List Int)) (inner := []) (ok := fun _ => True) (okp := fun _ => True) ?hr ?hp (fun _ hk => hk) trivial (Below.refl _ _) (Nat.le_refl _) (by simp) ?_; (case hd => rfl); (case hg => rfl); (case hr => first | (go_simp; done) | (go_simp; rfl)); (case hp => exact (Reps.none _ _)); intro v375 w14 ho15 hb hg_ hnew_; clear hg_ hnew_; (first | rw [← Ny374.out] at ho15 | (simp only [Int.reduceToNat] at ho15; rw [← Ny374.out] at ho15)); have n0_ := Aside0.mk (Kd.R_lower ho15 (below_size (by repeat (first | (with_reducible first | exact HB.out | apply below_alloc | apply pw_below_drewN | apply below_drew1) | exact HB.out)))); have n1_ := Aside0.mk (below_step (by repeat (first | (with_reducible first | exact HB.out | apply below_alloc | apply pw_below_drewN | apply below_drew1) | exact HB.out)) hb); clear HB; have HO376 := n0_; have HB := n1_; clear n0_ n1_; clear hb ho15) | ((with_reducible refine gate_builtin (b := .append) (xs := #[.tmp 34, .tmp 35]) rfl ?_); (try (refine gate_guard (by rfl) ?_; dsimp only)); at_builtin; refine Kd.R_append_rows (Kd.int .u32) (w0 := w) w.heap.size rfl (.tmp 34) (.tmp 35) 22 39 (.int .u32 0) 4 rfl Tryd.underlying22 info39 rfl (by decide) (by omega) v375 y374 l0 _ _ _ (fun _ => True) (fun _ => False) rfl rfl ?aO ?aR (fun _ _ h => h) (fun _ h => h.elim) ?aF ?aB ?aS ?aL ?_; (case aR => repeat (first | exact (Kd.C_below HR0.out HB.out) | (with_reducible refine Kd.C_alloc ?_ _) | (with_reducible refine Kd.C_drewN ?_ _) | (with_reducible refine Kd.C_drew ?_))); (case aB => exact (by repeat (first | (with_reducible first | exact HB.out | apply below_alloc | apply pw_below_drewN | apply below_drew1) | exact HB.out))); (case aF => exact (fun _ _ => trivial)); (case aO => exact (by (with_reducible repeat (first | apply Kd.R_alloc | apply Kd.R_drewN | apply Kd.R_drew)); exact HO376.out)); (case aS => exact (below_size (by repeat (first | (with_reducible first | exact HB.out | apply below_alloc | apply pw_below_drewN | apply below_drew1) | exact HB.out)))); (case aL => have := LMc11.out; omega); intro v378 w16 ho hb hg hat; rw [← Ny377.out] at ho; have n0_ := Aside0.mk (hb); have n1_ := Aside0.mk (ho); clear HB; clear HO376; have HB := n0_; have HO379 := n1_; clear n0_ n1_; clear ho hb hg hat) | ((with_reducible refine gate_callee (f := 11) rfl ?_); refine goesL_ (some 38) rfl rfl Tryd.func11 (by kernel_rfl) rfl #[.slice A0 l0.length c0] rfl (by (try simp only [List.map_toArray, List.map_cons, List.map_nil]); first | done | rfl | (simp only [List.length_drop, List.length_take]; rfl)) ?_; (with_reducible refine (alidaderef04_Show.calls kj3 (fun k_ => k_ < w.heap.size) _ _ l0 t380 _ ?side1 A12.out).mono ?_); (case side1 => exact Kd.V_mk HC0.out (Kd.F_below (Kd.C_F (Kd.heap_int .u32) HR0.out) (by repeat (first | (with_reducible first | exact HB.out | apply below_alloc | apply pw_below_drewN | apply below_drew1) | exact HB.out)))); rintro e w17 ⟨rfl, hb⟩; refine ⟨_, rfl, ?_⟩; have n0_ := Aside0.mk (Kd.R_below (by (with_reducible repeat (first | apply Kd.R_alloc | apply Kd.R_drewN | apply Kd.R_drew)); exact HO379.out) hb); have n1_ := Aside0.mk (below_step (by repeat (first | (with_reducible first | exact HB.out | apply below_alloc | apply pw_below_drewN | apply below_drew1) | exact HB.out)) hb); clear HO379; clear HB; have HO379 := n0_; have HB := n1_; clear n0_ n1_; (try clear hb); (try clear hb2); (try clear hk); (try clear hi)))
          (try simp only [Act.put, List.setIfInBounds_toArray, List.set_cons_zero, List.set_cons_succ])
          go_cut [49] (fun v49 wc => ∃ (kq : Nat) (x49_12 : Bool), v49 = .bool x49_12 ∧ Aside0 (alidadelaw04_DecTells.j1 kq l0 a1 a2 y377 t380 x49_12 = some true) ∧ Aside0 (kq ≤ kj3) ∧ Aside0 (Kd.R (Kd.int .u32) 39 wc w.heap.size (fun _ => True) v378 y377) ∧ Aside0 (Below w.heap.size w wc))
          case first =>
            have H := HC13.out
            clear HC13
            replace H := Option.bind_eq_some_iff.mp H
            obtain ⟨t381, A180, H⟩ := H
            replace H : (if t381.toList = t380.toList then ((dec_Digits.f y377).bind fun t382 => (alidadelaw04_DecTells.j1 kj3 l0 a1 a2 y377 t380 (t382 != (t380.size : Int)))) else (alidadelaw04_DecTells.j1 kj3 l0 a1 a2 y377 t380 true)) = some true := H
            have A18 := Aside0.mk A180
            clear A180
            by_cases c19 : t381.toList = t380.toList
            · rw [if_pos c19] at H
              have c19b0 : (t381.toList == t380.toList) = true := beq_iff_eq.mpr c19
              have c19b1 : (t381.toList != t380.toList) = false := bne_eq_false_iff_eq.mpr c19
              clear c19
              (first | rw [c19b0] | (simp only [i64_w, i32_w]; rw [c19b0]) | skip)
              replace H := Option.bind_eq_some_iff.mp H
              obtain ⟨t382, A200, H⟩ := H
              replace H : (alidadelaw04_DecTells.j1 kj3 l0 a1 a2 y377 t380 (t382 != (t380.size : Int))) = some true := H
              have A20 := Aside0.mk A200
              clear A200
              have H' := Aside0.mk H
              clear H
              obtain ⟨Ao21, co21, eo21⟩ := Kd.R_slice HO379.out
              subst eo21
              go_wp2_with (first | ((with_reducible refine gate_callee (f := 12) rfl ?_); refine goesL_ (some 40) rfl rfl Tryd.func12 (by kernel_rfl) rfl #[.slice Ao21 y377.length co21] rfl (by (try simp only [List.map_toArray, List.map_cons, List.map_nil]); first | done | rfl | (simp only [List.length_drop, List.length_take]; rfl)) ?_; (with_reducible refine (dec_Show.calls _ _ y377 t381 _ ?side1 ?side2 A18.out).mono ?_); (case side1 => repeat (first | exact (Kd.R_reads' HO379.out).2.2 | (with_reducible refine Kd.C_alloc ?_ _) | (with_reducible refine Kd.C_drewN ?_ _) | (with_reducible refine Kd.C_drew ?_))); (case side2 => exact (Kd.R_reads' HO379.out).2.1); rintro e w22 ⟨rfl, hb⟩; refine ⟨_, rfl, ?_⟩; have n0_ := Aside0.mk (Kd.R_below (by (with_reducible repeat (first | apply Kd.R_alloc | apply Kd.R_drewN | apply Kd.R_drew)); exact HO379.out) hb); have n1_ := Aside0.mk (below_step (by repeat (first | (with_reducible first | exact HB.out | apply below_alloc | apply pw_below_drewN | apply below_drew1) | exact HB.out)) hb); clear HO379; clear HB; have HO379 := n0_; have HB := n1_; clear n0_ n1_; (try clear hb); (try clear hb2); (try clear hk); (try clear hi)) | (go_at_call 13; (with_reducible refine (dec_Digits.calls _ _ y377 t382 _ ?side1 ?side2 A20.out).mono ?_); (case side1 => repeat (first | exact (Kd.R_reads' HO379.out).2.2 | (with_reducible refine Kd.C_alloc ?_ _) | (with_reducible refine Kd.C_drewN ?_ _) | (with_reducible refine Kd.C_drew ?_))); (case side2 => exact (Kd.R_reads' HO379.out).2.1); rintro e w23 ⟨rfl, hb⟩; have n0_ := Aside0.mk (Kd.R_below (by (with_reducible repeat (first | apply Kd.R_alloc | apply Kd.R_drewN | apply Kd.R_drew)); exact HO379.out) hb); have n1_ := Aside0.mk (below_step (by repeat (first | (with_reducible first | exact HB.out | apply below_alloc | apply pw_below_drewN | apply below_drew1) | exact HB.out)) hb); clear HO379; clear HB; have HO379 := n0_; have HB := n1_; clear n0_ n1_; (try clear hb); (try clear hb2); (try clear hk); (try clear hi)))
              go_meet
              case rel => exact ⟨_, ((t382 != (t380.size : Int))), (by first | rfl | (simp; done) | (simp [*]; done)), H', ⟨by have := HJ3.out; first | omega | exact Nat.le_refl _⟩, ⟨by (with_reducible repeat (first | apply Kd.R_alloc | apply Kd.R_drewN | apply Kd.R_drew)); exact HO379.out⟩, ⟨by repeat (first | (with_reducible first | exact HB.out | apply below_alloc | apply pw_below_drewN | apply below_drew1) | exact HB.out)⟩⟩
            · rw [if_neg c19] at H
              have c19b0 : (t381.toList == t380.toList) = false := beq_eq_false_iff_ne.mpr c19
              have c19b1 : (t381.toList != t380.toList) = true := bne_iff_ne.mpr c19
              (first | rw [c19b0] | (simp only [i64_w, i32_w]; rw [c19b0]) | skip)
              have H' := Aside0.mk H
              clear H
              obtain ⟨Ao24, co24, eo24⟩ := Kd.R_slice HO379.out
              subst eo24
              go_wp2_with (first | ((with_reducible refine gate_callee (f := 12) rfl ?_); refine goesL_ (some 40) rfl rfl Tryd.func12 (by kernel_rfl) rfl #[.slice Ao24 y377.length co24] rfl (by (try simp only [List.map_toArray, List.map_cons, List.map_nil]); first | done | rfl | (simp only [List.length_drop, List.length_take]; rfl)) ?_; (with_reducible refine (dec_Show.calls _ _ y377 t381 _ ?side1 ?side2 A18.out).mono ?_); (case side1 => repeat (first | exact (Kd.R_reads' HO379.out).2.2 | (with_reducible refine Kd.C_alloc ?_ _) | (with_reducible refine Kd.C_drewN ?_ _) | (with_reducible refine Kd.C_drew ?_))); (case side2 => exact (Kd.R_reads' HO379.out).2.1); rintro e w25 ⟨rfl, hb⟩; refine ⟨_, rfl, ?_⟩; have n0_ := Aside0.mk (Kd.R_below (by (with_reducible repeat (first | apply Kd.R_alloc | apply Kd.R_drewN | apply Kd.R_drew)); exact HO379.out) hb); have n1_ := Aside0.mk (below_step (by repeat (first | (with_reducible first | exact HB.out | apply below_alloc | apply pw_below_drewN | apply below_drew1) | exact HB.out)) hb); clear HO379; clear HB; have HO379 := n0_; have HB := n1_; clear n0_ n1_; (try clear hb); (try clear hb2); (try clear hk); (try clear hi)))
              go_meet
              case rel => exact ⟨_, (true), (by first | rfl | (simp; done) | (simp [*]; done)), H', ⟨by have := HJ3.out; first | omega | exact Nat.le_refl _⟩, ⟨by (with_reducible repeat (first | apply Kd.R_alloc | apply Kd.R_drewN | apply Kd.R_drew)); exact HO379.out⟩, ⟨by repeat (first | (with_reducible first | exact HB.out | apply below_alloc | apply pw_below_drewN | apply below_drew1) | exact HB.out)⟩⟩
          case rest =>
            clear HC13
            try clear c1
            try clear p2
            try clear c3
            try clear c5
            try clear c5b0
            try clear c5b1
            try clear c6
            try clear c6b0
            try clear c6b1
            try clear c7
            try clear c7b0
            try clear c8
            try clear c10
            try clear c11
            try clear c12
            try clear c19
            try clear c19b0
            try clear c19b1
            try clear p2
            obtain ⟨kq, x49_12, rfl, HA, HJ12, HO_7, HB⟩ := hcut
            cases kq with
            | zero => exact absurd HA.out (by simp [alidadelaw04_DecTells.j1])
            | succ kj12 =>
              have H := HA.out
              clear HA
              simp only [alidadelaw04_DecTells.j1] at H
              by_cases c26 : x49_12 = true
              · subst c26
                have H1 : (some false) = some true := by rw [if_pos rfl] at H; exact H
                clear H
                have H := H1
                clear H1
                exact absurd (Option.some.inj H) (by decide)
              · replace c26 := Bool.eq_false_iff.mpr c26
                subst c26
                have H1 : (alidadelaw04_DecTells.l0 kj12 l0 a1 a2 y377 t380 0) = some true := by rw [if_neg (show ¬ (false = true) by decide)] at H; exact H
                clear H
                have H := H1
                clear H1
                have H' := Aside0.mk H
                clear H
                go_wp2
                go_loopg [9] kj12 (fun kq v9 w' => ∃ (x7_3 : List Int) (x9_3 : Int), v9 = .int .i64 x9_3 ∧ Aside0 (alidadelaw04_DecTells.l0 kq l0 a1 a2 x7_3 t380 x9_3 = some true) ∧ Aside0 (kq ≤ kj12) ∧ Aside0 (Kd.R (Kd.int .u32) 39 w' w.heap.size (fun _ => True) v378 x7_3) ∧ Aside0 (Below w.heap.size w w'))
                case atStart => exact ⟨(y377), (0), (by first | rfl | (simp; done) | (simp [*]; done)), H', ⟨Nat.le_refl _⟩, ⟨by (with_reducible repeat (first | apply Kd.R_alloc | apply Kd.R_drewN | apply Kd.R_drew)); exact HO_7.out⟩, ⟨by repeat (first | (with_reducible first | exact HB.out | apply below_alloc | apply pw_below_drewN | apply below_drew1) | exact HB.out)⟩⟩
                case round =>
                  clear H'
                  try clear c1
                  try clear c2
                  try clear p2
                  try clear c3
                  try clear c5
                  try clear c5b0
                  try clear c5b1
                  try clear c6
                  try clear c6b0
                  try clear c6b1
                  try clear c7
                  try clear c7b0
                  try clear c8
                  try clear c10
                  try clear c11
                  try clear c12
                  try clear c19
                  try clear c19b0
                  try clear c19b1
                  try clear c26
                  try clear p2
                  obtain ⟨x7_3, x9_3, rfl, HA, HK3, HO_7, HB⟩ := hrel
                  cases gk with
                  | zero => exact absurd HA.out (by simp [alidadelaw04_DecTells.l0])
                  | succ k3 =>
                    have H := HA.out
                    clear HA
                    simp only [alidadelaw04_DecTells.l0] at H
                    by_cases c27 : x9_3 < 2
                    · rw [if_pos c27] at H
                      have c27b0 : decide (x9_3 < 2) = true := decide_eq_true c27
                      clear c27
                      replace H := Option.bind_eq_some_iff.mp H
                      obtain ⟨⟨t390, t391⟩, A280, H⟩ := H
                      replace H : ((alidaderef04_Parse.f k3 a1).bind fun bt394 => ((dec_Parse.f t380).bind fun bt398 => ((alidadelaw04_same.f k3 t390 bt394.1).bind fun t402 => (if t402 = true then (if t391 = bt394.2 then (if t380.toList = ([] : List UInt8) then (alidadelaw04_DecTells.j3 k3 l0 a1 a2 x7_3 t380 x9_3 t390 bt398.1 false) else ((alidadelaw04_same.f k3 bt398.1 l0).bind fun t403 => (if t403 = true then (alidadelaw04_DecTells.j3 k3 l0 a1 a2 x7_3 t380 x9_3 t390 bt398.1 (bt398.2 != 0)) else (alidadelaw04_DecTells.j3 k3 l0 a1 a2 x7_3 t380 x9_3 t390 bt398.1 true)))) else (alidadelaw04_DecTells.j3 k3 l0 a1 a2 x7_3 t380 x9_3 t390 bt398.1 true)) else (alidadelaw04_DecTells.j3 k3 l0 a1 a2 x7_3 t380 x9_3 t390 bt398.1 true))))) = some true := H
                      have A28 := Aside0.mk A280
                      clear A280
                      replace H := Option.bind_eq_some_iff.mp H
                      obtain ⟨⟨t394, t397⟩, A290, H⟩ := H
                      replace H : ((dec_Parse.f t380).bind fun bt398 => ((alidadelaw04_same.f k3 t390 t394).bind fun t402 => (if t402 = true then (if t391 = t397 then (if t380.toList = ([] : List UInt8) then (alidadelaw04_DecTells.j3 k3 l0 a1 a2 x7_3 t380 x9_3 t390 bt398.1 false) else ((alidadelaw04_same.f k3 bt398.1 l0).bind fun t403 => (if t403 = true then (alidadelaw04_DecTells.j3 k3 l0 a1 a2 x7_3 t380 x9_3 t390 bt398.1 (bt398.2 != 0)) else (alidadelaw04_DecTells.j3 k3 l0 a1 a2 x7_3 t380 x9_3 t390 bt398.1 true)))) else (alidadelaw04_DecTells.j3 k3 l0 a1 a2 x7_3 t380 x9_3 t390 bt398.1 true)) else (alidadelaw04_DecTells.j3 k3 l0 a1 a2 x7_3 t380 x9_3 t390 bt398.1 true)))) = some true := H
                      have A29 := Aside0.mk A290
                      clear A290
                      replace H := Option.bind_eq_some_iff.mp H
                      obtain ⟨⟨t398, t399⟩, A300, H⟩ := H
                      replace H : ((alidadelaw04_same.f k3 t390 t394).bind fun t402 => (if t402 = true then (if t391 = t397 then (if t380.toList = ([] : List UInt8) then (alidadelaw04_DecTells.j3 k3 l0 a1 a2 x7_3 t380 x9_3 t390 t398 false) else ((alidadelaw04_same.f k3 t398 l0).bind fun t403 => (if t403 = true then (alidadelaw04_DecTells.j3 k3 l0 a1 a2 x7_3 t380 x9_3 t390 t398 (t399 != 0)) else (alidadelaw04_DecTells.j3 k3 l0 a1 a2 x7_3 t380 x9_3 t390 t398 true)))) else (alidadelaw04_DecTells.j3 k3 l0 a1 a2 x7_3 t380 x9_3 t390 t398 true)) else (alidadelaw04_DecTells.j3 k3 l0 a1 a2 x7_3 t380 x9_3 t390 t398 true))) = some true := H
                      have A30 := Aside0.mk A300
                      clear A300
                      have HC31 := Aside0.mk H
                      clear H
                      go_upto_region 13 with (first | ((with_reducible refine gate_callee (f := 14) rfl ?_); refine goesL_ (some 56) rfl rfl Tryd.func14 (by kernel_rfl) rfl #[.string a1] rfl (by (try simp only [List.map_toArray, List.map_cons, List.map_nil]); first | done | rfl | (simp only [List.length_drop, List.length_take]; rfl)) ?_; (with_reducible refine (dec_Parse.calls a1 t390 t391 _ A28.out).mono ?_); rintro e w32 ⟨v392, rfl, ho0, hb⟩; refine ⟨_, rfl, ?_⟩; have n0_ := Aside0.mk (Kd.R_elder' (by (with_reducible repeat (first | apply Kd.R_alloc | apply Kd.R_drewN | apply Kd.R_drew)); exact HO_7.out) (Kd.R_base ho0) hb); have n1_ := Aside0.mk (Kd.R_lower (Kd.R_new' ho0 (Kd.R_lt (by (with_reducible repeat (first | apply Kd.R_alloc | apply Kd.R_drewN | apply Kd.R_drew)); exact HO_7.out))) (below_size (by repeat (first | (with_reducible first | exact HB.out | apply below_alloc | apply pw_below_drewN | apply below_drew1) | exact HB.out)))); have n2_ := Aside0.mk (below_step (by repeat (first | (with_reducible first | exact HB.out | apply below_alloc | apply pw_below_drewN | apply below_drew1) | exact HB.out)) hb); clear HO_7; clear HB; have HO_7 := n0_; have HO393 := n1_; have HB := n2_; clear n0_ n1_ n2_; (try clear hb); (try clear hb2); (try clear hk); (try clear hi); (try clear ho0)) | ((with_reducible refine gate_callee (f := 15) rfl ?_); refine goesL_ (some 61) rfl rfl Tryd.func15 (by kernel_rfl) rfl #[.string a1] rfl (by (try simp only [List.map_toArray, List.map_cons, List.map_nil]); first | done | rfl | (simp only [List.length_drop, List.length_take]; rfl)) ?_; (with_reducible refine (alidaderef04_Parse.calls k3 a1 t394 t397 _ A29.out).mono ?_); rintro e w33 ⟨v395, rfl, ho0, hb⟩; refine ⟨_, rfl, ?_⟩; have n0_ := Aside0.mk (Kd.R_below (by (with_reducible repeat (first | apply Kd.R_alloc | apply Kd.R_drewN | apply Kd.R_drew)); exact HO_7.out) hb); have n1_ := Aside0.mk (Kd.R_below (by (with_reducible repeat (first | apply Kd.R_alloc | apply Kd.R_drewN | apply Kd.R_drew)); exact HO393.out) hb); have n2_ := Aside0.mk (Kd.V_lower (Kd.V_mono (ok' := fun k_ => some k_ ≠ (v378 : Value).ownBlock ∧ some k_ ≠ (v392 : Value).ownBlock) ho0 (fun k_ hk_ => ⟨(Kd.fresh' (Kd.R_lt (by (with_reducible repeat (first | apply Kd.R_alloc | apply Kd.R_drewN | apply Kd.R_drew)); exact HO_7.out)) k_ hk_), (Kd.fresh' (Kd.R_lt (by (with_reducible repeat (first | apply Kd.R_alloc | apply Kd.R_drewN | apply Kd.R_drew)); exact HO393.out)) k_ hk_)⟩)) (below_size (by repeat (first | (with_reducible first | exact HB.out | apply below_alloc | apply pw_below_drewN | apply below_drew1) | exact HB.out)))); have n3_ := Aside0.mk (below_step (by repeat (first | (with_reducible first | exact HB.out | apply below_alloc | apply pw_below_drewN | apply below_drew1) | exact HB.out)) hb); clear HO_7; clear HO393; clear HB; have HO_7 := n0_; have HO393 := n1_; have HO396 := n2_; have HB := n3_; clear n0_ n1_ n2_ n3_; (try clear hb); (try clear hb2); (try clear hk); (try clear hi); (try clear ho0)) | ((with_reducible refine gate_callee (f := 14) rfl ?_); refine goesL_ (some 66) rfl rfl Tryd.func14 (by kernel_rfl) rfl #[.string t380] rfl (by (try simp only [List.map_toArray, List.map_cons, List.map_nil]); first | done | rfl | (simp only [List.length_drop, List.length_take]; rfl)) ?_; (with_reducible refine (dec_Parse.calls t380 t398 t399 _ A30.out).mono ?_); rintro e w34 ⟨v400, rfl, ho0, hb⟩; refine ⟨_, rfl, ?_⟩; have n0_ := Aside0.mk (Kd.R_elder' (by (with_reducible repeat (first | apply Kd.R_alloc | apply Kd.R_drewN | apply Kd.R_drew)); exact HO_7.out) (Kd.R_base ho0) hb); have n1_ := Aside0.mk (Kd.R_elder' (by (with_reducible repeat (first | apply Kd.R_alloc | apply Kd.R_drewN | apply Kd.R_drew)); exact HO393.out) (Kd.R_base ho0) hb); have n2_ := Aside0.mk (Kd.V_elder' (by (with_reducible repeat (first | apply Kd.V_alloc | apply Kd.V_drewN | apply Kd.V_drew)); exact HO396.out) (Kd.R_base ho0) hb); have n3_ := Aside0.mk (Kd.R_lower (Kd.R_new' (Kd.R_new' ho0 (Kd.R_lt (by (with_reducible repeat (first | apply Kd.R_alloc | apply Kd.R_drewN | apply Kd.R_drew)); exact HO_7.out))) (Kd.R_lt (by (with_reducible repeat (first | apply Kd.R_alloc | apply Kd.R_drewN | apply Kd.R_drew)); exact HO393.out))) (below_size (by repeat (first | (with_reducible first | exact HB.out | apply below_alloc | apply pw_below_drewN | apply below_drew1) | exact HB.out)))); have n4_ := Aside0.mk (below_step (by repeat (first | (with_reducible first | exact HB.out | apply below_alloc | apply pw_below_drewN | apply below_drew1) | exact HB.out)) hb); clear HO_7; clear HO393; clear HO396; clear HB; have HO_7 := n0_; have HO393 := n1_; have HO396 := n2_; have HO401 := n3_; have HB := n4_; clear n0_ n1_ n2_ n3_ n4_; (try clear hb); (try clear hb2); (try clear hk); (try clear hi); (try clear ho0)))
                      (try simp only [Act.put, List.setIfInBounds_toArray, List.set_cons_zero, List.set_cons_succ])
                      go_cut [91] (fun v91 wc => ∃ (kq : Nat) (x91_30 : Bool), v91 = .bool x91_30 ∧ Aside0 (alidadelaw04_DecTells.j3 kq l0 a1 a2 x7_3 t380 x9_3 t390 t398 x91_30 = some true) ∧ Aside0 (kq ≤ k3) ∧ Aside0 (Kd.R (Kd.int .u32) 39 wc w.heap.size (fun k_ => some k_ ≠ (v392 : Value).ownBlock ∧ some k_ ≠ (v400 : Value).ownBlock) v378 x7_3) ∧ Aside0 (Kd.R (Kd.int .u32) 39 wc w.heap.size (fun k_ => some k_ ≠ (v378 : Value).ownBlock ∧ some k_ ≠ (v400 : Value).ownBlock) v392 t390) ∧ Aside0 (Kd.R (Kd.int .u32) 39 wc w.heap.size (fun k_ => some k_ ≠ (v378 : Value).ownBlock ∧ some k_ ≠ (v392 : Value).ownBlock) v400 t398) ∧ Aside0 (Below w.heap.size w wc))
                      case first =>
                        have H := HC31.out
                        clear HC31
                        replace H := Option.bind_eq_some_iff.mp H
                        obtain ⟨t402, A350, H⟩ := H
                        replace H : (if t402 = true then (if t391 = t397 then (if t380.toList = ([] : List UInt8) then (alidadelaw04_DecTells.j3 k3 l0 a1 a2 x7_3 t380 x9_3 t390 t398 false) else ((alidadelaw04_same.f k3 t398 l0).bind fun t403 => (if t403 = true then (alidadelaw04_DecTells.j3 k3 l0 a1 a2 x7_3 t380 x9_3 t390 t398 (t399 != 0)) else (alidadelaw04_DecTells.j3 k3 l0 a1 a2 x7_3 t380 x9_3 t390 t398 true)))) else (alidadelaw04_DecTells.j3 k3 l0 a1 a2 x7_3 t380 x9_3 t390 t398 true)) else (alidadelaw04_DecTells.j3 k3 l0 a1 a2 x7_3 t380 x9_3 t390 t398 true)) = some true := H
                        have A35 := Aside0.mk A350
                        clear A350
                        by_cases c36 : t402 = true
                        · subst c36
                          have H1 : (if t391 = t397 then (if t380.toList = ([] : List UInt8) then (alidadelaw04_DecTells.j3 k3 l0 a1 a2 x7_3 t380 x9_3 t390 t398 false) else ((alidadelaw04_same.f k3 t398 l0).bind fun t403 => (if t403 = true then (alidadelaw04_DecTells.j3 k3 l0 a1 a2 x7_3 t380 x9_3 t390 t398 (t399 != 0)) else (alidadelaw04_DecTells.j3 k3 l0 a1 a2 x7_3 t380 x9_3 t390 t398 true)))) else (alidadelaw04_DecTells.j3 k3 l0 a1 a2 x7_3 t380 x9_3 t390 t398 true)) = some true := by rw [if_pos rfl] at H; exact H
                          clear H
                          have H := H1
                          clear H1
                          by_cases c37 : t391 = t397
                          · rw [if_pos c37] at H
                            have c37b0 : (t391 == t397) = true := beq_iff_eq.mpr c37
                            have c37b1 : (t391 != t397) = false := bne_eq_false_iff_eq.mpr c37
                            clear c37
                            (first | rw [c37b0] | (simp only [i64_w, i32_w]; rw [c37b0]) | skip)
                            by_cases c38 : t380.toList = ([] : List UInt8)
                            · rw [if_pos c38] at H
                              have c38b0 : (t380.toList == ([] : List UInt8)) = true := beq_iff_eq.mpr c38
                              have c38b1 : (t380.toList != ([] : List UInt8)) = false := bne_eq_false_iff_eq.mpr c38
                              clear c38
                              have H' := Aside0.mk H
                              clear H
                              obtain ⟨Ao39, co39, eo39⟩ := Kd.R_slice HO393.out
                              subst eo39
                              obtain ⟨Ao40, co40, eo40⟩ := Kd.V_slice HO396.out
                              subst eo40
                              go_wp2_with (first | ((with_reducible refine gate_callee (f := 16) rfl ?_); refine goesL_ (some 71) rfl rfl Tryd.func16 (by kernel_rfl) rfl #[.slice Ao39 t390.length co39, .slice Ao40 t394.length co40] rfl (by (try simp only [List.map_toArray, List.map_cons, List.map_nil]); first | done | rfl | (simp only [List.length_drop, List.length_take]; rfl)) ?_; (with_reducible refine (alidadelaw04_same.calls k3 _ _ t390 _ _ t394 true _ ?side1 ?side2 ?side3 ?side4 A35.out).mono ?_); (case side1 => repeat (first | exact (Kd.R_reads' HO393.out).2.2 | (with_reducible refine Kd.C_alloc ?_ _) | (with_reducible refine Kd.C_drewN ?_ _) | (with_reducible refine Kd.C_drew ?_))); (case side2 => exact (Kd.R_reads' HO393.out).2.1); (case side3 => repeat (first | exact (Kd.V_reads' HO396.out).2.2 | (with_reducible refine Kd.C_alloc ?_ _) | (with_reducible refine Kd.C_drewN ?_ _) | (with_reducible refine Kd.C_drew ?_))); (case side4 => exact (Kd.V_reads' HO396.out).2.1); rintro e w' ⟨rfl, ⟨nd, rfl⟩⟩; refine ⟨_, rfl, ?_⟩))
                              go_meet
                              case rel => exact ⟨_, (false), (by first | rfl | (simp; done) | (simp [*]; done)), H', ⟨by have := HJ3.out; have := HJ12.out; have := HK3.out; first | omega | exact Nat.le_refl _⟩, ⟨by (with_reducible repeat (first | apply Kd.R_alloc | apply Kd.R_drewN | apply Kd.R_drew)); exact Kd.R_mono HO_7.out (fun _ hk => ⟨hk.1.2, hk.2⟩)⟩, ⟨by (with_reducible repeat (first | apply Kd.R_alloc | apply Kd.R_drewN | apply Kd.R_drew)); exact Kd.R_mono HO393.out (fun _ hk => ⟨hk.1.2, hk.2⟩)⟩, ⟨by (with_reducible repeat (first | apply Kd.R_alloc | apply Kd.R_drewN | apply Kd.R_drew)); exact Kd.R_mono HO401.out (fun _ hk => ⟨hk.1.2, hk.2⟩)⟩, ⟨by repeat (first | (with_reducible first | exact HB.out | apply below_alloc | apply pw_below_drewN | apply below_drew1) | exact HB.out)⟩⟩
                            · rw [if_neg c38] at H
                              have c38b0 : (t380.toList == ([] : List UInt8)) = false := beq_eq_false_iff_ne.mpr c38
                              have c38b1 : (t380.toList != ([] : List UInt8)) = true := bne_iff_ne.mpr c38
                              replace H := Option.bind_eq_some_iff.mp H
                              obtain ⟨t403, A410, H⟩ := H
                              replace H : (if t403 = true then (alidadelaw04_DecTells.j3 k3 l0 a1 a2 x7_3 t380 x9_3 t390 t398 (t399 != 0)) else (alidadelaw04_DecTells.j3 k3 l0 a1 a2 x7_3 t380 x9_3 t390 t398 true)) = some true := H
                              have A41 := Aside0.mk A410
                              clear A410
                              by_cases c42 : t403 = true
                              · subst c42
                                have H1 : (alidadelaw04_DecTells.j3 k3 l0 a1 a2 x7_3 t380 x9_3 t390 t398 (t399 != 0)) = some true := by rw [if_pos rfl] at H; exact H
                                clear H
                                have H := H1
                                clear H1
                                have H' := Aside0.mk H
                                clear H
                                obtain ⟨Ao43, co43, eo43⟩ := Kd.R_slice HO393.out
                                subst eo43
                                obtain ⟨Ao44, co44, eo44⟩ := Kd.V_slice HO396.out
                                subst eo44
                                go_wp2_with (first | ((with_reducible refine gate_callee (f := 16) rfl ?_); refine goesL_ (some 71) rfl rfl Tryd.func16 (by kernel_rfl) rfl #[.slice Ao43 t390.length co43, .slice Ao44 t394.length co44] rfl (by (try simp only [List.map_toArray, List.map_cons, List.map_nil]); first | done | rfl | (simp only [List.length_drop, List.length_take]; rfl)) ?_; (with_reducible refine (alidadelaw04_same.calls k3 _ _ t390 _ _ t394 true _ ?side1 ?side2 ?side3 ?side4 A35.out).mono ?_); (case side1 => repeat (first | exact (Kd.R_reads' HO393.out).2.2 | (with_reducible refine Kd.C_alloc ?_ _) | (with_reducible refine Kd.C_drewN ?_ _) | (with_reducible refine Kd.C_drew ?_))); (case side2 => exact (Kd.R_reads' HO393.out).2.1); (case side3 => repeat (first | exact (Kd.V_reads' HO396.out).2.2 | (with_reducible refine Kd.C_alloc ?_ _) | (with_reducible refine Kd.C_drewN ?_ _) | (with_reducible refine Kd.C_drew ?_))); (case side4 => exact (Kd.V_reads' HO396.out).2.1); rintro e w' ⟨rfl, ⟨nd, rfl⟩⟩; refine ⟨_, rfl, ?_⟩; obtain ⟨Ao45, co45, eo45⟩ := Kd.R_slice HO401.out; subst eo45) | (go_at_call 16; (with_reducible refine (alidadelaw04_same.calls k3 _ _ t398 _ _ l0 true _ ?side1 ?side2 ?side3 ?side4 A41.out).mono ?_); (case side1 => repeat (first | exact (Kd.R_reads' HO401.out).2.2 | (with_reducible refine Kd.C_alloc ?_ _) | (with_reducible refine Kd.C_drewN ?_ _) | (with_reducible refine Kd.C_drew ?_))); (case side2 => exact (Kd.R_reads' HO401.out).2.1); (case side3 => repeat (first | exact (Kd.C_below HR0.out (by repeat (first | (with_reducible first | exact HB.out | apply below_alloc | apply pw_below_drewN | apply below_drew1) | exact HB.out))) | (with_reducible refine Kd.C_alloc ?_ _) | (with_reducible refine Kd.C_drewN ?_ _) | (with_reducible refine Kd.C_drew ?_))); (case side4 => exact HC0.out); rintro e w' ⟨rfl, ⟨nd, rfl⟩⟩))
                                go_meet
                                case rel => exact ⟨_, ((t399 != 0)), (by first | rfl | (simp; done) | (simp [*]; done)), H', ⟨by have := HJ3.out; have := HJ12.out; have := HK3.out; first | omega | exact Nat.le_refl _⟩, ⟨by (with_reducible repeat (first | apply Kd.R_alloc | apply Kd.R_drewN | apply Kd.R_drew)); exact Kd.R_mono HO_7.out (fun _ hk => ⟨hk.1.2, hk.2⟩)⟩, ⟨by (with_reducible repeat (first | apply Kd.R_alloc | apply Kd.R_drewN | apply Kd.R_drew)); exact Kd.R_mono HO393.out (fun _ hk => ⟨hk.1.2, hk.2⟩)⟩, ⟨by (with_reducible repeat (first | apply Kd.R_alloc | apply Kd.R_drewN | apply Kd.R_drew)); exact Kd.R_mono HO401.out (fun _ hk => ⟨hk.1.2, hk.2⟩)⟩, ⟨by repeat (first | (with_reducible first | exact HB.out | apply below_alloc | apply pw_below_drewN | apply below_drew1) | exact HB.out)⟩⟩
                              · replace c42 := Bool.eq_false_iff.mpr c42
                                subst c42
                                have H1 : (alidadelaw04_DecTells.j3 k3 l0 a1 a2 x7_3 t380 x9_3 t390 t398 true) = some true := by rw [if_neg (show ¬ (false = true) by decide)] at H; exact H
                                clear H
                                have H := H1
                                clear H1
                                have H' := Aside0.mk H
                                clear H
                                obtain ⟨Ao46, co46, eo46⟩ := Kd.R_slice HO393.out
                                subst eo46
                                obtain ⟨Ao47, co47, eo47⟩ := Kd.V_slice HO396.out
                                subst eo47
                                go_wp2_with (first | ((with_reducible refine gate_callee (f := 16) rfl ?_); refine goesL_ (some 71) rfl rfl Tryd.func16 (by kernel_rfl) rfl #[.slice Ao46 t390.length co46, .slice Ao47 t394.length co47] rfl (by (try simp only [List.map_toArray, List.map_cons, List.map_nil]); first | done | rfl | (simp only [List.length_drop, List.length_take]; rfl)) ?_; (with_reducible refine (alidadelaw04_same.calls k3 _ _ t390 _ _ t394 true _ ?side1 ?side2 ?side3 ?side4 A35.out).mono ?_); (case side1 => repeat (first | exact (Kd.R_reads' HO393.out).2.2 | (with_reducible refine Kd.C_alloc ?_ _) | (with_reducible refine Kd.C_drewN ?_ _) | (with_reducible refine Kd.C_drew ?_))); (case side2 => exact (Kd.R_reads' HO393.out).2.1); (case side3 => repeat (first | exact (Kd.V_reads' HO396.out).2.2 | (with_reducible refine Kd.C_alloc ?_ _) | (with_reducible refine Kd.C_drewN ?_ _) | (with_reducible refine Kd.C_drew ?_))); (case side4 => exact (Kd.V_reads' HO396.out).2.1); rintro e w' ⟨rfl, ⟨nd, rfl⟩⟩; refine ⟨_, rfl, ?_⟩; obtain ⟨Ao48, co48, eo48⟩ := Kd.R_slice HO401.out; subst eo48) | (go_at_call 16; (with_reducible refine (alidadelaw04_same.calls k3 _ _ t398 _ _ l0 false _ ?side1 ?side2 ?side3 ?side4 A41.out).mono ?_); (case side1 => repeat (first | exact (Kd.R_reads' HO401.out).2.2 | (with_reducible refine Kd.C_alloc ?_ _) | (with_reducible refine Kd.C_drewN ?_ _) | (with_reducible refine Kd.C_drew ?_))); (case side2 => exact (Kd.R_reads' HO401.out).2.1); (case side3 => repeat (first | exact (Kd.C_below HR0.out (by repeat (first | (with_reducible first | exact HB.out | apply below_alloc | apply pw_below_drewN | apply below_drew1) | exact HB.out))) | (with_reducible refine Kd.C_alloc ?_ _) | (with_reducible refine Kd.C_drewN ?_ _) | (with_reducible refine Kd.C_drew ?_))); (case side4 => exact HC0.out); rintro e w' ⟨rfl, ⟨nd, rfl⟩⟩))
                                go_meet
                                case rel => exact ⟨_, (true), (by first | rfl | (simp; done) | (simp [*]; done)), H', ⟨by have := HJ3.out; have := HJ12.out; have := HK3.out; first | omega | exact Nat.le_refl _⟩, ⟨by (with_reducible repeat (first | apply Kd.R_alloc | apply Kd.R_drewN | apply Kd.R_drew)); exact Kd.R_mono HO_7.out (fun _ hk => ⟨hk.1.2, hk.2⟩)⟩, ⟨by (with_reducible repeat (first | apply Kd.R_alloc | apply Kd.R_drewN | apply Kd.R_drew)); exact Kd.R_mono HO393.out (fun _ hk => ⟨hk.1.2, hk.2⟩)⟩, ⟨by (with_reducible repeat (first | apply Kd.R_alloc | apply Kd.R_drewN | apply Kd.R_drew)); exact Kd.R_mono HO401.out (fun _ hk => ⟨hk.1.2, hk.2⟩)⟩, ⟨by repeat (first | (with_reducible first | exact HB.out | apply below_alloc | apply pw_below_drewN | apply below_drew1) | exact HB.out)⟩⟩
                          · rw [if_neg c37] at H
                            have c37b0 : (t391 == t397) = false := beq_eq_false_iff_ne.mpr c37
                            have c37b1 : (t391 != t397) = true := bne_iff_ne.mpr c37
                            (first | rw [c37b0] | (simp only [i64_w, i32_w]; rw [c37b0]) | skip)
                            have H' := Aside0.mk H
                            clear H
                            obtain ⟨Ao49, co49, eo49⟩ := Kd.R_slice HO393.out
                            subst eo49
                            obtain ⟨Ao50, co50, eo50⟩ := Kd.V_slice HO396.out
                            subst eo50
                            go_wp2_with (first | ((with_reducible refine gate_callee (f := 16) rfl ?_); refine goesL_ (some 71) rfl rfl Tryd.func16 (by kernel_rfl) rfl #[.slice Ao49 t390.length co49, .slice Ao50 t394.length co50] rfl (by (try simp only [List.map_toArray, List.map_cons, List.map_nil]); first | done | rfl | (simp only [List.length_drop, List.length_take]; rfl)) ?_; (with_reducible refine (alidadelaw04_same.calls k3 _ _ t390 _ _ t394 true _ ?side1 ?side2 ?side3 ?side4 A35.out).mono ?_); (case side1 => repeat (first | exact (Kd.R_reads' HO393.out).2.2 | (with_reducible refine Kd.C_alloc ?_ _) | (with_reducible refine Kd.C_drewN ?_ _) | (with_reducible refine Kd.C_drew ?_))); (case side2 => exact (Kd.R_reads' HO393.out).2.1); (case side3 => repeat (first | exact (Kd.V_reads' HO396.out).2.2 | (with_reducible refine Kd.C_alloc ?_ _) | (with_reducible refine Kd.C_drewN ?_ _) | (with_reducible refine Kd.C_drew ?_))); (case side4 => exact (Kd.V_reads' HO396.out).2.1); rintro e w' ⟨rfl, ⟨nd, rfl⟩⟩; refine ⟨_, rfl, ?_⟩))
                            go_meet
                            case rel => exact ⟨_, (true), (by first | rfl | (simp; done) | (simp [*]; done)), H', ⟨by have := HJ3.out; have := HJ12.out; have := HK3.out; first | omega | exact Nat.le_refl _⟩, ⟨by (with_reducible repeat (first | apply Kd.R_alloc | apply Kd.R_drewN | apply Kd.R_drew)); exact Kd.R_mono HO_7.out (fun _ hk => ⟨hk.1.2, hk.2⟩)⟩, ⟨by (with_reducible repeat (first | apply Kd.R_alloc | apply Kd.R_drewN | apply Kd.R_drew)); exact Kd.R_mono HO393.out (fun _ hk => ⟨hk.1.2, hk.2⟩)⟩, ⟨by (with_reducible repeat (first | apply Kd.R_alloc | apply Kd.R_drewN | apply Kd.R_drew)); exact Kd.R_mono HO401.out (fun _ hk => ⟨hk.1.2, hk.2⟩)⟩, ⟨by repeat (first | (with_reducible first | exact HB.out | apply below_alloc | apply pw_below_drewN | apply below_drew1) | exact HB.out)⟩⟩
                        · replace c36 := Bool.eq_false_iff.mpr c36
                          subst c36
                          have H1 : (alidadelaw04_DecTells.j3 k3 l0 a1 a2 x7_3 t380 x9_3 t390 t398 true) = some true := by rw [if_neg (show ¬ (false = true) by decide)] at H; exact H
                          clear H
                          have H := H1
                          clear H1
                          have H' := Aside0.mk H
                          clear H
                          obtain ⟨Ao51, co51, eo51⟩ := Kd.R_slice HO393.out
                          subst eo51
                          obtain ⟨Ao52, co52, eo52⟩ := Kd.V_slice HO396.out
                          subst eo52
                          go_wp2_with (first | ((with_reducible refine gate_callee (f := 16) rfl ?_); refine goesL_ (some 71) rfl rfl Tryd.func16 (by kernel_rfl) rfl #[.slice Ao51 t390.length co51, .slice Ao52 t394.length co52] rfl (by (try simp only [List.map_toArray, List.map_cons, List.map_nil]); first | done | rfl | (simp only [List.length_drop, List.length_take]; rfl)) ?_; (with_reducible refine (alidadelaw04_same.calls k3 _ _ t390 _ _ t394 false _ ?side1 ?side2 ?side3 ?side4 A35.out).mono ?_); (case side1 => repeat (first | exact (Kd.R_reads' HO393.out).2.2 | (with_reducible refine Kd.C_alloc ?_ _) | (with_reducible refine Kd.C_drewN ?_ _) | (with_reducible refine Kd.C_drew ?_))); (case side2 => exact (Kd.R_reads' HO393.out).2.1); (case side3 => repeat (first | exact (Kd.V_reads' HO396.out).2.2 | (with_reducible refine Kd.C_alloc ?_ _) | (with_reducible refine Kd.C_drewN ?_ _) | (with_reducible refine Kd.C_drew ?_))); (case side4 => exact (Kd.V_reads' HO396.out).2.1); rintro e w' ⟨rfl, ⟨nd, rfl⟩⟩; refine ⟨_, rfl, ?_⟩))
                          go_meet
                          case rel => exact ⟨_, (true), (by first | rfl | (simp; done) | (simp [*]; done)), H', ⟨by have := HJ3.out; have := HJ12.out; have := HK3.out; first | omega | exact Nat.le_refl _⟩, ⟨by (with_reducible repeat (first | apply Kd.R_alloc | apply Kd.R_drewN | apply Kd.R_drew)); exact Kd.R_mono HO_7.out (fun _ hk => ⟨hk.1.2, hk.2⟩)⟩, ⟨by (with_reducible repeat (first | apply Kd.R_alloc | apply Kd.R_drewN | apply Kd.R_drew)); exact Kd.R_mono HO393.out (fun _ hk => ⟨hk.1.2, hk.2⟩)⟩, ⟨by (with_reducible repeat (first | apply Kd.R_alloc | apply Kd.R_drewN | apply Kd.R_drew)); exact Kd.R_mono HO401.out (fun _ hk => ⟨hk.1.2, hk.2⟩)⟩, ⟨by repeat (first | (with_reducible first | exact HB.out | apply below_alloc | apply pw_below_drewN | apply below_drew1) | exact HB.out)⟩⟩
                      case rest =>
                        clear HC31
                        try clear c1
                        try clear c2
                        try clear p2
                        try clear c3
                        try clear c4
                        try clear c5
                        try clear c5b0
                        try clear c5b1
                        try clear c6
                        try clear c6b0
                        try clear c6b1
                        try clear c7
                        try clear c7b0
                        try clear c8
                        try clear c10
                        try clear c11
                        try clear c12
                        try clear c14
                        try clear c15
                        try clear c16
                        try clear c19
                        try clear c19b0
                        try clear c19b1
                        try clear c26
                        try clear c27
                        try clear c27b0
                        try clear c36
                        try clear c37
                        try clear c37b0
                        try clear c37b1
                        try clear c38
                        try clear c38b0
                        try clear c38b1
                        try clear c42
                        try clear p2
                        obtain ⟨kq, x91_30, rfl, HA, HJ30, HO_7, HO_10, HO_14, HB⟩ := hcut
                        cases kq with
                        | zero => exact absurd HA.out (by simp [alidadelaw04_DecTells.j3])
                        | succ kj30 =>
                          have H := HA.out
                          clear HA
                          simp only [alidadelaw04_DecTells.j3] at H
                          by_cases c53 : x91_30 = true
                          · subst c53
                            have H1 : (some false) = some true := by rw [if_pos rfl] at H; exact H
                            clear H
                            have H := H1
                            clear H1
                            exact absurd (Option.some.inj H) (by decide)
                          · replace c53 := Bool.eq_false_iff.mpr c53
                            subst c53
                            have H1 : (if a2 ≤ 3000 then ((dec_Ten.f kj30 a2).bind fun t404 => ((alidaderef04_Ten.f kj30 a2).bind fun t407 => ((alidadelaw04_same.f kj30 t404 t407).bind fun t410 => (if t410 = true then ((alidadelaw04_spoil.f kj30 t404).bind fun t411 => ((alidadelaw04_spoil.f kj30 t390).bind fun t412 => ((alidadelaw04_spoil.f kj30 t398).bind fun t413 => (alidadelaw04_DecTells.l0 kj30 l0 a1 a2 x7_3 t380 (wrap64 (x9_3 + 1)))))) else (some false))))) else ((alidadelaw04_spoil.f kj30 t390).bind fun t414 => ((alidadelaw04_spoil.f kj30 t398).bind fun t415 => (alidadelaw04_DecTells.l0 kj30 l0 a1 a2 x7_3 t380 (wrap64 (x9_3 + 1)))))) = some true := by rw [if_neg (show ¬ (false = true) by decide)] at H; exact H
                            clear H
                            have H := H1
                            clear H1
                            by_cases c54 : a2 ≤ 3000
                            · rw [if_pos c54] at H
                              have c54b0 : decide (a2 ≤ 3000) = true := decide_eq_true c54
                              clear c54
                              replace H := Option.bind_eq_some_iff.mp H
                              obtain ⟨t404, A550, H⟩ := H
                              replace H : ((alidaderef04_Ten.f kj30 a2).bind fun t407 => ((alidadelaw04_same.f kj30 t404 t407).bind fun t410 => (if t410 = true then ((alidadelaw04_spoil.f kj30 t404).bind fun t411 => ((alidadelaw04_spoil.f kj30 t390).bind fun t412 => ((alidadelaw04_spoil.f kj30 t398).bind fun t413 => (alidadelaw04_DecTells.l0 kj30 l0 a1 a2 x7_3 t380 (wrap64 (x9_3 + 1)))))) else (some false)))) = some true := H
                              have A55 := Aside0.mk A550
                              clear A550
                              replace H := Option.bind_eq_some_iff.mp H
                              obtain ⟨t407, A560, H⟩ := H
                              replace H : ((alidadelaw04_same.f kj30 t404 t407).bind fun t410 => (if t410 = true then ((alidadelaw04_spoil.f kj30 t404).bind fun t411 => ((alidadelaw04_spoil.f kj30 t390).bind fun t412 => ((alidadelaw04_spoil.f kj30 t398).bind fun t413 => (alidadelaw04_DecTells.l0 kj30 l0 a1 a2 x7_3 t380 (wrap64 (x9_3 + 1)))))) else (some false))) = some true := H
                              have A56 := Aside0.mk A560
                              clear A560
                              replace H := Option.bind_eq_some_iff.mp H
                              obtain ⟨t410, A570, H⟩ := H
                              replace H : (if t410 = true then ((alidadelaw04_spoil.f kj30 t404).bind fun t411 => ((alidadelaw04_spoil.f kj30 t390).bind fun t412 => ((alidadelaw04_spoil.f kj30 t398).bind fun t413 => (alidadelaw04_DecTells.l0 kj30 l0 a1 a2 x7_3 t380 (wrap64 (x9_3 + 1)))))) else (some false)) = some true := H
                              have A57 := Aside0.mk A570
                              clear A570
                              by_cases c58 : t410 = true
                              · subst c58
                                have H1 : ((alidadelaw04_spoil.f kj30 t404).bind fun t411 => ((alidadelaw04_spoil.f kj30 t390).bind fun t412 => ((alidadelaw04_spoil.f kj30 t398).bind fun t413 => (alidadelaw04_DecTells.l0 kj30 l0 a1 a2 x7_3 t380 (wrap64 (x9_3 + 1)))))) = some true := by rw [if_pos rfl] at H; exact H
                                clear H
                                have H := H1
                                clear H1
                                replace H := Option.bind_eq_some_iff.mp H
                                obtain ⟨t411, A590, H⟩ := H
                                replace H : ((alidadelaw04_spoil.f kj30 t390).bind fun t412 => ((alidadelaw04_spoil.f kj30 t398).bind fun t413 => (alidadelaw04_DecTells.l0 kj30 l0 a1 a2 x7_3 t380 (wrap64 (x9_3 + 1))))) = some true := H
                                have A59 := Aside0.mk A590
                                clear A590
                                replace H := Option.bind_eq_some_iff.mp H
                                obtain ⟨t412, A600, H⟩ := H
                                replace H : ((alidadelaw04_spoil.f kj30 t398).bind fun t413 => (alidadelaw04_DecTells.l0 kj30 l0 a1 a2 x7_3 t380 (wrap64 (x9_3 + 1)))) = some true := H
                                have A60 := Aside0.mk A600
                                clear A600
                                replace H := Option.bind_eq_some_iff.mp H
                                obtain ⟨t413, A610, H⟩ := H
                                replace H : (alidadelaw04_DecTells.l0 kj30 l0 a1 a2 x7_3 t380 (wrap64 (x9_3 + 1))) = some true := H
                                have A61 := Aside0.mk A610
                                clear A610
                                have H' := Aside0.mk H
                                clear H
                                go_wp2_with (first | ((with_reducible refine gate_callee (f := 17) rfl ?_); refine goesL_ (some 95) rfl rfl Tryd.func17 (by kernel_rfl) rfl #[.int .i64 a2] rfl (by (try simp only [List.map_toArray, List.map_cons, List.map_nil]); first | done | rfl | (simp only [List.length_drop, List.length_take]; rfl)) ?_; (with_reducible refine (dec_Ten.calls kj30 a2 t404 _ A55.out).mono ?_); rintro e w62 ⟨v405, rfl, ho0, hb⟩; refine ⟨_, rfl, ?_⟩; have n0_ := Aside0.mk (Kd.R_elder' (by (with_reducible repeat (first | apply Kd.R_alloc | apply Kd.R_drewN | apply Kd.R_drew)); exact HO_7.out) (Kd.R_base ho0) hb); have n1_ := Aside0.mk (Kd.R_elder' (by (with_reducible repeat (first | apply Kd.R_alloc | apply Kd.R_drewN | apply Kd.R_drew)); exact HO_10.out) (Kd.R_base ho0) hb); have n2_ := Aside0.mk (Kd.R_elder' (by (with_reducible repeat (first | apply Kd.R_alloc | apply Kd.R_drewN | apply Kd.R_drew)); exact HO_14.out) (Kd.R_base ho0) hb); have n3_ := Aside0.mk (Kd.R_lower (Kd.R_new' (Kd.R_new' (Kd.R_new' ho0 (Kd.R_lt (by (with_reducible repeat (first | apply Kd.R_alloc | apply Kd.R_drewN | apply Kd.R_drew)); exact HO_7.out))) (Kd.R_lt (by (with_reducible repeat (first | apply Kd.R_alloc | apply Kd.R_drewN | apply Kd.R_drew)); exact HO_10.out))) (Kd.R_lt (by (with_reducible repeat (first | apply Kd.R_alloc | apply Kd.R_drewN | apply Kd.R_drew)); exact HO_14.out))) (below_size (by repeat (first | (with_reducible first | exact HB.out | apply below_alloc | apply pw_below_drewN | apply below_drew1) | exact HB.out)))); have n4_ := Aside0.mk (below_step (by repeat (first | (with_reducible first | exact HB.out | apply below_alloc | apply pw_below_drewN | apply below_drew1) | exact HB.out)) hb); clear HO_7; clear HO_10; clear HO_14; clear HB; have HO_7 := n0_; have HO_10 := n1_; have HO_14 := n2_; have HO406 := n3_; have HB := n4_; clear n0_ n1_ n2_ n3_ n4_; (try clear hb); (try clear hb2); (try clear hk); (try clear hi); (try clear ho0)) | ((with_reducible refine gate_callee (f := 18) rfl ?_); refine goesL_ (some 98) rfl rfl Tryd.func18 (by kernel_rfl) rfl #[.int .i64 a2] rfl (by (try simp only [List.map_toArray, List.map_cons, List.map_nil]); first | done | rfl | (simp only [List.length_drop, List.length_take]; rfl)) ?_; (with_reducible refine (alidaderef04_Ten.calls kj30 a2 t407 _ A56.out).mono ?_); rintro e w63 ⟨v408, rfl, ho0, hb⟩; refine ⟨_, rfl, ?_⟩; have n0_ := Aside0.mk (Kd.R_elder' (by (with_reducible repeat (first | apply Kd.R_alloc | apply Kd.R_drewN | apply Kd.R_drew)); exact HO_7.out) (Kd.R_base ho0) hb); have n1_ := Aside0.mk (Kd.R_elder' (by (with_reducible repeat (first | apply Kd.R_alloc | apply Kd.R_drewN | apply Kd.R_drew)); exact HO_10.out) (Kd.R_base ho0) hb); have n2_ := Aside0.mk (Kd.R_elder' (by (with_reducible repeat (first | apply Kd.R_alloc | apply Kd.R_drewN | apply Kd.R_drew)); exact HO_14.out) (Kd.R_base ho0) hb); have n3_ := Aside0.mk (Kd.R_elder' (by (with_reducible repeat (first | apply Kd.R_alloc | apply Kd.R_drewN | apply Kd.R_drew)); exact HO406.out) (Kd.R_base ho0) hb); have n4_ := Aside0.mk (Kd.R_lower (Kd.R_new' (Kd.R_new' (Kd.R_new' (Kd.R_new' ho0 (Kd.R_lt (by (with_reducible repeat (first | apply Kd.R_alloc | apply Kd.R_drewN | apply Kd.R_drew)); exact HO_7.out))) (Kd.R_lt (by (with_reducible repeat (first | apply Kd.R_alloc | apply Kd.R_drewN | apply Kd.R_drew)); exact HO_10.out))) (Kd.R_lt (by (with_reducible repeat (first | apply Kd.R_alloc | apply Kd.R_drewN | apply Kd.R_drew)); exact HO_14.out))) (Kd.R_lt (by (with_reducible repeat (first | apply Kd.R_alloc | apply Kd.R_drewN | apply Kd.R_drew)); exact HO406.out))) (below_size (by repeat (first | (with_reducible first | exact HB.out | apply below_alloc | apply pw_below_drewN | apply below_drew1) | exact HB.out)))); have n5_ := Aside0.mk (below_step (by repeat (first | (with_reducible first | exact HB.out | apply below_alloc | apply pw_below_drewN | apply below_drew1) | exact HB.out)) hb); clear HO_7; clear HO_10; clear HO_14; clear HO406; clear HB; have HO_7 := n0_; have HO_10 := n1_; have HO_14 := n2_; have HO406 := n3_; have HO409 := n4_; have HB := n5_; clear n0_ n1_ n2_ n3_ n4_ n5_; (try clear hb); (try clear hb2); (try clear hk); (try clear hi); (try clear ho0); obtain ⟨Ao64, co64, eo64⟩ := Kd.R_slice HO406.out; subst eo64; obtain ⟨Ao65, co65, eo65⟩ := Kd.R_slice HO409.out; subst eo65) | ((with_reducible refine gate_callee (f := 16) rfl ?_); refine goesL_ (some 99) rfl rfl Tryd.func16 (by kernel_rfl) rfl #[.slice Ao64 t404.length co64, .slice Ao65 t407.length co65] rfl (by (try simp only [List.map_toArray, List.map_cons, List.map_nil]); first | done | rfl | (simp only [List.length_drop, List.length_take]; rfl)) ?_; (with_reducible refine (alidadelaw04_same.calls kj30 _ _ t404 _ _ t407 true _ ?side1 ?side2 ?side3 ?side4 A57.out).mono ?_); (case side1 => repeat (first | exact (Kd.R_reads' HO406.out).2.2 | (with_reducible refine Kd.C_alloc ?_ _) | (with_reducible refine Kd.C_drewN ?_ _) | (with_reducible refine Kd.C_drew ?_))); (case side2 => exact (Kd.R_reads' HO406.out).2.1); (case side3 => repeat (first | exact (Kd.R_reads' HO409.out).2.2 | (with_reducible refine Kd.C_alloc ?_ _) | (with_reducible refine Kd.C_drewN ?_ _) | (with_reducible refine Kd.C_drew ?_))); (case side4 => exact (Kd.R_reads' HO409.out).2.1); rintro e w' ⟨rfl, ⟨nd, rfl⟩⟩; refine ⟨_, rfl, ?_⟩) | ((with_reducible refine gate_callee (f := 19) rfl ?_); refine goesL_ (some 102) rfl rfl Tryd.func19 (by kernel_rfl) rfl #[.slice Ao64 t404.length co64] rfl (by (try simp only [List.map_toArray, List.map_cons, List.map_nil]); first | done | rfl | (simp only [List.length_drop, List.length_take]; rfl)) ?_; (with_reducible refine (alidadelaw04_spoil.calls kj30 (fun k_ => some k_ = (.slice Ao64 t404.length co64 : Value).ownBlock) (.slice Ao64 t404.length co64) t404 t411 w _ ?side1 ?side2 A59.out).mono ?_); (case side1 => repeat (first | (with_reducible first | exact HB.out | apply below_alloc | apply pw_below_drewN | apply below_drew1) | exact HB.out)); (case side2 => exact Kd.R_tight rfl HO406.out); rintro e w66 ⟨rfl, hy0, hb, hkp⟩; refine ⟨_, rfl, ?_⟩; have n0_ := Aside0.mk (Kd.R_mono (ok' := fun k_ => some k_ ≠ (v392 : Value).ownBlock ∧ some k_ ≠ (v400 : Value).ownBlock ∧ some k_ ≠ (.slice Ao64 t404.length co64 : Value).ownBlock ∧ some k_ ≠ (.slice Ao65 t407.length co65 : Value).ownBlock) (Kd.R_keptB (HO_7.out) hkp (fun k_ hk_ hs_ => (hk_.1.2) hs_)) (fun k_ hk_ => ⟨hk_.1.1.1.1, hk_.1.1.1.2, hk_.1.1.2, hk_.1.2⟩)); have n1_ := Aside0.mk (Kd.R_mono (ok' := fun k_ => some k_ ≠ (v378 : Value).ownBlock ∧ some k_ ≠ (v400 : Value).ownBlock ∧ some k_ ≠ (.slice Ao64 t404.length co64 : Value).ownBlock ∧ some k_ ≠ (.slice Ao65 t407.length co65 : Value).ownBlock) (Kd.R_keptB (HO_10.out) hkp (fun k_ hk_ hs_ => (hk_.1.2) hs_)) (fun k_ hk_ => ⟨hk_.1.1.1.1, hk_.1.1.1.2, hk_.1.1.2, hk_.1.2⟩)); have n2_ := Aside0.mk (Kd.R_mono (ok' := fun k_ => some k_ ≠ (v378 : Value).ownBlock ∧ some k_ ≠ (v392 : Value).ownBlock ∧ some k_ ≠ (.slice Ao64 t404.length co64 : Value).ownBlock ∧ some k_ ≠ (.slice Ao65 t407.length co65 : Value).ownBlock) (Kd.R_keptB (HO_14.out) hkp (fun k_ hk_ hs_ => (hk_.1.2) hs_)) (fun k_ hk_ => ⟨hk_.1.1.1.1, hk_.1.1.1.2, hk_.1.1.2, hk_.1.2⟩)); have n3_ := Aside0.mk (Kd.R_reok rfl hy0 (fun k_ e_ => HO406.out.1 k_ e_)); have n4_ := Aside0.mk (Kd.R_mono (ok' := fun k_ => some k_ ≠ (v378 : Value).ownBlock ∧ some k_ ≠ (v392 : Value).ownBlock ∧ some k_ ≠ (v400 : Value).ownBlock ∧ some k_ ≠ (.slice Ao64 t404.length co64 : Value).ownBlock) (Kd.R_keptB (HO409.out) hkp (fun k_ hk_ hs_ => (hk_.2) hs_)) (fun k_ hk_ => ⟨hk_.1.1.1.1.2, hk_.1.1.1.2, hk_.1.1.2, hk_.1.2⟩)); have n5_ := Aside0.mk (hb); clear HO_7; clear HO_10; clear HO_14; clear HO406; clear HO409; clear HB; have HO_7 := n0_; have HO_10 := n1_; have HO_14 := n2_; have HO406 := n3_; have HO409 := n4_; have HB := n5_; clear n0_ n1_ n2_ n3_ n4_ n5_; (try clear hb); (try clear hkp); (try clear hy0); obtain ⟨Ao67, co67, eo67⟩ := Kd.R_slice HO_10.out; subst eo67) | ((with_reducible refine gate_callee (f := 19) rfl ?_); refine goesL_ (some 104) rfl rfl Tryd.func19 (by kernel_rfl) rfl #[.slice Ao67 t390.length co67] rfl (by (try simp only [List.map_toArray, List.map_cons, List.map_nil]); first | done | rfl | (simp only [List.length_drop, List.length_take]; rfl)) ?_; (with_reducible refine (alidadelaw04_spoil.calls kj30 (fun k_ => some k_ = (.slice Ao67 t390.length co67 : Value).ownBlock) (.slice Ao67 t390.length co67) t390 t412 w _ ?side1 ?side2 A60.out).mono ?_); (case side1 => repeat (first | (with_reducible first | exact HB.out | apply below_alloc | apply pw_below_drewN | apply below_drew1) | exact HB.out)); (case side2 => exact Kd.R_tight rfl HO_10.out); rintro e w68 ⟨rfl, hy0, hb, hkp⟩; refine ⟨_, rfl, ?_⟩; have n0_ := Aside0.mk (Kd.R_mono (ok' := fun k_ => some k_ ≠ (.slice Ao67 t390.length co67 : Value).ownBlock ∧ some k_ ≠ (v400 : Value).ownBlock ∧ some k_ ≠ (.slice Ao64 t404.length co64 : Value).ownBlock ∧ some k_ ≠ (.slice Ao65 t407.length co65 : Value).ownBlock) (Kd.R_keptB (HO_7.out) hkp (fun k_ hk_ hs_ => (hk_.1) hs_)) (fun k_ hk_ => ⟨hk_.1.1, hk_.1.2.1, hk_.1.2.2.1, hk_.1.2.2.2⟩)); have n1_ := Aside0.mk (Kd.R_reok rfl hy0 (fun k_ e_ => HO_10.out.1 k_ e_)); have n2_ := Aside0.mk (Kd.R_mono (ok' := fun k_ => some k_ ≠ (v378 : Value).ownBlock ∧ some k_ ≠ (.slice Ao67 t390.length co67 : Value).ownBlock ∧ some k_ ≠ (.slice Ao64 t404.length co64 : Value).ownBlock ∧ some k_ ≠ (.slice Ao65 t407.length co65 : Value).ownBlock) (Kd.R_keptB (HO_14.out) hkp (fun k_ hk_ hs_ => (hk_.2.1) hs_)) (fun k_ hk_ => ⟨hk_.1.1, hk_.1.2.1, hk_.1.2.2.1, hk_.1.2.2.2⟩)); have n3_ := Aside0.mk (Kd.R_mono (ok' := fun k_ => some k_ ≠ (v378 : Value).ownBlock ∧ some k_ ≠ (.slice Ao67 t390.length co67 : Value).ownBlock ∧ some k_ ≠ (v400 : Value).ownBlock ∧ some k_ ≠ (.slice Ao65 t407.length co65 : Value).ownBlock) (Kd.R_keptB (HO406.out) hkp (fun k_ hk_ hs_ => (hk_.1.1.2) hs_)) (fun k_ hk_ => ⟨hk_.1.1.1.1.2, hk_.1.1.1.2, hk_.1.1.2, hk_.1.2⟩)); have n4_ := Aside0.mk (Kd.R_mono (ok' := fun k_ => some k_ ≠ (v378 : Value).ownBlock ∧ some k_ ≠ (.slice Ao67 t390.length co67 : Value).ownBlock ∧ some k_ ≠ (v400 : Value).ownBlock ∧ some k_ ≠ (.slice Ao64 t404.length co64 : Value).ownBlock) (Kd.R_keptB (HO409.out) hkp (fun k_ hk_ hs_ => (hk_.2.1) hs_)) (fun k_ hk_ => ⟨hk_.1.1, hk_.1.2.1, hk_.1.2.2.1, hk_.1.2.2.2⟩)); have n5_ := Aside0.mk (hb); clear HO_7; clear HO_10; clear HO_14; clear HO406; clear HO409; clear HB; have HO_7 := n0_; have HO_10 := n1_; have HO_14 := n2_; have HO406 := n3_; have HO409 := n4_; have HB := n5_; clear n0_ n1_ n2_ n3_ n4_ n5_; (try clear hb); (try clear hkp); (try clear hy0); obtain ⟨Ao69, co69, eo69⟩ := Kd.R_slice HO_14.out; subst eo69) | ((with_reducible refine gate_callee (f := 19) rfl ?_); refine goesL_ (some 106) rfl rfl Tryd.func19 (by kernel_rfl) rfl #[.slice Ao69 t398.length co69] rfl (by (try simp only [List.map_toArray, List.map_cons, List.map_nil]); first | done | rfl | (simp only [List.length_drop, List.length_take]; rfl)) ?_; (with_reducible refine (alidadelaw04_spoil.calls kj30 (fun k_ => some k_ = (.slice Ao69 t398.length co69 : Value).ownBlock) (.slice Ao69 t398.length co69) t398 t413 w _ ?side1 ?side2 A61.out).mono ?_); (case side1 => repeat (first | (with_reducible first | exact HB.out | apply below_alloc | apply pw_below_drewN | apply below_drew1) | exact HB.out)); (case side2 => exact Kd.R_tight rfl HO_14.out); rintro e w70 ⟨rfl, hy0, hb, hkp⟩; refine ⟨_, rfl, ?_⟩; have n0_ := Aside0.mk (Kd.R_mono (ok' := fun k_ => some k_ ≠ (.slice Ao67 t390.length co67 : Value).ownBlock ∧ some k_ ≠ (.slice Ao69 t398.length co69 : Value).ownBlock ∧ some k_ ≠ (.slice Ao64 t404.length co64 : Value).ownBlock ∧ some k_ ≠ (.slice Ao65 t407.length co65 : Value).ownBlock) (Kd.R_keptB (HO_7.out) hkp (fun k_ hk_ hs_ => (hk_.2.1) hs_)) (fun k_ hk_ => ⟨hk_.1.1, hk_.1.2.1, hk_.1.2.2.1, hk_.1.2.2.2⟩)); have n1_ := Aside0.mk (Kd.R_mono (ok' := fun k_ => some k_ ≠ (v378 : Value).ownBlock ∧ some k_ ≠ (.slice Ao69 t398.length co69 : Value).ownBlock ∧ some k_ ≠ (.slice Ao64 t404.length co64 : Value).ownBlock ∧ some k_ ≠ (.slice Ao65 t407.length co65 : Value).ownBlock) (Kd.R_keptB (HO_10.out) hkp (fun k_ hk_ hs_ => (hk_.2.1) hs_)) (fun k_ hk_ => ⟨hk_.1.1, hk_.1.2.1, hk_.1.2.2.1, hk_.1.2.2.2⟩)); have n2_ := Aside0.mk (Kd.R_reok rfl hy0 (fun k_ e_ => HO_14.out.1 k_ e_)); have n3_ := Aside0.mk (Kd.R_mono (ok' := fun k_ => some k_ ≠ (v378 : Value).ownBlock ∧ some k_ ≠ (.slice Ao67 t390.length co67 : Value).ownBlock ∧ some k_ ≠ (.slice Ao69 t398.length co69 : Value).ownBlock ∧ some k_ ≠ (.slice Ao65 t407.length co65 : Value).ownBlock) (Kd.R_keptB (HO406.out) hkp (fun k_ hk_ hs_ => (hk_.2.2.1) hs_)) (fun k_ hk_ => ⟨hk_.1.1, hk_.1.2.1, hk_.1.2.2.1, hk_.1.2.2.2⟩)); have n4_ := Aside0.mk (Kd.R_mono (ok' := fun k_ => some k_ ≠ (v378 : Value).ownBlock ∧ some k_ ≠ (.slice Ao67 t390.length co67 : Value).ownBlock ∧ some k_ ≠ (.slice Ao69 t398.length co69 : Value).ownBlock ∧ some k_ ≠ (.slice Ao64 t404.length co64 : Value).ownBlock) (Kd.R_keptB (HO409.out) hkp (fun k_ hk_ hs_ => (hk_.2.2.1) hs_)) (fun k_ hk_ => ⟨hk_.1.1, hk_.1.2.1, hk_.1.2.2.1, hk_.1.2.2.2⟩)); have n5_ := Aside0.mk (hb); clear HO_7; clear HO_10; clear HO_14; clear HO406; clear HO409; clear HB; have HO_7 := n0_; have HO_10 := n1_; have HO_14 := n2_; have HO406 := n3_; have HO409 := n4_; have HB := n5_; clear n0_ n1_ n2_ n3_ n4_ n5_; (try clear hb); (try clear hkp); (try clear hy0)))
                                go_roundg kj30
                                case measure => have := HJ3.out; have := HJ12.out; have := HK3.out; have := HJ30.out; omega
                                case rel => exact ⟨(x7_3), (wrap64 (x9_3 + 1)), (by first | rfl | (simp; done) | (simp [*]; done)), H', ⟨by have := HJ3.out; have := HJ12.out; have := HK3.out; have := HJ30.out; omega⟩, ⟨by (with_reducible repeat (first | apply Kd.R_alloc | apply Kd.R_drewN | apply Kd.R_drew)); exact Kd.R_mono HO_7.out (fun _ hk => trivial)⟩, ⟨by repeat (first | (with_reducible first | exact HB.out | apply below_alloc | apply pw_below_drewN | apply below_drew1) | exact HB.out)⟩⟩
                              · replace c58 := Bool.eq_false_iff.mpr c58
                                subst c58
                                have H1 : (some false) = some true := by rw [if_neg (show ¬ (false = true) by decide)] at H; exact H
                                clear H
                                have H := H1
                                clear H1
                                exact absurd (Option.some.inj H) (by decide)
                            · rw [if_neg c54] at H
                              have c54b0 : decide (a2 ≤ 3000) = false := decide_eq_false c54
                              clear c54
                              replace H := Option.bind_eq_some_iff.mp H
                              obtain ⟨t414, A750, H⟩ := H
                              replace H : ((alidadelaw04_spoil.f kj30 t398).bind fun t415 => (alidadelaw04_DecTells.l0 kj30 l0 a1 a2 x7_3 t380 (wrap64 (x9_3 + 1)))) = some true := H
                              have A75 := Aside0.mk A750
                              clear A750
                              replace H := Option.bind_eq_some_iff.mp H
                              obtain ⟨t415, A760, H⟩ := H
                              replace H : (alidadelaw04_DecTells.l0 kj30 l0 a1 a2 x7_3 t380 (wrap64 (x9_3 + 1))) = some true := H
                              have A76 := Aside0.mk A760
                              clear A760
                              have H' := Aside0.mk H
                              clear H
                              obtain ⟨Ao77, co77, eo77⟩ := Kd.R_slice HO_10.out
                              subst eo77
                              go_wp2_with (first | ((with_reducible refine gate_callee (f := 19) rfl ?_); refine goesL_ (some 104) rfl rfl Tryd.func19 (by kernel_rfl) rfl #[.slice Ao77 t390.length co77] rfl (by (try simp only [List.map_toArray, List.map_cons, List.map_nil]); first | done | rfl | (simp only [List.length_drop, List.length_take]; rfl)) ?_; (with_reducible refine (alidadelaw04_spoil.calls kj30 (fun k_ => some k_ = (.slice Ao77 t390.length co77 : Value).ownBlock) (.slice Ao77 t390.length co77) t390 t414 w _ ?side1 ?side2 A75.out).mono ?_); (case side1 => repeat (first | (with_reducible first | exact HB.out | apply below_alloc | apply pw_below_drewN | apply below_drew1) | exact HB.out)); (case side2 => exact Kd.R_tight rfl HO_10.out); rintro e w78 ⟨rfl, hy0, hb, hkp⟩; refine ⟨_, rfl, ?_⟩; have n0_ := Aside0.mk (Kd.R_mono (ok' := fun k_ => some k_ ≠ (.slice Ao77 t390.length co77 : Value).ownBlock ∧ some k_ ≠ (v400 : Value).ownBlock) (Kd.R_keptB (HO_7.out) hkp (fun k_ hk_ hs_ => (hk_.1) hs_)) (fun k_ hk_ => ⟨hk_.1.1, hk_.1.2⟩)); have n1_ := Aside0.mk (Kd.R_reok rfl hy0 (fun k_ e_ => HO_10.out.1 k_ e_)); have n2_ := Aside0.mk (Kd.R_mono (ok' := fun k_ => some k_ ≠ (v378 : Value).ownBlock ∧ some k_ ≠ (.slice Ao77 t390.length co77 : Value).ownBlock) (Kd.R_keptB (HO_14.out) hkp (fun k_ hk_ hs_ => (hk_.2) hs_)) (fun k_ hk_ => ⟨hk_.1.1, hk_.1.2⟩)); have n3_ := Aside0.mk (hb); clear HO_7; clear HO_10; clear HO_14; clear HB; have HO_7 := n0_; have HO_10 := n1_; have HO_14 := n2_; have HB := n3_; clear n0_ n1_ n2_ n3_; (try clear hb); (try clear hkp); (try clear hy0); obtain ⟨Ao79, co79, eo79⟩ := Kd.R_slice HO_14.out; subst eo79) | ((with_reducible refine gate_callee (f := 19) rfl ?_); refine goesL_ (some 106) rfl rfl Tryd.func19 (by kernel_rfl) rfl #[.slice Ao79 t398.length co79] rfl (by (try simp only [List.map_toArray, List.map_cons, List.map_nil]); first | done | rfl | (simp only [List.length_drop, List.length_take]; rfl)) ?_; (with_reducible refine (alidadelaw04_spoil.calls kj30 (fun k_ => some k_ = (.slice Ao79 t398.length co79 : Value).ownBlock) (.slice Ao79 t398.length co79) t398 t415 w _ ?side1 ?side2 A76.out).mono ?_); (case side1 => repeat (first | (with_reducible first | exact HB.out | apply below_alloc | apply pw_below_drewN | apply below_drew1) | exact HB.out)); (case side2 => exact Kd.R_tight rfl HO_14.out); rintro e w80 ⟨rfl, hy0, hb, hkp⟩; refine ⟨_, rfl, ?_⟩; have n0_ := Aside0.mk (Kd.R_mono (ok' := fun k_ => some k_ ≠ (.slice Ao77 t390.length co77 : Value).ownBlock ∧ some k_ ≠ (.slice Ao79 t398.length co79 : Value).ownBlock) (Kd.R_keptB (HO_7.out) hkp (fun k_ hk_ hs_ => (hk_.2) hs_)) (fun k_ hk_ => ⟨hk_.1.1, hk_.1.2⟩)); have n1_ := Aside0.mk (Kd.R_mono (ok' := fun k_ => some k_ ≠ (v378 : Value).ownBlock ∧ some k_ ≠ (.slice Ao79 t398.length co79 : Value).ownBlock) (Kd.R_keptB (HO_10.out) hkp (fun k_ hk_ hs_ => (hk_.2) hs_)) (fun k_ hk_ => ⟨hk_.1.1, hk_.1.2⟩)); have n2_ := Aside0.mk (Kd.R_reok rfl hy0 (fun k_ e_ => HO_14.out.1 k_ e_)); have n3_ := Aside0.mk (hb); clear HO_7; clear HO_10; clear HO_14; clear HB; have HO_7 := n0_; have HO_10 := n1_; have HO_14 := n2_; have HB := n3_; clear n0_ n1_ n2_ n3_; (try clear hb); (try clear hkp); (try clear hy0)))
                              go_roundg kj30
                              case measure => have := HJ3.out; have := HJ12.out; have := HK3.out; have := HJ30.out; omega
                              case rel => exact ⟨(x7_3), (wrap64 (x9_3 + 1)), (by first | rfl | (simp; done) | (simp [*]; done)), H', ⟨by have := HJ3.out; have := HJ12.out; have := HK3.out; have := HJ30.out; omega⟩, ⟨by (with_reducible repeat (first | apply Kd.R_alloc | apply Kd.R_drewN | apply Kd.R_drew)); exact Kd.R_mono HO_7.out (fun _ hk => trivial)⟩, ⟨by repeat (first | (with_reducible first | exact HB.out | apply below_alloc | apply pw_below_drewN | apply below_drew1) | exact HB.out)⟩⟩
                    · rw [if_neg c27] at H
                      have c27b0 : decide (x9_3 < 2) = false := decide_eq_false c27
                      clear c27
                      by_cases c81 : a2 < 1099511627776
                      · rw [if_pos c81] at H
                        have c81b0 : decide (a2 < 1099511627776) = true := decide_eq_true c81
                        clear c81
                        replace H := Option.bind_eq_some_iff.mp H
                        obtain ⟨t383, A820, H⟩ := H
                        replace H : (if t383 = true then ((alidadelaw04_works.f k3).bind fun t384 => (some t384)) else (some false)) = some true := H
                        have A82 := Aside0.mk A820
                        clear A820
                        by_cases c83 : t383 = true
                        · subst c83
                          have H1 : ((alidadelaw04_works.f k3).bind fun t384 => (some t384)) = some true := by rw [if_pos rfl] at H; exact H
                          clear H
                          have H := H1
                          clear H1
                          replace H := Option.bind_eq_some_iff.mp H
                          obtain ⟨t384, A840, H⟩ := H
                          replace H : (some t384) = some true := H
                          have A84 := Aside0.mk A840
                          clear A840
                          obtain rfl := Option.some.inj H
                          obtain ⟨Ao85, co85, eo85⟩ := Kd.R_slice HO_7.out
                          subst eo85
                          go_wp2_with (first | (go_at_call 16; (with_reducible refine (alidadelaw04_same.calls k3 _ _ x7_3 _ _ l0 true _ ?side1 ?side2 ?side3 ?side4 A82.out).mono ?_); (case side1 => repeat (first | exact (Kd.R_reads' HO_7.out).2.2 | (with_reducible refine Kd.C_alloc ?_ _) | (with_reducible refine Kd.C_drewN ?_ _) | (with_reducible refine Kd.C_drew ?_))); (case side2 => exact (Kd.R_reads' HO_7.out).2.1); (case side3 => repeat (first | exact (Kd.C_below HR0.out HB.out) | (with_reducible refine Kd.C_alloc ?_ _) | (with_reducible refine Kd.C_drewN ?_ _) | (with_reducible refine Kd.C_drew ?_))); (case side4 => exact HC0.out); rintro e w' ⟨rfl, ⟨nd, rfl⟩⟩) | (go_at_call 10; (with_reducible refine (alidadelaw04_works.calls k3  true _ A84.out).mono ?_); rintro e w86 ⟨rfl, hb⟩; have n0_ := Aside0.mk (Kd.R_below (by (with_reducible repeat (first | apply Kd.R_alloc | apply Kd.R_drewN | apply Kd.R_drew)); exact HO_7.out) hb); have n1_ := Aside0.mk (below_step (by repeat (first | (with_reducible first | exact HB.out | apply below_alloc | apply pw_below_drewN | apply below_drew1) | exact HB.out)) hb); clear HO_7; clear HB; have HO_7 := n0_; have HB := n1_; clear n0_ n1_; (try clear hb); (try clear hb2); (try clear hk); (try clear hi)))
                          go_ret
                          exact ⟨by first | rfl | (simp [errW_none, errW_some] <;> rfl) | (simp [*, errW_none, errW_some] <;> rfl), by repeat (first | (with_reducible first | exact HB.out | apply below_alloc | apply pw_below_drewN | apply below_drew1) | exact HB.out)⟩
                        · replace c83 := Bool.eq_false_iff.mpr c83
                          subst c83
                          have H1 : (some false) = some true := by rw [if_neg (show ¬ (false = true) by decide)] at H; exact H
                          clear H
                          have H := H1
                          clear H1
                          exact absurd (Option.some.inj H) (by decide)
                      · rw [if_neg c81] at H
                        have c81b0 : decide (a2 < 1099511627776) = false := decide_eq_false c81
                        clear c81
                        replace H := Option.bind_eq_some_iff.mp H
                        obtain ⟨t385, A880, H⟩ := H
                        replace H : (if (t385.length : Int) = 0 then ((alidadelaw04_same.f k3 x7_3 l0).bind fun t388 => (if t388 = true then ((alidadelaw04_works.f k3).bind fun t389 => (some t389)) else (some false))) else (some false)) = some true := H
                        have A88 := Aside0.mk A880
                        clear A880
                        by_cases c89 : (t385.length : Int) = 0
                        · rw [if_pos c89] at H
                          have c89b0 : ((t385.length : Int) == 0) = true := beq_iff_eq.mpr c89
                          have c89b1 : ((t385.length : Int) != 0) = false := bne_eq_false_iff_eq.mpr c89
                          clear c89
                          replace H := Option.bind_eq_some_iff.mp H
                          obtain ⟨t388, A900, H⟩ := H
                          replace H : (if t388 = true then ((alidadelaw04_works.f k3).bind fun t389 => (some t389)) else (some false)) = some true := H
                          have A90 := Aside0.mk A900
                          clear A900
                          by_cases c91 : t388 = true
                          · subst c91
                            have H1 : ((alidadelaw04_works.f k3).bind fun t389 => (some t389)) = some true := by rw [if_pos rfl] at H; exact H
                            clear H
                            have H := H1
                            clear H1
                            replace H := Option.bind_eq_some_iff.mp H
                            obtain ⟨t389, A920, H⟩ := H
                            replace H : (some t389) = some true := H
                            have A92 := Aside0.mk A920
                            clear A920
                            obtain rfl := Option.some.inj H
                            go_wp2_with (first | (go_at_call 17; (with_reducible refine (dec_Ten.calls k3 a2 t385 _ A88.out).mono ?_); rintro e w93 ⟨v386, rfl, ho0, hb⟩; have n0_ := Aside0.mk (Kd.R_elder' (by (with_reducible repeat (first | apply Kd.R_alloc | apply Kd.R_drewN | apply Kd.R_drew)); exact HO_7.out) (Kd.R_base ho0) hb); have n1_ := Aside0.mk (Kd.R_lower (Kd.R_new' ho0 (Kd.R_lt (by (with_reducible repeat (first | apply Kd.R_alloc | apply Kd.R_drewN | apply Kd.R_drew)); exact HO_7.out))) (below_size (by repeat (first | (with_reducible first | exact HB.out | apply below_alloc | apply pw_below_drewN | apply below_drew1) | exact HB.out)))); have n2_ := Aside0.mk (below_step (by repeat (first | (with_reducible first | exact HB.out | apply below_alloc | apply pw_below_drewN | apply below_drew1) | exact HB.out)) hb); clear HO_7; clear HB; have HO_7 := n0_; have HO387 := n1_; have HB := n2_; clear n0_ n1_ n2_; (try clear hb); (try clear hb2); (try clear hk); (try clear hi); (try clear ho0); obtain ⟨Ao94, co94, eo94⟩ := Kd.R_slice HO387.out; subst eo94; obtain ⟨Ao95, co95, eo95⟩ := Kd.R_slice HO_7.out; subst eo95) | (go_at_call 16; (with_reducible refine (alidadelaw04_same.calls k3 _ _ x7_3 _ _ l0 true _ ?side1 ?side2 ?side3 ?side4 A90.out).mono ?_); (case side1 => repeat (first | exact (Kd.R_reads' HO_7.out).2.2 | (with_reducible refine Kd.C_alloc ?_ _) | (with_reducible refine Kd.C_drewN ?_ _) | (with_reducible refine Kd.C_drew ?_))); (case side2 => exact (Kd.R_reads' HO_7.out).2.1); (case side3 => repeat (first | exact (Kd.C_below HR0.out HB.out) | (with_reducible refine Kd.C_alloc ?_ _) | (with_reducible refine Kd.C_drewN ?_ _) | (with_reducible refine Kd.C_drew ?_))); (case side4 => exact HC0.out); rintro e w' ⟨rfl, ⟨nd, rfl⟩⟩) | (go_at_call 10; (with_reducible refine (alidadelaw04_works.calls k3  true _ A92.out).mono ?_); rintro e w96 ⟨rfl, hb⟩; have n0_ := Aside0.mk (Kd.R_below (by (with_reducible repeat (first | apply Kd.R_alloc | apply Kd.R_drewN | apply Kd.R_drew)); exact HO_7.out) hb); have n1_ := Aside0.mk (Kd.R_below (by (with_reducible repeat (first | apply Kd.R_alloc | apply Kd.R_drewN | apply Kd.R_drew)); exact HO387.out) hb); have n2_ := Aside0.mk (below_step (by repeat (first | (with_reducible first | exact HB.out | apply below_alloc | apply pw_below_drewN | apply below_drew1) | exact HB.out)) hb); clear HO_7; clear HO387; clear HB; have HO_7 := n0_; have HO387 := n1_; have HB := n2_; clear n0_ n1_ n2_; (try clear hb); (try clear hb2); (try clear hk); (try clear hi)))
                            go_ret
                            exact ⟨by first | rfl | (simp [errW_none, errW_some] <;> rfl) | (simp [*, errW_none, errW_some] <;> rfl), by repeat (first | (with_reducible first | exact HB.out | apply below_alloc | apply pw_below_drewN | apply below_drew1) | exact HB.out)⟩
                          · replace c91 := Bool.eq_false_iff.mpr c91
                            subst c91
                            have H1 : (some false) = some true := by rw [if_neg (show ¬ (false = true) by decide)] at H; exact H
                            clear H
                            have H := H1
                            clear H1
                            exact absurd (Option.some.inj H) (by decide)
                        · rw [if_neg c89] at H
                          have c89b0 : ((t385.length : Int) == 0) = false := beq_eq_false_iff_ne.mpr c89
                          have c89b1 : ((t385.length : Int) != 0) = true := bne_iff_ne.mpr c89
                          have c89b2 : ¬ (t385 = []) := fun h_ => c89 (by rw [h_]; rfl)
                          exact absurd (Option.some.inj H) (by decide)
        · rw [if_neg c11] at H
          exact absurd H (by simp)

/-- THE ONE PURE STATEMENT of alidadelaw04_DecTells: yours. -/
def alidadelaw04_DecTells.Pure : Prop := ∀ (l0 : List Int) (a1 : ByteArray) (a2 : Int), l0.length ≤ maxLen → l0.length * 4 ≤ 140737488351232 → (∀ x ∈ l0, (Lit.int .u32 x).wf = true) → a1.size ≤ 140737488351232 → (Lit.int .i64 a2).wf = true → ∃ k, alidadelaw04_DecTells.f k l0 a1 a2 = some true
theorem alidadelaw04_DecTells.walk (P : alidadelaw04_DecTells.Pure) (a0 : Option Addr) (len0 cap0 : Nat) (z0 : List Int) (a1 : ByteArray) (a2 : Int) (w : World) (w0 : (a0 = none ∧ len0 = 0 ∧ cap0 = 0 ∧ z0 = []) ∨ ∃ x, a0 = some x ∧ len0 ≤ cap0 ∧ cap0 ≤ maxLen ∧ z0.length = cap0 ∧ (∀ i, i < z0.length → w.cell? (x.add i) = some (.int .u32 (z0.getD i 0))) ∧ ∀ n ∈ z0, (Lit.int .u32 n).wf = true) (y0 : len0 * 4 ≤ 140737488351232) (w1 : a1.size ≤ 140737488351232) (w2 : (Lit.int .i64 a2).wf = true) :
    Calls Tryd.prog 3 #[.slice a0 len0 cap0, .string a1, .int .i64 a2] w fun e w' => e = .returned (.bool true) ∧ Below w.heap.size w w' := by
  obtain ⟨l0, rfl, hr0, hm0, hw0, hc0⟩ := ReadsInt.ofRowC w0
  obtain ⟨k, h⟩ := P l0 a1 a2 hm0 y0 hw0 w1 w2
  refine (alidadelaw04_DecTells.calls_true k _ _ l0 a1 a2 w (Kd.C_of_reads (d := (0 : Int)) (h1 := fun _ => rfl) hr0) hc0 h).mono ?_
  rintro e w' ⟨rfl, hd⟩
  exact ⟨rfl, hd⟩

end Go.Proofs.YtjgloepeogelnaaDoor.Pr
