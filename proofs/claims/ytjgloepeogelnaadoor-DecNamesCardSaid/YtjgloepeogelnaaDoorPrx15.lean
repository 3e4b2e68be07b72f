/- Functions with the same answers as the Go functions of the program, with the proofs that the program comes to just these answers; no condition but those that each theorem names. (Laid by this work's own program mk.py out of the translation.) -/
import Derived.Test.YtjgloepeogelnaaDoorPrx0
import Derived.Test.YtjgloepeogelnaaDoorPrx1
import Derived.Test.YtjgloepeogelnaaDoorPrx2
import Derived.Test.YtjgloepeogelnaaDoorPrx3
import Derived.Test.YtjgloepeogelnaaDoorPrx7
import Derived.Test.YtjgloepeogelnaaDoorPrx9
import Derived.Test.YtjgloepeogelnaaDoorPrx10
import Derived.Test.YtjgloepeogelnaaDoorPrx11
import Derived.Test.YtjgloepeogelnaaDoorPrx14
namespace Go.Proofs.YtjgloepeogelnaaDoor.Pr
open Go.RowKit Go.Proofs.YtjgloepeogelnaaDoorW.PrintWords Go.Proofs.YtjgloepeogelnaaDoorW.PrintLast Go.Proofs.YtjgloepeogelnaaDoorW.PrintMore
attribute [local go_sem] max2_int min2_int max_two min_two max_three min_three max_four min_four   -- for this text's walks alone
set_option linter.unusedVariables false
set_option linter.unusedSimpArgs false

/-! ### dec_Split: function 21 -/
def dec_Split.j0 : Nat → List Int → Int → List Int → Bool → Option (List Int × List Int)
  | 0, _, _, _, _ => none
  | k + 1, x0, x1, x5, x13 => if x13 = true then (some (([] : List Int), ([] : List Int))) else ((dec_Ten.f k x1).bind fun t221 => (if (t221.length : Int) = 0 then (if x5.length + x0.length < 35184372088832 then (some (([] : List Int), (x5 ++ x0))) else (none)) else ((nat_Cmp.f x0 t221).bind fun t227 => (if t227 < 0 then (if x5.length + x0.length < 35184372088832 then (some (([] : List Int), (x5 ++ x0))) else (none)) else ((div_DivMod.f x0 t221).bind fun bt231 => (some (bt231.1, bt231.2.1)))))))
def dec_Split.f (k : Nat) (l0 : List Int) (a1 : Int) : Option (List Int × List Int) := (nat_May.f l0).bind fun t220 => (if t220 = true then (dec_Split.j0 k l0 a1 ([] : List Int) (decide (a1 < 0))) else (dec_Split.j0 k l0 a1 ([] : List Int) true))
theorem dec_Split.mono_l : ∀ k, (∀ y0 y1 y2 y3, LeO (dec_Split.j0 k y0 y1 y2 y3) (dec_Split.j0 (k + 1) y0 y1 y2 y3))
  | 0 => fun _ _ _ _ r h => by simp [dec_Split.j0] at h
  | k + 1 => by
    have ih0 := dec_Split.mono_l k
    · intro y0 y1 y2 y3
      unfold dec_Split.j0
      repeat' first
      | (with_reducible exact ih0 _ _ _ _)
      | (with_reducible exact dec_Ten.mono _ _)
      | (with_reducible exact LeO.refl _)
      | (with_reducible exact LeO.none _)
      | (with_reducible refine LeO.ite ?_ ?_)
      | (with_reducible refine LeO.bind ?_ (fun _ => ?_))
      | exact ih0 _ _ _ _
      | exact dec_Ten.mono _ _
      | exact LeO.none _
      | refine LeO.ite ?_ ?_
      | refine LeO.bind ?_ (fun _ => ?_)
theorem dec_Split.mono : ∀ a0 a1 k, LeO (dec_Split.f k a0 a1) (dec_Split.f (k + 1) a0 a1) := by
  intro a0 a1 k
  have ih0 := dec_Split.mono_l k
  unfold dec_Split.f
  repeat' first
      | (with_reducible exact ih0 _ _ _ _)
      | (with_reducible exact dec_Ten.mono _ _)
      | (with_reducible exact LeO.refl _)
      | (with_reducible exact LeO.none _)
      | (with_reducible refine LeO.ite ?_ ?_)
      | (with_reducible refine LeO.bind ?_ (fun _ => ?_))
      | exact ih0 _ _ _ _
      | exact dec_Ten.mono _ _
      | exact LeO.none _
      | refine LeO.ite ?_ ?_
      | refine LeO.bind ?_ (fun _ => ?_)
set_option maxHeartbeats 8000000 in
set_option maxRecDepth 100000 in
theorem dec_Split.calls (k : Nat) (A0 : Option Addr) (c0 : Nat) (l0 : List Int) (a1 : Int) (r1 : List Int) (r2 : List Int) (w : World) (hr0 : Kd.C (Kd.int .u32) w A0 l0.length l0) (hc0 : l0.length ≤ c0) (h : dec_Split.f k l0 a1 = some (r1, r2)) :
    Calls Tryd.prog 21 #[.slice A0 l0.length c0, .int .i64 a1] w fun e w' => ∃ v0_ v1_ : Value, e = .returned (.tuple #[v0_, v1_]) ∧ Kd.R (Kd.int .u32) 39 w' w.heap.size (fun k_ => some k_ ≠ (v1_ : Value).ownBlock) v0_ r1 ∧ Kd.R (Kd.int .u32) 39 w' w.heap.size (fun k_ => some k_ ≠ (v0_ : Value).ownBlock) v1_ r2 ∧ Below w.heap.size w w' := by
  have HR0 := Aside0.mk hr0
  have HC0 := Aside0.mk hc0
  clear hr0 hc0
  have HB := Aside0.mk (Below.refl w.heap.size w)
  have H : ((nat_May.f l0).bind fun t220 => (if t220 = true then (dec_Split.j0 k l0 a1 ([] : List Int) (decide (a1 < 0))) else (dec_Split.j0 k l0 a1 ([] : List Int) true))) = some (r1, r2) := h
  clear h
  have HC3 := Aside0.mk H
  clear H
  go_enter Tryd.func21, Tryd.ntmps21
  go_upto_region 1 with (fail)
  go_cut [13] (fun v13 wc => ∃ (kq : Nat) (x13_2 : Bool), v13 = .bool x13_2 ∧ Aside0 (dec_Split.j0 kq l0 a1 ([] : List Int) x13_2 = some (r1, r2)) ∧ Aside0 (kq ≤ k) ∧ Aside0 (Kd.R (Kd.int .u32) 39 wc w.heap.size (fun _ => True) (.slice none 0 0) ([] : List Int)) ∧ Aside0 (Below w.heap.size w wc))
  case first =>
    have H := HC3.out
    clear HC3
    replace H := Option.bind_eq_some_iff.mp H
    obtain ⟨t220, A40, H⟩ := H
    replace H : (if t220 = true then (dec_Split.j0 k l0 a1 ([] : List Int) (decide (a1 < 0))) else (dec_Split.j0 k l0 a1 ([] : List Int) true)) = some (r1, r2) := H
    have A4 := Aside0.mk A40
    clear A40
    by_cases c5 : t220 = true
    · subst c5
      have H1 : (dec_Split.j0 k l0 a1 ([] : List Int) (decide (a1 < 0))) = some (r1, r2) := by rw [if_pos rfl] at H; exact H
      clear H
      have H := H1
      clear H1
      have H' := Aside0.mk H
      clear H
      go_wp2_with (first | ((with_reducible refine gate_callee (f := 22) rfl ?_); refine goesL_ (some 8) rfl rfl Tryd.func22 (by kernel_rfl) rfl #[.slice A0 l0.length c0] rfl (by (try simp only [List.map_toArray, List.map_cons, List.map_nil]); first | done | rfl | (simp only [List.length_drop, List.length_take]; rfl)) ?_; (with_reducible refine (nat_May.calls _ _ l0 true _ ?side1 ?side2 A4.out).mono ?_); (case side1 => repeat (first | exact (Kd.C_below HR0.out HB.out) | (with_reducible refine Kd.C_alloc ?_ _) | (with_reducible refine Kd.C_drewN ?_ _) | (with_reducible refine Kd.C_drew ?_))); (case side2 => exact HC0.out); rintro e w' ⟨rfl, ⟨nd, rfl⟩⟩; refine ⟨_, rfl, ?_⟩))
      go_meet
      case rel => exact ⟨_, (decide (a1 < 0)), (by first | rfl | (simp; done) | (simp [*]; done)), H', ⟨by first | omega | exact Nat.le_refl _⟩, ⟨by first | exact Kd.R_nil _ _ _ _ _ | exact Kd.N_nil _ _ _ _ _ | exact Kd.V_nil _ _ _ _ _ | exact Kd.Q_nil _ _ _ _ _ | exact Kd.S_nil _ _ _ _ _⟩, ⟨by repeat (first | (with_reducible first | exact HB.out | apply below_alloc | apply pw_below_drewN | apply below_drew1) | exact HB.out)⟩⟩
    · replace c5 := Bool.eq_false_iff.mpr c5
      subst c5
      have H1 : (dec_Split.j0 k l0 a1 ([] : List Int) true) = some (r1, r2) := by rw [if_neg (show ¬ (false = true) by decide)] at H; exact H
      clear H
      have H := H1
      clear H1
      have H' := Aside0.mk H
      clear H
      go_wp2_with (first | ((with_reducible refine gate_callee (f := 22) rfl ?_); refine goesL_ (some 8) rfl rfl Tryd.func22 (by kernel_rfl) rfl #[.slice A0 l0.length c0] rfl (by (try simp only [List.map_toArray, List.map_cons, List.map_nil]); first | done | rfl | (simp only [List.length_drop, List.length_take]; rfl)) ?_; (with_reducible refine (nat_May.calls _ _ l0 false _ ?side1 ?side2 A4.out).mono ?_); (case side1 => repeat (first | exact (Kd.C_below HR0.out HB.out) | (with_reducible refine Kd.C_alloc ?_ _) | (with_reducible refine Kd.C_drewN ?_ _) | (with_reducible refine Kd.C_drew ?_))); (case side2 => exact HC0.out); rintro e w' ⟨rfl, ⟨nd, rfl⟩⟩; refine ⟨_, rfl, ?_⟩))
      go_meet
      case rel => exact ⟨_, (true), (by first | rfl | (simp; done) | (simp [*]; done)), H', ⟨by first | omega | exact Nat.le_refl _⟩, ⟨by first | exact Kd.R_nil _ _ _ _ _ | exact Kd.N_nil _ _ _ _ _ | exact Kd.V_nil _ _ _ _ _ | exact Kd.Q_nil _ _ _ _ _ | exact Kd.S_nil _ _ _ _ _⟩, ⟨by repeat (first | (with_reducible first | exact HB.out | apply below_alloc | apply pw_below_drewN | apply below_drew1) | exact HB.out)⟩⟩
  case rest =>
    clear HC3
    try clear c2
    try clear p2
    try clear c5
    obtain ⟨kq, x13_2, rfl, HA, HJ2, HO_5, HB⟩ := hcut
    cases kq with
    | zero => exact absurd HA.out (by simp [dec_Split.j0])
    | succ kj2 =>
      have H := HA.out
      clear HA
      simp only [dec_Split.j0] at H
      by_cases c6 : x13_2 = true
      · subst c6
        have H1 : (some (([] : List Int), ([] : List Int))) = some (r1, r2) := by rw [if_pos rfl] at H; exact H
        clear H
        have H := H1
        clear H1
        simp only [Option.some.injEq, Prod.mk.injEq] at H
        obtain ⟨rfl, rfl⟩ := H
        go_wp2
        go_ret2
        exact ⟨_, _, by first | rfl | (simp [errW_none, errW_some] <;> rfl) | (simp [*, errW_none, errW_some] <;> rfl), by first | exact Kd.R_nil _ _ _ _ _ | exact Kd.N_nil _ _ _ _ _ | exact Kd.V_nil _ _ _ _ _ | exact Kd.Q_nil _ _ _ _ _ | exact Kd.S_nil _ _ _ _ _, by first | exact Kd.R_nil _ _ _ _ _ | exact Kd.N_nil _ _ _ _ _ | exact Kd.V_nil _ _ _ _ _ | exact Kd.Q_nil _ _ _ _ _ | exact Kd.S_nil _ _ _ _ _, by repeat (first | (with_reducible first | exact HB.out | apply below_alloc | apply pw_below_drewN | apply below_drew1) | exact HB.out)⟩
      · replace c6 := Bool.eq_false_iff.mpr c6
        subst c6
        have H1 : ((dec_Ten.f kj2 a1).bind fun t221 => (if (t221.length : Int) = 0 then (if ([] : List Int).length + l0.length < 35184372088832 then (some (([] : List Int), (([] : List Int) ++ l0))) else (none)) else ((nat_Cmp.f l0 t221).bind fun t227 => (if t227 < 0 then (if ([] : List Int).length + l0.length < 35184372088832 then (some (([] : List Int), (([] : List Int) ++ l0))) else (none)) else ((div_DivMod.f l0 t221).bind fun bt231 => (some (bt231.1, bt231.2.1))))))) = some (r1, r2) := by rw [if_neg (show ¬ (false = true) by decide)] at H; exact H
        clear H
        have H := H1
        clear H1
        replace H := Option.bind_eq_some_iff.mp H
        obtain ⟨t221, A70, H⟩ := H
        replace H : (if (t221.length : Int) = 0 then (if ([] : List Int).length + l0.length < 35184372088832 then (some (([] : List Int), (([] : List Int) ++ l0))) else (none)) else ((nat_Cmp.f l0 t221).bind fun t227 => (if t227 < 0 then (if ([] : List Int).length + l0.length < 35184372088832 then (some (([] : List Int), (([] : List Int) ++ l0))) else (none)) else ((div_DivMod.f l0 t221).bind fun bt231 => (some (bt231.1, bt231.2.1)))))) = some (r1, r2) := H
        have A7 := Aside0.mk A70
        clear A70
        by_cases c8 : (t221.length : Int) = 0
        · rw [if_pos c8] at H
          have c8b0 : ((t221.length : Int) == 0) = true := beq_iff_eq.mpr c8
          have c8b1 : ((t221.length : Int) != 0) = false := bne_eq_false_iff_eq.mpr c8
          clear c8
          by_cases c9 : ([] : List Int).length + l0.length < 35184372088832
          · rw [if_pos c9] at H
            have LMc9 := Aside0.mk c9
            clear c9
            obtain ⟨y224, hy224⟩ : ∃ y_ : List Int, y_ = (([] : List Int) ++ l0) := ⟨_, rfl⟩
            replace H : (some (([] : List Int), y224)) = some (r1, r2) := by first | (rw [hy224]; with_reducible exact H) | (have H2_ := (Option.bind_some _ _).symm.trans H; rw [hy224]; with_reducible exact H2_) | (have H2_ := (Option.bind_some _ _).symm.trans H; with_reducible exact H2_) | with_reducible exact H | (rw [hy224]; exact H) | exact H
            have Ny224 := Aside0.mk hy224
            clear hy224
            simp only [Option.some.injEq, Prod.mk.injEq] at H
            obtain ⟨rfl, rfl⟩ := H
            go_wp2_with (first | ((with_reducible refine gate_callee (f := 17) rfl ?_); refine goesL_ (some 15) rfl rfl Tryd.func17 (by kernel_rfl) rfl #[.int .i64 a1] rfl (by (try simp only [List.map_toArray, List.map_cons, List.map_nil]); first | done | rfl | (simp only [List.length_drop, List.length_take]; rfl)) ?_; (with_reducible refine (dec_Ten.calls kj2 a1 t221 _ A7.out).mono ?_); rintro e w10 ⟨v222, rfl, ho0, hb⟩; refine ⟨_, rfl, ?_⟩; have n0_ := Aside0.mk (Kd.R_elder' (by (with_reducible repeat (first | apply Kd.R_alloc | apply Kd.R_drewN | apply Kd.R_drew)); exact HO_5.out) (Kd.R_base ho0) hb); have n1_ := Aside0.mk (Kd.R_lower (Kd.R_new' ho0 (Kd.R_lt (by (with_reducible repeat (first | apply Kd.R_alloc | apply Kd.R_drewN | apply Kd.R_drew)); exact HO_5.out))) (below_size (by repeat (first | (with_reducible first | exact HB.out | apply below_alloc | apply pw_below_drewN | apply below_drew1) | exact HB.out)))); have n2_ := Aside0.mk (below_step (by repeat (first | (with_reducible first | exact HB.out | apply below_alloc | apply pw_below_drewN | apply below_drew1) | exact HB.out)) hb); clear HO_5; clear HB; have HO_5 := n0_; have HO223 := n1_; have HB := n2_; clear n0_ n1_ n2_; (try clear hb); (try clear hb2); (try clear hk); (try clear hi); (try clear ho0); obtain ⟨Ao11, co11, eo11⟩ := Kd.R_slice HO223.out; subst eo11) | ((with_reducible refine gate_builtin (b := .append) (xs := #[.tmp 25, .tmp 26]) rfl ?_); at_builtin; refine Kd.R_append_rows (Kd.int .u32) (w0 := w) w.heap.size rfl (.tmp 25) (.tmp 26) 22 39 (.int .u32 0) 4 rfl Tryd.underlying22 info39 rfl (by decide) (by omega) (.slice none 0 0) ([] : List Int) l0 _ _ _ (fun k_ => some k_ ≠ (.slice Ao11 t221.length co11 : Value).ownBlock) (fun _ => False) rfl rfl ?aO ?aR (fun _ _ h => h) (fun _ h => h.elim) ?aF ?aB ?aS ?aL ?_; (case aR => repeat (first | exact (Kd.C_below HR0.out HB.out) | (with_reducible refine Kd.C_alloc ?_ _) | (with_reducible refine Kd.C_drewN ?_ _) | (with_reducible refine Kd.C_drew ?_))); (case aB => exact (by repeat (first | (with_reducible first | exact HB.out | apply below_alloc | apply pw_below_drewN | apply below_drew1) | exact HB.out))); (case aF => exact (fun k_ hk => Kd.fresh' (Kd.R_lt (by (with_reducible repeat (first | apply Kd.R_alloc | apply Kd.R_drewN | apply Kd.R_drew)); exact HO223.out)) k_ hk)); (case aO => exact (by (with_reducible repeat (first | apply Kd.R_alloc | apply Kd.R_drewN | apply Kd.R_drew)); exact Kd.R_mono HO_5.out (fun _ hk => hk.2))); (case aS => exact (below_size (by repeat (first | (with_reducible first | exact HB.out | apply below_alloc | apply pw_below_drewN | apply below_drew1) | exact HB.out)))); (case aL => have := LMc9.out; omega); intro v225 w12 ho hb hg hat; rw [← Ny224.out] at ho; have n0_ := Aside0.mk (Kd.R_after (ok := (fun _ => True)) (by (with_reducible repeat (first | apply Kd.R_alloc | apply Kd.R_drewN | apply Kd.R_drew)); exact HO223.out) hg hat); have n1_ := Aside0.mk (hb); have n2_ := Aside0.mk (ho); clear HO223; clear HB; clear HO_5; have HO223 := n0_; have HB := n1_; have HO226 := n2_; clear n0_ n1_ n2_; clear ho hb hg hat))
            go_ret2
            exact ⟨_, _, by first | rfl | (simp [errW_none, errW_some] <;> rfl) | (simp [*, errW_none, errW_some] <;> rfl), by first | exact Kd.R_nil _ _ _ _ _ | exact Kd.N_nil _ _ _ _ _ | exact Kd.V_nil _ _ _ _ _ | exact Kd.Q_nil _ _ _ _ _ | exact Kd.S_nil _ _ _ _ _, by (with_reducible repeat (first | apply Kd.R_alloc | apply Kd.R_drewN | apply Kd.R_drew)); exact Kd.R_mono HO226.out (fun _ hk => (by simp [Value.ownBlock])), by repeat (first | (with_reducible first | exact HB.out | apply below_alloc | apply pw_below_drewN | apply below_drew1) | exact HB.out)⟩
          · rw [if_neg c9] at H
            exact absurd H (by simp)
        · rw [if_neg c8] at H
          have c8b0 : ((t221.length : Int) == 0) = false := beq_eq_false_iff_ne.mpr c8
          have c8b1 : ((t221.length : Int) != 0) = true := bne_iff_ne.mpr c8
          have c8b2 : ¬ (t221 = []) := fun h_ => c8 (by rw [h_]; rfl)
          replace H := Option.bind_eq_some_iff.mp H
          obtain ⟨t227, A130, H⟩ := H
          replace H : (if t227 < 0 then (if ([] : List Int).length + l0.length < 35184372088832 then (some (([] : List Int), (([] : List Int) ++ l0))) else (none)) else ((div_DivMod.f l0 t221).bind fun bt231 => (some (bt231.1, bt231.2.1)))) = some (r1, r2) := H
          have A13 := Aside0.mk A130
          clear A130
          by_cases c14 : t227 < 0
          · rw [if_pos c14] at H
            have c14b0 : decide (t227 < 0) = true := decide_eq_true c14
            clear c14
            by_cases c15 : ([] : List Int).length + l0.length < 35184372088832
            · rw [if_pos c15] at H
              have LMc15 := Aside0.mk c15
              clear c15
              obtain ⟨y228, hy228⟩ : ∃ y_ : List Int, y_ = (([] : List Int) ++ l0) := ⟨_, rfl⟩
              replace H : (some (([] : List Int), y228)) = some (r1, r2) := by first | (rw [hy228]; with_reducible exact H) | (have H2_ := (Option.bind_some _ _).symm.trans H; rw [hy228]; with_reducible exact H2_) | (have H2_ := (Option.bind_some _ _).symm.trans H; with_reducible exact H2_) | with_reducible exact H | (rw [hy228]; exact H) | exact H
              have Ny228 := Aside0.mk hy228
              clear hy228
              simp only [Option.some.injEq, Prod.mk.injEq] at H
              obtain ⟨rfl, rfl⟩ := H
              go_wp2_with (first | ((with_reducible refine gate_callee (f := 17) rfl ?_); refine goesL_ (some 15) rfl rfl Tryd.func17 (by kernel_rfl) rfl #[.int .i64 a1] rfl (by (try simp only [List.map_toArray, List.map_cons, List.map_nil]); first | done | rfl | (simp only [List.length_drop, List.length_take]; rfl)) ?_; (with_reducible refine (dec_Ten.calls kj2 a1 t221 _ A7.out).mono ?_); rintro e w16 ⟨v222, rfl, ho0, hb⟩; refine ⟨_, rfl, ?_⟩; have n0_ := Aside0.mk (Kd.R_elder' (by (with_reducible repeat (first | apply Kd.R_alloc | apply Kd.R_drewN | apply Kd.R_drew)); exact HO_5.out) (Kd.R_base ho0) hb); have n1_ := Aside0.mk (Kd.R_lower (Kd.R_new' ho0 (Kd.R_lt (by (with_reducible repeat (first | apply Kd.R_alloc | apply Kd.R_drewN | apply Kd.R_drew)); exact HO_5.out))) (below_size (by repeat (first | (with_reducible first | exact HB.out | apply below_alloc | apply pw_below_drewN | apply below_drew1) | exact HB.out)))); have n2_ := Aside0.mk (below_step (by repeat (first | (with_reducible first | exact HB.out | apply below_alloc | apply pw_below_drewN | apply below_drew1) | exact HB.out)) hb); clear HO_5; clear HB; have HO_5 := n0_; have HO223 := n1_; have HB := n2_; clear n0_ n1_ n2_; (try clear hb); (try clear hb2); (try clear hk); (try clear hi); (try clear ho0); obtain ⟨Ao17, co17, eo17⟩ := Kd.R_slice HO223.out; subst eo17) | (go_at_call 23; (with_reducible refine (nat_Cmp.calls _ _ l0 _ _ t221 t227 _ ?side1 ?side2 ?side3 ?side4 A13.out).mono ?_); (case side1 => repeat (first | exact (Kd.C_below HR0.out HB.out) | (with_reducible refine Kd.C_alloc ?_ _) | (with_reducible refine Kd.C_drewN ?_ _) | (with_reducible refine Kd.C_drew ?_))); (case side2 => exact HC0.out); (case side3 => repeat (first | exact (Kd.R_reads' HO223.out).2.2 | (with_reducible refine Kd.C_alloc ?_ _) | (with_reducible refine Kd.C_drewN ?_ _) | (with_reducible refine Kd.C_drew ?_))); (case side4 => exact (Kd.R_reads' HO223.out).2.1); rintro e w18 ⟨rfl, hb⟩; have n0_ := Aside0.mk (Kd.R_below (by (with_reducible repeat (first | apply Kd.R_alloc | apply Kd.R_drewN | apply Kd.R_drew)); exact HO_5.out) hb); have n1_ := Aside0.mk (Kd.R_below (by (with_reducible repeat (first | apply Kd.R_alloc | apply Kd.R_drewN | apply Kd.R_drew)); exact HO223.out) hb); have n2_ := Aside0.mk (below_step (by repeat (first | (with_reducible first | exact HB.out | apply below_alloc | apply pw_below_drewN | apply below_drew1) | exact HB.out)) hb); clear HO_5; clear HO223; clear HB; have HO_5 := n0_; have HO223 := n1_; have HB := n2_; clear n0_ n1_ n2_; (try clear hb); (try clear hb2); (try clear hk); (try clear hi)) | ((with_reducible refine gate_builtin (b := .append) (xs := #[.tmp 25, .tmp 26]) rfl ?_); at_builtin; refine Kd.R_append_rows (Kd.int .u32) (w0 := w) w.heap.size rfl (.tmp 25) (.tmp 26) 22 39 (.int .u32 0) 4 rfl Tryd.underlying22 info39 rfl (by decide) (by omega) (.slice none 0 0) ([] : List Int) l0 _ _ _ (fun k_ => some k_ ≠ (.slice Ao17 t221.length co17 : Value).ownBlock) (fun _ => False) rfl rfl ?aO ?aR (fun _ _ h => h) (fun _ h => h.elim) ?aF ?aB ?aS ?aL ?_; (case aR => repeat (first | exact (Kd.C_below HR0.out HB.out) | (with_reducible refine Kd.C_alloc ?_ _) | (with_reducible refine Kd.C_drewN ?_ _) | (with_reducible refine Kd.C_drew ?_))); (case aB => exact (by repeat (first | (with_reducible first | exact HB.out | apply below_alloc | apply pw_below_drewN | apply below_drew1) | exact HB.out))); (case aF => exact (fun k_ hk => Kd.fresh' (Kd.R_lt (by (with_reducible repeat (first | apply Kd.R_alloc | apply Kd.R_drewN | apply Kd.R_drew)); exact HO223.out)) k_ hk)); (case aO => exact (by (with_reducible repeat (first | apply Kd.R_alloc | apply Kd.R_drewN | apply Kd.R_drew)); exact Kd.R_mono HO_5.out (fun _ hk => hk.2))); (case aS => exact (below_size (by repeat (first | (with_reducible first | exact HB.out | apply below_alloc | apply pw_below_drewN | apply below_drew1) | exact HB.out)))); (case aL => have := LMc15.out; omega); intro v229 w19 ho hb hg hat; rw [← Ny228.out] at ho; have n0_ := Aside0.mk (Kd.R_after (ok := (fun _ => True)) (by (with_reducible repeat (first | apply Kd.R_alloc | apply Kd.R_drewN | apply Kd.R_drew)); exact HO223.out) hg hat); have n1_ := Aside0.mk (hb); have n2_ := Aside0.mk (ho); clear HO223; clear HB; clear HO_5; have HO223 := n0_; have HB := n1_; have HO230 := n2_; clear n0_ n1_ n2_; clear ho hb hg hat))
              go_ret2
              exact ⟨_, _, by first | rfl | (simp [errW_none, errW_some] <;> rfl) | (simp [*, errW_none, errW_some] <;> rfl), by first | exact Kd.R_nil _ _ _ _ _ | exact Kd.N_nil _ _ _ _ _ | exact Kd.V_nil _ _ _ _ _ | exact Kd.Q_nil _ _ _ _ _ | exact Kd.S_nil _ _ _ _ _, by (with_reducible repeat (first | apply Kd.R_alloc | apply Kd.R_drewN | apply Kd.R_drew)); exact Kd.R_mono HO230.out (fun _ hk => (by simp [Value.ownBlock])), by repeat (first | (with_reducible first | exact HB.out | apply below_alloc | apply pw_below_drewN | apply below_drew1) | exact HB.out)⟩
            · rw [if_neg c15] at H
              exact absurd H (by simp)
          · rw [if_neg c14] at H
            have c14b0 : decide (t227 < 0) = false := decide_eq_false c14
            clear c14
            replace H := Option.bind_eq_some_iff.mp H
            obtain ⟨⟨t231, t232, t233⟩, A200, H⟩ := H
            replace H : (some (t231, t232)) = some (r1, r2) := H
            have A20 := Aside0.mk A200
            clear A200
            simp only [Option.some.injEq, Prod.mk.injEq] at H
            obtain ⟨rfl, rfl⟩ := H
            go_wp2_with (first | ((with_reducible refine gate_callee (f := 17) rfl ?_); refine goesL_ (some 15) rfl rfl Tryd.func17 (by kernel_rfl) rfl #[.int .i64 a1] rfl (by (try simp only [List.map_toArray, List.map_cons, List.map_nil]); first | done | rfl | (simp only [List.length_drop, List.length_take]; rfl)) ?_; (with_reducible refine (dec_Ten.calls kj2 a1 t221 _ A7.out).mono ?_); rintro e w21 ⟨v222, rfl, ho0, hb⟩; refine ⟨_, rfl, ?_⟩; have n0_ := Aside0.mk (Kd.R_elder' (by (with_reducible repeat (first | apply Kd.R_alloc | apply Kd.R_drewN | apply Kd.R_drew)); exact HO_5.out) (Kd.R_base ho0) hb); have n1_ := Aside0.mk (Kd.R_lower (Kd.R_new' ho0 (Kd.R_lt (by (with_reducible repeat (first | apply Kd.R_alloc | apply Kd.R_drewN | apply Kd.R_drew)); exact HO_5.out))) (below_size (by repeat (first | (with_reducible first | exact HB.out | apply below_alloc | apply pw_below_drewN | apply below_drew1) | exact HB.out)))); have n2_ := Aside0.mk (below_step (by repeat (first | (with_reducible first | exact HB.out | apply below_alloc | apply pw_below_drewN | apply below_drew1) | exact HB.out)) hb); clear HO_5; clear HB; have HO_5 := n0_; have HO223 := n1_; have HB := n2_; clear n0_ n1_ n2_; (try clear hb); (try clear hb2); (try clear hk); (try clear hi); (try clear ho0); obtain ⟨Ao22, co22, eo22⟩ := Kd.R_slice HO223.out; subst eo22) | (go_at_call 23; (with_reducible refine (nat_Cmp.calls _ _ l0 _ _ t221 t227 _ ?side1 ?side2 ?side3 ?side4 A13.out).mono ?_); (case side1 => repeat (first | exact (Kd.C_below HR0.out HB.out) | (with_reducible refine Kd.C_alloc ?_ _) | (with_reducible refine Kd.C_drewN ?_ _) | (with_reducible refine Kd.C_drew ?_))); (case side2 => exact HC0.out); (case side3 => repeat (first | exact (Kd.R_reads' HO223.out).2.2 | (with_reducible refine Kd.C_alloc ?_ _) | (with_reducible refine Kd.C_drewN ?_ _) | (with_reducible refine Kd.C_drew ?_))); (case side4 => exact (Kd.R_reads' HO223.out).2.1); rintro e w23 ⟨rfl, hb⟩; have n0_ := Aside0.mk (Kd.R_below (by (with_reducible repeat (first | apply Kd.R_alloc | apply Kd.R_drewN | apply Kd.R_drew)); exact HO_5.out) hb); have n1_ := Aside0.mk (Kd.R_below (by (with_reducible repeat (first | apply Kd.R_alloc | apply Kd.R_drewN | apply Kd.R_drew)); exact HO223.out) hb); have n2_ := Aside0.mk (below_step (by repeat (first | (with_reducible first | exact HB.out | apply below_alloc | apply pw_below_drewN | apply below_drew1) | exact HB.out)) hb); clear HO_5; clear HO223; clear HB; have HO_5 := n0_; have HO223 := n1_; have HB := n2_; clear n0_ n1_ n2_; (try clear hb); (try clear hb2); (try clear hk); (try clear hi)) | ((with_reducible refine gate_callee (f := 44) rfl ?_); refine goesL_ (some 31) rfl rfl Tryd.func44 (by kernel_rfl) rfl #[.slice A0 l0.length c0, .slice Ao22 t221.length co22] rfl (by (try simp only [List.map_toArray, List.map_cons, List.map_nil]); first | done | rfl | (simp only [List.length_drop, List.length_take]; rfl)) ?_; (with_reducible refine (div_DivMod.calls _ _ l0 _ _ t221 t231 t232 t233 _ ?side1 ?side2 ?side3 ?side4 A20.out).mono ?_); (case side1 => repeat (first | exact (Kd.C_below HR0.out HB.out) | (with_reducible refine Kd.C_alloc ?_ _) | (with_reducible refine Kd.C_drewN ?_ _) | (with_reducible refine Kd.C_drew ?_))); (case side2 => exact HC0.out); (case side3 => repeat (first | exact (Kd.R_reads' HO223.out).2.2 | (with_reducible refine Kd.C_alloc ?_ _) | (with_reducible refine Kd.C_drewN ?_ _) | (with_reducible refine Kd.C_drew ?_))); (case side4 => exact (Kd.R_reads' HO223.out).2.1); rintro e w24 ⟨v234, v236, rfl, ho0, ho1, hb⟩; refine ⟨_, rfl, ?_⟩; have n0_ := Aside0.mk (Kd.R_mono (Kd.R_told (Kd.R_told (Kd.R_old (by (with_reducible repeat (first | apply Kd.R_alloc | apply Kd.R_drewN | apply Kd.R_drew)); exact HO_5.out) hb) (Kd.R_base ho0)) (Kd.R_base ho1)) (fun _ h_ => h_.1)); have n1_ := Aside0.mk (Kd.R_mono (Kd.R_told (Kd.R_told (Kd.R_old (by (with_reducible repeat (first | apply Kd.R_alloc | apply Kd.R_drewN | apply Kd.R_drew)); exact HO223.out) hb) (Kd.R_base ho0)) (Kd.R_base ho1)) (fun _ h_ => h_.1)); have n2_ := Aside0.mk (Kd.R_lower (Kd.R_new' (Kd.R_new' ho0 (Kd.R_lt (by (with_reducible repeat (first | apply Kd.R_alloc | apply Kd.R_drewN | apply Kd.R_drew)); exact HO_5.out))) (Kd.R_lt (by (with_reducible repeat (first | apply Kd.R_alloc | apply Kd.R_drewN | apply Kd.R_drew)); exact HO223.out))) (below_size (by repeat (first | (with_reducible first | exact HB.out | apply below_alloc | apply pw_below_drewN | apply below_drew1) | exact HB.out)))); have n3_ := Aside0.mk (Kd.R_lower (Kd.R_new' (Kd.R_new' ho1 (Kd.R_lt (by (with_reducible repeat (first | apply Kd.R_alloc | apply Kd.R_drewN | apply Kd.R_drew)); exact HO_5.out))) (Kd.R_lt (by (with_reducible repeat (first | apply Kd.R_alloc | apply Kd.R_drewN | apply Kd.R_drew)); exact HO223.out))) (below_size (by repeat (first | (with_reducible first | exact HB.out | apply below_alloc | apply pw_below_drewN | apply below_drew1) | exact HB.out)))); have n4_ := Aside0.mk (below_step (by repeat (first | (with_reducible first | exact HB.out | apply below_alloc | apply pw_below_drewN | apply below_drew1) | exact HB.out)) hb); clear HO_5; clear HO223; clear HB; have HO_5 := n0_; have HO223 := n1_; have HO235 := n2_; have HO237 := n3_; have HB := n4_; clear n0_ n1_ n2_ n3_ n4_; (try clear hb); (try clear hb2); (try clear hk); (try clear hi); (try clear ho0); (try clear ho1)))
            go_ret2
            exact ⟨_, _, by first | rfl | (simp [errW_none, errW_some] <;> rfl) | (simp [*, errW_none, errW_some] <;> rfl), by (with_reducible repeat (first | apply Kd.R_alloc | apply Kd.R_drewN | apply Kd.R_drew)); exact Kd.R_mono HO235.out (fun _ hk => hk.1.1), by (with_reducible repeat (first | apply Kd.R_alloc | apply Kd.R_drewN | apply Kd.R_drew)); exact Kd.R_mono HO237.out (fun _ hk => hk.1.1), by repeat (first | (with_reducible first | exact HB.out | apply below_alloc | apply pw_below_drewN | apply below_drew1) | exact HB.out)⟩
theorem nat_Cmp_eq {a b : List Int} (ha : Nums.rng a = true) (hb : Nums.rng b = true) (ma : Nums.may a = true) (mb : Nums.may b = true) : nat_Cmp.f a b = some (if Nums.val a < Nums.val b then -1 else if Nums.val b < Nums.val a then 1 else 0) := by
  unfold nat_Cmp.f
  rw [ha, hb, if_pos (show (true && true) = true from rfl), ma, mb, if_pos (show (true && true) = true from rfl)]
theorem dec_Split_ev (c : Nat) (hM : MulTells c) (l : List Int) (n : Nat) (hr : Nums.rng l = true) (hm : Nums.may l = true) (hn : n < 9223372036854775808) (hc : 10 ^ n < 4294967296 ^ c ∨ 65536 ≤ c)
    (hD : 10 ^ n < 4294967296 ^ 65536 → 10 ^ n ≤ Nums.val l → div_DivMod.f l (Nums.toL (10 ^ n)) = some (Nums.toL (Nums.val l / 10 ^ n), Nums.toL (Nums.val l % 10 ^ n), 0)) :
    Nums.Ev (fun k => dec_Split.f k l (n : Int)) (Nums.toL (Nums.val l / 10 ^ n), Nums.toL (Nums.val l % 10 ^ n)) := by
  have h1 := dec_Ten_ev c hM n hn hc
  obtain ⟨v1, v2⟩ := Nums.may_val hr hm
  have hll := (Nums.may_iff.1 hm).1
  have hT0 : 0 < 10 ^ n := Nat.pow_pos (by decide)
  have hlim := fun n => @Nums.lim_eq n
  have hbig := fun n => @Nums.lim_big n
  have hmt := fun n => @Nums.may_toL n
  clear hM hc
  obtain ⟨M, hMM⟩ : ∃ M, 4294967296 ^ 65536 = M := ⟨_, rfl⟩
  rw [hMM] at hlim hbig hmt hD v2
  clear hMM
  obtain ⟨T, hT⟩ : ∃ T, 10 ^ n = T := ⟨_, rfl⟩
  rw [hT] at h1 hT0 hD ⊢
  have hf : ∀ k, dec_Split.f (k + 1) l (n : Int) = (dec_Ten.f k (n : Int)).bind fun t => (if (t.length : Int) = 0 then (if ([] : List Int).length + l.length < 35184372088832 then (some (([] : List Int), (([] : List Int) ++ l))) else (none)) else ((nat_Cmp.f l t).bind fun t1 => (if t1 < 0 then (if ([] : List Int).length + l.length < 35184372088832 then (some (([] : List Int), (([] : List Int) ++ l))) else (none)) else ((div_DivMod.f l t).bind fun bt => (some (bt.1, bt.2.1)))))) := by
    intro k
    unfold dec_Split.f
    rw [nat_May_eq, hm, Option.bind_some, if_pos rfl, decide_eq_false (by omega), dec_Split.j0, if_neg (by decide)]
  refine Nums.Ev.succ ?_ hf
  refine Nums.Ev.bind (f := fun k => dec_Ten.f k (n : Int)) h1 (Nums.Ev.of fun _ => ?_)
  have hless : Nums.val l < T → (Nums.toL (Nums.val l / T), Nums.toL (Nums.val l % T)) = (([] : List Int), (([] : List Int) ++ l)) := by
    intro h
    rw [Nat.div_eq_of_lt h, Nat.mod_eq_of_lt h, Nums.toL_zero, v1]
    rfl
  by_cases hTM : T < M
  · rw [hlim _ hTM, if_neg (toL_len_ne hT0), nat_Cmp_eq hr (Nums.rng_toL _) hm (hmt _ hTM), Nums.val_toL, Option.bind_some]
    by_cases hlt : Nums.val l < T
    · rw [if_pos hlt, if_pos (by decide), if_pos (by simp; omega), hless hlt]
    · rw [if_neg hlt, hD hTM (by omega), Option.bind_some]
      have : ¬ (if T < Nums.val l then (1 : Int) else 0) < 0 := by split <;> decide
      rw [if_neg this]
  · rw [hbig _ hTM, if_pos (show (([] : List Int).length : Int) = 0 from rfl), if_pos (by simp; omega), hless (by omega)]

/-! ### dec_digits: function 33 -/
/-- So many digits of a number, the last one last, as bytes. -/
def dig : Nat → Int → List Int
  | 0, _ => []
  | k + 1, x => dig k (x / 10) ++ [48 + x % 10]
set_option maxRecDepth 100000 in
set_option maxHeartbeats 8000000 in
theorem dec_digits.calls (x : Int) (h0 : 0 ≤ x) (h1 : x < 4294967296) (w : World) :
    Calls Tryd.prog 33 #[.int .u32 x] w fun e w' => e = .returned (.agg ((dig 9 x).map (Value.int .u8)).toArray) ∧ Below w.heap.size w w' := by
  go_enter Tryd.func33, Tryd.ntmps33
  go_wp2
  refine wp_loop_rounds 11 ?_
  rw [rounds_succ]
  go_wp2
  obtain ⟨x1, hx1⟩ : ∃ y, x / 10 = y := ⟨_, rfl⟩
  have hx1a : 0 ≤ x1 := by omega
  have hx1b : x1 < 4294967296 := by omega
  rw [hx1]
  have Hx1 := Aside0.mk hx1
  clear hx1
  rw [rounds_succ]
  go_wp2
  obtain ⟨x2, hx2⟩ : ∃ y, x1 / 10 = y := ⟨_, rfl⟩
  have hx2a : 0 ≤ x2 := by omega
  have hx2b : x2 < 4294967296 := by omega
  rw [hx2]
  have Hx2 := Aside0.mk hx2
  clear hx2
  rw [rounds_succ]
  go_wp2
  obtain ⟨x3, hx3⟩ : ∃ y, x2 / 10 = y := ⟨_, rfl⟩
  have hx3a : 0 ≤ x3 := by omega
  have hx3b : x3 < 4294967296 := by omega
  rw [hx3]
  have Hx3 := Aside0.mk hx3
  clear hx3
  rw [rounds_succ]
  go_wp2
  obtain ⟨x4, hx4⟩ : ∃ y, x3 / 10 = y := ⟨_, rfl⟩
  have hx4a : 0 ≤ x4 := by omega
  have hx4b : x4 < 4294967296 := by omega
  rw [hx4]
  have Hx4 := Aside0.mk hx4
  clear hx4
  rw [rounds_succ]
  go_wp2
  obtain ⟨x5, hx5⟩ : ∃ y, x4 / 10 = y := ⟨_, rfl⟩
  have hx5a : 0 ≤ x5 := by omega
  have hx5b : x5 < 4294967296 := by omega
  rw [hx5]
  have Hx5 := Aside0.mk hx5
  clear hx5
  rw [rounds_succ]
  go_wp2
  obtain ⟨x6, hx6⟩ : ∃ y, x5 / 10 = y := ⟨_, rfl⟩
  have hx6a : 0 ≤ x6 := by omega
  have hx6b : x6 < 4294967296 := by omega
  rw [hx6]
  have Hx6 := Aside0.mk hx6
  clear hx6
  rw [rounds_succ]
  go_wp2
  obtain ⟨x7, hx7⟩ : ∃ y, x6 / 10 = y := ⟨_, rfl⟩
  have hx7a : 0 ≤ x7 := by omega
  have hx7b : x7 < 4294967296 := by omega
  rw [hx7]
  have Hx7 := Aside0.mk hx7
  clear hx7
  rw [rounds_succ]
  go_wp2
  obtain ⟨x8, hx8⟩ : ∃ y, x7 / 10 = y := ⟨_, rfl⟩
  have hx8a : 0 ≤ x8 := by omega
  have hx8b : x8 < 4294967296 := by omega
  rw [hx8]
  have Hx8 := Aside0.mk hx8
  clear hx8
  rw [rounds_succ]
  go_wp2
  rw [rounds_succ]
  go_wp2
  refine bodyPost_ret (v := .agg ((dig 9 x).map (Value.int .u8)).toArray) ?res rfl ⟨rfl, below_alloc (Below.refl _ _) _⟩
  case res =>
    simp only [dig, Hx1.out, Hx2.out, Hx3.out, Hx4.out, Hx5.out, Hx6.out, Hx7.out, Hx8.out, List.nil_append, List.cons_append, List.map_cons, List.map_nil]
    simp [results, Tryd.f33, go_sem]
theorem dig_digs (k : Nat) : ∀ x : Int, 0 ≤ x → (dig k x).map (Value.int .u8) = Lib.byteCells (Nums.digs k x.toNat) := by
  induction k with
  | zero => intro x _; rfl
  | succ k ih =>
    intro x h
    have e : (UInt8.ofNat (48 + x.toNat % 10)).toNat = 48 + x.toNat % 10 := by rw [UInt8.toNat_ofNat']; omega
    have e2 : ((48 + x.toNat % 10 : Nat) : Int) = 48 + x % 10 := by omega
    simp only [dig, Nums.digs, List.map_append, Lib.byteCells, List.map_cons, List.map_nil]
    rw [ih (x / 10) (by omega), e, e2, show (x / 10).toNat = x.toNat / 10 by omega]
    rfl
theorem dec_digits.calls9 (x : Int) (h0 : 0 ≤ x) (h1 : x < 4294967296) (w : World) :
    Calls Tryd.prog 33 #[.int .u32 x] w fun e w' => ∃ d0 d1 d2 d3 d4 d5 d6 d7 d8 : Int, (e = .returned (.agg #[.int .u8 d0, .int .u8 d1, .int .u8 d2, .int .u8 d3, .int .u8 d4, .int .u8 d5, .int .u8 d6, .int .u8 d7, .int .u8 d8]) ∧ [d0, d1, d2, d3, d4, d5, d6, d7, d8].map (Value.int .u8) = Lib.byteCells (Nums.digs 9 x.toNat)) ∧ Below w.heap.size w w' := by
  refine (dec_digits.calls x h0 h1 w).mono ?_
  rintro e w' ⟨rfl, hb⟩
  exact ⟨_, _, _, _, _, _, _, _, _, ⟨rfl, by rw [← dig_digs 9 x h0]; rfl⟩, hb⟩

/-! ### dec_Show: function 12 -/
def dec_Show.f (l0 : List Int) : Option ByteArray := if Nums.rng l0 = true then some (if Nums.may l0 = true then ⟨(Nums.showB (Nums.val l0)).toArray⟩ else ByteArray.empty) else none
set_option maxHeartbeats 1000000 in
theorem dec_Show.calls_no (A0 : Option Addr) (c0 : Nat) (l0 : List Int) (w : World) (hr0 : Kd.C (Kd.int .u32) w A0 l0.length l0) (hc0 : l0.length ≤ c0) (hm : Nums.may l0 = false) :
    Calls Tryd.prog 12 #[.slice A0 l0.length c0] w fun e w' => e = .returned (.string ByteArray.empty) ∧ Below w.heap.size w w' := by
  have HM := Aside0.mk (nat_May.calls A0 c0 l0 _ w hr0 hc0 (nat_May_eq l0))
  rw [hm] at HM
  clear hr0 hc0 hm
  go_enter Tryd.func12, Tryd.ntmps12
  go_wp2_with (go_at_call 22; refine HM.out.mono ?_; rintro e w' ⟨rfl, ⟨nd, rfl⟩⟩)
  go_ret
  exact ⟨rfl, pw_below_drewN (Below.refl _ _) _⟩
set_option maxRecDepth 100000 in
set_option maxHeartbeats 8000000 in
theorem dec_Show.calls_yes (A0 : Option Addr) (c0 : Nat) (l0 : List Int) (w : World) (hr0 : Kd.C (Kd.int .u32) w A0 l0.length l0) (hc0 : l0.length ≤ c0) (hr : Nums.rng l0 = true) (hm : Nums.may l0 = true) :
    Calls Tryd.prog 12 #[.slice A0 l0.length c0] w fun e w' => e = .returned (.string ⟨(Nums.showB (Nums.val l0)).toArray⟩) ∧ Below w.heap.size w w' := by
  have HM := Aside0.mk (nat_May.calls A0 c0 l0 _ w hr0 hc0 (nat_May_eq l0))
  rw [hm] at HM
  have HR0 := Aside0.mk hr0
  have HC0 := Aside0.mk hc0
  obtain ⟨N, hN⟩ : ∃ N, Nums.val l0 = N := ⟨_, rfl⟩
  have hl0 : l0 = Nums.toL N := by rw [← hN]; exact (Nums.may_val hr hm).1.symm
  have HL0 := Aside0.mk hl0
  have HNB := Aside0.mk (show N < 4294967296 ^ 65536 by rw [← hN]; exact (Nums.may_val hr hm).2)
  rw [hN]
  clear hr0 hc0 hm hr hl0 hN
  go_enter Tryd.func12, Tryd.ntmps12
  go_wp2_with (go_at_call 22; refine HM.out.mono ?_; rintro e w' ⟨rfl, ⟨nd, rfl⟩⟩)
  go_loopg [0, 3] N (fun gk v0 v3 wr => ∃ (A : Option Addr) (c n : Nat) (Ap : Option Addr) (cp : Nat) (ps : List (List UInt8)), v0 = .slice A n c ∧ v3 = .slice Ap ps.length cp ∧ Aside0 (n = (Nums.toL gk).length ∧ n ≤ c ∧ Kd.C (Kd.int .u32) wr A (Nums.toL gk).length (Nums.toL gk)) ∧
    Aside0 (wr.ownsRow w.heap.size 54 9 (.slice Ap ps.length cp) ps.length (Lib.byteCells ps.flatten)) ∧ Aside0 (ps ++ Nums.pcs gk = Nums.pcs N ∧ gk ≤ N) ∧ Aside0 (Below w.heap.size w wr))
  case atStart =>
    refine ⟨A0, c0, l0.length, none, 0, [], rfl, rfl, ⟨?_⟩, ⟨?_⟩, ⟨by simp, Nat.le_refl _⟩, ⟨pw_below_drewN (Below.refl _ _) _⟩⟩
    · rw [← HL0.out]; exact ⟨rfl, HC0.out, Kd.C_drewN HR0.out _⟩
    · exact World.ownsRow_nil _ _ _ _
  case round =>
    obtain ⟨A, c, n, Ap, cp, ps, rfl, rfl, H1, H2, H3, H4⟩ := hrel
    cases gk with
    | zero =>
      have hn : n = 0 := by rw [H1.out.1, Nums.toL_zero]; rfl
      subst hn
      have hps : ps.length ≤ 72316 := by
        have h1 := congrArg List.length H3.out.1
        have h2 := Nums.pcs_len_may HNB.out
        simp only [List.length_append] at h1
        omega
      have hw1 : wrap64 ((ps.length : Int) - 1) = (ps.length : Int) - 1 := by unfold wrap64; omega
      go_wp2
      obtain ⟨B, hB⟩ : ∃ B, wr.heap.size = B := ⟨_, rfl⟩
      have hpcs : Aside0 (ps = Nums.pcs N) := ⟨by have := H3.out.1; rw [Nums.pcs_zero, List.append_nil] at this; exact this⟩
      have hgrp := World.alloc_heap_new wr (.cells #[.pointer none, .slice none 0 0] 58)
      rw [hB] at hgrp ⊢
      go_loopw [6] (fun i wq => ∃ k : Nat, k ≤ ps.length ∧ i = .int .i64 ((k : Int) - 1) ∧ Aside0 (Lib.IsBuilder 58 5 B B (Lib.byteCells ((ps.drop k).reverse.flatten)) wq) ∧ Aside0 (Below B wr wq))
        (fun i _ => (intOf i + 1).toNat)
      case atStart => exact ⟨ps.length, Nat.le_refl _, rfl, ⟨by
        rw [List.drop_length]
        exact .inl ⟨Nat.le_refl _, .slice none 0 0, hgrp, World.ownsRow_nil _ _ _ _, by simp [Value.ownBlock]⟩⟩, ⟨by rw [← hB]; exact below_alloc (Below.refl _ _) _⟩⟩
      case round =>
        obtain ⟨k, hk, rfl, hIB, hBq⟩ := hrel
        by_cases hk0 : 0 < k
        · obtain ⟨k, rfl⟩ : ∃ m, k = m + 1 := ⟨k - 1, by omega⟩
          obtain ⟨g, rfl, hgB⟩ : ∃ g, Ap = some ⟨g, 0, none⟩ ∧ g < B := by
            rcases H2.out.2 with ⟨_, h⟩ | ⟨g, cap, cur, e, _⟩
            · omega
            · cases e
              exact ⟨g, rfl, by rw [← hB]; exact own_lt H2.out g rfl⟩
          have h9 : ∀ p ∈ ps, p.length = 9 := by rw [hpcs.out]; exact Nums.pcs_nine N
          have hp9 : ps[k].length = 9 := h9 _ (List.getElem_mem _)
          have hnews : ∀ j u, (Lib.byteCells ps[k])[j]? = some u → wr.cell? ((⟨g, k * 9, none⟩ : Addr).add j) = some u := by
            intro j u hu
            have hj : j < 9 := by have := (List.getElem?_eq_some_iff.1 hu).1; rw [Lib.byteCells_length, hp9] at this; exact this
            rw [hBq.out.cell (by unfold Addr.add; split <;> exact hgB)]
            have h1 := H2.out.cells (g := g) rfl (k * 9 + j) u (by
              rw [Lib.byteCells, List.getElem?_map, Nums.flat_at ps h9 k (by omega) j hj, ← List.getElem?_map]
              exact hu)
            have e : ((⟨g, k * 9, none⟩ : Addr).add j) = ((⟨g, 0, none⟩ : Addr).add (k * 9 + j)) := by
              unfold Addr.add
              by_cases a0 : j = 0 <;> by_cases b0 : k * 9 + j = 0 <;> simp [a0, b0] <;> omega
            rw [e]; exact h1
          have hlen : (Lib.byteCells ((ps.drop (k + 1)).reverse.flatten)).length + 9 ≤ 140737488355328 := by
            rw [Lib.byteCells_length, Nums.flat_len _ (fun p hp => h9 p (List.mem_of_mem_drop (List.mem_reverse.1 hp))), List.length_reverse, List.length_drop]
            omega
          have HW := Aside0.mk (Tryd.Builder_Write B B _ ⟨g, k * 9, none⟩ 9 9 (Lib.byteCells ps[k]) wr hIB.out (by rw [Lib.byteCells_length, hp9]) hnews hgB (fun u hu => by obtain ⟨b, _, rfl⟩ := List.mem_map.1 hu; rfl) hlen (by have := hBq.out.size; omega))
          clear hnews hlen
          go_wp2_with (go_at_call 34; go_must (refine HW.out.mono ?_); rintro e w4 ⟨rfl, hb4, hB4⟩)
          refine ⟨⟨k, by omega, rfl, ⟨.inr ?_⟩, ⟨hBq.out.trans hB4⟩⟩, by simp only [intOf]; omega⟩
          rw [Nums.flat_rev_drop ps k (by omega), Lib.byteCells, List.map_append]
          exact hb4
        · obtain rfl : k = 0 := by omega
          have hpc := hpcs.out
          obtain ⟨tx, htx⟩ : ∃ tx, (Nums.pcs N).reverse.flatten = tx := ⟨_, rfl⟩
          have hib := hIB.out
          rw [List.drop_zero, hpc, htx] at hib
          have HS := Aside0.mk (Tryd.Builder_String_any B B tx wr hib (by have := hBq.out.size; omega))
          have hsb : Nums.showB N = if Lib.trimLeftB tx 48 = [] then [48] else Lib.trimLeftB tx 48 := by rw [Nums.showB, htx]; rfl
          clear htx hpc hib
          have HT := fun w => Aside0.mk (Tryd.strings_TrimLeft_one ⟨tx.toArray⟩ 48 (by decide) w)
          obtain ⟨ty, hty⟩ : ∃ ty, Lib.trimLeftB tx 48 = ty := ⟨_, rfl⟩
          rw [show (⟨tx.toArray⟩ : ByteArray).data.toList = tx from rfl] at HT
          rw [hty] at HT hsb
          have HSB := Aside0.mk hsb
          clear hty hsb
          go_wp2_with (first | (go_at_call 36; refine HS.out.mono ?_; rintro e w5 ⟨rfl, hB5⟩) | (go_at_call 35; refine (HT _).out.mono ?_; rintro e w6 ⟨rfl, rfl⟩))
          · have he : (!ty.isEmpty) = true := by assumption
            go_ret
            refine ⟨?_, H4.out.trans ((hBq.out.trans hB5).mono (by rw [← hB]; exact H4.out.size))⟩
            rw [HSB.out, if_neg (by intro e; rw [e] at he; simp at he)]; rfl
          · have he : (!ty.isEmpty) = false := by assumption
            go_ret
            refine ⟨?_, H4.out.trans ((hBq.out.trans hB5).mono (by rw [← hB]; exact H4.out.size))⟩
            rw [HSB.out, if_pos (by cases ty with | nil => rfl | cons a b => simp at he)]; rfl
    | succ m =>
      have hn : 0 < n := by
        rw [H1.out.1, Nums.toL_pos (by omega)]; simp
      have hps : ps.length ≤ 72316 := by
        have h1 := congrArg List.length H3.out.1
        have h2 := Nums.pcs_len_may HNB.out
        simp only [List.length_append] at h1
        omega
      obtain ⟨M, hM⟩ : ∃ M, m + 1 = M := ⟨_, rfl⟩
      rw [hM] at H1 H3
      obtain ⟨kd, hkd⟩ := (div_Small_ev (Nums.toL M) 1000000000 (Nums.rng_toL _) (Nums.may_toL (Nat.lt_of_le_of_lt H3.out.2 HNB.out)) (by decide) (by decide)).get
      rw [Nums.val_toL, show (1000000000 : Int).toNat = 1000000000 from rfl] at hkd
      obtain ⟨rfl, hc, hC⟩ := H1.out
      have HKD := Aside0.mk hkd
      have HC := Aside0.mk hC
      have HC1 := Aside0.mk hc
      clear H1 hkd hC hc
      have hx1 : ((M % 1000000000 : Nat) : Int) < 4294967296 := by omega
      obtain ⟨x, hx⟩ : ∃ x : Int, ((M % 1000000000 : Nat) : Int) = x := ⟨_, rfl⟩
      have hx0 : 0 ≤ x := by omega
      rw [hx] at hx1 HKD
      have HX := Aside0.mk hx
      clear hx
      obtain ⟨i0, hi, hz0, hz1, hz2⟩ := info_parts (show (Tryd.prog.info? 54).map (fun i => (i.zero, i.size, i.bytes)) = some (some (.agg #[.int .u8 0, .int .u8 0, .int .u8 0, .int .u8 0, .int .u8 0, .int .u8 0, .int .u8 0, .int .u8 0, .int .u8 0]), 9, 9) by kernel_rfl)
      go_wp2_with (first | (go_at_call 24; refine (div_Small.calls kd A c (Nums.toL M) 1000000000 _ _ _ wr HC.out HC1.out HKD.out).mono ?_; rintro e w1 ⟨v0, rfl, hR1, hB1⟩; obtain ⟨A1, c1, rfl, hc1, _⟩ := Kd.R_reads hR1; have HB1 := Aside0.mk hB1; have HCC1 := Aside0.mk (And.intro hc1 hR1); clear hR1 hB1 hc1) | (go_at_call 33; refine (dec_digits.calls9 x hx0 hx1 w1).mono ?_; rintro e w2 ⟨d0, d1, d2, d3, d4, d5, d6, d7, d8, ⟨rfl, hd⟩, hB2⟩; have HD := Aside0.mk hd; have HB2 := Aside0.mk hB2; clear hd hB2) | (at_builtin; go_must (refine wpList_append_own (w2.alloc (.cells #[.int .u8 d0, .int .u8 d1, .int .u8 d2, .int .u8 d3, .int .u8 d4, .int .u8 d5, .int .u8 d6, .int .u8 d7, .int .u8 d8] 54)) rfl (.tmp 20) (.tmp 23) 53 rfl w.heap.size 54 i0 _ 9 9 Tryd.underlying53 hi hz0 hz1 hz2 rfl (by decide) (.slice Ap ps.length cp) ps.length (Lib.byteCells ps.flatten) rfl (Tch.own (S := fun _ => False) (((Tch.of_below HB1.out).belowThen HB2.out).alloc _) H2.out (fun _ _ e => e)) ⟨w2.heap.size, 0, none⟩ 1 1 [.int .u8 d0, .int .u8 d1, .int .u8 d2, .int .u8 d3, .int .u8 d4, .int .u8 d5, .int .u8 d6, .int .u8 d7, .int .u8 d8] rfl rfl (news_row _ _ rfl _ _) (by simp [Value.oneCell']) (by unfold maxLen; omega) (by omega) (by have h1 := H4.out.size; have h2 := HB1.out.size; have h3 := HB2.out.size; simp; omega) ?_); intro v3 w3 hown3 hg3 _; obtain ⟨Ap3, cp3, rfl, _⟩ := own_form hown3; have HO3 := Aside0.mk hown3; have HG3 := Aside0.mk hg3; clear hown3 hg3))
      go_roundg (M / 1000000000)
      case measure => have : M / 1000000000 < M := Nat.div_lt_self (by omega) (by decide); omega
      case rel =>
        refine ⟨A1, c1, _, Ap3, cp3, ps ++ [Nums.digs 9 (M % 1000000000)], rfl, by simp, ⟨rfl, HCC1.out.1, ?_⟩, ⟨?_⟩, ⟨?_, Nat.le_trans (Nat.div_le_self _ _) H3.out.2⟩, ⟨?_⟩⟩
        · have h1 := Kd.R_bound HCC1.out.2
          have h2 := Kd.R_alloc (Kd.R_below h1 HB2.out) (.cells #[.int .u8 d0, .int .u8 d1, .int .u8 d2, .int .u8 d3, .int .u8 d4, .int .u8 d5, .int .u8 d6, .int .u8 d7, .int .u8 d8] 54)
          have h3 := Kd.R_grown h2 HG3.out (fun k hk e => by have := own_lt H2.out k e.symm; have := hk.2.1; omega)
          exact (Kd.R_reads' h3).2.2
        · have h1 : Lib.byteCells (ps ++ [Nums.digs 9 (M % 1000000000)]).flatten = Lib.byteCells ps.flatten ++ [.int .u8 d0, .int .u8 d1, .int .u8 d2, .int .u8 d3, .int .u8 d4, .int .u8 d5, .int .u8 d6, .int .u8 d7, .int .u8 d8] := by
            have h2 := HD.out
            rw [← HX.out, Int.toNat_natCast] at h2
            simp only [List.flatten_append, List.flatten_cons, List.flatten_nil, List.append_nil, Lib.byteCells, List.map_append]
            exact congrArg _ h2.symm
          rw [h1, List.length_append]
          exact HO3.out
        · rw [← H3.out.1, Nums.pcs_pos (show M ≠ 0 by omega)]; simp
        · have h1 := HB1.out.mono H4.out.size
          have h2 := HB2.out.mono (Nat.le_trans H4.out.size HB1.out.size)
          exact ((below_alloc (H4.out.trans (h1.trans h2)) _).grown HG3.out (by have := H4.out.size; have := HB1.out.size; have := HB2.out.size; simp; omega) (fun k e => own_base H2.out k e))
theorem dec_Show.calls (A0 : Option Addr) (c0 : Nat) (l0 : List Int) (r : ByteArray) (w : World) (hr0 : Kd.C (Kd.int .u32) w A0 l0.length l0) (hc0 : l0.length ≤ c0) (h : dec_Show.f l0 = some r) :
    Calls Tryd.prog 12 #[.slice A0 l0.length c0] w fun e w' => e = .returned (.string r) ∧ Below w.heap.size w w' := by
  unfold dec_Show.f at h
  split at h
  case isFalse => cases h
  case isTrue hr =>
  obtain rfl := Option.some.inj h
  cases hm : Nums.may l0 with
  | false => rw [if_neg (by simp)]; exact dec_Show.calls_no A0 c0 l0 w hr0 hc0 hm
  | true => rw [if_pos rfl]; exact dec_Show.calls_yes A0 c0 l0 w hr0 hc0 hr hm
theorem dec_Show_eq (l : List Int) (hr : Nums.rng l = true) (hm : Nums.may l = true) : dec_Show.f l = some ⟨(Nums.deci (Nums.val l)).toArray⟩ := by
  unfold dec_Show.f
  rw [if_pos hr, if_pos hm, Nums.showB_deci]
theorem dec_Show_no (l : List Int) (hr : Nums.rng l = true) (hm : Nums.may l = false) : dec_Show.f l = some ByteArray.empty := by
  unfold dec_Show.f
  rw [if_pos hr, hm, if_neg (by decide)]

/-! ### dec_Digits: function 13 -/
def dec_Digits.f (l0 : List Int) : Option (Int) := (dec_Show.f l0).bind fun t238 => (some (t238.size : Int))
set_option maxHeartbeats 8000000 in
set_option maxRecDepth 100000 in
theorem dec_Digits.calls (A0 : Option Addr) (c0 : Nat) (l0 : List Int) (r : Int) (w : World) (hr0 : Kd.C (Kd.int .u32) w A0 l0.length l0) (hc0 : l0.length ≤ c0) (h : dec_Digits.f l0 = some r) :
    Calls Tryd.prog 13 #[.slice A0 l0.length c0] w fun e w' => e = .returned (.int .i64 r) ∧ Below w.heap.size w w' := by
  have HR0 := Aside0.mk hr0
  have HC0 := Aside0.mk hc0
  clear hr0 hc0
  have HB := Aside0.mk (Below.refl w.heap.size w)
  have H : ((dec_Show.f l0).bind fun t238 => (some (t238.size : Int))) = some r := h
  clear h
  replace H := Option.bind_eq_some_iff.mp H
  obtain ⟨t238, A20, H⟩ := H
  replace H : (some (t238.size : Int)) = some r := H
  have A2 := Aside0.mk A20
  clear A20
  obtain rfl := Option.some.inj H
  go_enter Tryd.func13, Tryd.ntmps13
  go_wp2_with (first | ((with_reducible refine gate_callee (f := 12) rfl ?_); refine goesL_ (some 4) rfl rfl Tryd.func12 (by kernel_rfl) rfl #[.slice A0 l0.length c0] rfl (by (try simp only [List.map_toArray, List.map_cons, List.map_nil]); first | done | rfl | (simp only [List.length_drop, List.length_take]; rfl)) ?_; (with_reducible refine (dec_Show.calls _ _ l0 t238 _ ?side1 ?side2 A2.out).mono ?_); (case side1 => repeat (first | exact HR0.out | (with_reducible refine Kd.C_alloc ?_ _) | (with_reducible refine Kd.C_drewN ?_ _) | (with_reducible refine Kd.C_drew ?_))); (case side2 => exact HC0.out); rintro e w3 ⟨rfl, hb⟩; refine ⟨_, rfl, ?_⟩; have n0_ := Aside0.mk (below_step (by repeat (first | (with_reducible first | exact HB.out | apply below_alloc | apply pw_below_drewN | apply below_drew1) | exact HB.out)) hb); clear HB; have HB := n0_; clear n0_; (try clear hb); (try clear hb2); (try clear hk); (try clear hi)))
  go_ret
  exact ⟨by first | rfl | (simp [errW_none, errW_some] <;> rfl) | (simp [*, errW_none, errW_some] <;> rfl), by repeat (first | (with_reducible first | exact HB.out | apply below_alloc | apply pw_below_drewN | apply below_drew1) | exact HB.out)⟩

/-! ### alidadelaw04_is: function 28 -/
def alidadelaw04_is.f (k : Nat) (l0 : List Int) (a1 : ByteArray) : Option (Bool) := (dec_Parse.f a1).bind fun bt239 => ((dec_Show.f l0).bind fun t243 => (if t243.toList = a1.toList then ((dec_Digits.f l0).bind fun t244 => (if t244 = (a1.size : Int) then (if bt239.2 = 0 then ((alidadelaw04_same.f k bt239.1 l0).bind fun t245 => (some t245)) else (some false)) else (some false))) else (some false)))
theorem alidadelaw04_is.mono : ∀ a0 a1 k, LeO (alidadelaw04_is.f k a0 a1) (alidadelaw04_is.f (k + 1) a0 a1) := by
  intro a0 a1 k
  unfold alidadelaw04_is.f
  repeat' first
      | (with_reducible exact alidadelaw04_same.mono _ _ _)
      | (with_reducible exact LeO.refl _)
      | (with_reducible exact LeO.none _)
      | (with_reducible refine LeO.ite ?_ ?_)
      | (with_reducible refine LeO.bind ?_ (fun _ => ?_))
      | exact alidadelaw04_same.mono _ _ _
      | exact LeO.none _
      | refine LeO.ite ?_ ?_
      | refine LeO.bind ?_ (fun _ => ?_)
set_option maxHeartbeats 8000000 in
set_option maxRecDepth 100000 in
theorem alidadelaw04_is.calls (k : Nat) (A0 : Option Addr) (c0 : Nat) (l0 : List Int) (a1 : ByteArray) (r : Bool) (w : World) (hr0 : Kd.C (Kd.int .u32) w A0 l0.length l0) (hc0 : l0.length ≤ c0) (h : alidadelaw04_is.f k l0 a1 = some r) :
    Calls Tryd.prog 28 #[.slice A0 l0.length c0, .string a1] w fun e w' => e = .returned (.bool r) ∧ Below w.heap.size w w' := by
  have HR0 := Aside0.mk hr0
  have HC0 := Aside0.mk hc0
  clear hr0 hc0
  have HB := Aside0.mk (Below.refl w.heap.size w)
  have H : ((dec_Parse.f a1).bind fun bt239 => ((dec_Show.f l0).bind fun t243 => (if t243.toList = a1.toList then ((dec_Digits.f l0).bind fun t244 => (if t244 = (a1.size : Int) then (if bt239.2 = 0 then ((alidadelaw04_same.f k bt239.1 l0).bind fun t245 => (some t245)) else (some false)) else (some false))) else (some false)))) = some r := h
  clear h
  replace H := Option.bind_eq_some_iff.mp H
  obtain ⟨⟨t239, t240⟩, A30, H⟩ := H
  replace H : ((dec_Show.f l0).bind fun t243 => (if t243.toList = a1.toList then ((dec_Digits.f l0).bind fun t244 => (if t244 = (a1.size : Int) then (if t240 = 0 then ((alidadelaw04_same.f k t239 l0).bind fun t245 => (some t245)) else (some false)) else (some false))) else (some false))) = some r := H
  have A3 := Aside0.mk A30
  clear A30
  replace H := Option.bind_eq_some_iff.mp H
  obtain ⟨t243, A40, H⟩ := H
  replace H : (if t243.toList = a1.toList then ((dec_Digits.f l0).bind fun t244 => (if t244 = (a1.size : Int) then (if t240 = 0 then ((alidadelaw04_same.f k t239 l0).bind fun t245 => (some t245)) else (some false)) else (some false))) else (some false)) = some r := H
  have A4 := Aside0.mk A40
  clear A40
  by_cases c5 : t243.toList = a1.toList
  · rw [if_pos c5] at H
    have c5b0 : (t243.toList == a1.toList) = true := beq_iff_eq.mpr c5
    have c5b1 : (t243.toList != a1.toList) = false := bne_eq_false_iff_eq.mpr c5
    clear c5
    replace H := Option.bind_eq_some_iff.mp H
    obtain ⟨t244, A60, H⟩ := H
    replace H : (if t244 = (a1.size : Int) then (if t240 = 0 then ((alidadelaw04_same.f k t239 l0).bind fun t245 => (some t245)) else (some false)) else (some false)) = some r := H
    have A6 := Aside0.mk A60
    clear A60
    by_cases c7 : t244 = (a1.size : Int)
    · rw [if_pos c7] at H
      have c7b0 : (t244 == (a1.size : Int)) = true := beq_iff_eq.mpr c7
      have c7b1 : (t244 != (a1.size : Int)) = false := bne_eq_false_iff_eq.mpr c7
      clear c7
      by_cases c8 : t240 = 0
      · rw [if_pos c8] at H
        have c8b0 : (t240 == 0) = true := beq_iff_eq.mpr c8
        have c8b1 : (t240 != 0) = false := bne_eq_false_iff_eq.mpr c8
        clear c8
        replace H := Option.bind_eq_some_iff.mp H
        obtain ⟨t245, A90, H⟩ := H
        replace H : (some t245) = some r := H
        have A9 := Aside0.mk A90
        clear A90
        obtain rfl := Option.some.inj H
        go_enter Tryd.func28, Tryd.ntmps28
        go_wp2_with (first | ((with_reducible refine gate_callee (f := 14) rfl ?_); refine goesL_ (some 9) rfl rfl Tryd.func14 (by kernel_rfl) rfl #[.string a1] rfl (by (try simp only [List.map_toArray, List.map_cons, List.map_nil]); first | done | rfl | (simp only [List.length_drop, List.length_take]; rfl)) ?_; (with_reducible refine (dec_Parse.calls a1 t239 t240 _ A3.out).mono ?_); rintro e w10 ⟨v241, rfl, ho0, hb⟩; refine ⟨_, rfl, ?_⟩; have n0_ := Aside0.mk (Kd.R_lower ho0 (below_size (by repeat (first | (with_reducible first | exact HB.out | apply below_alloc | apply pw_below_drewN | apply below_drew1) | exact HB.out)))); have n1_ := Aside0.mk (below_step (by repeat (first | (with_reducible first | exact HB.out | apply below_alloc | apply pw_below_drewN | apply below_drew1) | exact HB.out)) hb); clear HB; have HO242 := n0_; have HB := n1_; clear n0_ n1_; (try clear hb); (try clear hb2); (try clear hk); (try clear hi); (try clear ho0)) | ((with_reducible refine gate_callee (f := 12) rfl ?_); refine goesL_ (some 13) rfl rfl Tryd.func12 (by kernel_rfl) rfl #[.slice A0 l0.length c0] rfl (by (try simp only [List.map_toArray, List.map_cons, List.map_nil]); first | done | rfl | (simp only [List.length_drop, List.length_take]; rfl)) ?_; (with_reducible refine (dec_Show.calls _ _ l0 t243 _ ?side1 ?side2 A4.out).mono ?_); (case side1 => repeat (first | exact (Kd.C_below HR0.out HB.out) | (with_reducible refine Kd.C_alloc ?_ _) | (with_reducible refine Kd.C_drewN ?_ _) | (with_reducible refine Kd.C_drew ?_))); (case side2 => exact HC0.out); rintro e w11 ⟨rfl, hb⟩; refine ⟨_, rfl, ?_⟩; have n0_ := Aside0.mk (Kd.R_below (by (with_reducible repeat (first | apply Kd.R_alloc | apply Kd.R_drewN | apply Kd.R_drew)); exact HO242.out) hb); have n1_ := Aside0.mk (below_step (by repeat (first | (with_reducible first | exact HB.out | apply below_alloc | apply pw_below_drewN | apply below_drew1) | exact HB.out)) hb); clear HO242; clear HB; have HO242 := n0_; have HB := n1_; clear n0_ n1_; (try clear hb); (try clear hb2); (try clear hk); (try clear hi)) | (go_at_call 13; (with_reducible refine (dec_Digits.calls _ _ l0 t244 _ ?side1 ?side2 A6.out).mono ?_); (case side1 => repeat (first | exact (Kd.C_below HR0.out HB.out) | (with_reducible refine Kd.C_alloc ?_ _) | (with_reducible refine Kd.C_drewN ?_ _) | (with_reducible refine Kd.C_drew ?_))); (case side2 => exact HC0.out); rintro e w12 ⟨rfl, hb⟩; have n0_ := Aside0.mk (Kd.R_below (by (with_reducible repeat (first | apply Kd.R_alloc | apply Kd.R_drewN | apply Kd.R_drew)); exact HO242.out) hb); have n1_ := Aside0.mk (below_step (by repeat (first | (with_reducible first | exact HB.out | apply below_alloc | apply pw_below_drewN | apply below_drew1) | exact HB.out)) hb); clear HO242; clear HB; have HO242 := n0_; have HB := n1_; clear n0_ n1_; (try clear hb); (try clear hb2); (try clear hk); (try clear hi); obtain ⟨Ao13, co13, eo13⟩ := Kd.R_slice HO242.out; subst eo13) | (go_at_call 16; (with_reducible refine (alidadelaw04_same.calls k _ _ t239 _ _ l0 t245 _ ?side1 ?side2 ?side3 ?side4 A9.out).mono ?_); (case side1 => repeat (first | exact (Kd.R_reads' HO242.out).2.2 | (with_reducible refine Kd.C_alloc ?_ _) | (with_reducible refine Kd.C_drewN ?_ _) | (with_reducible refine Kd.C_drew ?_))); (case side2 => exact (Kd.R_reads' HO242.out).2.1); (case side3 => repeat (first | exact (Kd.C_below HR0.out HB.out) | (with_reducible refine Kd.C_alloc ?_ _) | (with_reducible refine Kd.C_drewN ?_ _) | (with_reducible refine Kd.C_drew ?_))); (case side4 => exact HC0.out); rintro e w' ⟨rfl, ⟨nd, rfl⟩⟩))
        go_ret
        exact ⟨by first | rfl | (simp [errW_none, errW_some] <;> rfl) | (simp [*, errW_none, errW_some] <;> rfl), by repeat (first | (with_reducible first | exact HB.out | apply below_alloc | apply pw_below_drewN | apply below_drew1) | exact HB.out)⟩
      · rw [if_neg c8] at H
        have c8b0 : (t240 == 0) = false := beq_eq_false_iff_ne.mpr c8
        have c8b1 : (t240 != 0) = true := bne_iff_ne.mpr c8
        obtain rfl := Option.some.inj H
        go_enter Tryd.func28, Tryd.ntmps28
        go_wp2_with (first | ((with_reducible refine gate_callee (f := 14) rfl ?_); refine goesL_ (some 9) rfl rfl Tryd.func14 (by kernel_rfl) rfl #[.string a1] rfl (by (try simp only [List.map_toArray, List.map_cons, List.map_nil]); first | done | rfl | (simp only [List.length_drop, List.length_take]; rfl)) ?_; (with_reducible refine (dec_Parse.calls a1 t239 t240 _ A3.out).mono ?_); rintro e w14 ⟨v241, rfl, ho0, hb⟩; refine ⟨_, rfl, ?_⟩; have n0_ := Aside0.mk (Kd.R_lower ho0 (below_size (by repeat (first | (with_reducible first | exact HB.out | apply below_alloc | apply pw_below_drewN | apply below_drew1) | exact HB.out)))); have n1_ := Aside0.mk (below_step (by repeat (first | (with_reducible first | exact HB.out | apply below_alloc | apply pw_below_drewN | apply below_drew1) | exact HB.out)) hb); clear HB; have HO242 := n0_; have HB := n1_; clear n0_ n1_; (try clear hb); (try clear hb2); (try clear hk); (try clear hi); (try clear ho0)) | ((with_reducible refine gate_callee (f := 12) rfl ?_); refine goesL_ (some 13) rfl rfl Tryd.func12 (by kernel_rfl) rfl #[.slice A0 l0.length c0] rfl (by (try simp only [List.map_toArray, List.map_cons, List.map_nil]); first | done | rfl | (simp only [List.length_drop, List.length_take]; rfl)) ?_; (with_reducible refine (dec_Show.calls _ _ l0 t243 _ ?side1 ?side2 A4.out).mono ?_); (case side1 => repeat (first | exact (Kd.C_below HR0.out HB.out) | (with_reducible refine Kd.C_alloc ?_ _) | (with_reducible refine Kd.C_drewN ?_ _) | (with_reducible refine Kd.C_drew ?_))); (case side2 => exact HC0.out); rintro e w15 ⟨rfl, hb⟩; refine ⟨_, rfl, ?_⟩; have n0_ := Aside0.mk (Kd.R_below (by (with_reducible repeat (first | apply Kd.R_alloc | apply Kd.R_drewN | apply Kd.R_drew)); exact HO242.out) hb); have n1_ := Aside0.mk (below_step (by repeat (first | (with_reducible first | exact HB.out | apply below_alloc | apply pw_below_drewN | apply below_drew1) | exact HB.out)) hb); clear HO242; clear HB; have HO242 := n0_; have HB := n1_; clear n0_ n1_; (try clear hb); (try clear hb2); (try clear hk); (try clear hi)) | (go_at_call 13; (with_reducible refine (dec_Digits.calls _ _ l0 t244 _ ?side1 ?side2 A6.out).mono ?_); (case side1 => repeat (first | exact (Kd.C_below HR0.out HB.out) | (with_reducible refine Kd.C_alloc ?_ _) | (with_reducible refine Kd.C_drewN ?_ _) | (with_reducible refine Kd.C_drew ?_))); (case side2 => exact HC0.out); rintro e w16 ⟨rfl, hb⟩; have n0_ := Aside0.mk (Kd.R_below (by (with_reducible repeat (first | apply Kd.R_alloc | apply Kd.R_drewN | apply Kd.R_drew)); exact HO242.out) hb); have n1_ := Aside0.mk (below_step (by repeat (first | (with_reducible first | exact HB.out | apply below_alloc | apply pw_below_drewN | apply below_drew1) | exact HB.out)) hb); clear HO242; clear HB; have HO242 := n0_; have HB := n1_; clear n0_ n1_; (try clear hb); (try clear hb2); (try clear hk); (try clear hi)))
        go_ret
        exact ⟨by first | rfl | (simp [errW_none, errW_some] <;> rfl) | (simp [*, errW_none, errW_some] <;> rfl), by repeat (first | (with_reducible first | exact HB.out | apply below_alloc | apply pw_below_drewN | apply below_drew1) | exact HB.out)⟩
    · rw [if_neg c7] at H
      have c7b0 : (t244 == (a1.size : Int)) = false := beq_eq_false_iff_ne.mpr c7
      have c7b1 : (t244 != (a1.size : Int)) = true := bne_iff_ne.mpr c7
      obtain rfl := Option.some.inj H
      go_enter Tryd.func28, Tryd.ntmps28
      go_wp2_with (first | ((with_reducible refine gate_callee (f := 14) rfl ?_); refine goesL_ (some 9) rfl rfl Tryd.func14 (by kernel_rfl) rfl #[.string a1] rfl (by (try simp only [List.map_toArray, List.map_cons, List.map_nil]); first | done | rfl | (simp only [List.length_drop, List.length_take]; rfl)) ?_; (with_reducible refine (dec_Parse.calls a1 t239 t240 _ A3.out).mono ?_); rintro e w17 ⟨v241, rfl, ho0, hb⟩; refine ⟨_, rfl, ?_⟩; have n0_ := Aside0.mk (Kd.R_lower ho0 (below_size (by repeat (first | (with_reducible first | exact HB.out | apply below_alloc | apply pw_below_drewN | apply below_drew1) | exact HB.out)))); have n1_ := Aside0.mk (below_step (by repeat (first | (with_reducible first | exact HB.out | apply below_alloc | apply pw_below_drewN | apply below_drew1) | exact HB.out)) hb); clear HB; have HO242 := n0_; have HB := n1_; clear n0_ n1_; (try clear hb); (try clear hb2); (try clear hk); (try clear hi); (try clear ho0)) | ((with_reducible refine gate_callee (f := 12) rfl ?_); refine goesL_ (some 13) rfl rfl Tryd.func12 (by kernel_rfl) rfl #[.slice A0 l0.length c0] rfl (by (try simp only [List.map_toArray, List.map_cons, List.map_nil]); first | done | rfl | (simp only [List.length_drop, List.length_take]; rfl)) ?_; (with_reducible refine (dec_Show.calls _ _ l0 t243 _ ?side1 ?side2 A4.out).mono ?_); (case side1 => repeat (first | exact (Kd.C_below HR0.out HB.out) | (with_reducible refine Kd.C_alloc ?_ _) | (with_reducible refine Kd.C_drewN ?_ _) | (with_reducible refine Kd.C_drew ?_))); (case side2 => exact HC0.out); rintro e w18 ⟨rfl, hb⟩; refine ⟨_, rfl, ?_⟩; have n0_ := Aside0.mk (Kd.R_below (by (with_reducible repeat (first | apply Kd.R_alloc | apply Kd.R_drewN | apply Kd.R_drew)); exact HO242.out) hb); have n1_ := Aside0.mk (below_step (by repeat (first | (with_reducible first | exact HB.out | apply below_alloc | apply pw_below_drewN | apply below_drew1) | exact HB.out)) hb); clear HO242; clear HB; have HO242 := n0_; have HB := n1_; clear n0_ n1_; (try clear hb); (try clear hb2); (try clear hk); (try clear hi)) | (go_at_call 13; (with_reducible refine (dec_Digits.calls _ _ l0 t244 _ ?side1 ?side2 A6.out).mono ?_); (case side1 => repeat (first | exact (Kd.C_below HR0.out HB.out) | (with_reducible refine Kd.C_alloc ?_ _) | (with_reducible refine Kd.C_drewN ?_ _) | (with_reducible refine Kd.C_drew ?_))); (case side2 => exact HC0.out); rintro e w19 ⟨rfl, hb⟩; have n0_ := Aside0.mk (Kd.R_below (by (with_reducible repeat (first | apply Kd.R_alloc | apply Kd.R_drewN | apply Kd.R_drew)); exact HO242.out) hb); have n1_ := Aside0.mk (below_step (by repeat (first | (with_reducible first | exact HB.out | apply below_alloc | apply pw_below_drewN | apply below_drew1) | exact HB.out)) hb); clear HO242; clear HB; have HO242 := n0_; have HB := n1_; clear n0_ n1_; (try clear hb); (try clear hb2); (try clear hk); (try clear hi)))
      go_ret
      exact ⟨by first | rfl | (simp [errW_none, errW_some] <;> rfl) | (simp [*, errW_none, errW_some] <;> rfl), by repeat (first | (with_reducible first | exact HB.out | apply below_alloc | apply pw_below_drewN | apply below_drew1) | exact HB.out)⟩
  · rw [if_neg c5] at H
    have c5b0 : (t243.toList == a1.toList) = false := beq_eq_false_iff_ne.mpr c5
    have c5b1 : (t243.toList != a1.toList) = true := bne_iff_ne.mpr c5
    obtain rfl := Option.some.inj H
    go_enter Tryd.func28, Tryd.ntmps28
    go_wp2_with (first | ((with_reducible refine gate_callee (f := 14) rfl ?_); refine goesL_ (some 9) rfl rfl Tryd.func14 (by kernel_rfl) rfl #[.string a1] rfl (by (try simp only [List.map_toArray, List.map_cons, List.map_nil]); first | done | rfl | (simp only [List.length_drop, List.length_take]; rfl)) ?_; (with_reducible refine (dec_Parse.calls a1 t239 t240 _ A3.out).mono ?_); rintro e w20 ⟨v241, rfl, ho0, hb⟩; refine ⟨_, rfl, ?_⟩; have n0_ := Aside0.mk (Kd.R_lower ho0 (below_size (by repeat (first | (with_reducible first | exact HB.out | apply below_alloc | apply pw_below_drewN | apply below_drew1) | exact HB.out)))); have n1_ := Aside0.mk (below_step (by repeat (first | (with_reducible first | exact HB.out | apply below_alloc | apply pw_below_drewN | apply below_drew1) | exact HB.out)) hb); clear HB; have HO242 := n0_; have HB := n1_; clear n0_ n1_; (try clear hb); (try clear hb2); (try clear hk); (try clear hi); (try clear ho0)) | ((with_reducible refine gate_callee (f := 12) rfl ?_); refine goesL_ (some 13) rfl rfl Tryd.func12 (by kernel_rfl) rfl #[.slice A0 l0.length c0] rfl (by (try simp only [List.map_toArray, List.map_cons, List.map_nil]); first | done | rfl | (simp only [List.length_drop, List.length_take]; rfl)) ?_; (with_reducible refine (dec_Show.calls _ _ l0 t243 _ ?side1 ?side2 A4.out).mono ?_); (case side1 => repeat (first | exact (Kd.C_below HR0.out HB.out) | (with_reducible refine Kd.C_alloc ?_ _) | (with_reducible refine Kd.C_drewN ?_ _) | (with_reducible refine Kd.C_drew ?_))); (case side2 => exact HC0.out); rintro e w21 ⟨rfl, hb⟩; refine ⟨_, rfl, ?_⟩; have n0_ := Aside0.mk (Kd.R_below (by (with_reducible repeat (first | apply Kd.R_alloc | apply Kd.R_drewN | apply Kd.R_drew)); exact HO242.out) hb); have n1_ := Aside0.mk (below_step (by repeat (first | (with_reducible first | exact HB.out | apply below_alloc | apply pw_below_drewN | apply below_drew1) | exact HB.out)) hb); clear HO242; clear HB; have HO242 := n0_; have HB := n1_; clear n0_ n1_; (try clear hb); (try clear hb2); (try clear hk); (try clear hi)))
    go_ret
    exact ⟨by first | rfl | (simp [errW_none, errW_some] <;> rfl) | (simp [*, errW_none, errW_some] <;> rfl), by repeat (first | (with_reducible first | exact HB.out | apply below_alloc | apply pw_below_drewN | apply below_drew1) | exact HB.out)⟩
theorem bytes_size (l : List UInt8) : (⟨l.toArray⟩ : ByteArray).size = l.length := Nums.size_toList ⟨l.toArray⟩
theorem Ev_add {α : Type} {f g : Nat → Option α} {r : α} (m : Nat) (h : Nums.Ev g r) (e : ∀ k, f (k + m) = g k) : Nums.Ev f r := by
  obtain ⟨n, hn⟩ := h
  refine ⟨n + m, fun k hk => ?_⟩
  obtain ⟨j, rfl⟩ : ∃ j, k = j + m := ⟨k - m, by omega⟩
  rw [e, hn j (by omega)]
theorem law_is_ev (l : List Int) (s : ByteArray) (hr : Nums.rng l = true) (hm : Nums.may l = true) (hs : s.size ≤ 140737488355328) (hv : Nums.deci (Nums.val l) = s.data.toList) :
    Nums.Ev (fun k => alidadelaw04_is.f k l s) true := by
  obtain ⟨v1, v2⟩ := Nums.may_val hr hm
  have hn : Nums.num s.data.toList = Nums.val l := by rw [← hv, Nums.num_deci]
  have hg : Nums.good s.data.toList = true := by rw [← hv]; exact Nums.deci_good _
  have hP := dec_Parse_eq s hs
  rw [if_pos hg, hn, if_pos v2, v1] at hP
  have hS := dec_Show_eq l hr hm
  rw [hv] at hS
  have h := (same_ev l l (by have := (Nums.may_iff.1 hm).1; omega)).bind (g := fun _ t => some t) (Nums.Ev.some _)
  rw [decide_eq_true rfl] at h
  refine h.congr fun k => ?_
  unfold alidadelaw04_is.f dec_Digits.f
  rw [hP, hS]
  simp only [Option.bind_some, Lib.toList_data, if_true]

end Go.Proofs.YtjgloepeogelnaaDoor.Pr
