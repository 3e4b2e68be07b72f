/- Functions with the same answers as the Go functions of the program, with the proofs that the program comes to just these answers; no condition but those that each theorem names. (Laid by this work's own program mk.py out of the translation.) -/
import Derived.Test.YtjgloepeogelnaaDoorPrx0
import Derived.Test.YtjgloepeogelnaaDoorPrx1
import Derived.Test.YtjgloepeogelnaaDoorPrx2
import Derived.Test.YtjgloepeogelnaaDoorPrx3
import Derived.Test.YtjgloepeogelnaaDoorPrx4
import Derived.Test.YtjgloepeogelnaaDoorPrx7
import Derived.Test.YtjgloepeogelnaaDoorPrx9
import Derived.Test.YtjgloepeogelnaaDoorPrx13
import Derived.Test.YtjgloepeogelnaaDoorPrx14
import Derived.Test.YtjgloepeogelnaaDoorPrx15
namespace Go.Proofs.YtjgloepeogelnaaDoor.Pr
open Go.RowKit Go.Proofs.YtjgloepeogelnaaDoorW.PrintWords Go.Proofs.YtjgloepeogelnaaDoorW.PrintLast Go.Proofs.YtjgloepeogelnaaDoorW.PrintMore
attribute [local go_sem] max2_int min2_int max_two min_two max_three min_three max_four min_four   -- for this text's walks alone
set_option linter.unusedVariables false
set_option linter.unusedSimpArgs false

/-! ### alidadelaw04_works: function 10 -/
def alidadelaw04_works.l0 : Nat → List ByteArray → Int → Int → Option (Bool)
  | 0, _, _, _ => none
  | k + 1, x9, x10, x11 => if x11 < x10 then (if 0 ≤ x11 then (if x11 < (x9.length : Int) then ((dec_Parse.f (rdOf ByteArray.empty x9 x11)).bind fun bt250 => (if (bt250.1.length : Int) = 0 then (if bt250.2 = 4 then (alidadelaw04_works.l0 k x9 x10 (wrap64 (x11 + 1))) else (some false)) else (some false))) else (none)) else (none)) else ((nat_Of.f k 12345).bind fun t254 => ((dec_Split.f k t254 2).bind fun bt257 => ((nat_Of.f k 12345).bind fun t263 => ((dec_Split.f k t263 9).bind fun bt266 => ((alidadelaw04_is.f k (([0, 0, 1] : List Int)) (⟨#[49, 56, 52, 52, 54, 55, 52, 52, 48, 55, 51, 55, 48, 57, 53, 53, 49, 54, 49, 54]⟩ : ByteArray)).bind fun t275 => (if t275 = true then ((dec_Ten.f k 9).bind fun t276 => ((nat_Of.f k 1000000000).bind fun t279 => ((alidadelaw04_same.f k t276 t279).bind fun t282 => (if t282 = true then ((nat_Of.f k 123).bind fun t283 => ((alidadelaw04_same.f k bt257.1 t283).bind fun t286 => (if t286 = true then ((nat_Of.f k 45).bind fun t287 => ((alidadelaw04_same.f k bt257.2 t287).bind fun t290 => (if t290 = true then (if (bt266.1.length : Int) = 0 then ((nat_Of.f k 12345).bind fun t291 => ((alidadelaw04_same.f k bt266.2 t291).bind fun t294 => (some t294))) else (some false)) else (some false)))) else (some false)))) else (some false))))) else (some false)))))))
def alidadelaw04_works.f (k : Nat)  : Option (Bool) := (some (([(⟨#[48, 48]⟩ : ByteArray), (⟨#[]⟩ : ByteArray), (⟨#[49, 97]⟩ : ByteArray), (⟨#[45, 49]⟩ : ByteArray)] : List ByteArray) : List ByteArray)).bind fun y246 => (alidadelaw04_works.l0 k y246 (y246.length : Int) 0)
theorem alidadelaw04_works.mono_l : ∀ k, (∀ y0 y1 y2, LeO (alidadelaw04_works.l0 k y0 y1 y2) (alidadelaw04_works.l0 (k + 1) y0 y1 y2))
  | 0 => fun _ _ _ r h => by simp [alidadelaw04_works.l0] at h
  | k + 1 => by
    have ih0 := alidadelaw04_works.mono_l k
    · intro y0 y1 y2
      unfold alidadelaw04_works.l0
      repeat' first
      | (with_reducible exact ih0 _ _ _)
      | (with_reducible exact alidadelaw04_is.mono _ _ _)
      | (with_reducible exact alidadelaw04_same.mono _ _ _)
      | (with_reducible exact dec_Split.mono _ _ _)
      | (with_reducible exact dec_Ten.mono _ _)
      | (with_reducible exact nat_Of.mono _ _)
      | (with_reducible exact LeO.refl _)
      | (with_reducible exact LeO.none _)
      | (with_reducible refine LeO.ite ?_ ?_)
      | (with_reducible refine LeO.bind ?_ (fun _ => ?_))
      | exact ih0 _ _ _
      | exact alidadelaw04_is.mono _ _ _
      | exact alidadelaw04_same.mono _ _ _
      | exact dec_Split.mono _ _ _
      | exact dec_Ten.mono _ _
      | exact nat_Of.mono _ _
      | exact LeO.none _
      | refine LeO.ite ?_ ?_
      | refine LeO.bind ?_ (fun _ => ?_)
theorem alidadelaw04_works.mono : ∀ k, LeO (alidadelaw04_works.f k ) (alidadelaw04_works.f (k + 1) ) := by
  intro  k
  have ih0 := alidadelaw04_works.mono_l k
  unfold alidadelaw04_works.f
  repeat' first
      | (with_reducible exact ih0 _ _ _)
      | (with_reducible exact alidadelaw04_is.mono _ _ _)
      | (with_reducible exact alidadelaw04_same.mono _ _ _)
      | (with_reducible exact dec_Split.mono _ _ _)
      | (with_reducible exact dec_Ten.mono _ _)
      | (with_reducible exact nat_Of.mono _ _)
      | (with_reducible exact LeO.refl _)
      | (with_reducible exact LeO.none _)
      | (with_reducible refine LeO.ite ?_ ?_)
      | (with_reducible refine LeO.bind ?_ (fun _ => ?_))
      | exact ih0 _ _ _
      | exact alidadelaw04_is.mono _ _ _
      | exact alidadelaw04_same.mono _ _ _
      | exact dec_Split.mono _ _ _
      | exact dec_Ten.mono _ _
      | exact nat_Of.mono _ _
      | exact LeO.none _
      | refine LeO.ite ?_ ?_
      | refine LeO.bind ?_ (fun _ => ?_)
theorem deci_of_num {l : List UInt8} (n : Nat) (hg : Nums.good l = true) (hn : Nums.num l = n) : Nums.deci n = l := by rw [← hn, Nums.deci_num l hg]
theorem parse_bad (s : ByteArray) (hs : s.size ≤ 140737488355328) (hg : Nums.good s.data.toList = false) : dec_Parse.f s = some ([], 4) := by
  rw [dec_Parse_eq s hs, hg, if_neg (by decide)]
theorem law_works_ev (c : Nat) (hM : MulTells c) (hc : 1000000000 < 4294967296 ^ c)
    (hD : ∀ (l : List Int) (T : Nat), Nums.rng l = true → Nums.may l = true → 0 < T → T ≤ 1000000000 → div_DivMod.f l (Nums.toL T) = some (Nums.toL (Nums.val l / T), Nums.toL (Nums.val l % T), 0)) :
    Nums.Ev (fun k => alidadelaw04_works.f k) true := by
  have hp1 := parse_bad ⟨#[48, 48]⟩ (by decide) (by decide)
  have hp2 := parse_bad ⟨#[]⟩ (by decide) (by decide)
  have hp3 := parse_bad ⟨#[49, 97]⟩ (by decide) (by decide)
  have hp4 := parse_bad ⟨#[45, 49]⟩ (by decide) (by decide)
  have hO := fun (x : Nat) (hx : x < 4294967296) => nat_Of_ev (x : Int) (by omega) (by omega)
  have hmay : ∀ x : Nat, x < 4294967296 → Nums.may (Nums.toL x) = true := fun x hx => Nums.may_toL (Nat.lt_of_lt_of_le (by rw [Nat.pow_one]; exact hx : x < 4294967296 ^ 1) (Nums.pow_le_gen 4294967296 1 65536 (by decide) (by decide)))
  have hlen : ∀ x : Nat, x < 4294967296 → (Nums.toL x).length ≤ 9223372036854775806 := fun x hx => by
    have := (Nums.may_iff.1 (hmay x hx)).1
    omega
  have hS := fun (n x : Nat) (hn : n ≤ 9) (hx : x < 4294967296) => dec_Split_ev c hM (Nums.toL x) n (Nums.rng_toL x) (hmay x hx) (by omega) (.inl (Nat.lt_of_le_of_lt (Nat.pow_le_pow_right (by decide) hn : 10 ^ n ≤ 10 ^ 9) hc)) (fun _ _ => hD _ _ (Nums.rng_toL x) (hmay x hx) (Nat.pow_pos (by decide)) (Nat.pow_le_pow_right (by decide) hn : 10 ^ n ≤ 10 ^ 9))
  simp only [Nums.val_toL] at hS
  have hT := dec_Ten_ev c hM 9 (by decide) (.inl hc)
  have hsame := fun (x y : Nat) (hx : x < 4294967296) => same_ev (Nums.toL x) (Nums.toL y) (hlen x hx)
  have his := law_is_ev [0, 0, 1] ⟨#[49, 56, 52, 52, 54, 55, 52, 52, 48, 55, 51, 55, 48, 57, 53, 53, 49, 54, 49, 54]⟩ (by decide) (by decide) (by decide) (deci_of_num _ (by decide) (by decide))
  rw [Nums.lim_eq (Nat.lt_of_lt_of_le (show 10 ^ 9 < 4294967296 ^ 1 by decide) (Nums.pow_le_gen 4294967296 1 65536 (by decide) (by decide)))] at hT
  clear hM hD hc
  have hl : ∀ k (xs : List ByteArray) (n i : Nat) (s : ByteArray), i < n → xs.length = n → n < 100 → rdOf ByteArray.empty xs (i : Int) = s → dec_Parse.f s = some ([], 4) → alidadelaw04_works.l0 (k + 1) xs (n : Int) (i : Int) = alidadelaw04_works.l0 k xs (n : Int) ((i + 1 : Nat) : Int) := by
    intro k xs n i s h1 h2 h3 h4 h5
    have ew : wrap64 ((i : Int) + 1) = ((i + 1 : Nat) : Int) := by unfold wrap64; omega
    rw [alidadelaw04_works.l0, if_pos (by omega), if_pos (by omega), if_pos (by omega), h4, h5, Option.bind_some, if_pos (show ((([] : List Int), (4 : Int)).1.length : Int) = 0 from rfl), if_pos (show (([] : List Int), (4 : Int)).2 = 4 from rfl), ew]
  have h0 : ∀ k, alidadelaw04_works.f (k + 4) = alidadelaw04_works.l0 k [(⟨#[48, 48]⟩ : ByteArray), ⟨#[]⟩, ⟨#[49, 97]⟩, ⟨#[45, 49]⟩] ((4 : Nat) : Int) ((4 : Nat) : Int) := by
    intro k
    show alidadelaw04_works.l0 (k + 3 + 1) [(⟨#[48, 48]⟩ : ByteArray), ⟨#[]⟩, ⟨#[49, 97]⟩, ⟨#[45, 49]⟩] ((4 : Nat) : Int) ((0 : Nat) : Int) = _
    rw [hl (k + 3) _ 4 0 ⟨#[48, 48]⟩ (by decide) rfl (by decide) rfl hp1, hl (k + 2) _ 4 1 ⟨#[]⟩ (by decide) rfl (by decide) rfl hp2, hl (k + 1) _ 4 2 ⟨#[49, 97]⟩ (by decide) rfl (by decide) rfl hp3, hl k _ 4 3 ⟨#[45, 49]⟩ (by decide) rfl (by decide) rfl hp4]
  refine Ev_add 4 ?_ h0
  refine Nums.Ev.succ ?_ (fun k => by rw [alidadelaw04_works.l0, if_neg (by decide)])
  have s1 := hS 2 12345 (by decide) (by decide)
  have s2 := hS 9 12345 (by decide) (by decide)
  refine Nums.Ev.bind (f := fun k => nat_Of.f k 12345) (hO 12345 (by decide)) ?_
  refine Nums.Ev.bind (f := fun k => dec_Split.f k (Nums.toL 12345) 2) s1 ?_
  refine Nums.Ev.bind (f := fun k => nat_Of.f k 12345) (hO 12345 (by decide)) ?_
  refine Nums.Ev.bind (f := fun k => dec_Split.f k (Nums.toL 12345) 9) s2 ?_
  refine Nums.Ev.bind (f := fun k => alidadelaw04_is.f k _ _) his ?_
  simp only [if_true]
  refine Nums.Ev.bind (f := fun k => dec_Ten.f k 9) hT ?_
  refine Nums.Ev.bind (f := fun k => nat_Of.f k 1000000000) (hO 1000000000 (by decide)) ?_
  refine Nums.Ev.bind (f := fun k => alidadelaw04_same.f k _ _) ((hsame 1000000000 1000000000 (by decide)).cast (decide_eq_true rfl)) ?_
  simp only [if_true]
  refine Nums.Ev.bind (f := fun k => nat_Of.f k 123) (hO 123 (by decide)) ?_
  refine Nums.Ev.bind (f := fun k => alidadelaw04_same.f k _ _) ((hsame 123 123 (by decide)).cast (decide_eq_true rfl)) ?_
  simp only [if_true]
  refine Nums.Ev.bind (f := fun k => nat_Of.f k 45) (hO 45 (by decide)) ?_
  refine Nums.Ev.bind (f := fun k => alidadelaw04_same.f k _ _) ((hsame 45 45 (by decide)).cast (decide_eq_true rfl)) ?_
  simp only [if_true]
  have e0 : (((Nums.toL (12345 / 10 ^ 9)).length : Nat) : Int) = 0 := by
    rw [show 12345 / 10 ^ 9 = 0 from rfl, Nums.toL_zero]
    rfl
  simp only [if_pos e0]
  refine Nums.Ev.bind (f := fun k => nat_Of.f k 12345) (hO 12345 (by decide)) ?_
  refine Nums.Ev.bind (f := fun k => alidadelaw04_same.f k _ _) ((hsame 12345 12345 (by decide)).cast (decide_eq_true rfl)) (Nums.Ev.some _)
theorem works_ev : Nums.Ev (fun k => alidadelaw04_works.f k) true :=
  law_works_ev 65536 mul_tells (Nat.lt_of_lt_of_le (show 1000000000 < 4294967296 ^ 1 by decide) (Nums.pow_le_gen 4294967296 1 65536 (by decide) (by decide))) (fun l T h1 h2 h3 h4 => div_tells l T h1 h2 h3 (by omega))
theorem alidadelaw04_works.true_only (k : Nat) (r : Bool) (h : alidadelaw04_works.f k = some r) : r = true := by
  obtain ⟨n, hn⟩ := works_ev
  have h1 := hn (max n k) (by omega)
  have h2 := at_rounds alidadelaw04_works.mono (show k ≤ max n k by omega) h
  exact Option.some.inj (h2.symm.trans h1)
set_option maxHeartbeats 8000000 in
set_option maxRecDepth 100000 in
theorem alidadelaw04_works.calls_true (k : Nat)  (w : World) (h : alidadelaw04_works.f k  = some true) :
    Calls Tryd.prog 10 #[] w fun e w' => e = .returned (.bool true) ∧ Below w.heap.size w w' := by
  have HB := Aside0.mk (Below.refl w.heap.size w)
  have H : ((some (([(⟨#[48, 48]⟩ : ByteArray), (⟨#[]⟩ : ByteArray), (⟨#[49, 97]⟩ : ByteArray), (⟨#[45, 49]⟩ : ByteArray)] : List ByteArray) : List ByteArray)).bind fun y246 => (alidadelaw04_works.l0 k y246 (y246.length : Int) 0)) = some true := h
  clear h
  obtain ⟨y246, hy246⟩ : ∃ y_ : List ByteArray, y_ = (([(⟨#[48, 48]⟩ : ByteArray), (⟨#[]⟩ : ByteArray), (⟨#[49, 97]⟩ : ByteArray), (⟨#[45, 49]⟩ : ByteArray)] : List ByteArray)) := ⟨_, rfl⟩
  replace H : (alidadelaw04_works.l0 k y246 (y246.length : Int) 0) = some true := by first | (rw [hy246]; with_reducible exact H) | (have H2_ := (Option.bind_some _ _).symm.trans H; rw [hy246]; with_reducible exact H2_) | (have H2_ := (Option.bind_some _ _).symm.trans H; with_reducible exact H2_) | with_reducible exact H | (rw [hy246]; exact H) | exact H
  have Ny246 := Aside0.mk hy246
  clear hy246
  have H' := Aside0.mk H
  clear H
  go_enter Tryd.func10, Tryd.ntmps10
  go_wp2_with (first | ((with_reducible refine gate_dst (N := 9) rfl ?_); (try (refine gate_guard (by rfl) ?_; dsimp only)); refine Kd.R_lit Kd.string _ 9 ?hg (N := 9) ?hd (xs := ([(⟨#[48, 48]⟩ : ByteArray), (⟨#[]⟩ : ByteArray), (⟨#[49, 97]⟩ : ByteArray), (⟨#[45, 49]⟩ : ByteArray)] : List ByteArray)) (inner := [.string (⟨#[48, 48]⟩ : ByteArray), .string (⟨#[]⟩ : ByteArray), .string (⟨#[49, 97]⟩ : ByteArray), .string (⟨#[45, 49]⟩ : ByteArray)]) (ok := fun _ => True) (okp := fun _ => True) ?hr ?hp (fun _ hk => hk) trivial (Below.refl _ _) (Nat.le_refl _) (by simp) ?_; (case hd => rfl); (case hg => rfl); (case hr => first | (go_simp; done) | (go_simp; rfl)); (case hp => exact (Reps.one (show Kd.M Kd.string _ _ _ (⟨#[48, 48]⟩ : ByteArray) [.string (⟨#[48, 48]⟩ : ByteArray)] from rfl) (Reps.one (show Kd.M Kd.string _ _ _ (⟨#[]⟩ : ByteArray) [.string (⟨#[]⟩ : ByteArray)] from rfl) (Reps.one (show Kd.M Kd.string _ _ _ (⟨#[49, 97]⟩ : ByteArray) [.string (⟨#[49, 97]⟩ : ByteArray)] from rfl) (Reps.one (show Kd.M Kd.string _ _ _ (⟨#[45, 49]⟩ : ByteArray) [.string (⟨#[45, 49]⟩ : ByteArray)] from rfl) (Reps.none _ _)))))); intro v247 w1 ho2 hb hg_ hnew_; clear hg_ hnew_; (first | rw [← Ny246.out] at ho2 | (simp only [Int.reduceToNat] at ho2; rw [← Ny246.out] at ho2)); have n0_ := Aside0.mk (Kd.R_lower ho2 (below_size (by repeat (first | (with_reducible first | exact HB.out | apply below_alloc | apply pw_below_drewN | apply below_drew1) | exact HB.out)))); have n1_ := Aside0.mk (below_step (by repeat (first | (with_reducible first | exact HB.out | apply below_alloc | apply pw_below_drewN | apply below_drew1) | exact HB.out)) hb); clear HB; have HO248 := n0_; have HB := n1_; clear n0_ n1_; clear hb ho2; obtain ⟨Ao3, co3, eo3⟩ := Kd.R_slice HO248.out; subst eo3))
  go_loopg [11] k (fun kq v11 w' => ∃ (x11_1 : Int), v11 = .int .i64 x11_1 ∧ Aside0 (alidadelaw04_works.l0 kq y246 (y246.length : Int) x11_1 = some true) ∧ Aside0 (kq ≤ k) ∧ Aside0 (Kd.R Kd.string 9 w' w.heap.size (fun _ => True) (.slice Ao3 y246.length co3) y246) ∧ Aside0 (Below w.heap.size w w'))
  case atStart => exact ⟨(0), (by first | rfl | (simp; done) | (simp [*]; done)), H', ⟨Nat.le_refl _⟩, ⟨by (with_reducible repeat (first | apply Kd.R_alloc | apply Kd.R_drewN | apply Kd.R_drew)); exact HO248.out⟩, ⟨by repeat (first | (with_reducible first | exact HB.out | apply below_alloc | apply pw_below_drewN | apply below_drew1) | exact HB.out)⟩⟩
  case round =>
    clear H'
    try clear c1
    try clear p2
    obtain ⟨x11_1, rfl, HA, HK1, HO_9, HB⟩ := hrel
    cases gk with
    | zero => exact absurd HA.out (by simp [alidadelaw04_works.l0])
    | succ k1 =>
      have H := HA.out
      clear HA
      simp only [alidadelaw04_works.l0] at H
      by_cases c4 : x11_1 < (y246.length : Int)
      · rw [if_pos c4] at H
        have c4b0 : decide (x11_1 < (y246.length : Int)) = true := decide_eq_true c4
        clear c4
        by_cases c5 : 0 ≤ x11_1
        · rw [if_pos c5] at H
          have c5b0 : decide (0 ≤ x11_1) = true := decide_eq_true c5
          clear c5
          by_cases c6 : x11_1 < (y246.length : Int)
          · rw [if_pos c6] at H
            have c6b0 : decide (x11_1 < (y246.length : Int)) = true := decide_eq_true c6
            clear c6
            replace H := Option.bind_eq_some_iff.mp H
            obtain ⟨⟨t250, t251⟩, A70, H⟩ := H
            replace H : (if (t250.length : Int) = 0 then (if t251 = 4 then (alidadelaw04_works.l0 k1 y246 (y246.length : Int) (wrap64 (x11_1 + 1))) else (some false)) else (some false)) = some true := H
            have A7 := Aside0.mk A70
            clear A70
            by_cases c8 : (t250.length : Int) = 0
            · rw [if_pos c8] at H
              have c8b0 : ((t250.length : Int) == 0) = true := beq_iff_eq.mpr c8
              have c8b1 : ((t250.length : Int) != 0) = false := bne_eq_false_iff_eq.mpr c8
              clear c8
              by_cases c9 : t251 = 4
              · rw [if_pos c9] at H
                have c9b0 : (t251 == 4) = true := beq_iff_eq.mpr c9
                have c9b1 : (t251 != 4) = false := bne_eq_false_iff_eq.mpr c9
                clear c9
                have H' := Aside0.mk H
                clear H
                have p249 : 0 ≤ (x11_1 : Int) := of_decide_eq_true (by first | (with_reducible assumption) | assumption)
                have q249 : x11_1 < (y246.length : Int) := of_decide_eq_true (by first | (with_reducible assumption) | assumption)
                obtain ⟨ad249, e249, hx249_0⟩ := Kd.at_string (Kd.R_reads' HO_9.out).2.2 x11_1 p249 q249
                cases e249
                replace p249 := eq_true p249
                replace q249 := eq_true q249
                go_wp2_with (first | ((with_reducible refine gate_callee (f := 14) rfl ?_); refine goesL_ (some 17) rfl rfl Tryd.func14 (by kernel_rfl) rfl #[.string (rdOf ByteArray.empty y246 x11_1)] rfl (by (try simp only [List.map_toArray, List.map_cons, List.map_nil]); first | done | rfl | (simp only [List.length_drop, List.length_take]; rfl)) ?_; (with_reducible refine (dec_Parse.calls (rdOf ByteArray.empty y246 x11_1) t250 t251 _ A7.out).mono ?_); rintro e w10 ⟨v252, rfl, ho0, hb⟩; refine ⟨_, rfl, ?_⟩; have n0_ := Aside0.mk (Kd.R_below (by (with_reducible repeat (first | apply Kd.R_alloc | apply Kd.R_drewN | apply Kd.R_drew)); exact HO_9.out) hb); have n1_ := Aside0.mk (Kd.R_lower ho0 (below_size (by repeat (first | (with_reducible first | exact HB.out | apply below_alloc | apply pw_below_drewN | apply below_drew1) | exact HB.out)))); have n2_ := Aside0.mk (below_step (by repeat (first | (with_reducible first | exact HB.out | apply below_alloc | apply pw_below_drewN | apply below_drew1) | exact HB.out)) hb); clear HO_9; clear HB; have HO_9 := n0_; have HO253 := n1_; have HB := n2_; clear n0_ n1_ n2_; (try clear hb); (try clear hb2); (try clear hk); (try clear hi); (try clear ho0); obtain ⟨Ao11, co11, eo11⟩ := Kd.R_slice HO253.out; subst eo11))
                go_roundg k1
                case measure => have := HK1.out; omega
                case rel => exact ⟨(wrap64 (x11_1 + 1)), (by first | rfl | (simp; done) | (simp [*]; done)), H', ⟨by have := HK1.out; omega⟩, ⟨by (with_reducible repeat (first | apply Kd.R_alloc | apply Kd.R_drewN | apply Kd.R_drew)); exact HO_9.out⟩, ⟨by repeat (first | (with_reducible first | exact HB.out | apply below_alloc | apply pw_below_drewN | apply below_drew1) | exact HB.out)⟩⟩
              · rw [if_neg c9] at H
                have c9b0 : (t251 == 4) = false := beq_eq_false_iff_ne.mpr c9
                have c9b1 : (t251 != 4) = true := bne_iff_ne.mpr c9
                exact absurd (Option.some.inj H) (by decide)
            · rw [if_neg c8] at H
              have c8b0 : ((t250.length : Int) == 0) = false := beq_eq_false_iff_ne.mpr c8
              have c8b1 : ((t250.length : Int) != 0) = true := bne_iff_ne.mpr c8
              have c8b2 : ¬ (t250 = []) := fun h_ => c8 (by rw [h_]; rfl)
              exact absurd (Option.some.inj H) (by decide)
          · rw [if_neg c6] at H
            exact absurd H (by simp)
        · rw [if_neg c5] at H
          exact absurd H (by simp)
      · rw [if_neg c4] at H
        have c4b0 : decide (x11_1 < (y246.length : Int)) = false := decide_eq_false c4
        clear c4
        replace H := Option.bind_eq_some_iff.mp H
        obtain ⟨t254, A160, H⟩ := H
        replace H : ((dec_Split.f k1 t254 2).bind fun bt257 => ((nat_Of.f k1 12345).bind fun t263 => ((dec_Split.f k1 t263 9).bind fun bt266 => ((alidadelaw04_is.f k1 (([0, 0, 1] : List Int)) (⟨#[49, 56, 52, 52, 54, 55, 52, 52, 48, 55, 51, 55, 48, 57, 53, 53, 49, 54, 49, 54]⟩ : ByteArray)).bind fun t275 => (if t275 = true then ((dec_Ten.f k1 9).bind fun t276 => ((nat_Of.f k1 1000000000).bind fun t279 => ((alidadelaw04_same.f k1 t276 t279).bind fun t282 => (if t282 = true then ((nat_Of.f k1 123).bind fun t283 => ((alidadelaw04_same.f k1 bt257.1 t283).bind fun t286 => (if t286 = true then ((nat_Of.f k1 45).bind fun t287 => ((alidadelaw04_same.f k1 bt257.2 t287).bind fun t290 => (if t290 = true then (if (bt266.1.length : Int) = 0 then ((nat_Of.f k1 12345).bind fun t291 => ((alidadelaw04_same.f k1 bt266.2 t291).bind fun t294 => (some t294))) else (some false)) else (some false)))) else (some false)))) else (some false))))) else (some false)))))) = some true := H
        have A16 := Aside0.mk A160
        clear A160
        replace H := Option.bind_eq_some_iff.mp H
        obtain ⟨⟨t257, t258⟩, A170, H⟩ := H
        replace H : ((nat_Of.f k1 12345).bind fun t263 => ((dec_Split.f k1 t263 9).bind fun bt266 => ((alidadelaw04_is.f k1 (([0, 0, 1] : List Int)) (⟨#[49, 56, 52, 52, 54, 55, 52, 52, 48, 55, 51, 55, 48, 57, 53, 53, 49, 54, 49, 54]⟩ : ByteArray)).bind fun t275 => (if t275 = true then ((dec_Ten.f k1 9).bind fun t276 => ((nat_Of.f k1 1000000000).bind fun t279 => ((alidadelaw04_same.f k1 t276 t279).bind fun t282 => (if t282 = true then ((nat_Of.f k1 123).bind fun t283 => ((alidadelaw04_same.f k1 t257 t283).bind fun t286 => (if t286 = true then ((nat_Of.f k1 45).bind fun t287 => ((alidadelaw04_same.f k1 t258 t287).bind fun t290 => (if t290 = true then (if (bt266.1.length : Int) = 0 then ((nat_Of.f k1 12345).bind fun t291 => ((alidadelaw04_same.f k1 bt266.2 t291).bind fun t294 => (some t294))) else (some false)) else (some false)))) else (some false)))) else (some false))))) else (some false))))) = some true := H
        have A17 := Aside0.mk A170
        clear A170
        replace H := Option.bind_eq_some_iff.mp H
        obtain ⟨t263, A180, H⟩ := H
        replace H : ((dec_Split.f k1 t263 9).bind fun bt266 => ((alidadelaw04_is.f k1 (([0, 0, 1] : List Int)) (⟨#[49, 56, 52, 52, 54, 55, 52, 52, 48, 55, 51, 55, 48, 57, 53, 53, 49, 54, 49, 54]⟩ : ByteArray)).bind fun t275 => (if t275 = true then ((dec_Ten.f k1 9).bind fun t276 => ((nat_Of.f k1 1000000000).bind fun t279 => ((alidadelaw04_same.f k1 t276 t279).bind fun t282 => (if t282 = true then ((nat_Of.f k1 123).bind fun t283 => ((alidadelaw04_same.f k1 t257 t283).bind fun t286 => (if t286 = true then ((nat_Of.f k1 45).bind fun t287 => ((alidadelaw04_same.f k1 t258 t287).bind fun t290 => (if t290 = true then (if (bt266.1.length : Int) = 0 then ((nat_Of.f k1 12345).bind fun t291 => ((alidadelaw04_same.f k1 bt266.2 t291).bind fun t294 => (some t294))) else (some false)) else (some false)))) else (some false)))) else (some false))))) else (some false)))) = some true := H
        have A18 := Aside0.mk A180
        clear A180
        replace H := Option.bind_eq_some_iff.mp H
        obtain ⟨⟨t266, t267⟩, A190, H⟩ := H
        replace H : ((alidadelaw04_is.f k1 (([0, 0, 1] : List Int)) (⟨#[49, 56, 52, 52, 54, 55, 52, 52, 48, 55, 51, 55, 48, 57, 53, 53, 49, 54, 49, 54]⟩ : ByteArray)).bind fun t275 => (if t275 = true then ((dec_Ten.f k1 9).bind fun t276 => ((nat_Of.f k1 1000000000).bind fun t279 => ((alidadelaw04_same.f k1 t276 t279).bind fun t282 => (if t282 = true then ((nat_Of.f k1 123).bind fun t283 => ((alidadelaw04_same.f k1 t257 t283).bind fun t286 => (if t286 = true then ((nat_Of.f k1 45).bind fun t287 => ((alidadelaw04_same.f k1 t258 t287).bind fun t290 => (if t290 = true then (if (t266.length : Int) = 0 then ((nat_Of.f k1 12345).bind fun t291 => ((alidadelaw04_same.f k1 t267 t291).bind fun t294 => (some t294))) else (some false)) else (some false)))) else (some false)))) else (some false))))) else (some false))) = some true := H
        have A19 := Aside0.mk A190
        clear A190
        obtain ⟨y272, hy272⟩ : ∃ y_ : List Int, y_ = (([0, 0, 1] : List Int)) := ⟨_, rfl⟩
        replace H : ((alidadelaw04_is.f k1 y272 (⟨#[49, 56, 52, 52, 54, 55, 52, 52, 48, 55, 51, 55, 48, 57, 53, 53, 49, 54, 49, 54]⟩ : ByteArray)).bind fun t275 => (if t275 = true then ((dec_Ten.f k1 9).bind fun t276 => ((nat_Of.f k1 1000000000).bind fun t279 => ((alidadelaw04_same.f k1 t276 t279).bind fun t282 => (if t282 = true then ((nat_Of.f k1 123).bind fun t283 => ((alidadelaw04_same.f k1 t257 t283).bind fun t286 => (if t286 = true then ((nat_Of.f k1 45).bind fun t287 => ((alidadelaw04_same.f k1 t258 t287).bind fun t290 => (if t290 = true then (if (t266.length : Int) = 0 then ((nat_Of.f k1 12345).bind fun t291 => ((alidadelaw04_same.f k1 t267 t291).bind fun t294 => (some t294))) else (some false)) else (some false)))) else (some false)))) else (some false))))) else (some false))) = some true := by first | (rw [hy272]; with_reducible exact H) | (have H2_ := (Option.bind_some _ _).symm.trans H; rw [hy272]; with_reducible exact H2_) | (have H2_ := (Option.bind_some _ _).symm.trans H; with_reducible exact H2_) | with_reducible exact H | (rw [hy272]; exact H) | exact H
        have Ny272 := Aside0.mk hy272
        clear hy272
        replace H := Option.bind_eq_some_iff.mp H
        obtain ⟨t275, A200, H⟩ := H
        replace H : (if t275 = true then ((dec_Ten.f k1 9).bind fun t276 => ((nat_Of.f k1 1000000000).bind fun t279 => ((alidadelaw04_same.f k1 t276 t279).bind fun t282 => (if t282 = true then ((nat_Of.f k1 123).bind fun t283 => ((alidadelaw04_same.f k1 t257 t283).bind fun t286 => (if t286 = true then ((nat_Of.f k1 45).bind fun t287 => ((alidadelaw04_same.f k1 t258 t287).bind fun t290 => (if t290 = true then (if (t266.length : Int) = 0 then ((nat_Of.f k1 12345).bind fun t291 => ((alidadelaw04_same.f k1 t267 t291).bind fun t294 => (some t294))) else (some false)) else (some false)))) else (some false)))) else (some false))))) else (some false)) = some true := H
        have A20 := Aside0.mk A200
        clear A200
        by_cases c21 : t275 = true
        · subst c21
          have H1 : ((dec_Ten.f k1 9).bind fun t276 => ((nat_Of.f k1 1000000000).bind fun t279 => ((alidadelaw04_same.f k1 t276 t279).bind fun t282 => (if t282 = true then ((nat_Of.f k1 123).bind fun t283 => ((alidadelaw04_same.f k1 t257 t283).bind fun t286 => (if t286 = true then ((nat_Of.f k1 45).bind fun t287 => ((alidadelaw04_same.f k1 t258 t287).bind fun t290 => (if t290 = true then (if (t266.length : Int) = 0 then ((nat_Of.f k1 12345).bind fun t291 => ((alidadelaw04_same.f k1 t267 t291).bind fun t294 => (some t294))) else (some false)) else (some false)))) else (some false)))) else (some false))))) = some true := by rw [if_pos rfl] at H; exact H
          clear H
          have H := H1
          clear H1
          replace H := Option.bind_eq_some_iff.mp H
          obtain ⟨t276, A220, H⟩ := H
          replace H : ((nat_Of.f k1 1000000000).bind fun t279 => ((alidadelaw04_same.f k1 t276 t279).bind fun t282 => (if t282 = true then ((nat_Of.f k1 123).bind fun t283 => ((alidadelaw04_same.f k1 t257 t283).bind fun t286 => (if t286 = true then ((nat_Of.f k1 45).bind fun t287 => ((alidadelaw04_same.f k1 t258 t287).bind fun t290 => (if t290 = true then (if (t266.length : Int) = 0 then ((nat_Of.f k1 12345).bind fun t291 => ((alidadelaw04_same.f k1 t267 t291).bind fun t294 => (some t294))) else (some false)) else (some false)))) else (some false)))) else (some false)))) = some true := H
          have A22 := Aside0.mk A220
          clear A220
          replace H := Option.bind_eq_some_iff.mp H
          obtain ⟨t279, A230, H⟩ := H
          replace H : ((alidadelaw04_same.f k1 t276 t279).bind fun t282 => (if t282 = true then ((nat_Of.f k1 123).bind fun t283 => ((alidadelaw04_same.f k1 t257 t283).bind fun t286 => (if t286 = true then ((nat_Of.f k1 45).bind fun t287 => ((alidadelaw04_same.f k1 t258 t287).bind fun t290 => (if t290 = true then (if (t266.length : Int) = 0 then ((nat_Of.f k1 12345).bind fun t291 => ((alidadelaw04_same.f k1 t267 t291).bind fun t294 => (some t294))) else (some false)) else (some false)))) else (some false)))) else (some false))) = some true := H
          have A23 := Aside0.mk A230
          clear A230
          replace H := Option.bind_eq_some_iff.mp H
          obtain ⟨t282, A240, H⟩ := H
          replace H : (if t282 = true then ((nat_Of.f k1 123).bind fun t283 => ((alidadelaw04_same.f k1 t257 t283).bind fun t286 => (if t286 = true then ((nat_Of.f k1 45).bind fun t287 => ((alidadelaw04_same.f k1 t258 t287).bind fun t290 => (if t290 = true then (if (t266.length : Int) = 0 then ((nat_Of.f k1 12345).bind fun t291 => ((alidadelaw04_same.f k1 t267 t291).bind fun t294 => (some t294))) else (some false)) else (some false)))) else (some false)))) else (some false)) = some true := H
          have A24 := Aside0.mk A240
          clear A240
          by_cases c25 : t282 = true
          · subst c25
            have H1 : ((nat_Of.f k1 123).bind fun t283 => ((alidadelaw04_same.f k1 t257 t283).bind fun t286 => (if t286 = true then ((nat_Of.f k1 45).bind fun t287 => ((alidadelaw04_same.f k1 t258 t287).bind fun t290 => (if t290 = true then (if (t266.length : Int) = 0 then ((nat_Of.f k1 12345).bind fun t291 => ((alidadelaw04_same.f k1 t267 t291).bind fun t294 => (some t294))) else (some false)) else (some false)))) else (some false)))) = some true := by rw [if_pos rfl] at H; exact H
            clear H
            have H := H1
            clear H1
            replace H := Option.bind_eq_some_iff.mp H
            obtain ⟨t283, A260, H⟩ := H
            replace H : ((alidadelaw04_same.f k1 t257 t283).bind fun t286 => (if t286 = true then ((nat_Of.f k1 45).bind fun t287 => ((alidadelaw04_same.f k1 t258 t287).bind fun t290 => (if t290 = true then (if (t266.length : Int) = 0 then ((nat_Of.f k1 12345).bind fun t291 => ((alidadelaw04_same.f k1 t267 t291).bind fun t294 => (some t294))) else (some false)) else (some false)))) else (some false))) = some true := H
            have A26 := Aside0.mk A260
            clear A260
            replace H := Option.bind_eq_some_iff.mp H
            obtain ⟨t286, A270, H⟩ := H
            replace H : (if t286 = true then ((nat_Of.f k1 45).bind fun t287 => ((alidadelaw04_same.f k1 t258 t287).bind fun t290 => (if t290 = true then (if (t266.length : Int) = 0 then ((nat_Of.f k1 12345).bind fun t291 => ((alidadelaw04_same.f k1 t267 t291).bind fun t294 => (some t294))) else (some false)) else (some false)))) else (some false)) = some true := H
            have A27 := Aside0.mk A270
            clear A270
            by_cases c28 : t286 = true
            · subst c28
              have H1 : ((nat_Of.f k1 45).bind fun t287 => ((alidadelaw04_same.f k1 t258 t287).bind fun t290 => (if t290 = true then (if (t266.length : Int) = 0 then ((nat_Of.f k1 12345).bind fun t291 => ((alidadelaw04_same.f k1 t267 t291).bind fun t294 => (some t294))) else (some false)) else (some false)))) = some true := by rw [if_pos rfl] at H; exact H
              clear H
              have H := H1
              clear H1
              replace H := Option.bind_eq_some_iff.mp H
              obtain ⟨t287, A290, H⟩ := H
              replace H : ((alidadelaw04_same.f k1 t258 t287).bind fun t290 => (if t290 = true then (if (t266.length : Int) = 0 then ((nat_Of.f k1 12345).bind fun t291 => ((alidadelaw04_same.f k1 t267 t291).bind fun t294 => (some t294))) else (some false)) else (some false))) = some true := H
              have A29 := Aside0.mk A290
              clear A290
              replace H := Option.bind_eq_some_iff.mp H
              obtain ⟨t290, A300, H⟩ := H
              replace H : (if t290 = true then (if (t266.length : Int) = 0 then ((nat_Of.f k1 12345).bind fun t291 => ((alidadelaw04_same.f k1 t267 t291).bind fun t294 => (some t294))) else (some false)) else (some false)) = some true := H
              have A30 := Aside0.mk A300
              clear A300
              by_cases c31 : t290 = true
              · subst c31
                have H1 : (if (t266.length : Int) = 0 then ((nat_Of.f k1 12345).bind fun t291 => ((alidadelaw04_same.f k1 t267 t291).bind fun t294 => (some t294))) else (some false)) = some true := by rw [if_pos rfl] at H; exact H
                clear H
                have H := H1
                clear H1
                by_cases c32 : (t266.length : Int) = 0
                · rw [if_pos c32] at H
                  have c32b0 : ((t266.length : Int) == 0) = true := beq_iff_eq.mpr c32
                  have c32b1 : ((t266.length : Int) != 0) = false := bne_eq_false_iff_eq.mpr c32
                  clear c32
                  replace H := Option.bind_eq_some_iff.mp H
                  obtain ⟨t291, A330, H⟩ := H
                  replace H : ((alidadelaw04_same.f k1 t267 t291).bind fun t294 => (some t294)) = some true := H
                  have A33 := Aside0.mk A330
                  clear A330
                  replace H := Option.bind_eq_some_iff.mp H
                  obtain ⟨t294, A340, H⟩ := H
                  replace H : (some t294) = some true := H
                  have A34 := Aside0.mk A340
                  clear A340
                  obtain rfl := Option.some.inj H
                  go_wp2_with (first | ((with_reducible refine gate_callee (f := 29) rfl ?_); refine goesL_ (some 29) rfl rfl Tryd.func29 (by kernel_rfl) rfl #[.int .u64 12345] rfl (by (try simp only [List.map_toArray, List.map_cons, List.map_nil]); first | done | rfl | (simp only [List.length_drop, List.length_take]; rfl)) ?_; (with_reducible refine (nat_Of.calls k1 12345 t254 _ A16.out).mono ?_); rintro e w35 ⟨v255, rfl, ho0, hb⟩; refine ⟨_, rfl, ?_⟩; have n0_ := Aside0.mk (Kd.R_below (by (with_reducible repeat (first | apply Kd.R_alloc | apply Kd.R_drewN | apply Kd.R_drew)); exact HO_9.out) hb); have n1_ := Aside0.mk (Kd.R_lower ho0 (below_size (by repeat (first | (with_reducible first | exact HB.out | apply below_alloc | apply pw_below_drewN | apply below_drew1) | exact HB.out)))); have n2_ := Aside0.mk (below_step (by repeat (first | (with_reducible first | exact HB.out | apply below_alloc | apply pw_below_drewN | apply below_drew1) | exact HB.out)) hb); clear HO_9; clear HB; have HO_9 := n0_; have HO256 := n1_; have HB := n2_; clear n0_ n1_ n2_; (try clear hb); (try clear hb2); (try clear hk); (try clear hi); (try clear ho0); obtain ⟨Ao36, co36, eo36⟩ := Kd.R_slice HO256.out; subst eo36) | ((with_reducible refine gate_callee (f := 21) rfl ?_); refine goesL_ (some 30) rfl rfl Tryd.func21 (by kernel_rfl) rfl #[.slice Ao36 t254.length co36, .int .i64 2] rfl (by (try simp only [List.map_toArray, List.map_cons, List.map_nil]); first | done | rfl | (simp only [List.length_drop, List.length_take]; rfl)) ?_; (with_reducible refine (dec_Split.calls k1 _ _ t254 2 t257 t258 _ ?side1 ?side2 A17.out).mono ?_); (case side1 => repeat (first | exact (Kd.R_reads' HO256.out).2.2 | (with_reducible refine Kd.C_alloc ?_ _) | (with_reducible refine Kd.C_drewN ?_ _) | (with_reducible refine Kd.C_drew ?_))); (case side2 => exact (Kd.R_reads' HO256.out).2.1); rintro e w37 ⟨v259, v261, rfl, ho0, ho1, hb⟩; refine ⟨_, rfl, ?_⟩; have n0_ := Aside0.mk (Kd.R_below (by (with_reducible repeat (first | apply Kd.R_alloc | apply Kd.R_drewN | apply Kd.R_drew)); exact HO_9.out) hb); have n1_ := Aside0.mk (Kd.R_mono (Kd.R_told (Kd.R_told (Kd.R_old (by (with_reducible repeat (first | apply Kd.R_alloc | apply Kd.R_drewN | apply Kd.R_drew)); exact HO256.out) hb) (Kd.R_base ho0)) (Kd.R_base ho1)) (fun _ h_ => h_.1)); have n2_ := Aside0.mk (Kd.R_lower (Kd.R_new' ho0 (Kd.R_lt (by (with_reducible repeat (first | apply Kd.R_alloc | apply Kd.R_drewN | apply Kd.R_drew)); exact HO256.out))) (below_size (by repeat (first | (with_reducible first | exact HB.out | apply below_alloc | apply pw_below_drewN | apply below_drew1) | exact HB.out)))); have n3_ := Aside0.mk (Kd.R_lower (Kd.R_new' ho1 (Kd.R_lt (by (with_reducible repeat (first | apply Kd.R_alloc | apply Kd.R_drewN | apply Kd.R_drew)); exact HO256.out))) (below_size (by repeat (first | (with_reducible first | exact HB.out | apply below_alloc | apply pw_below_drewN | apply below_drew1) | exact HB.out)))); have n4_ := Aside0.mk (below_step (by repeat (first | (with_reducible first | exact HB.out | apply below_alloc | apply pw_below_drewN | apply below_drew1) | exact HB.out)) hb); clear HO_9; clear HO256; clear HB; have HO_9 := n0_; have HO256 := n1_; have HO260 := n2_; have HO262 := n3_; have HB := n4_; clear n0_ n1_ n2_ n3_ n4_; (try clear hb); (try clear hb2); (try clear hk); (try clear hi); (try clear ho0); (try clear ho1)) | ((with_reducible refine gate_callee (f := 29) rfl ?_); refine goesL_ (some 34) rfl rfl Tryd.func29 (by kernel_rfl) rfl #[.int .u64 12345] rfl (by (try simp only [List.map_toArray, List.map_cons, List.map_nil]); first | done | rfl | (simp only [List.length_drop, List.length_take]; rfl)) ?_; (with_reducible refine (nat_Of.calls k1 12345 t263 _ A18.out).mono ?_); rintro e w38 ⟨v264, rfl, ho0, hb⟩; refine ⟨_, rfl, ?_⟩; have n0_ := Aside0.mk (Kd.R_below (by (with_reducible repeat (first | apply Kd.R_alloc | apply Kd.R_drewN | apply Kd.R_drew)); exact HO_9.out) hb); have n1_ := Aside0.mk (Kd.R_elder' (by (with_reducible repeat (first | apply Kd.R_alloc | apply Kd.R_drewN | apply Kd.R_drew)); exact HO256.out) (Kd.R_base ho0) hb); have n2_ := Aside0.mk (Kd.R_elder' (by (with_reducible repeat (first | apply Kd.R_alloc | apply Kd.R_drewN | apply Kd.R_drew)); exact HO260.out) (Kd.R_base ho0) hb); have n3_ := Aside0.mk (Kd.R_elder' (by (with_reducible repeat (first | apply Kd.R_alloc | apply Kd.R_drewN | apply Kd.R_drew)); exact HO262.out) (Kd.R_base ho0) hb); have n4_ := Aside0.mk (Kd.R_lower (Kd.R_new' (Kd.R_new' (Kd.R_new' ho0 (Kd.R_lt (by (with_reducible repeat (first | apply Kd.R_alloc | apply Kd.R_drewN | apply Kd.R_drew)); exact HO256.out))) (Kd.R_lt (by (with_reducible repeat (first | apply Kd.R_alloc | apply Kd.R_drewN | apply Kd.R_drew)); exact HO260.out))) (Kd.R_lt (by (with_reducible repeat (first | apply Kd.R_alloc | apply Kd.R_drewN | apply Kd.R_drew)); exact HO262.out))) (below_size (by repeat (first | (with_reducible first | exact HB.out | apply below_alloc | apply pw_below_drewN | apply below_drew1) | exact HB.out)))); have n5_ := Aside0.mk (below_step (by repeat (first | (with_reducible first | exact HB.out | apply below_alloc | apply pw_below_drewN | apply below_drew1) | exact HB.out)) hb); clear HO_9; clear HO256; clear HO260; clear HO262; clear HB; have HO_9 := n0_; have HO256 := n1_; have HO260 := n2_; have HO262 := n3_; have HO265 := n4_; have HB := n5_; clear n0_ n1_ n2_ n3_ n4_ n5_; (try clear hb); (try clear hb2); (try clear hk); (try clear hi); (try clear ho0); obtain ⟨Ao39, co39, eo39⟩ := Kd.R_slice HO265.out; subst eo39) | ((with_reducible refine gate_callee (f := 21) rfl ?_); refine goesL_ (some 35) rfl rfl Tryd.func21 (by kernel_rfl) rfl #[.slice Ao39 t263.length co39, .int .i64 9] rfl (by (try simp only [List.map_toArray, List.map_cons, List.map_nil]); first | done | rfl | (simp only [List.length_drop, List.length_take]; rfl)) ?_; (with_reducible refine (dec_Split.calls k1 _ _ t263 9 t266 t267 _ ?side1 ?side2 A19.out).mono ?_); (case side1 => repeat (first | exact (Kd.R_reads' HO265.out).2.2 | (with_reducible refine Kd.C_alloc ?_ _) | (with_reducible refine Kd.C_drewN ?_ _) | (with_reducible refine Kd.C_drew ?_))); (case side2 => exact (Kd.R_reads' HO265.out).2.1); rintro e w40 ⟨v268, v270, rfl, ho0, ho1, hb⟩; refine ⟨_, rfl, ?_⟩; have n0_ := Aside0.mk (Kd.R_below (by (with_reducible repeat (first | apply Kd.R_alloc | apply Kd.R_drewN | apply Kd.R_drew)); exact HO_9.out) hb); have n1_ := Aside0.mk (Kd.R_mono (Kd.R_told (Kd.R_told (Kd.R_old (by (with_reducible repeat (first | apply Kd.R_alloc | apply Kd.R_drewN | apply Kd.R_drew)); exact HO256.out) hb) (Kd.R_base ho0)) (Kd.R_base ho1)) (fun _ h_ => h_.1)); have n2_ := Aside0.mk (Kd.R_mono (Kd.R_told (Kd.R_told (Kd.R_old (by (with_reducible repeat (first | apply Kd.R_alloc | apply Kd.R_drewN | apply Kd.R_drew)); exact HO260.out) hb) (Kd.R_base ho0)) (Kd.R_base ho1)) (fun _ h_ => h_.1)); have n3_ := Aside0.mk (Kd.R_mono (Kd.R_told (Kd.R_told (Kd.R_old (by (with_reducible repeat (first | apply Kd.R_alloc | apply Kd.R_drewN | apply Kd.R_drew)); exact HO262.out) hb) (Kd.R_base ho0)) (Kd.R_base ho1)) (fun _ h_ => h_.1)); have n4_ := Aside0.mk (Kd.R_mono (Kd.R_told (Kd.R_told (Kd.R_old (by (with_reducible repeat (first | apply Kd.R_alloc | apply Kd.R_drewN | apply Kd.R_drew)); exact HO265.out) hb) (Kd.R_base ho0)) (Kd.R_base ho1)) (fun _ h_ => h_.1)); have n5_ := Aside0.mk (Kd.R_lower (Kd.R_new' (Kd.R_new' (Kd.R_new' (Kd.R_new' ho0 (Kd.R_lt (by (with_reducible repeat (first | apply Kd.R_alloc | apply Kd.R_drewN | apply Kd.R_drew)); exact HO256.out))) (Kd.R_lt (by (with_reducible repeat (first | apply Kd.R_alloc | apply Kd.R_drewN | apply Kd.R_drew)); exact HO260.out))) (Kd.R_lt (by (with_reducible repeat (first | apply Kd.R_alloc | apply Kd.R_drewN | apply Kd.R_drew)); exact HO262.out))) (Kd.R_lt (by (with_reducible repeat (first | apply Kd.R_alloc | apply Kd.R_drewN | apply Kd.R_drew)); exact HO265.out))) (below_size (by repeat (first | (with_reducible first | exact HB.out | apply below_alloc | apply pw_below_drewN | apply below_drew1) | exact HB.out)))); have n6_ := Aside0.mk (Kd.R_lower (Kd.R_new' (Kd.R_new' (Kd.R_new' (Kd.R_new' ho1 (Kd.R_lt (by (with_reducible repeat (first | apply Kd.R_alloc | apply Kd.R_drewN | apply Kd.R_drew)); exact HO256.out))) (Kd.R_lt (by (with_reducible repeat (first | apply Kd.R_alloc | apply Kd.R_drewN | apply Kd.R_drew)); exact HO260.out))) (Kd.R_lt (by (with_reducible repeat (first | apply Kd.R_alloc | apply Kd.R_drewN | apply Kd.R_drew)); exact HO262.out))) (Kd.R_lt (by (with_reducible repeat (first | apply Kd.R_alloc | apply Kd.R_drewN | apply Kd.R_drew)); exact HO265.out))) (below_size (by repeat (first | (with_reducible first | exact HB.out | apply below_alloc | apply pw_below_drewN | apply below_drew1) | exact HB.out)))); have n7_ := Aside0.mk (below_step (by repeat (first | (with_reducible first | exact HB.out | apply below_alloc | apply pw_below_drewN | apply below_drew1) | exact HB.out)) hb); clear HO_9; clear HO256; clear HO260; clear HO262; clear HO265; clear HB; have HO_9 := n0_; have HO256 := n1_; have HO260 := n2_; have HO262 := n3_; have HO265 := n4_; have HO269 := n5_; have HO271 := n6_; have HB := n7_; clear n0_ n1_ n2_ n3_ n4_ n5_ n6_ n7_; (try clear hb); (try clear hb2); (try clear hk); (try clear hi); (try clear ho0); (try clear ho1)) | ((with_reducible refine gate_dst (N := 38) rfl ?_); (try (refine gate_guard (by rfl) ?_; dsimp only)); refine Kd.R_lit (Kd.int .u32) _ 39 ?hg (N := 38) ?hd (xs := ([0, 0, 1] : List Int)) (inner := [.int .u32 0, .int .u32 0, .int .u32 1]) (ok := fun _ => True) (okp := fun _ => True) ?hr ?hp (fun _ hk => hk) trivial (Below.refl _ _) (Nat.le_refl _) (by simp) ?_; (case hd => rfl); (case hg => rfl); (case hr => first | (go_simp; done) | (go_simp; rfl)); (case hp => exact (Reps.one (show Kd.M (Kd.int .u32) _ _ _ 0 [.int .u32 0] from rfl) (Reps.one (show Kd.M (Kd.int .u32) _ _ _ 0 [.int .u32 0] from rfl) (Reps.one (show Kd.M (Kd.int .u32) _ _ _ 1 [.int .u32 1] from rfl) (Reps.none _ _))))); intro v273 w41 ho42 hb hg_ hnew_; clear hg_ hnew_; (first | rw [← Ny272.out] at ho42 | (simp only [Int.reduceToNat] at ho42; rw [← Ny272.out] at ho42)); have n0_ := Aside0.mk (Kd.R_below (by (with_reducible repeat (first | apply Kd.R_alloc | apply Kd.R_drewN | apply Kd.R_drew)); exact HO_9.out) hb); have n1_ := Aside0.mk (Kd.R_elder' (by (with_reducible repeat (first | apply Kd.R_alloc | apply Kd.R_drewN | apply Kd.R_drew)); exact HO256.out) (Kd.R_base ho42) hb); have n2_ := Aside0.mk (Kd.R_elder' (by (with_reducible repeat (first | apply Kd.R_alloc | apply Kd.R_drewN | apply Kd.R_drew)); exact HO260.out) (Kd.R_base ho42) hb); have n3_ := Aside0.mk (Kd.R_elder' (by (with_reducible repeat (first | apply Kd.R_alloc | apply Kd.R_drewN | apply Kd.R_drew)); exact HO262.out) (Kd.R_base ho42) hb); have n4_ := Aside0.mk (Kd.R_elder' (by (with_reducible repeat (first | apply Kd.R_alloc | apply Kd.R_drewN | apply Kd.R_drew)); exact HO265.out) (Kd.R_base ho42) hb); have n5_ := Aside0.mk (Kd.R_elder' (by (with_reducible repeat (first | apply Kd.R_alloc | apply Kd.R_drewN | apply Kd.R_drew)); exact HO269.out) (Kd.R_base ho42) hb); have n6_ := Aside0.mk (Kd.R_elder' (by (with_reducible repeat (first | apply Kd.R_alloc | apply Kd.R_drewN | apply Kd.R_drew)); exact HO271.out) (Kd.R_base ho42) hb); have n7_ := Aside0.mk (Kd.R_lower (Kd.R_new' (Kd.R_new' (Kd.R_new' (Kd.R_new' (Kd.R_new' (Kd.R_new' ho42 (Kd.R_lt (by (with_reducible repeat (first | apply Kd.R_alloc | apply Kd.R_drewN | apply Kd.R_drew)); exact HO256.out))) (Kd.R_lt (by (with_reducible repeat (first | apply Kd.R_alloc | apply Kd.R_drewN | apply Kd.R_drew)); exact HO260.out))) (Kd.R_lt (by (with_reducible repeat (first | apply Kd.R_alloc | apply Kd.R_drewN | apply Kd.R_drew)); exact HO262.out))) (Kd.R_lt (by (with_reducible repeat (first | apply Kd.R_alloc | apply Kd.R_drewN | apply Kd.R_drew)); exact HO265.out))) (Kd.R_lt (by (with_reducible repeat (first | apply Kd.R_alloc | apply Kd.R_drewN | apply Kd.R_drew)); exact HO269.out))) (Kd.R_lt (by (with_reducible repeat (first | apply Kd.R_alloc | apply Kd.R_drewN | apply Kd.R_drew)); exact HO271.out))) (below_size (by repeat (first | (with_reducible first | exact HB.out | apply below_alloc | apply pw_below_drewN | apply below_drew1) | exact HB.out)))); have n8_ := Aside0.mk (below_step (by repeat (first | (with_reducible first | exact HB.out | apply below_alloc | apply pw_below_drewN | apply below_drew1) | exact HB.out)) hb); clear HO_9; clear HO256; clear HO260; clear HO262; clear HO265; clear HO269; clear HO271; clear HB; have HO_9 := n0_; have HO256 := n1_; have HO260 := n2_; have HO262 := n3_; have HO265 := n4_; have HO269 := n5_; have HO271 := n6_; have HO274 := n7_; have HB := n8_; clear n0_ n1_ n2_ n3_ n4_ n5_ n6_ n7_ n8_; clear hb ho42; obtain ⟨Ao43, co43, eo43⟩ := Kd.R_slice HO274.out; subst eo43) | ((with_reducible refine gate_callee (f := 28) rfl ?_); refine goesL_ (some 39) rfl rfl Tryd.func28 (by kernel_rfl) rfl #[.slice Ao43 y272.length co43, .string (⟨#[49, 56, 52, 52, 54, 55, 52, 52, 48, 55, 51, 55, 48, 57, 53, 53, 49, 54, 49, 54]⟩ : ByteArray)] rfl (by (try simp only [List.map_toArray, List.map_cons, List.map_nil]); first | done | rfl | (simp only [List.length_drop, List.length_take]; rfl)) ?_; (with_reducible refine (alidadelaw04_is.calls k1 _ _ y272 (⟨#[49, 56, 52, 52, 54, 55, 52, 52, 48, 55, 51, 55, 48, 57, 53, 53, 49, 54, 49, 54]⟩ : ByteArray) true _ ?side1 ?side2 A20.out).mono ?_); (case side1 => repeat (first | exact (Kd.R_reads' HO274.out).2.2 | (with_reducible refine Kd.C_alloc ?_ _) | (with_reducible refine Kd.C_drewN ?_ _) | (with_reducible refine Kd.C_drew ?_))); (case side2 => exact (Kd.R_reads' HO274.out).2.1); rintro e w44 ⟨rfl, hb⟩; refine ⟨_, rfl, ?_⟩; have n0_ := Aside0.mk (Kd.R_below (by (with_reducible repeat (first | apply Kd.R_alloc | apply Kd.R_drewN | apply Kd.R_drew)); exact HO_9.out) hb); have n1_ := Aside0.mk (Kd.R_below (by (with_reducible repeat (first | apply Kd.R_alloc | apply Kd.R_drewN | apply Kd.R_drew)); exact HO256.out) hb); have n2_ := Aside0.mk (Kd.R_below (by (with_reducible repeat (first | apply Kd.R_alloc | apply Kd.R_drewN | apply Kd.R_drew)); exact HO260.out) hb); have n3_ := Aside0.mk (Kd.R_below (by (with_reducible repeat (first | apply Kd.R_alloc | apply Kd.R_drewN | apply Kd.R_drew)); exact HO262.out) hb); have n4_ := Aside0.mk (Kd.R_below (by (with_reducible repeat (first | apply Kd.R_alloc | apply Kd.R_drewN | apply Kd.R_drew)); exact HO265.out) hb); have n5_ := Aside0.mk (Kd.R_below (by (with_reducible repeat (first | apply Kd.R_alloc | apply Kd.R_drewN | apply Kd.R_drew)); exact HO269.out) hb); have n6_ := Aside0.mk (Kd.R_below (by (with_reducible repeat (first | apply Kd.R_alloc | apply Kd.R_drewN | apply Kd.R_drew)); exact HO271.out) hb); have n7_ := Aside0.mk (Kd.R_below (by (with_reducible repeat (first | apply Kd.R_alloc | apply Kd.R_drewN | apply Kd.R_drew)); exact HO274.out) hb); have n8_ := Aside0.mk (below_step (by repeat (first | (with_reducible first | exact HB.out | apply below_alloc | apply pw_below_drewN | apply below_drew1) | exact HB.out)) hb); clear HO_9; clear HO256; clear HO260; clear HO262; clear HO265; clear HO269; clear HO271; clear HO274; clear HB; have HO_9 := n0_; have HO256 := n1_; have HO260 := n2_; have HO262 := n3_; have HO265 := n4_; have HO269 := n5_; have HO271 := n6_; have HO274 := n7_; have HB := n8_; clear n0_ n1_ n2_ n3_ n4_ n5_ n6_ n7_ n8_; (try clear hb); (try clear hb2); (try clear hk); (try clear hi)) | (go_at_call 17; (with_reducible refine (dec_Ten.calls k1 9 t276 _ A22.out).mono ?_); rintro e w45 ⟨v277, rfl, ho0, hb⟩; have n0_ := Aside0.mk (Kd.R_below (by (with_reducible repeat (first | apply Kd.R_alloc | apply Kd.R_drewN | apply Kd.R_drew)); exact HO_9.out) hb); have n1_ := Aside0.mk (Kd.R_elder' (by (with_reducible repeat (first | apply Kd.R_alloc | apply Kd.R_drewN | apply Kd.R_drew)); exact HO256.out) (Kd.R_base ho0) hb); have n2_ := Aside0.mk (Kd.R_elder' (by (with_reducible repeat (first | apply Kd.R_alloc | apply Kd.R_drewN | apply Kd.R_drew)); exact HO260.out) (Kd.R_base ho0) hb); have n3_ := Aside0.mk (Kd.R_elder' (by (with_reducible repeat (first | apply Kd.R_alloc | apply Kd.R_drewN | apply Kd.R_drew)); exact HO262.out) (Kd.R_base ho0) hb); have n4_ := Aside0.mk (Kd.R_elder' (by (with_reducible repeat (first | apply Kd.R_alloc | apply Kd.R_drewN | apply Kd.R_drew)); exact HO265.out) (Kd.R_base ho0) hb); have n5_ := Aside0.mk (Kd.R_elder' (by (with_reducible repeat (first | apply Kd.R_alloc | apply Kd.R_drewN | apply Kd.R_drew)); exact HO269.out) (Kd.R_base ho0) hb); have n6_ := Aside0.mk (Kd.R_elder' (by (with_reducible repeat (first | apply Kd.R_alloc | apply Kd.R_drewN | apply Kd.R_drew)); exact HO271.out) (Kd.R_base ho0) hb); have n7_ := Aside0.mk (Kd.R_elder' (by (with_reducible repeat (first | apply Kd.R_alloc | apply Kd.R_drewN | apply Kd.R_drew)); exact HO274.out) (Kd.R_base ho0) hb); have n8_ := Aside0.mk (Kd.R_lower (Kd.R_new' (Kd.R_new' (Kd.R_new' (Kd.R_new' (Kd.R_new' (Kd.R_new' (Kd.R_new' ho0 (Kd.R_lt (by (with_reducible repeat (first | apply Kd.R_alloc | apply Kd.R_drewN | apply Kd.R_drew)); exact HO256.out))) (Kd.R_lt (by (with_reducible repeat (first | apply Kd.R_alloc | apply Kd.R_drewN | apply Kd.R_drew)); exact HO260.out))) (Kd.R_lt (by (with_reducible repeat (first | apply Kd.R_alloc | apply Kd.R_drewN | apply Kd.R_drew)); exact HO262.out))) (Kd.R_lt (by (with_reducible repeat (first | apply Kd.R_alloc | apply Kd.R_drewN | apply Kd.R_drew)); exact HO265.out))) (Kd.R_lt (by (with_reducible repeat (first | apply Kd.R_alloc | apply Kd.R_drewN | apply Kd.R_drew)); exact HO269.out))) (Kd.R_lt (by (with_reducible repeat (first | apply Kd.R_alloc | apply Kd.R_drewN | apply Kd.R_drew)); exact HO271.out))) (Kd.R_lt (by (with_reducible repeat (first | apply Kd.R_alloc | apply Kd.R_drewN | apply Kd.R_drew)); exact HO274.out))) (below_size (by repeat (first | (with_reducible first | exact HB.out | apply below_alloc | apply pw_below_drewN | apply below_drew1) | exact HB.out)))); have n9_ := Aside0.mk (below_step (by repeat (first | (with_reducible first | exact HB.out | apply below_alloc | apply pw_below_drewN | apply below_drew1) | exact HB.out)) hb); clear HO_9; clear HO256; clear HO260; clear HO262; clear HO265; clear HO269; clear HO271; clear HO274; clear HB; have HO_9 := n0_; have HO256 := n1_; have HO260 := n2_; have HO262 := n3_; have HO265 := n4_; have HO269 := n5_; have HO271 := n6_; have HO274 := n7_; have HO278 := n8_; have HB := n9_; clear n0_ n1_ n2_ n3_ n4_ n5_ n6_ n7_ n8_ n9_; (try clear hb); (try clear hb2); (try clear hk); (try clear hi); (try clear ho0)) | (go_at_call 29; (with_reducible refine (nat_Of.calls k1 1000000000 t279 _ A23.out).mono ?_); rintro e w46 ⟨v280, rfl, ho0, hb⟩; have n0_ := Aside0.mk (Kd.R_below (by (with_reducible repeat (first | apply Kd.R_alloc | apply Kd.R_drewN | apply Kd.R_drew)); exact HO_9.out) hb); have n1_ := Aside0.mk (Kd.R_elder' (by (with_reducible repeat (first | apply Kd.R_alloc | apply Kd.R_drewN | apply Kd.R_drew)); exact HO256.out) (Kd.R_base ho0) hb); have n2_ := Aside0.mk (Kd.R_elder' (by (with_reducible repeat (first | apply Kd.R_alloc | apply Kd.R_drewN | apply Kd.R_drew)); exact HO260.out) (Kd.R_base ho0) hb); have n3_ := Aside0.mk (Kd.R_elder' (by (with_reducible repeat (first | apply Kd.R_alloc | apply Kd.R_drewN | apply Kd.R_drew)); exact HO262.out) (Kd.R_base ho0) hb); have n4_ := Aside0.mk (Kd.R_elder' (by (with_reducible repeat (first | apply Kd.R_alloc | apply Kd.R_drewN | apply Kd.R_drew)); exact HO265.out) (Kd.R_base ho0) hb); have n5_ := Aside0.mk (Kd.R_elder' (by (with_reducible repeat (first | apply Kd.R_alloc | apply Kd.R_drewN | apply Kd.R_drew)); exact HO269.out) (Kd.R_base ho0) hb); have n6_ := Aside0.mk (Kd.R_elder' (by (with_reducible repeat (first | apply Kd.R_alloc | apply Kd.R_drewN | apply Kd.R_drew)); exact HO271.out) (Kd.R_base ho0) hb); have n7_ := Aside0.mk (Kd.R_elder' (by (with_reducible repeat (first | apply Kd.R_alloc | apply Kd.R_drewN | apply Kd.R_drew)); exact HO274.out) (Kd.R_base ho0) hb); have n8_ := Aside0.mk (Kd.R_elder' (by (with_reducible repeat (first | apply Kd.R_alloc | apply Kd.R_drewN | apply Kd.R_drew)); exact HO278.out) (Kd.R_base ho0) hb); have n9_ := Aside0.mk (Kd.R_lower (Kd.R_new' (Kd.R_new' (Kd.R_new' (Kd.R_new' (Kd.R_new' (Kd.R_new' (Kd.R_new' (Kd.R_new' ho0 (Kd.R_lt (by (with_reducible repeat (first | apply Kd.R_alloc | apply Kd.R_drewN | apply Kd.R_drew)); exact HO256.out))) (Kd.R_lt (by (with_reducible repeat (first | apply Kd.R_alloc | apply Kd.R_drewN | apply Kd.R_drew)); exact HO260.out))) (Kd.R_lt (by (with_reducible repeat (first | apply Kd.R_alloc | apply Kd.R_drewN | apply Kd.R_drew)); exact HO262.out))) (Kd.R_lt (by (with_reducible repeat (first | apply Kd.R_alloc | apply Kd.R_drewN | apply Kd.R_drew)); exact HO265.out))) (Kd.R_lt (by (with_reducible repeat (first | apply Kd.R_alloc | apply Kd.R_drewN | apply Kd.R_drew)); exact HO269.out))) (Kd.R_lt (by (with_reducible repeat (first | apply Kd.R_alloc | apply Kd.R_drewN | apply Kd.R_drew)); exact HO271.out))) (Kd.R_lt (by (with_reducible repeat (first | apply Kd.R_alloc | apply Kd.R_drewN | apply Kd.R_drew)); exact HO274.out))) (Kd.R_lt (by (with_reducible repeat (first | apply Kd.R_alloc | apply Kd.R_drewN | apply Kd.R_drew)); exact HO278.out))) (below_size (by repeat (first | (with_reducible first | exact HB.out | apply below_alloc | apply pw_below_drewN | apply below_drew1) | exact HB.out)))); have n10_ := Aside0.mk (below_step (by repeat (first | (with_reducible first | exact HB.out | apply below_alloc | apply pw_below_drewN | apply below_drew1) | exact HB.out)) hb); clear HO_9; clear HO256; clear HO260; clear HO262; clear HO265; clear HO269; clear HO271; clear HO274; clear HO278; clear HB; have HO_9 := n0_; have HO256 := n1_; have HO260 := n2_; have HO262 := n3_; have HO265 := n4_; have HO269 := n5_; have HO271 := n6_; have HO274 := n7_; have HO278 := n8_; have HO281 := n9_; have HB := n10_; clear n0_ n1_ n2_ n3_ n4_ n5_ n6_ n7_ n8_ n9_ n10_; (try clear hb); (try clear hb2); (try clear hk); (try clear hi); (try clear ho0); obtain ⟨Ao47, co47, eo47⟩ := Kd.R_slice HO278.out; subst eo47; obtain ⟨Ao48, co48, eo48⟩ := Kd.R_slice HO281.out; subst eo48) | (go_at_call 16; (with_reducible refine (alidadelaw04_same.calls k1 _ _ t276 _ _ t279 true _ ?side1 ?side2 ?side3 ?side4 A24.out).mono ?_); (case side1 => repeat (first | exact (Kd.R_reads' HO278.out).2.2 | (with_reducible refine Kd.C_alloc ?_ _) | (with_reducible refine Kd.C_drewN ?_ _) | (with_reducible refine Kd.C_drew ?_))); (case side2 => exact (Kd.R_reads' HO278.out).2.1); (case side3 => repeat (first | exact (Kd.R_reads' HO281.out).2.2 | (with_reducible refine Kd.C_alloc ?_ _) | (with_reducible refine Kd.C_drewN ?_ _) | (with_reducible refine Kd.C_drew ?_))); (case side4 => exact (Kd.R_reads' HO281.out).2.1); rintro e w' ⟨rfl, ⟨nd, rfl⟩⟩) | (go_at_call 29; (with_reducible refine (nat_Of.calls k1 123 t283 _ A26.out).mono ?_); rintro e w49 ⟨v284, rfl, ho0, hb⟩; have n0_ := Aside0.mk (Kd.R_below (by (with_reducible repeat (first | apply Kd.R_alloc | apply Kd.R_drewN | apply Kd.R_drew)); exact HO_9.out) hb); have n1_ := Aside0.mk (Kd.R_elder' (by (with_reducible repeat (first | apply Kd.R_alloc | apply Kd.R_drewN | apply Kd.R_drew)); exact HO256.out) (Kd.R_base ho0) hb); have n2_ := Aside0.mk (Kd.R_elder' (by (with_reducible repeat (first | apply Kd.R_alloc | apply Kd.R_drewN | apply Kd.R_drew)); exact HO260.out) (Kd.R_base ho0) hb); have n3_ := Aside0.mk (Kd.R_elder' (by (with_reducible repeat (first | apply Kd.R_alloc | apply Kd.R_drewN | apply Kd.R_drew)); exact HO262.out) (Kd.R_base ho0) hb); have n4_ := Aside0.mk (Kd.R_elder' (by (with_reducible repeat (first | apply Kd.R_alloc | apply Kd.R_drewN | apply Kd.R_drew)); exact HO265.out) (Kd.R_base ho0) hb); have n5_ := Aside0.mk (Kd.R_elder' (by (with_reducible repeat (first | apply Kd.R_alloc | apply Kd.R_drewN | apply Kd.R_drew)); exact HO269.out) (Kd.R_base ho0) hb); have n6_ := Aside0.mk (Kd.R_elder' (by (with_reducible repeat (first | apply Kd.R_alloc | apply Kd.R_drewN | apply Kd.R_drew)); exact HO271.out) (Kd.R_base ho0) hb); have n7_ := Aside0.mk (Kd.R_elder' (by (with_reducible repeat (first | apply Kd.R_alloc | apply Kd.R_drewN | apply Kd.R_drew)); exact HO274.out) (Kd.R_base ho0) hb); have n8_ := Aside0.mk (Kd.R_elder' (by (with_reducible repeat (first | apply Kd.R_alloc | apply Kd.R_drewN | apply Kd.R_drew)); exact HO278.out) (Kd.R_base ho0) hb); have n9_ := Aside0.mk (Kd.R_elder' (by (with_reducible repeat (first | apply Kd.R_alloc | apply Kd.R_drewN | apply Kd.R_drew)); exact HO281.out) (Kd.R_base ho0) hb); have n10_ := Aside0.mk (Kd.R_lower (Kd.R_new' (Kd.R_new' (Kd.R_new' (Kd.R_new' (Kd.R_new' (Kd.R_new' (Kd.R_new' (Kd.R_new' (Kd.R_new' ho0 (Kd.R_lt (by (with_reducible repeat (first | apply Kd.R_alloc | apply Kd.R_drewN | apply Kd.R_drew)); exact HO256.out))) (Kd.R_lt (by (with_reducible repeat (first | apply Kd.R_alloc | apply Kd.R_drewN | apply Kd.R_drew)); exact HO260.out))) (Kd.R_lt (by (with_reducible repeat (first | apply Kd.R_alloc | apply Kd.R_drewN | apply Kd.R_drew)); exact HO262.out))) (Kd.R_lt (by (with_reducible repeat (first | apply Kd.R_alloc | apply Kd.R_drewN | apply Kd.R_drew)); exact HO265.out))) (Kd.R_lt (by (with_reducible repeat (first | apply Kd.R_alloc | apply Kd.R_drewN | apply Kd.R_drew)); exact HO269.out))) (Kd.R_lt (by (with_reducible repeat (first | apply Kd.R_alloc | apply Kd.R_drewN | apply Kd.R_drew)); exact HO271.out))) (Kd.R_lt (by (with_reducible repeat (first | apply Kd.R_alloc | apply Kd.R_drewN | apply Kd.R_drew)); exact HO274.out))) (Kd.R_lt (by (with_reducible repeat (first | apply Kd.R_alloc | apply Kd.R_drewN | apply Kd.R_drew)); exact HO278.out))) (Kd.R_lt (by (with_reducible repeat (first | apply Kd.R_alloc | apply Kd.R_drewN | apply Kd.R_drew)); exact HO281.out))) (below_size (by repeat (first | (with_reducible first | exact HB.out | apply below_alloc | apply pw_below_drewN | apply below_drew1) | exact HB.out)))); have n11_ := Aside0.mk (below_step (by repeat (first | (with_reducible first | exact HB.out | apply below_alloc | apply pw_below_drewN | apply below_drew1) | exact HB.out)) hb); clear HO_9; clear HO256; clear HO260; clear HO262; clear HO265; clear HO269; clear HO271; clear HO274; clear HO278; clear HO281; clear HB; have HO_9 := n0_; have HO256 := n1_; have HO260 := n2_; have HO262 := n3_; have HO265 := n4_; have HO269 := n5_; have HO271 := n6_; have HO274 := n7_; have HO278 := n8_; have HO281 := n9_; have HO285 := n10_; have HB := n11_; clear n0_ n1_ n2_ n3_ n4_ n5_ n6_ n7_ n8_ n9_ n10_ n11_; (try clear hb); (try clear hb2); (try clear hk); (try clear hi); (try clear ho0); obtain ⟨Ao50, co50, eo50⟩ := Kd.R_slice HO260.out; subst eo50; obtain ⟨Ao51, co51, eo51⟩ := Kd.R_slice HO285.out; subst eo51) | (go_at_call 16; (with_reducible refine (alidadelaw04_same.calls k1 _ _ t257 _ _ t283 true _ ?side1 ?side2 ?side3 ?side4 A27.out).mono ?_); (case side1 => repeat (first | exact (Kd.R_reads' HO260.out).2.2 | (with_reducible refine Kd.C_alloc ?_ _) | (with_reducible refine Kd.C_drewN ?_ _) | (with_reducible refine Kd.C_drew ?_))); (case side2 => exact (Kd.R_reads' HO260.out).2.1); (case side3 => repeat (first | exact (Kd.R_reads' HO285.out).2.2 | (with_reducible refine Kd.C_alloc ?_ _) | (with_reducible refine Kd.C_drewN ?_ _) | (with_reducible refine Kd.C_drew ?_))); (case side4 => exact (Kd.R_reads' HO285.out).2.1); rintro e w' ⟨rfl, ⟨nd, rfl⟩⟩) | (go_at_call 29; (with_reducible refine (nat_Of.calls k1 45 t287 _ A29.out).mono ?_); rintro e w52 ⟨v288, rfl, ho0, hb⟩; have n0_ := Aside0.mk (Kd.R_below (by (with_reducible repeat (first | apply Kd.R_alloc | apply Kd.R_drewN | apply Kd.R_drew)); exact HO_9.out) hb); have n1_ := Aside0.mk (Kd.R_elder' (by (with_reducible repeat (first | apply Kd.R_alloc | apply Kd.R_drewN | apply Kd.R_drew)); exact HO256.out) (Kd.R_base ho0) hb); have n2_ := Aside0.mk (Kd.R_elder' (by (with_reducible repeat (first | apply Kd.R_alloc | apply Kd.R_drewN | apply Kd.R_drew)); exact HO260.out) (Kd.R_base ho0) hb); have n3_ := Aside0.mk (Kd.R_elder' (by (with_reducible repeat (first | apply Kd.R_alloc | apply Kd.R_drewN | apply Kd.R_drew)); exact HO262.out) (Kd.R_base ho0) hb); have n4_ := Aside0.mk (Kd.R_elder' (by (with_reducible repeat (first | apply Kd.R_alloc | apply Kd.R_drewN | apply Kd.R_drew)); exact HO265.out) (Kd.R_base ho0) hb); have n5_ := Aside0.mk (Kd.R_elder' (by (with_reducible repeat (first | apply Kd.R_alloc | apply Kd.R_drewN | apply Kd.R_drew)); exact HO269.out) (Kd.R_base ho0) hb); have n6_ := Aside0.mk (Kd.R_elder' (by (with_reducible repeat (first | apply Kd.R_alloc | apply Kd.R_drewN | apply Kd.R_drew)); exact HO271.out) (Kd.R_base ho0) hb); have n7_ := Aside0.mk (Kd.R_elder' (by (with_reducible repeat (first | apply Kd.R_alloc | apply Kd.R_drewN | apply Kd.R_drew)); exact HO274.out) (Kd.R_base ho0) hb); have n8_ := Aside0.mk (Kd.R_elder' (by (with_reducible repeat (first | apply Kd.R_alloc | apply Kd.R_drewN | apply Kd.R_drew)); exact HO278.out) (Kd.R_base ho0) hb); have n9_ := Aside0.mk (Kd.R_elder' (by (with_reducible repeat (first | apply Kd.R_alloc | apply Kd.R_drewN | apply Kd.R_drew)); exact HO281.out) (Kd.R_base ho0) hb); have n10_ := Aside0.mk (Kd.R_elder' (by (with_reducible repeat (first | apply Kd.R_alloc | apply Kd.R_drewN | apply Kd.R_drew)); exact HO285.out) (Kd.R_base ho0) hb); have n11_ := Aside0.mk (Kd.R_lower (Kd.R_new' (Kd.R_new' (Kd.R_new' (Kd.R_new' (Kd.R_new' (Kd.R_new' (Kd.R_new' (Kd.R_new' (Kd.R_new' (Kd.R_new' ho0 (Kd.R_lt (by (with_reducible repeat (first | apply Kd.R_alloc | apply Kd.R_drewN | apply Kd.R_drew)); exact HO256.out))) (Kd.R_lt (by (with_reducible repeat (first | apply Kd.R_alloc | apply Kd.R_drewN | apply Kd.R_drew)); exact HO260.out))) (Kd.R_lt (by (with_reducible repeat (first | apply Kd.R_alloc | apply Kd.R_drewN | apply Kd.R_drew)); exact HO262.out))) (Kd.R_lt (by (with_reducible repeat (first | apply Kd.R_alloc | apply Kd.R_drewN | apply Kd.R_drew)); exact HO265.out))) (Kd.R_lt (by (with_reducible repeat (first | apply Kd.R_alloc | apply Kd.R_drewN | apply Kd.R_drew)); exact HO269.out))) (Kd.R_lt (by (with_reducible repeat (first | apply Kd.R_alloc | apply Kd.R_drewN | apply Kd.R_drew)); exact HO271.out))) (Kd.R_lt (by (with_reducible repeat (first | apply Kd.R_alloc | apply Kd.R_drewN | apply Kd.R_drew)); exact HO274.out))) (Kd.R_lt (by (with_reducible repeat (first | apply Kd.R_alloc | apply Kd.R_drewN | apply Kd.R_drew)); exact HO278.out))) (Kd.R_lt (by (with_reducible repeat (first | apply Kd.R_alloc | apply Kd.R_drewN | apply Kd.R_drew)); exact HO281.out))) (Kd.R_lt (by (with_reducible repeat (first | apply Kd.R_alloc | apply Kd.R_drewN | apply Kd.R_drew)); exact HO285.out))) (below_size (by repeat (first | (with_reducible first | exact HB.out | apply below_alloc | apply pw_below_drewN | apply below_drew1) | exact HB.out)))); have n12_ := Aside0.mk (below_step (by repeat (first | (with_reducible first | exact HB.out | apply below_alloc | apply pw_below_drewN | apply below_drew1) | exact HB.out)) hb); clear HO_9; clear HO256; clear HO260; clear HO262; clear HO265; clear HO269; clear HO271; clear HO274; clear HO278; clear HO281; clear HO285; clear HB; have HO_9 := n0_; have HO256 := n1_; have HO260 := n2_; have HO262 := n3_; have HO265 := n4_; have HO269 := n5_; have HO271 := n6_; have HO274 := n7_; have HO278 := n8_; have HO281 := n9_; have HO285 := n10_; have HO289 := n11_; have HB := n12_; clear n0_ n1_ n2_ n3_ n4_ n5_ n6_ n7_ n8_ n9_ n10_ n11_ n12_; (try clear hb); (try clear hb2); (try clear hk); (try clear hi); (try clear ho0); obtain ⟨Ao53, co53, eo53⟩ := Kd.R_slice HO262.out; subst eo53; obtain ⟨Ao54, co54, eo54⟩ := Kd.R_slice HO289.out; subst eo54) | (go_at_call 16; (with_reducible refine (alidadelaw04_same.calls k1 _ _ t258 _ _ t287 true _ ?side1 ?side2 ?side3 ?side4 A30.out).mono ?_); (case side1 => repeat (first | exact (Kd.R_reads' HO262.out).2.2 | (with_reducible refine Kd.C_alloc ?_ _) | (with_reducible refine Kd.C_drewN ?_ _) | (with_reducible refine Kd.C_drew ?_))); (case side2 => exact (Kd.R_reads' HO262.out).2.1); (case side3 => repeat (first | exact (Kd.R_reads' HO289.out).2.2 | (with_reducible refine Kd.C_alloc ?_ _) | (with_reducible refine Kd.C_drewN ?_ _) | (with_reducible refine Kd.C_drew ?_))); (case side4 => exact (Kd.R_reads' HO289.out).2.1); rintro e w' ⟨rfl, ⟨nd, rfl⟩⟩; obtain ⟨Ao55, co55, eo55⟩ := Kd.R_slice HO269.out; subst eo55) | (go_at_call 29; (with_reducible refine (nat_Of.calls k1 12345 t291 _ A33.out).mono ?_); rintro e w56 ⟨v292, rfl, ho0, hb⟩; have n0_ := Aside0.mk (Kd.R_below (by (with_reducible repeat (first | apply Kd.R_alloc | apply Kd.R_drewN | apply Kd.R_drew)); exact HO_9.out) hb); have n1_ := Aside0.mk (Kd.R_elder' (by (with_reducible repeat (first | apply Kd.R_alloc | apply Kd.R_drewN | apply Kd.R_drew)); exact HO256.out) (Kd.R_base ho0) hb); have n2_ := Aside0.mk (Kd.R_elder' (by (with_reducible repeat (first | apply Kd.R_alloc | apply Kd.R_drewN | apply Kd.R_drew)); exact HO260.out) (Kd.R_base ho0) hb); have n3_ := Aside0.mk (Kd.R_elder' (by (with_reducible repeat (first | apply Kd.R_alloc | apply Kd.R_drewN | apply Kd.R_drew)); exact HO262.out) (Kd.R_base ho0) hb); have n4_ := Aside0.mk (Kd.R_elder' (by (with_reducible repeat (first | apply Kd.R_alloc | apply Kd.R_drewN | apply Kd.R_drew)); exact HO265.out) (Kd.R_base ho0) hb); have n5_ := Aside0.mk (Kd.R_elder' (by (with_reducible repeat (first | apply Kd.R_alloc | apply Kd.R_drewN | apply Kd.R_drew)); exact HO269.out) (Kd.R_base ho0) hb); have n6_ := Aside0.mk (Kd.R_elder' (by (with_reducible repeat (first | apply Kd.R_alloc | apply Kd.R_drewN | apply Kd.R_drew)); exact HO271.out) (Kd.R_base ho0) hb); have n7_ := Aside0.mk (Kd.R_elder' (by (with_reducible repeat (first | apply Kd.R_alloc | apply Kd.R_drewN | apply Kd.R_drew)); exact HO274.out) (Kd.R_base ho0) hb); have n8_ := Aside0.mk (Kd.R_elder' (by (with_reducible repeat (first | apply Kd.R_alloc | apply Kd.R_drewN | apply Kd.R_drew)); exact HO278.out) (Kd.R_base ho0) hb); have n9_ := Aside0.mk (Kd.R_elder' (by (with_reducible repeat (first | apply Kd.R_alloc | apply Kd.R_drewN | apply Kd.R_drew)); exact HO281.out) (Kd.R_base ho0) hb); have n10_ := Aside0.mk (Kd.R_elder' (by (with_reducible repeat (first | apply Kd.R_alloc | apply Kd.R_drewN | apply Kd.R_drew)); exact HO285.out) (Kd.R_base ho0) hb); have n11_ := Aside0.mk (Kd.R_elder' (by (with_reducible repeat (first | apply Kd.R_alloc | apply Kd.R_drewN | apply Kd.R_drew)); exact HO289.out) (Kd.R_base ho0) hb); have n12_ := Aside0.mk (Kd.R_lower (Kd.R_new' (Kd.R_new' (Kd.R_new' (Kd.R_new' (Kd.R_new' (Kd.R_new' (Kd.R_new' (Kd.R_new' (Kd.R_new' (Kd.R_new' (Kd.R_new' ho0 (Kd.R_lt (by (with_reducible repeat (first | apply Kd.R_alloc | apply Kd.R_drewN | apply Kd.R_drew)); exact HO256.out))) (Kd.R_lt (by (with_reducible repeat (first | apply Kd.R_alloc | apply Kd.R_drewN | apply Kd.R_drew)); exact HO260.out))) (Kd.R_lt (by (with_reducible repeat (first | apply Kd.R_alloc | apply Kd.R_drewN | apply Kd.R_drew)); exact HO262.out))) (Kd.R_lt (by (with_reducible repeat (first | apply Kd.R_alloc | apply Kd.R_drewN | apply Kd.R_drew)); exact HO265.out))) (Kd.R_lt (by (with_reducible repeat (first | apply Kd.R_alloc | apply Kd.R_drewN | apply Kd.R_drew)); exact HO269.out))) (Kd.R_lt (by (with_reducible repeat (first | apply Kd.R_alloc | apply Kd.R_drewN | apply Kd.R_drew)); exact HO271.out))) (Kd.R_lt (by (with_reducible repeat (first | apply Kd.R_alloc | apply Kd.R_drewN | apply Kd.R_drew)); exact HO274.out))) (Kd.R_lt (by (with_reducible repeat (first | apply Kd.R_alloc | apply Kd.R_drewN | apply Kd.R_drew)); exact HO278.out))) (Kd.R_lt (by (with_reducible repeat (first | apply Kd.R_alloc | apply Kd.R_drewN | apply Kd.R_drew)); exact HO281.out))) (Kd.R_lt (by (with_reducible repeat (first | apply Kd.R_alloc | apply Kd.R_drewN | apply Kd.R_drew)); exact HO285.out))) (Kd.R_lt (by (with_reducible repeat (first | apply Kd.R_alloc | apply Kd.R_drewN | apply Kd.R_drew)); exact HO289.out))) (below_size (by repeat (first | (with_reducible first | exact HB.out | apply below_alloc | apply pw_below_drewN | apply below_drew1) | exact HB.out)))); have n13_ := Aside0.mk (below_step (by repeat (first | (with_reducible first | exact HB.out | apply below_alloc | apply pw_below_drewN | apply below_drew1) | exact HB.out)) hb); clear HO_9; clear HO256; clear HO260; clear HO262; clear HO265; clear HO269; clear HO271; clear HO274; clear HO278; clear HO281; clear HO285; clear HO289; clear HB; have HO_9 := n0_; have HO256 := n1_; have HO260 := n2_; have HO262 := n3_; have HO265 := n4_; have HO269 := n5_; have HO271 := n6_; have HO274 := n7_; have HO278 := n8_; have HO281 := n9_; have HO285 := n10_; have HO289 := n11_; have HO293 := n12_; have HB := n13_; clear n0_ n1_ n2_ n3_ n4_ n5_ n6_ n7_ n8_ n9_ n10_ n11_ n12_ n13_; (try clear hb); (try clear hb2); (try clear hk); (try clear hi); (try clear ho0); obtain ⟨Ao57, co57, eo57⟩ := Kd.R_slice HO271.out; subst eo57; obtain ⟨Ao58, co58, eo58⟩ := Kd.R_slice HO293.out; subst eo58) | (go_at_call 16; (with_reducible refine (alidadelaw04_same.calls k1 _ _ t267 _ _ t291 true _ ?side1 ?side2 ?side3 ?side4 A34.out).mono ?_); (case side1 => repeat (first | exact (Kd.R_reads' HO271.out).2.2 | (with_reducible refine Kd.C_alloc ?_ _) | (with_reducible refine Kd.C_drewN ?_ _) | (with_reducible refine Kd.C_drew ?_))); (case side2 => exact (Kd.R_reads' HO271.out).2.1); (case side3 => repeat (first | exact (Kd.R_reads' HO293.out).2.2 | (with_reducible refine Kd.C_alloc ?_ _) | (with_reducible refine Kd.C_drewN ?_ _) | (with_reducible refine Kd.C_drew ?_))); (case side4 => exact (Kd.R_reads' HO293.out).2.1); rintro e w' ⟨rfl, ⟨nd, rfl⟩⟩))
                  go_ret
                  exact ⟨by first | rfl | (simp [errW_none, errW_some] <;> rfl) | (simp [*, errW_none, errW_some] <;> rfl), by repeat (first | (with_reducible first | exact HB.out | apply below_alloc | apply pw_below_drewN | apply below_drew1) | exact HB.out)⟩
                · rw [if_neg c32] at H
                  have c32b0 : ((t266.length : Int) == 0) = false := beq_eq_false_iff_ne.mpr c32
                  have c32b1 : ((t266.length : Int) != 0) = true := bne_iff_ne.mpr c32
                  have c32b2 : ¬ (t266 = []) := fun h_ => c32 (by rw [h_]; rfl)
                  exact absurd (Option.some.inj H) (by decide)
              · replace c31 := Bool.eq_false_iff.mpr c31
                subst c31
                have H1 : (some false) = some true := by rw [if_neg (show ¬ (false = true) by decide)] at H; exact H
                clear H
                have H := H1
                clear H1
                exact absurd (Option.some.inj H) (by decide)
            · replace c28 := Bool.eq_false_iff.mpr c28
              subst c28
              have H1 : (some false) = some true := by rw [if_neg (show ¬ (false = true) by decide)] at H; exact H
              clear H
              have H := H1
              clear H1
              exact absurd (Option.some.inj H) (by decide)
          · replace c25 := Bool.eq_false_iff.mpr c25
            subst c25
            have H1 : (some false) = some true := by rw [if_neg (show ¬ (false = true) by decide)] at H; exact H
            clear H
            have H := H1
            clear H1
            exact absurd (Option.some.inj H) (by decide)
        · replace c21 := Bool.eq_false_iff.mpr c21
          subst c21
          have H1 : (some false) = some true := by rw [if_neg (show ¬ (false = true) by decide)] at H; exact H
          clear H
          have H := H1
          clear H1
          exact absurd (Option.some.inj H) (by decide)
theorem alidadelaw04_works.calls (k : Nat)  (r : Bool) (w : World) (h : alidadelaw04_works.f k  = some r) :
    Calls Tryd.prog 10 #[] w fun e w' => e = .returned (.bool r) ∧ Below w.heap.size w w' := by
  obtain rfl := alidadelaw04_works.true_only k r h
  exact alidadelaw04_works.calls_true k w h

/-! ### nat_Add: function 25 -/
/-- One limb of a sum. -/
def nat_addStep (s : List Int × Int) (p : Int × Int) : List Int × Int := (s.1 ++ [((bits_Add32.f p.1 p.2 s.2).getD (0, 0)).1], ((bits_Add32.f p.1 p.2 s.2).getD (0, 0)).2)
def nat_addAll (P : List (Int × Int)) : List Int × Int := P.foldl nat_addStep ([], 0)
theorem nat_addAll_snoc (P : List (Int × Int)) (p : Int × Int) : nat_addAll (P ++ [p]) = nat_addStep (nat_addAll P) p := by simp [nat_addAll, List.foldl_append]
theorem nat_addAll_length (P : List (Int × Int)) : (nat_addAll P).1.length = P.length := by
  suffices h : ∀ s : List Int × Int, (P.foldl nat_addStep s).1.length = s.1.length + P.length by simpa [nat_addAll] using h ([], 0)
  induction P with
  | nil => simp
  | cons p P ih => intro s; rw [List.foldl_cons, ih]; simp [nat_addStep]; omega
theorem bits_Add32_eq (x y c : Int) : bits_Add32.f x y c = some ((bits_Add32.f x y c).getD (0, 0)) := rfl
theorem bits_Add32_val {x y c : Int} (hx : 0 ≤ x ∧ x < 4294967296) (hy : 0 ≤ y ∧ y < 4294967296) (hc : 0 ≤ c ∧ c ≤ 1) : bits_Add32.f x y c = some ((x + y + c) % 4294967296, (x + y + c) / 4294967296) := by
  unfold bits_Add32.f
  simp only [u64_wrap]
  congr 2 <;> omega
theorem nat_addAll_inv : ∀ P : List (Int × Int), (∀ p ∈ P, (0 ≤ p.1 ∧ p.1 < 4294967296) ∧ (0 ≤ p.2 ∧ p.2 < 4294967296)) → Nums.rng (nat_addAll P).1 = true ∧ (0 ≤ (nat_addAll P).2 ∧ (nat_addAll P).2 ≤ 1) ∧
    Nums.val (nat_addAll P).1 + 4294967296 ^ P.length * (nat_addAll P).2.toNat = Nums.val (P.map Prod.fst) + Nums.val (P.map Prod.snd) := by
  refine Nums.snoc_ind ?_ ?_
  · intro _; exact ⟨rfl, by decide, rfl⟩
  · intro P p ih h
    obtain ⟨h1, h2, h3⟩ := ih (fun q hq => h q (List.mem_append_left _ hq))
    obtain ⟨hx, hy⟩ := h p (List.mem_append_right _ List.mem_cons_self)
    have e := bits_Add32_val hx hy h2
    have hl := nat_addAll_length P
    cases hs : nat_addAll P with | mk out c =>
    rw [nat_addAll_snoc, hs]
    rw [hs] at h1 h2 h3 e hl
    simp only [nat_addStep, e, Option.getD_some] at h1 h2 h3 hl ⊢
    refine ⟨Nums.rng_append.2 ⟨h1, by simp [Nums.rng]; omega⟩, by omega, ?_⟩
    rw [Nums.val_append, List.map_append, List.map_append, Nums.val_append, Nums.val_append]
    simp only [List.map_cons, List.map_nil, List.length_map, Nums.val, Nat.mul_zero, Nat.add_zero, List.length_append, List.length_singleton, Nat.pow_succ, hl]
    obtain ⟨x, y⟩ := p
    simp only at hx hy ⊢
    have k : ((x + y + c) % 4294967296).toNat + 4294967296 * ((x + y + c) / 4294967296).toNat = x.toNat + y.toNat + c.toNat := by omega
    generalize 4294967296 ^ P.length = q at *
    have k2 : q * ((x + y + c) % 4294967296).toNat + q * (4294967296 * ((x + y + c) / 4294967296).toNat) = q * x.toNat + q * y.toNat + q * c.toNat := by rw [← Nat.mul_add, k, Nat.mul_add, Nat.mul_add]
    rw [← Nat.mul_assoc] at k2
    omega
theorem nat_addAll_val (a b : List Int) (ha : Nums.rng a = true) (hb : Nums.rng b = true) :
    Nums.rng ((nat_addAll (nat_upto a b (max a.length b.length))).1 ++ [(nat_addAll (nat_upto a b (max a.length b.length))).2]) = true ∧
    Nums.val ((nat_addAll (nat_upto a b (max a.length b.length))).1 ++ [(nat_addAll (nat_upto a b (max a.length b.length))).2]) = Nums.val a + Nums.val b := by
  have h := nat_addAll_inv (nat_upto a b (max a.length b.length)) (by
    intro p hp
    simp only [nat_upto, List.mem_map] at hp
    obtain ⟨i, _, rfl⟩ := hp
    exact ⟨Nums.rng_getD ha i, Nums.rng_getD hb i⟩)
  obtain ⟨h1, h2, h3⟩ := h
  have hl := nat_addAll_length (nat_upto a b (max a.length b.length))
  refine ⟨Nums.rng_append.2 ⟨h1, by simp [Nums.rng]; omega⟩, ?_⟩
  rw [Nums.val_append, hl]
  have e1 : (nat_upto a b (max a.length b.length)).map Prod.fst = (List.range (max a.length b.length)).map (fun i => a[i]?.getD 0) := by simp [nat_upto, Function.comp_def]
  have e2 : (nat_upto a b (max a.length b.length)).map Prod.snd = (List.range (max a.length b.length)).map (fun i => b[i]?.getD 0) := by simp [nat_upto, Function.comp_def]
  rw [e1, e2, Nums.val_pad _ _ (by omega), Nums.val_pad _ _ (by omega)] at h3
  simpa [Nums.val] using h3
def nat_Add.f (l0 l1 : List Int) : Option (List Int) := if (Nums.rng l0 && Nums.rng l1) = true then some (if (Nums.may l0 && Nums.may l1) = true then Nums.lim (Nums.val l0 + Nums.val l1) else []) else none
section
attribute [local go_sem] Oper.semAt_some
attribute [local go_sem] max2_int
set_option maxRecDepth 100000 in
set_option maxHeartbeats 4000000 in
theorem nat_Add.calls_no (A0 : Option Addr) (c0 : Nat) (l0 : List Int) (A1 : Option Addr) (c1 : Nat) (l1 : List Int) (w : World) (hr0 : Kd.C (Kd.int .u32) w A0 l0.length l0) (hc0 : l0.length ≤ c0) (hr1 : Kd.C (Kd.int .u32) w A1 l1.length l1) (hc1 : l1.length ≤ c1) (h : (Nums.may l0 && Nums.may l1) = false) :
    Calls Tryd.prog 25 #[.slice A0 l0.length c0, .slice A1 l1.length c1] w fun e w' => ∃ v0_ : Value, e = .returned (v0_) ∧ Kd.R (Kd.int .u32) 39 w' w.heap.size (fun _ => True) v0_ [] ∧ Below w.heap.size w w' := by
  have HM := Aside0.mk (nat_may2.calls A0 A1 c0 c1 l0 l1 _ _ w.heap.size (w.alloc (.cells #[.slice A0 l0.length c0, .slice A1 l1.length c1] 22)) (World.alloc_heap_new w _) (Kd.C_alloc hr0 _) (Kd.C_alloc hr1 _) hc0 hc1 (nat_May_eq l0) (nat_May_eq l1))
  rw [h] at HM
  clear hr0 hc0 hr1 hc1 h
  refine (callsIn_wide (n := 3)).1 ?_
  refine callsIn_of_wp_marks Tryd.func25 rfl trivial ?_
  simp only [Tryd.ntmps25, List.size_toArray, List.length_cons, List.length_nil, Nat.reduceAdd, Nat.reduceSub, Array.replicate_succ, Array.replicate_zero, List.push_toArray, List.append_toArray, List.nil_append, List.cons_append]
  gi_wp2_with (refine ⟨trivial, ?_⟩; gi_at_call 45; refine (callsIn_wide.2 HM.out).mono ?_; rintro e w' ⟨rfl, ⟨nd, rfl⟩⟩)
  exact ⟨_, results_tmp rfl _ _ _, _, rfl, Kd.R_nil _ _ _ _ _, pw_below_drewN (below_alloc (Below.refl _ _) _) _⟩
set_option maxRecDepth 100000 in
set_option maxHeartbeats 4000000 in
theorem nat_Add.calls_yes (A0 : Option Addr) (c0 : Nat) (l0 : List Int) (A1 : Option Addr) (c1 : Nat) (l1 : List Int) (r : List Int) (w : World) (hr0 : Kd.C (Kd.int .u32) w A0 l0.length l0) (hc0 : l0.length ≤ c0) (hr1 : Kd.C (Kd.int .u32) w A1 l1.length l1) (hc1 : l1.length ≤ c1) (h : (Nums.may l0 && Nums.may l1) = true)
    (kc : Nat) (hcut : nat_cut.f kc ((nat_addAll (nat_upto l0 l1 (max l0.length l1.length))).1 ++ [(nat_addAll (nat_upto l0 l1 (max l0.length l1.length))).2]) = some r) :
    Calls Tryd.prog 25 #[.slice A0 l0.length c0, .slice A1 l1.length c1] w fun e w' => ∃ v0_ : Value, e = .returned (v0_) ∧ Kd.R (Kd.int .u32) 39 w' w.heap.size (fun _ => True) v0_ r ∧ Below w.heap.size w w' := by
  have hl0 : l0.length ≤ 65536 := (Nums.may_iff.1 (by simpa using h : Nums.may l0 = true ∧ Nums.may l1 = true).1).1
  have hl1 : l1.length ≤ 65536 := (Nums.may_iff.1 (by simpa using h : Nums.may l0 = true ∧ Nums.may l1 = true).2).1
  have HM := Aside0.mk (nat_may2.calls A0 A1 c0 c1 l0 l1 _ _ w.heap.size (w.alloc (.cells #[.slice A0 l0.length c0, .slice A1 l1.length c1] 22)) (World.alloc_heap_new w _) (Kd.C_alloc hr0 _) (Kd.C_alloc hr1 _) hc0 hc1 (nat_May_eq l0) (nat_May_eq l1))
  rw [h] at HM
  have HR0 := Aside0.mk hr0
  have HR1 := Aside0.mk hr1
  have HCUT := Aside0.mk hcut
  clear hr0 hc0 hr1 hc1 h hcut
  obtain ⟨m, hm⟩ : ∃ m, max l0.length l1.length = m := ⟨_, rfl⟩
  have hmax : (if l0.length < l1.length then (l1.length : Int) else (l0.length : Int)) = (m : Int) := by subst hm; split <;> omega
  have hm2 : m ≤ 65536 := by omega
  have hm3 : Aside0 (l0.length ≤ m ∧ l1.length ≤ m) := ⟨by omega⟩
  rw [hm] at HCUT
  have HM' := Aside0.mk hm
  clear hm
  have hwm : wrap64 ((m : Int) + 1) = (m : Int) + 1 := by unfold wrap64; omega
  obtain ⟨i0, hi, hz0, hz1, hz2⟩ := info_parts info39
  refine (callsIn_wide (n := 3)).1 ?_
  refine callsIn_of_wp_marks Tryd.func25 rfl trivial ?_
  simp only [Tryd.ntmps25, List.size_toArray, List.length_cons, List.length_nil, Nat.reduceAdd, Nat.reduceSub, Array.replicate_succ, Array.replicate_zero, List.push_toArray, List.append_toArray, List.nil_append, List.cons_append]
  gi_wp2_with (first | (refine ⟨trivial, ?_⟩; gi_at_call 45; refine (callsIn_wide.2 HM.out).mono ?_; rintro e w' ⟨rfl, ⟨nd, rfl⟩⟩) | (gi_at_make; refine wpListIn_make_own _ rfl _ _ 22 rfl w.heap.size 39 i0 (.int .u32 0) 1 Tryd.underlying22 hi hz0 hz1 .i64 .i64 _ (m + 1) rfl rfl (by omega) (by rw [hz2]; omega) (by unfold maxLen; omega) (by simp) ?_; intro w1 hown hgr1) | (refine ⟨trivial, ?_⟩; gi_at_call 51; refine (nat_pairs.in_ Fence.wide _ trivial rfl _ _ _ _ _ _ _).mono ?_; rintro e w' ⟨rfl, rfl⟩))
  replace hown : w1.ownsRow w.heap.size 39 1 (.slice (some ⟨w.heap.size + 1, 0, none⟩) 0 (m + 1)) 0 [] := by simpa using hown
  have hlt1 : w.heap.size + 1 < w1.heap.size := by have := (hown.lt _ rfl).2; simpa using this
  obtain ⟨N1, hN1⟩ : ∃ N1, w1.heap.size = N1 := ⟨_, rfl⟩
  obtain ⟨g, hg⟩ : ∃ g, w.heap.size + 1 = g := ⟨_, rfl⟩
  have HB1 : Below w.heap.size w w1 := pw_below_grown (pw_below_drewN (below_alloc (Below.refl _ _) _) nd) none (by simp) hgr1 (fun _ e => by cases e)
  have bO := Boxed.new w1 22 (.slice (some ⟨w.heap.size + 1, 0, none⟩) 0 (m + 1))
  have bC := Boxed.new (w1.alloc (.cells #[.slice (some ⟨w.heap.size + 1, 0, none⟩) 0 (m + 1)] 22)) 39 (.int .u32 0)
  have bA := Boxed.new ((w1.alloc (.cells #[.slice (some ⟨w.heap.size + 1, 0, none⟩) 0 (m + 1)] 22)).alloc (.cells #[.int .u32 0] 39)) 22 (.slice A0 l0.length c0)
  have bB := Boxed.new (((w1.alloc (.cells #[.slice (some ⟨w.heap.size + 1, 0, none⟩) 0 (m + 1)] 22)).alloc (.cells #[.int .u32 0] 39)).alloc (.cells #[.slice A0 l0.length c0] 22)) 22 (.slice A1 l1.length c1)
  have bO := ((bO.alloc (.cells #[.int .u32 0] 39)).alloc (.cells #[.slice A0 l0.length c0] 22)).alloc (.cells #[.slice A1 l1.length c1] 22)
  have bC := (bC.alloc (.cells #[.slice A0 l0.length c0] 22)).alloc (.cells #[.slice A1 l1.length c1] 22)
  have bA := bA.alloc (.cells #[.slice A1 l1.length c1] 22)
  have hrow0 := (((hown.alloc (.cells #[.slice (some ⟨w.heap.size + 1, 0, none⟩) 0 (m + 1)] 22)).alloc (.cells #[.int .u32 0] 39)).alloc (.cells #[.slice A0 l0.length c0] 22)).alloc (.cells #[.slice A1 l1.length c1] 22)
  have HB0 := below_alloc (below_alloc (below_alloc (below_alloc HB1 (.cells #[.slice (some ⟨w.heap.size + 1, 0, none⟩) 0 (m + 1)] 22)) (.cells #[.int .u32 0] 39)) (.cells #[.slice A0 l0.length c0] 22)) (.cells #[.slice A1 l1.length c1] 22)
  simp only [World.size_alloc, List.push_toArray, List.nil_append, hN1, hg] at bO bC bA bB hrow0 HB0 hlt1 ⊢
  obtain ⟨W0, hW0⟩ : ∃ W0, ((((w1.alloc (.cells #[.slice (some ⟨g, 0, none⟩) 0 (m + 1)] 22)).alloc (.cells #[.int .u32 0] 39)).alloc (.cells #[.slice A0 l0.length c0] 22)).alloc (.cells #[.slice A1 l1.length c1] 22)) = W0 := ⟨_, rfl⟩
  have hs0 : W0.heap.size = N1 + 4 := by rw [← hW0, ← hN1]; simp
  rw [hW0] at bO bC bA bB hrow0 HB0 ⊢
  have hgw : Aside0 (w.heap.size < g ∧ g < N1) := ⟨by omega, hlt1⟩
  clear hown hgr1 HB1 hW0 hN1 hg
  refine wpIn_rangeFunc_ownG rfl (by omega) (gf := 78) (lb := #[.pointer (some ⟨N1 + 1 + 1, 0, none⟩), .pointer (some ⟨N1 + 1 + 1 + 1, 0, none⟩)]) rfl trivial (enters_of Tryd.func78 (by kernel_rfl) rfl)
    (nat_pairs.stops Fence.wide 2 trivial rfl (by omega) (N1 + 1 + 1) (N1 + 1 + 1 + 1) w.heap.size A0 A1 c0 c1 l0 l1 (by omega) (by omega) w W0 (by omega) (by omega) bA.cell bB.cell HR0.out HR1.out (Nat.le_refl _) HB0)
    nat_Kp.trans (nat_Kp.put (by have := hgw.out; omega) (by omega) (by omega)) (Below.refl _ _) (fun _ => rfl)
    (fun pre W => (Boxed W N1 22 (.slice (some ⟨g, 0, none⟩) (nat_addAll pre).1.length (m + 1)) ∧ Boxed W (N1 + 1) 39 (.int .u32 (nat_addAll pre).2) ∧ W.ownsRow w.heap.size 39 1 (.slice (some ⟨g, 0, none⟩) (nat_addAll pre).1.length (m + 1)) (nat_addAll pre).1.length (nums .u32 (nat_addAll pre).1) ∧ N1 + 4 ≤ W.heap.size) ∧ Below w.heap.size w W)
    (fun _ _ _ => False)
    (OwnFrom.and (Own.from (fun s A B row hs hg hr => ⟨Boxed.keeps hs.1 hg hr, Boxed.keeps hs.2.1 hg hr, own_keeps hs.2.2.1 hg hr, Nat.le_trans hs.2.2.2 hg.size⟩) _) (ownFrom_below (Nat.le_refl _) (by have := hgw.out; omega)))
    (fun _ _ _ _ _ hs _ _ => hs)
    ⟨⟨bO, bC, hrow0, by omega⟩, HB0⟩
    (fun x => { tmps := #[.slice A0 l0.length c0, .slice A1 l1.length c1, undef, undef, .slice none 0 0, .pointer (some ⟨N1, 0, none⟩), .pointer (some ⟨N1 + 1, 0, none⟩), .int .u32 x.1, .int .u32 x.2, undef, .slice A0 l0.length c0, .slice A1 l1.length c1, .slice (some ⟨w.heap.size, 0, none⟩) 2 2, .bool true, .bool false, .slice A0 l0.length c0, .int .i64 l0.length, .slice A1 l1.length c1, .int .i64 l1.length, .int .i64 m, .int .i64 (m + 1), .slice (some ⟨g, 0, none⟩) 0 (m + 1), .slice A0 l0.length c0, .slice A1 l1.length c1, .func (.func 78) #[] #[.pointer (some ⟨N1 + 1 + 1, 0, none⟩), .pointer (some ⟨N1 + 1 + 1 + 1, 0, none⟩)], .int .u32 x.1, .int .u32 x.2, undef, undef, undef, undef, undef, undef, undef, undef, undef, undef, undef, undef, undef, undef, undef, undef], defers := [] }) ?assign ?body ?done ?stop
  case assign =>
    intro l x W K hK
    gi_wp2
    exact hK
  case body =>
    rintro l pre x W ⟨⟨hO, hC, hrow, hsW⟩, hB⟩ hlt
    obtain ⟨out, hout⟩ : ∃ out, (nat_addAll pre).1 = out := ⟨_, rfl⟩
    obtain ⟨c, hc⟩ : ∃ c, (nat_addAll pre).2 = c := ⟨_, rfl⟩
    have hlen : out.length < m := by rw [← hout, nat_addAll_length]; have := HM'.out; omega
    obtain ⟨s, c', hsc⟩ : ∃ s c', bits_Add32.f x.1 x.2 c = some (s, c') := ⟨_, _, rfl⟩
    have hnext : Aside0 (nat_addAll (pre ++ [x]) = (out ++ [s], c')) := ⟨by rw [nat_addAll_snoc, nat_addStep, hout, hc, hsc]; rfl⟩
    rw [hout] at hO hrow
    rw [hc] at hC
    clear hout hc hlt
    have HSC := Aside0.mk hsc
    clear hsc
    have hOc := hO.cell
    have hCc := hC.cell
    have hCf := hC.frozen
    have hgw' := hgw.out
    obtain ⟨cur, hgc⟩ := own_typed hrow g rfl
    gi_wp2_with (first | (refine ⟨trivial, ?_⟩; gi_at_call 52; refine (CallsIn.inRound l (callsIn_wide.2 (bits_Add32.calls _ _ _ s c' _ HSC.out))).mono ?_; rintro e w' ⟨rfl, ⟨nd2, rfl⟩⟩) | (gi_at_builtin; go_must (refine wpListIn_append_fits _ rfl _ _ 22 rfl w.heap.size 39 i0 1 Tryd.underlying22 hi hz1 g out.length (m + 1) (nums .u32 out) rfl ?own ⟨W.heap.size, 0, none⟩ 1 1 [.int .u32 s] rfl rfl ?news (by simp [Value.oneCell']) (by omega) ?_; (case own => exact Tch.own (S := fun k => k = N1 + 1) (by repeat (first | exact Tch.refl _ _ | apply Tch.drewN | apply Tch.drew | apply Tch.alloc | refine Tch.setCell ?_ (by rfl) _)) hrow (by simp [Value.ownBlock]; omega)); (case news => exact news_at _ _ (by simp) _ _); intro w2 hown2 hg2; have hT2 : Tch (fun k => k = N1 + 1 ∨ k = g) W w2 := (Tch.grown (by repeat (first | exact Tch.refl _ _ | apply Tch.drewN | apply Tch.drew | apply Tch.alloc | refine Tch.setCell ?_ (by exact .inl rfl) _)) hg2 (fun k e => by cases e; exact .inl (.inr rfl))); have hC2 : Boxed w2 (N1 + 1) 39 (.int .u32 c') := Boxed.kept (by repeat (first | exact Boxed.set _ hC | apply Boxed.alloc)) hg2 (by simp; omega); clear hg2; have hO2 := hT2.boxed hO (by omega); have hOc2 := hO2.cell; have hOf2 := hO2.frozen)))
    have hT3 := (hT2.mono (S' := fun k => k = N1 ∨ k = N1 + 1 ∨ k = g) (fun k hk => .inr hk)).setCell (p := ⟨N1, 0, none⟩) (.inl rfl) (.slice (some ⟨g, 0, none⟩) (out.length + 1) (m + 1))
    have hsz := hT2.size
    have hn := hnext.out
    refine ⟨(hT3.others ?_).from _, ⟨hT3.below hB.size ?_, ?_, ?_⟩, ⟨?_, ?_, ?_, ?_⟩, ?_⟩
    · rintro k o (rfl | rfl | rfl) ho
      · rw [show W.heap[k]? = _ from hO] at ho; cases ho; rfl
      · rw [show W.heap[N1 + 1]? = _ from hC] at ho; cases ho; rfl
      · rw [hgc] at ho; cases ho; rfl
    · rintro k (rfl | rfl | rfl) <;> omega
    · exact hT3.block _ (by omega) (by omega)
    · exact hT3.block _ (by omega) (by omega)
    · rw [hn]; simp only [List.length_append, List.length_singleton]; exact hO2.set _
    · rw [hn]; exact hC2.kept (grownBy_setCell' _ _ _) (by simp)
    · rw [hn, nums_append]; simp only [List.length_append, List.length_singleton]; exact World.ownsRow.kept hown2 (grownBy_setCell' _ _ _) (.inr (by simp [Value.ownBlock]; omega))
    · exact Nat.le_trans hsW hT3.size
    · exact hB.trans (hT3.below hB.size (by rintro k (rfl | rfl | rfl) <;> omega))
  case done =>
    rintro D ys W hD rfl ⟨⟨hO, hC, hrow, hsW⟩, hB⟩ hK
    rw [HM'.out] at hO hC hrow
    obtain ⟨out, hout⟩ : ∃ out, (nat_addAll (nat_upto l0 l1 m)).1 = out := ⟨_, rfl⟩
    obtain ⟨c, hc⟩ : ∃ c, (nat_addAll (nat_upto l0 l1 m)).2 = c := ⟨_, rfl⟩
    have hlen : out.length ≤ m := by rw [← hout, nat_addAll_length, nat_upto_length]; exact Nat.le_refl _
    have hcut := HCUT.out
    rw [hout, hc] at hcut
    rw [hout] at hO hrow
    rw [hc] at hC
    have HC2 := Aside0.mk hcut
    clear hout hc HCUT hcut
    have hOc := hO.cell
    have hCc := hC.cell
    have hgw' := hgw.out
    obtain ⟨cur, hgc⟩ := own_typed hrow g rfl
    have hDg : Aside0 (D ≠ g ∧ D < W.heap.size) := Aside0.mk ⟨fun e => (by subst e; rw [hgc] at hK; cases hK), (Array.getElem?_eq_some_iff.1 hK).1⟩
    have HB := Aside0.mk hB
    have HK := Aside0.mk hK
    have HR := Aside0.mk hrow
    clear hB hK hrow hgc
    gi_wp2_with (first | (gi_at_builtin; refine wpListIn_append_fits _ rfl _ _ 22 rfl w.heap.size 39 i0 1 Tryd.underlying22 hi hz1 g out.length (m + 1) (nums .u32 out) rfl (HR.out.alloc _) ⟨W.heap.size, 0, none⟩ 1 1 [.int .u32 c] rfl rfl (cell_one_new _ _ _) (by simp [Value.oneCell']) (by omega) ?_; intro w2 hown2 hg2; have hT2 := Aside0.mk (Tch.grown (S := fun k => k = g) ((Tch.refl _ W).alloc _) hg2 (fun k e => by cases e; exact .inl rfl)); have HO2 := Aside0.mk hown2; clear hg2 hown2) | (refine ⟨trivial, ?_⟩; gi_at_call 53; refine (callsIn_wide.2 (nat_cut.calls kc (fun k => k = g) (.slice (some ⟨g, 0, none⟩) (out.length + 1) (m + 1)) (out ++ [c]) r w _ ?cB ?cR HC2.out)).mono ?_; (case cB => exact HB.out.trans (hT2.out.below HB.out.size (by rintro k rfl; omega))); (case cR => exact R_ints (by rw [nums_append, List.length_append]; exact HO2.out) (by intro k hk; cases hk; rfl)); rintro e w3 ⟨v0, rfl, hR3, hB3, hK3⟩; have HR3 := Aside0.mk hR3; have HB3 := Aside0.mk hB3; have HK3 := Aside0.mk hK3; clear hR3 hB3 hK3))
    have hd := hDg.out
    have hK2 : w2.heap[D]? = some (.deferred (some [])) := (hT2.out.block D hd.2 hd.1).trans HK.out
    have hlt2 : D < w2.heap.size := Nat.lt_of_lt_of_le hd.2 hT2.out.size
    have hK3 : w3.heap[D]? = some (.deferred (some [])) := (HK3.out.2 D hlt2 hd.1).trans hK2
    refine ⟨by simp, .inl ⟨_, _, rfl, run_takeDeferred hK3, ?_⟩⟩
    refine ⟨_, results_tmp rfl _ _ _, v0, rfl, ?_, ?_⟩
    · exact Kd.R_mono (Kd.R_grown HR3.out (grownBy_putObj' w3 D _) (fun k hk e => by cases e; rcases hk with hk | hk <;> omega)) (fun _ _ => trivial)
    · exact HB3.out.grown (grownBy_putObj' w3 D _) HB3.out.size (fun k e => by cases e; omega)
  case stop =>
    rintro D c pre W _ _ h _
    exact h.elim
theorem nat_Add.calls (A0 : Option Addr) (c0 : Nat) (l0 : List Int) (A1 : Option Addr) (c1 : Nat) (l1 : List Int) (r : List Int) (w : World) (hr0 : Kd.C (Kd.int .u32) w A0 l0.length l0) (hc0 : l0.length ≤ c0) (hr1 : Kd.C (Kd.int .u32) w A1 l1.length l1) (hc1 : l1.length ≤ c1) (h : nat_Add.f l0 l1 = some r) :
    Calls Tryd.prog 25 #[.slice A0 l0.length c0, .slice A1 l1.length c1] w fun e w' => ∃ v0_ : Value, e = .returned (v0_) ∧ Kd.R (Kd.int .u32) 39 w' w.heap.size (fun _ => True) v0_ r ∧ Below w.heap.size w w' := by
  unfold nat_Add.f at h
  split at h
  · rename_i hr
    obtain ⟨ha, hb⟩ := Bool.and_eq_true_iff.1 hr
    cases hm : Nums.may l0 && Nums.may l1 with
    | false =>
      rw [hm] at h
      obtain rfl : [] = r := by simpa using h
      exact nat_Add.calls_no A0 c0 l0 A1 c1 l1 w hr0 hc0 hr1 hc1 hm
    | true =>
      rw [hm, if_pos rfl] at h
      obtain ⟨e1, e2⟩ := nat_addAll_val l0 l1 ha hb
      have hl := nat_addAll_length (nat_upto l0 l1 (max l0.length l1.length))
      rw [nat_upto_length] at hl
      obtain ⟨hm0, hm1⟩ := Bool.and_eq_true_iff.1 hm
      have := (Nums.may_iff.1 hm0).1
      have := (Nums.may_iff.1 hm1).1
      refine nat_Add.calls_yes A0 c0 l0 A1 c1 l1 r w hr0 hc0 hr1 hc1 hm (max l0.length l1.length + 2) ?_
      rw [nat_cut_eq _ _ _ rfl (by rw [List.length_append, hl]; simp; omega) (by rw [List.length_append, hl]; simp) e1, e2]
      exact h
  · cases h
end

/-! ### alidadelaw04_copies: function 27 -/
def alidadelaw04_copies.l0 : Nat → ByteArray → Int → ByteArray → Int → Option (ByteArray)
  | 0, _, _, _, _ => none
  | k + 1, x0, x1, x5, x6 => if x6 < x1 then (if x5.size + x0.size ≤ 9223372036854775807 then (alidadelaw04_copies.l0 k x0 x1 (x5 ++ x0) (wrap64 (x6 + 1))) else (none)) else (some x5)
def alidadelaw04_copies.f (k : Nat) (a0 : ByteArray) (a1 : Int) : Option (ByteArray) := alidadelaw04_copies.l0 k a0 a1 (⟨#[]⟩ : ByteArray) 0
theorem alidadelaw04_copies.mono_l : ∀ k, (∀ y0 y1 y2 y3, LeO (alidadelaw04_copies.l0 k y0 y1 y2 y3) (alidadelaw04_copies.l0 (k + 1) y0 y1 y2 y3))
  | 0 => fun _ _ _ _ r h => by simp [alidadelaw04_copies.l0] at h
  | k + 1 => by
    have ih0 := alidadelaw04_copies.mono_l k
    · intro y0 y1 y2 y3
      unfold alidadelaw04_copies.l0
      repeat' first
      | (with_reducible exact ih0 _ _ _ _)
      | (with_reducible exact LeO.refl _)
      | (with_reducible exact LeO.none _)
      | (with_reducible refine LeO.ite ?_ ?_)
      | (with_reducible refine LeO.bind ?_ (fun _ => ?_))
      | exact ih0 _ _ _ _
      | exact LeO.none _
      | refine LeO.ite ?_ ?_
      | refine LeO.bind ?_ (fun _ => ?_)
theorem alidadelaw04_copies.mono : ∀ a0 a1 k, LeO (alidadelaw04_copies.f k a0 a1) (alidadelaw04_copies.f (k + 1) a0 a1) := by
  intro a0 a1 k
  have ih0 := alidadelaw04_copies.mono_l k
  unfold alidadelaw04_copies.f
  repeat' first
      | (with_reducible exact ih0 _ _ _ _)
      | (with_reducible exact LeO.refl _)
      | (with_reducible exact LeO.none _)
      | (with_reducible refine LeO.ite ?_ ?_)
      | (with_reducible refine LeO.bind ?_ (fun _ => ?_))
      | exact ih0 _ _ _ _
      | exact LeO.none _
      | refine LeO.ite ?_ ?_
      | refine LeO.bind ?_ (fun _ => ?_)
set_option maxHeartbeats 8000000 in
set_option maxRecDepth 100000 in
theorem alidadelaw04_copies.calls (k : Nat) (a0 : ByteArray) (a1 : Int) (r : ByteArray) (w : World) (h : alidadelaw04_copies.f k a0 a1 = some r) :
    Calls Tryd.prog 27 #[.string a0, .int .i64 a1] w fun e w' => e = .returned (.string r) ∧ Drawn0 w w' := by
  have H : (alidadelaw04_copies.l0 k a0 a1 (⟨#[]⟩ : ByteArray) 0) = some r := h
  clear h
  have H' := Aside0.mk H
  clear H
  go_enter Tryd.func27, Tryd.ntmps27
  go_wp2
  go_loopg [5, 6] k (fun kq v5 v6 w' => ∃ (x5_1 : ByteArray) (x6_1 : Int), v5 = .string x5_1 ∧ v6 = .int .i64 x6_1 ∧ Aside0 (alidadelaw04_copies.l0 kq a0 a1 x5_1 x6_1 = some r) ∧ Aside0 (kq ≤ k) ∧ Drawn0 w w')
  case atStart => exact ⟨((⟨#[]⟩ : ByteArray)), (0), (by first | rfl | (simp; done) | (simp [*]; done)), (by first | rfl | (simp; done) | (simp [*]; done)), H', ⟨Nat.le_refl _⟩, by repeat (first | exact Drawn0.refl _ | apply Drawn0.step)⟩
  case round =>
    clear H'
    try clear c2
    try clear p2
    obtain ⟨x5_1, x6_1, rfl, rfl, HA, HK1, ⟨m1, rfl⟩⟩ := hrel
    cases gk with
    | zero => exact absurd HA.out (by simp [alidadelaw04_copies.l0])
    | succ k1 =>
      have H := HA.out
      clear HA
      simp only [alidadelaw04_copies.l0] at H
      by_cases c3 : x6_1 < a1
      · rw [if_pos c3] at H
        have c3b0 : decide (x6_1 < a1) = true := decide_eq_true c3
        clear c3
        by_cases c4 : x5_1.size + a0.size ≤ 9223372036854775807
        · rw [if_pos c4] at H
          have c4b0 := eq_true c4
          have c4b1 : decide (x5_1.size + a0.size ≤ 9223372036854775807) = true := decide_eq_true c4
          try have c4b2 : (9223372036854775807 < x5_1.size + a0.size) = False := eq_false (Nat.not_lt.2 c4)
          have H' := Aside0.mk H
          clear H
          go_wp2
          go_roundg k1
          case measure => have := HK1.out; omega
          case rel => exact ⟨(x5_1 ++ a0), (wrap64 (x6_1 + 1)), (by first | rfl | (simp; done) | (simp [*]; done)), (by first | rfl | (simp; done) | (simp [*]; done)), H', ⟨by have := HK1.out; omega⟩, by repeat (first | exact Drawn0.refl _ | apply Drawn0.step)⟩
        · rw [if_neg c4] at H
          exact absurd H (by simp)
      · rw [if_neg c3] at H
        have c3b0 : decide (x6_1 < a1) = false := decide_eq_false c3
        clear c3
        obtain rfl := Option.some.inj H
        go_wp2
        go_ret
        exact ⟨by first | rfl | (simp; done) | (simp [*]; done), by repeat (first | exact Drawn0.refl _ | apply Drawn0.step)⟩

end Go.Proofs.YtjgloepeogelnaaDoor.Pr
