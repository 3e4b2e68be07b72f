/- Functions with the same answers as the Go functions of the program, with the proofs that the program comes to just these answers; no condition but those that each theorem names. (Laid by this work's own program mk.py out of the translation.) -/
import Derived.Test.YtjgloepeogelnaaDoorPrx0
import Derived.Test.YtjgloepeogelnaaDoorPrx1
import Derived.Test.YtjgloepeogelnaaDoorPrx2
import Derived.Test.YtjgloepeogelnaaDoorPrx3
import Derived.Test.YtjgloepeogelnaaDoorPrx4
import Derived.Test.YtjgloepeogelnaaDoorPrx7
import Derived.Test.YtjgloepeogelnaaDoorPrx9
import Derived.Test.YtjgloepeogelnaaDoorPrx14
import Derived.Test.YtjgloepeogelnaaDoorPrx15
namespace Go.Proofs.YtjgloepeogelnaaDoor.Pr
open Go.RowKit Go.Proofs.YtjgloepeogelnaaDoorW.PrintWords Go.Proofs.YtjgloepeogelnaaDoorW.PrintLast Go.Proofs.YtjgloepeogelnaaDoorW.PrintMore
attribute [local go_sem] max2_int min2_int max_two min_two max_three min_three max_four min_four   -- for this text's walks alone
set_option linter.unusedVariables false
set_option linter.unusedSimpArgs false

/-! ### alidadelaw04_works: function 10 -/
def alidadelaw04_works.l0 : Nat → List ByteArray → Int → Int → Option (Bool)
  | 0, _, _, _ => none
  | k + 1, x9, x10, x11 => if x11 < x10 then (if 0 ≤ x11 then (if x11 < (x9.length : Int) then ((dec_Parse.f (rdOf ByteArray.empty x9 x11)).bind fun bt250 => (if (bt250.1.length : Int) = 0 then (if bt250.2 = 4 then (alidadelaw04_works.l0 k x9 x10 (wrap64 (x11 + 1))) else (some false)) else (some false))) else (none)) else (none)) else ((nat_Of.f k 12345).bind fun t254 => ((dec_Split.f k t254 2).bind fun bt257 => ((nat_Of.f k 12345).bind fun t263 => ((dec_Split.f k t263 9).bind fun bt266 => ((alidadelaw04_is.f k (([0, 0, 1] : List Int)) (⟨#[49, 56, 52, 52, 54, 55, 52, 52, 48, 55, 51, 55, 48, 57, 53, 53, 49, 54, 49, 54]⟩ : ByteArray)).bind fun t275 => (if t275 = true then ((dec_Ten.f k 9).bind fun t276 => ((nat_Of.f k 1000000000).bind fun t279 => ((alidadelaw04_same.f k t276 t279).bind fun t282 => (if t282 = true then ((nat_Of.f k 123).bind fun t283 => ((alidadelaw04_same.f k bt257.1 t283).bind fun t286 => (if t286 = true then ((nat_Of.f k 45).bind fun t287 => ((alidadelaw04_same.f k bt257.2 t287).bind fun t290 => (if t290 = true then (if (bt266.1.length : Int) = 0 then ((nat_Of.f k 12345).bind fun t291 => ((alidadelaw04_same.f k bt266.2 t291).bind fun t294 => (some t294))) else (some false)) else (some false)))) else (some false)))) else (some false))))) else (some false)))))))
def alidadelaw04_works.f (k : Nat)  : Option (Bool) := (some (([(⟨#[48, 48]⟩ : ByteArray), (⟨#[]⟩ : ByteArray), (⟨#[49, 97]⟩ : ByteArray), (⟨#[45, 49]⟩ : ByteArray)] : List ByteArray) : List ByteArray)).bind fun y246 => (alidadelaw04_works.l0 k y246 (y246.length : Int) 0)
theorem alidadelaw04_works.mono_l : ∀ k, (∀ y0 y1 y2, LeO (alidadelaw04_works.l0 k y0 y1 y2) (alidadelaw04_works.l0 (k + 1) y0 y1 y2))
  | 0 => fun _ _ _ r h => by simp [alidadelaw04_works.l0] at h
  | k + 1 => by
    have ih0 := alidadelaw04_works.mono_l k
    · intro y0 y1 y2
      unfold alidadelaw04_works.l0
      repeat' first
      | (with_reducible exact ih0 _ _ _)
      | (with_reducible exact alidadelaw04_is.mono _ _ _)
      | (with_reducible exact alidadelaw04_same.mono _ _ _)
      | (with_reducible exact dec_Split.mono _ _ _)
      | (with_reducible exact dec_Ten.mono _ _)
      | (with_reducible exact nat_Of.mono _ _)
      | (with_reducible exact LeO.refl _)
      | (with_reducible exact LeO.none _)
      | (with_reducible refine LeO.ite ?_ ?_)
      | (with_reducible refine LeO.bind ?_ (fun _ => ?_))
      | exact ih0 _ _ _
      | exact alidadelaw04_is.mono _ _ _
      | exact alidadelaw04_same.mono _ _ _
      | exact dec_Split.mono _ _ _
      | exact dec_Ten.mono _ _
      | exact nat_Of.mono _ _
      | exact LeO.none _
      | refine LeO.ite ?_ ?_
      | refine LeO.bind ?_ (fun _ => ?_)
theorem alidadelaw04_works.mono : ∀ k, LeO (alidadelaw04_works.f k ) (alidadelaw04_works.f (k + 1) ) := by
  intro  k
  have ih0 := alidadelaw04_works.mono_l k
  unfold alidadelaw04_works.f
  repeat' first
      | (with_reducible exact ih0 _ _ _)
      | (with_reducible exact alidadelaw04_is.mono _ _ _)
      | (with_reducible exact alidadelaw04_same.mono _ _ _)
      | (with_reducible exact dec_Split.mono _ _ _)
      | (with_reducible exact dec_Ten.mono _ _)
      | (with_reducible exact nat_Of.mono _ _)
      | (with_reducible exact LeO.refl _)
      | (with_reducible exact LeO.none _)
      | (with_reducible refine LeO.ite ?_ ?_)
      | (with_reducible refine LeO.bind ?_ (fun _ => ?_))
      | exact ih0 _ _ _
      | exact alidadelaw04_is.mono _ _ _
      | exact alidadelaw04_same.mono _ _ _
      | exact dec_Split.mono _ _ _
      | exact dec_Ten.mono _ _
      | exact nat_Of.mono _ _
      | exact LeO.none _
      | refine LeO.ite ?_ ?_
      | refine LeO.bind ?_ (fun _ => ?_)
theorem deci_of_num {l : List UInt8} (n : Nat) (hg : Nums.good l = true) (hn : Nums.num l = n) : Nums.deci n = l := by rw [← hn, Nums.deci_num l hg]
theorem parse_bad (s : ByteArray) (hs : s.size ≤ 140737488355328) (hg : Nums.good s.data.toList = false) : dec_Parse.f s = some ([], 4) := by
  rw [dec_Parse_eq s hs, hg, if_neg (by decide)]
theorem law_works_ev (c : Nat) (hM : MulTells c) (hc : 1000000000 < 4294967296 ^ c)
    (hD : ∀ (l : List Int) (T : Nat), Nums.rng l = true → Nums.may l = true → 0 < T → T ≤ 1000000000 → div_DivMod.f l (Nums.toL T) = some (Nums.toL (Nums.val l / T), Nums.toL (Nums.val l % T), 0)) :
    Nums.Ev (fun k => alidadelaw04_works.f k) true := by
  have hp1 := parse_bad ⟨#[48, 48]⟩ (by decide) (by decide)
  have hp2 := parse_bad ⟨#[]⟩ (by decide) (by decide)
  have hp3 := parse_bad ⟨#[49, 97]⟩ (by decide) (by decide)
  have hp4 := parse_bad ⟨#[45, 49]⟩ (by decide) (by decide)
  have hO := fun (x : Nat) (hx : x < 4294967296) => nat_Of_ev (x : Int) (by omega) (by omega)
  have hmay : ∀ x : Nat, x < 4294967296 → Nums.may (Nums.toL x) = true := fun x hx => Nums.may_toL (Nat.lt_of_lt_of_le (by rw [Nat.pow_one]; exact hx : x < 4294967296 ^ 1) (Nums.pow_le_gen 4294967296 1 65536 (by decide) (by decide)))
  have hlen : ∀ x : Nat, x < 4294967296 → (Nums.toL x).length ≤ 9223372036854775806 := fun x hx => by
    have := (Nums.may_iff.1 (hmay x hx)).1
    omega
  have hS := fun (n x : Nat) (hn : n ≤ 9) (hx : x < 4294967296) => dec_Split_ev c hM (Nums.toL x) n (Nums.rng_toL x) (hmay x hx) (by omega) (.inl (Nat.lt_of_le_of_lt (Nat.pow_le_pow_right (by decide) hn : 10 ^ n ≤ 10 ^ 9) hc)) (fun _ _ => hD _ _ (Nums.rng_toL x) (hmay x hx) (Nat.pow_pos (by decide)) (Nat.pow_le_pow_right (by decide) hn : 10 ^ n ≤ 10 ^ 9))
  simp only [Nums.val_toL] at hS
  have hT := dec_Ten_ev c hM 9 (by decide) (.inl hc)
  have hsame := fun (x y : Nat) (hx : x < 4294967296) => same_ev (Nums.toL x) (Nums.toL y) (hlen x hx)
  have his := law_is_ev [0, 0, 1] ⟨#[49, 56, 52, 52, 54, 55, 52, 52, 48, 55, 51, 55, 48, 57, 53, 53, 49, 54, 49, 54]⟩ (by decide) (by decide) (by decide) (deci_of_num _ (by decide) (by decide))
  rw [Nums.lim_eq (Nat.lt_of_lt_of_le (show 10 ^ 9 < 4294967296 ^ 1 by decide) (Nums.pow_le_gen 4294967296 1 65536 (by decide) (by decide)))] at hT
  clear hM hD hc
  have hl : ∀ k (xs : List ByteArray) (n i : Nat) (s : ByteArray), i < n → xs.length = n → n < 100 → rdOf ByteArray.empty xs (i : Int) = s → dec_Parse.f s = some ([], 4) → alidadelaw04_works.l0 (k + 1) xs (n : Int) (i : Int) = alidadelaw04_works.l0 k xs (n : Int) ((i + 1 : Nat) : Int) := by
    intro k xs n i s h1 h2 h3 h4 h5
    have ew : wrap64 ((i : Int) + 1) = ((i + 1 : Nat) : Int) := by unfold wrap64; omega
    rw [alidadelaw04_works.l0, if_pos (by omega), if_pos (by omega), if_pos (by omega), h4, h5, Option.bind_some, if_pos (show ((([] : List Int), (4 : Int)).1.length : Int) = 0 from rfl), if_pos (show (([] : List Int), (4 : Int)).2 = 4 from rfl), ew]
  have h0 : ∀ k, alidadelaw04_works.f (k + 4) = alidadelaw04_works.l0 k [(⟨#[48, 48]⟩ : ByteArray), ⟨#[]⟩, ⟨#[49, 97]⟩, ⟨#[45, 49]⟩] ((4 : Nat) : Int) ((4 : Nat) : Int) := by
    intro k
    show alidadelaw04_works.l0 (k + 3 + 1) [(⟨#[48, 48]⟩ : ByteArray), ⟨#[]⟩, ⟨#[49, 97]⟩, ⟨#[45, 49]⟩] ((4 : Nat) : Int) ((0 : Nat) : Int) = _
    rw [hl (k + 3) _ 4 0 ⟨#[48, 48]⟩ (by decide) rfl (by decide) rfl hp1, hl (k + 2) _ 4 1 ⟨#[]⟩ (by decide) rfl (by decide) rfl hp2, hl (k + 1) _ 4 2 ⟨#[49, 97]⟩ (by decide) rfl (by decide) rfl hp3, hl k _ 4 3 ⟨#[45, 49]⟩ (by decide) rfl (by decide) rfl hp4]
  refine Ev_add 4 ?_ h0
  refine Nums.Ev.succ ?_ (fun k => by rw [alidadelaw04_works.l0, if_neg (by decide)])
  have s1 := hS 2 12345 (by decide) (by decide)
  have s2 := hS 9 12345 (by decide) (by decide)
  refine Nums.Ev.bind (f := fun k => nat_Of.f k 12345) (hO 12345 (by decide)) ?_
  refine Nums.Ev.bind (f := fun k => dec_Split.f k (Nums.toL 12345) 2) s1 ?_
  refine Nums.Ev.bind (f := fun k => nat_Of.f k 12345) (hO 12345 (by decide)) ?_
  refine Nums.Ev.bind (f := fun k => dec_Split.f k (Nums.toL 12345) 9) s2 ?_
  refine Nums.Ev.bind (f := fun k => alidadelaw04_is.f k _ _) his ?_
  simp only [if_true]
  refine Nums.Ev.bind (f := fun k => dec_Ten.f k 9) hT ?_
  refine Nums.Ev.bind (f := fun k => nat_Of.f k 1000000000) (hO 1000000000 (by decide)) ?_
  refine Nums.Ev.bind (f := fun k => alidadelaw04_same.f k _ _) ((hsame 1000000000 1000000000 (by decide)).cast (decide_eq_true rfl)) ?_
  simp only [if_true]
  refine Nums.Ev.bind (f := fun k => nat_Of.f k 123) (hO 123 (by decide)) ?_
  refine Nums.Ev.bind (f := fun k => alidadelaw04_same.f k _ _) ((hsame 123 123 (by decide)).cast (decide_eq_true rfl)) ?_
  simp only [if_true]
  refine Nums.Ev.bind (f := fun k => nat_Of.f k 45) (hO 45 (by decide)) ?_
  refine Nums.Ev.bind (f := fun k => alidadelaw04_same.f k _ _) ((hsame 45 45 (by decide)).cast (decide_eq_true rfl)) ?_
  simp only [if_true]
  have e0 : (((Nums.toL (12345 / 10 ^ 9)).length : Nat) : Int) = 0 := by
    rw [show 12345 / 10 ^ 9 = 0 from rfl, Nums.toL_zero]
    rfl
  simp only [if_pos e0]
  refine Nums.Ev.bind (f := fun k => nat_Of.f k 12345) (hO 12345 (by decide)) ?_
  refine Nums.Ev.bind (f := fun k => alidadelaw04_same.f k _ _) ((hsame 12345 12345 (by decide)).cast (decide_eq_true rfl)) (Nums.Ev.some _)
theorem works_ev : Nums.Ev (fun k => alidadelaw04_works.f k) true :=
  law_works_ev 65536 mul_tells (Nat.lt_of_lt_of_le (show 1000000000 < 4294967296 ^ 1 by decide) (Nums.pow_le_gen 4294967296 1 65536 (by decide) (by decide))) (fun l T h1 h2 h3 h4 => div_tells l T h1 h2 h3 (by omega))
theorem alidadelaw04_works.true_only (k : Nat) (r : Bool) (h : alidadelaw04_works.f k = some r) : r = true := by
  obtain ⟨n, hn⟩ := works_ev
  have h1 := hn (max n k) (by omega)
  have h2 := at_rounds alidadelaw04_works.mono (show k ≤ max n k by omega) h
  exact Option.some.inj (h2.symm.trans h1)
set_option maxHeartbeats 8000000 in
set_option maxRecDepth 100000 in
theorem alidadelaw04_works.calls_true (k : Nat)  (w : World) (h : alidadelaw04_works.f k  = some true) :
    Calls Tryd.prog 10 #[] w fun e w' => e = .returned (.bool true) ∧ Below w.heap.size w w' := by
  have HB := Aside0.mk (Below.refl w.heap.size w)
  have H : ((some (([(⟨#[48, 48]⟩ : ByteArray), (⟨#[]⟩ : ByteArray), (⟨#[49, 97]⟩ : ByteArray), (⟨#[45, 49]⟩ : ByteArray)] : List ByteArray) : List ByteArray)).bind fun y246 => (alidadelaw04_works.l0 k y246 (y246.length : Int) 0)) = some true := h
  clear h
  obtain ⟨y246, hy246⟩ : ∃ y_ : List ByteArray, y_ = (([(⟨#[48, 48]⟩ : ByteArray), (⟨#[]⟩ : ByteArray), (⟨#[49, 97]⟩ : ByteArray), (⟨#[45, 49]⟩ : ByteArray)] : List ByteArray)) := ⟨_, rfl⟩
  replace H : (alidadelaw04_works.l0 k y246 (y246.length : Int) 0) = some true := by first | (rw [hy246]; with_reducible exact H) | (have H2_ := (Option.bind_some _ _).symm.trans H; rw [hy246]; with_reducible exact H2_) | (have H2_ := (Option.bind_some _ _).symm.trans H; with_reducible exact H2_) | with_reducible exact H | (rw [hy246]; exact H) | exact H
  have Ny246 := Aside0.mk hy246
  clear hy246
  have H' := Aside0.mk H
  clear H
  go_enter Tryd.func10, Tryd.ntmps10
  go_wp2_with (first | ((with_reducible refine gate_dst (N := 9) rfl ?_); (try (refine gate_guard (by rfl) ?_; dsimp only)); refine Kd.R_lit Kd.string _ 9 ?hg (N := 9) ?hd (xs := ([(⟨#[48, 48]⟩ : ByteArray), (⟨#[]⟩ : ByteArray), (⟨#[49, 97]⟩ : ByteArray), (⟨#[45, 49]⟩ : ByteArray)] : List ByteArray)) (inner := [.string (⟨#[48, 48]⟩ : ByteArray), .string (⟨#[]⟩ : ByteArray), .string (⟨#[49, 97]⟩ : ByteArray), .string (⟨#[45, 49]⟩ : ByteArray)]) (ok := fun _ => True) (okp := fun _ => True) ?hr ?hp (fun _ hk => hk) trivial (Below.refl _ _) (Nat.le_refl _) (by simp) ?_; (case hd => rfl); (case hg => rfl); (case hr => first | (go_simp; done) | (go_simp; rfl)); (case hp => exact (Reps.one (show Kd.M Kd.string _ _ _ (⟨#[48, 48]⟩ : ByteArray) [.string (⟨#[48, 48]⟩ : ByteArray)] from rfl) (Reps.one (show Kd.M Kd.string _ _ _ (⟨#[]⟩ : ByteArray) [.string (⟨#[]⟩ : ByteArray)] from rfl) (Reps.one (show Kd.M Kd.string _ _ _ (⟨#[49, 97]⟩ : ByteArray) [.string (⟨#[49, 97]⟩ : ByteArray)] from rfl) (Reps.one (show Kd.M Kd.string _ _ _ (⟨#[45, 49]⟩ : ByteArray) [.string (⟨#[45, 49]⟩ : ByteArray)] from rfl) (Reps.none _ _)))))); intro v247 w1 ho2 hb hg_ hnew_; clear hg_ hnew_; (first | rw [← Ny246.out] at ho2 | (simp only [Int.reduceToNat] at ho2; rw [← Ny246.out] at ho2)); have n0_ := Aside0.mk (Kd.R_lower ho2 (below_size (by repeat (first | (with_reducible first | exact HB.out | apply below_alloc | apply pw_below_drewN | apply below_drew1) | exact HB.out)))); have n1_ := Aside0.mk (below_step (by repeat (first | (with_reducible first | exact HB.out | apply below_alloc | apply pw_below_drewN | apply below_drew1) | exact HB.out)) hb); clear HB; have HO248 := n0_; have HB := n1_; clear n0_ n1_; clear hb ho2; obtain ⟨Ao3, co3, eo3⟩ := Kd.R_slice HO248.out; subst eo3))
  go_loopg [11] k (fun kq v11 w' => ∃ (x11_1 : Int), v11 = .int .i64 x11_1 ∧ Aside0 (alidadelaw04_works.l0 kq y246 (y246.length : Int) x11_1 = some true) ∧ Aside0 (kq ≤ k) ∧ Aside0 (Kd.R Kd.string 9 w' w.heap.size (fun _ => True) (.slice Ao3 y246.length co3) y246) ∧ Aside0 (Below w.heap.size w w'))
  case atStart => exact ⟨(0), (by first | rfl | (simp; done) | (simp [*]; done)), H', ⟨Nat.le_refl _⟩, ⟨by (with_reducible repeat (first | apply Kd.R_alloc | apply Kd.R_drewN | apply Kd.R_drew)); exact HO248.out⟩, ⟨by repeat (first | (with_reducible first | exact HB.out | apply below_alloc | apply pw_below_drewN | apply below_drew1) | exact HB.out)⟩⟩
  case round =>
    clear H'
    try clear c1
    try clear p2
    obtain ⟨x11_1, rfl, HA, HK1, HO_9, HB⟩ := hrel
    cases gk with
    | zero => exact absurd HA.out (by simp [alidadelaw04_works.l0])
    | succ k1 =>
      have H := HA.out
      clear HA
      simp only [alidadelaw04_works.l0] at H
      by_cases c4 : x11_1 < (y246.length : Int)
      · rw [if_pos c4] at H
        have c4b0 : decide (x11_1 < (y246.length : Int)) = true := decide_eq_true c4
        clear c4
        by_cases c5 : 0 ≤ x11_1
        · rw [if_pos c5] at H
          have c5b0 : decide (0 ≤ x11_1) = true := decide_eq_true c5
          clear c5
          by_cases c6 : x11_1 < (y246.length : Int)
          · rw [if_pos c6] at H
            have c6b0 : decide (x11_1 < (y246.length : Int)) = true := decide_eq_true c6
            clear c6
            replace H := Option.bind_eq_some_iff.mp H
            obtain ⟨⟨t250, t251⟩, A70, H⟩ := H
            replace H : (if (t250.length : Int) = 0 then (if t251 = 4 then (alidadelaw04_works.l0 k1 y246 (y246.length : Int) (wrap64 (x11_1 + 1))) else (some false)) else (some false)) = some true := H
            have A7 := Aside0.mk A70
            clear A70
            by_cases c8 : (t250.length : Int) = 0
            · rw [if_pos c8] at H
              have c8b0 : ((t250.length : Int) == 0) = true := beq_iff_eq.mpr c8
              have c8b1 : ((t250.length : Int) != 0) = false := bne_eq_false_iff_eq.mpr c8
              clear c8
              by_cases c9 : t251 = 4
              · rw [if_pos c9] at H
                have c9b0 : (t251 == 4) = true := beq_iff_eq.mpr c9
                have c9b1 : (t251 != 4) = false := bne_eq_false_iff_eq.mpr c9
                clear c9
                have H' := Aside0.mk H
                clear H
                have p249 : 0 ≤ (x11_1 : Int) := of_decide_eq_true (by first | (with_reducible assumption) | assumption)
                have q249 : x11_1 < (y246.length : Int) := of_decide_eq_true (by first | (with_reducible assumption) | assumption)
                obtain ⟨ad249, e249, hx249_0⟩ := Kd.at_string (Kd.R_reads' HO_9.out).2.2 x11_1 p249 q249
                cases e249
                replace p249 := eq_true p249
                replace q249 := eq_true q249
                go_wp2_with (first | ((with_reducible refine gate_callee (f := 14) rfl ?_); refine goesL_ (some 17) rfl rfl Tryd.func14 (by kernel_rfl) rfl #[.string (rdOf ByteArray.empty y246 x11_1)] rfl (by (try simp only [List.map_toArray, List.map_cons, List.map_nil]); first | done | rfl | (simp only [List.length_drop, List.length_take]; rfl)) ?_; (with_reducible refine (dec_Parse.calls (rdOf ByteArray.empty y246 x11_1) t250 t251 _ A7.out).mono ?_); rintro e w10 ⟨v252, rfl, ho0, hb⟩; refine ⟨_, rfl, ?_⟩; have n0_ := Aside0.mk (Kd.R_below (by (with_reducible repeat (first | apply Kd.R_alloc | apply Kd.R_drewN | apply Kd.R_drew)); exact HO_9.out) hb); have n1_ := Aside0.mk (Kd.R_lower ho0 (below_size (by repeat (first | (with_reducible first | exact HB.out | apply below_alloc | apply pw_below_drewN | apply below_drew1) | exact HB.out)))); have n2_ := Aside0.mk (below_step (by repeat (first | (with_reducible first | exact HB.out | apply below_alloc | apply pw_below_drewN | apply below_drew1) | exact HB.out)) hb); clear HO_9; clear HB; have HO_9 := n0_; have HO253 := n1_; have HB := n2_; clear n0_ n1_ n2_; (try clear hb); (try clear hb2); (try clear hk); (try clear hi); (try clear ho0); obtain ⟨Ao11, co11, eo11⟩ := Kd.R_slice HO253.out; subst eo11))
                go_roundg k1
                case measure => have := HK1.out; omega
                case rel => exact ⟨(wrap64 (x11_1 + 1)), (by first | rfl | (simp; done) | (simp [*]; done)), H', ⟨by have := HK1.out; omega⟩, ⟨by (with_reducible repeat (first | apply Kd.R_alloc | apply Kd.R_drewN | apply Kd.R_drew)); exact HO_9.out⟩, ⟨by repeat (first | (with_reducible first | exact HB.out | apply below_alloc | apply pw_below_drewN | apply below_drew1) | exact HB.out)⟩⟩
              · rw [if_neg c9] at H
                have c9b0 : (t251 == 4) = false := beq_eq_false_iff_ne.mpr c9
                have c9b1 : (t251 != 4) = true := bne_iff_ne.mpr c9
                exact absurd (Option.some.inj H) (by decide)
            · rw [if_neg c8] at H
              have c8b0 : ((t250.length : Int) == 0) = false := beq_eq_false_iff_ne.mpr c8
              have c8b1 : ((t250.length : Int) != 0) = true := bne_iff_ne.mpr c8
              have c8b2 : ¬ (t250 = []) := fun h_ => c8 (by rw [h_]; rfl)
              exact absurd (Option.some.inj H) (by decide)
          · rw [if_neg c6] at H
            exact absurd H (by simp)
        · rw [if_neg c5] at H
          exact absurd H (by simp)
      · rw [if_neg c4] at H
        have c4b0 : decide (x11_1 < (y246.length : Int)) = false := decide_eq_false c4
        clear c4
        replace H := Option.bind_eq_some_iff.mp H
        obtain ⟨t254, A160, H⟩ := H
        replace H : ((dec_Split.f k1 t254 2).bind fun bt257 => ((nat_Of.f k1 12345).bind fun t263 => ((dec_Split.f k1 t263 9).bind fun bt266 => ((alidadelaw04_is.f k1 (([0, 0, 1] : List Int)) (⟨#[49, 56, 52, 52, 54, 55, 52, 52, 48, 55, 51, 55, 48, 57, 53, 53, 49, 54, 49, 54]⟩ : ByteArray)).bind fun t275 => (if t275 = true then ((dec_Ten.f k1 9).bind fun t276 => ((nat_Of.f k1 1000000000).bind fun t279 => ((alidadelaw04_same.f k1 t276 t279).bind fun t282 => (if t282 = true then ((nat_Of.f k1 123).bind fun t283 => ((alidadelaw04_same.f k1 bt257.1 t283).bind fun t286 => (if t286 = true then ((nat_Of.f k1 45).bind fun t287 => ((alidadelaw04_same.f k1 bt257.2 t287).bind fun t290 => (if t290 = true then (if (bt266.1.length : Int) = 0 then ((nat_Of.f k1 12345).bind fun t291 => ((alidadelaw04_same.f k1 bt266.2 t291).bind fun t294 => (some t294))) else (some false)) else (some false)))) else (some false)))) else (some false))))) else (some false)))))) = some true := H
        have A16 := Aside0.mk A160
        clear A160
        replace H := Option.bind_eq_some_iff.mp H
        obtain ⟨⟨t257, t258⟩, A170, H⟩ := H
        replace H : ((nat_Of.f k1 12345).bind fun t263 => ((dec_Split.f k1 t263 9).bind fun bt266 => ((alidadelaw04_is.f k1 (([0, 0, 1] : List Int)) (⟨#[49, 56, 52, 52, 54, 55, 52, 52, 48, 55, 51, 55, 48, 57, 53, 53, 49, 54, 49, 54]⟩ : ByteArray)).bind fun t275 => (if t275 = true then ((dec_Ten.f k1 9).bind fun t276 => ((nat_Of.f k1 1000000000).bind fun t279 => ((alidadelaw04_same.f k1 t276 t279).bind fun t282 => (if t282 = true then ((nat_Of.f k1 123).bind fun t283 => ((alidadelaw04_same.f k1 t257 t283).bind fun t286 => (if t286 = true then ((nat_Of.f k1 45).bind fun t287 => ((alidadelaw04_same.f k1 t258 t287).bind fun t290 => (if t290 = true then (if (bt266.1.length : Int) = 0 then ((nat_Of.f k1 12345).bind fun t291 => ((alidadelaw04_same.f k1 bt266.2 t291).bind fun t294 => (some t294))) else (some false)) else (some false)))) else (some false)))) else (some false))))) else (some false))))) = some true := H
        have A17 := Aside0.mk A170
        clear A170
        replace H := Option.bind_eq_some_iff.mp H
        obtain ⟨t263, A180, H⟩ := H
        replace H : ((dec_Split.f k1 t263 9).bind fun bt266 => ((alidadelaw04_is.f k1 (([0, 0, 1] : List Int)) (⟨#[49, 56, 52, 52, 54, 55, 52, 52, 48, 55, 51, 55, 48, 57, 53, 53, 49, 54, 49, 54]⟩ : ByteArray)).bind fun t275 => (if t275 = true then ((dec_Ten.f k1 9).bind fun t276 => ((nat_Of.f k1 1000000000).bind fun t279 => ((alidadelaw04_same.f k1 t276 t279).bind fun t282 => (if t282 = true then ((nat_Of.f k1 123).bind fun t283 => ((alidadelaw04_same.f k1 t257 t283).bind fun t286 => (if t286 = true then ((nat_Of.f k1 45).bind fun t287 => ((alidadelaw04_same.f k1 t258 t287).bind fun t290 => (if t290 = true then (if (bt266.1.length : Int) = 0 then ((nat_Of.f k1 12345).bind fun t291 => ((alidadelaw04_same.f k1 bt266.2 t291).bind fun t294 => (some t294))) else (some false)) else (some false)))) else (some false)))) else (some false))))) else (some false)))) = some true := H
        have A18 := Aside0.mk A180
        clear A180
        replace H := Option.bind_eq_some_iff.mp H
        obtain ⟨⟨t266, t267⟩, A190, H⟩ := H
        replace H : ((alidadelaw04_is.f k1 (([0, 0, 1] : List Int)) (⟨#[49, 56, 52, 52, 54, 55, 52, 52, 48, 55, 51, 55, 48, 57, 53, 53, 49, 54, 49, 54]⟩ : ByteArray)).bind fun t275 => (if t275 = true then ((dec_Ten.f k1 9).bind fun t276 => ((nat_Of.f k1 1000000000).bind fun t279 => ((alidadelaw04_same.f k1 t276 t279).bind fun t282 => (if t282 = true then ((nat_Of.f k1 123).bind fun t283 => ((alidadelaw04_same.f k1 t257 t283).bind fun t286 => (if t286 = true then ((nat_Of.f k1 45).bind fun t287 => ((alidadelaw04_same.f k1 t258 t287).bind fun t290 => (if t290 = true then (if (t266.length : Int) = 0 then ((nat_Of.f k1 12345).bind fun t291 => ((alidadelaw04_same.f k1 t267 t291).bind fun t294 => (some t294))) else (some false)) else (some false)))) else (some false)))) else (some false))))) else (some false))) = some true := H
        have A19 := Aside0.mk A190
        clear A190
        obtain ⟨y272, hy272⟩ : ∃ y_ : List Int, y_ = (([0, 0, 1] : List Int)) := ⟨_, rfl⟩
        replace H : ((alidadelaw04_is.f k1 y272 (⟨#[49, 56, 52, 52, 54, 55, 52, 52, 48, 55, 51, 55, 48, 57, 53, 53, 49, 54, 49, 54]⟩ : ByteArray)).bind fun t275 => (if t275 = true then ((dec_Ten.f k1 9).bind fun t276 => ((nat_Of.f k1 1000000000).bind fun t279 => ((alidadelaw04_same.f k1 t276 t279).bind fun t282 => (if t282 = true then ((nat_Of.f k1 123).bind fun t283 => ((alidadelaw04_same.f k1 t257 t283).bind fun t286 => (if t286 = true then ((nat_Of.f k1 45).bind fun t287 => ((alidadelaw04_same.f k1 t258 t287).bind fun t290 => (if t290 = true then (if (t266.length : Int) = 0 then ((nat_Of.f k1 12345).bind fun t291 => ((alidadelaw04_same.f k1 t267 t291).bind fun t294 => (some t294))) else (some false)) else (some false)))) else (some false)))) else (some false))))) else (some false))) = some true := by first | (rw [hy272]; with_reducible exact H) | (have H2_ := (Option.bind_some _ _).symm.trans H; rw [hy272]; with_reducible exact H2_) | (have H2_ := (Option.bind_some _ _).symm.trans H; with_reducible exact H2_) | with_reducible exact H | (rw [hy272]; exact H) | exact H
        have Ny272 := Aside0.mk hy272
        clear hy272
        replace H := Option.bind_eq_some_iff.mp H
        obtain ⟨t275, A200, H⟩ := H
        replace H : (if t275 = true then ((dec_Ten.f k1 9).bind fun t276 => ((nat_Of.f k1 1000000000).bind fun t279 => ((alidadelaw04_same.f k1 t276 t279).bind fun t282 => (if t282 = true then ((nat_Of.f k1 123).bind fun t283 => ((alidadelaw04_same.f k1 t257 t283).bind fun t286 => (if t286 = true then ((nat_Of.f k1 45).bind fun t287 => ((alidadelaw04_same.f k1 t258 t287).bind fun t290 => (if t290 = true then (if (t266.length : Int) = 0 then ((nat_Of.f k1 12345).bind fun t291 => ((alidadelaw04_same.f k1 t267 t291).bind fun t294 => (some t294))) else (some false)) else (some false)))) else (some false)))) else (some false))))) else (some false)) = some true := H
        have A20 := Aside0.mk A200
        clear A200
        by_cases c21 : t275 = true
        · subst c21
          have H1 : ((dec_Ten.f k1 9).bind fun t276 => ((nat_Of.f k1 1000000000).bind fun t279 => ((alidadelaw04_same.f k1 t276 t279).bind fun t282 => (if t282 = true then ((nat_Of.f k1 123).bind fun t283 => ((alidadelaw04_same.f k1 t257 t283).bind fun t286 => (if t286 = true then ((nat_Of.f k1 45).bind fun t287 => ((alidadelaw04_same.f k1 t258 t287).bind fun t290 => (if t290 = true then (if (t266.length : Int) = 0 then ((nat_Of.f k1 12345).bind fun t291 => ((alidadelaw04_same.f k1 t267 t291).bind fun t294 => (some t294))) else (some false)) else (some false)))) else (some false)))) else (some false))))) = some true := by rw [if_pos rfl] at H; exact H
          clear H
          have H := H1
          clear H1
          replace H := Option.bind_eq_some_iff.mp H
          obtain ⟨t276, A220, H⟩ := H
          replace H : ((nat_Of.f k1 1000000000).bind fun t279 => ((alidadelaw04_same.f k1 t276 t279).bind fun t282 => (if t282 = true then ((nat_Of.f k1 123).bind fun t283 => ((alidadelaw04_same.f k1 t257 t283).bind fun t286 => (if t286 = true then ((nat_Of.f k1 45).bind fun t287 => ((alidadelaw04_same.f k1 t258 t287).bind fun t290 => (if t290 = true then (if (t266.length : Int) = 0 then ((nat_Of.f k1 12345).bind fun t291 => ((alidadelaw04_same.f k1 t267 t291).bind fun t294 => (some t294))) else (some false)) else (some false)))) else (some false)))) else (some false)))) = some true := H
          have A22 := Aside0.mk A220
          clear A220
          replace H := Option.bind_eq_some_iff.mp H
          obtain ⟨t279, A230, H⟩ := H
          replace H : ((alidadelaw04_same.f k1 t276 t279).bind fun t282 => (if t282 = true then ((nat_Of.f k1 123).bind fun t283 => ((alidadelaw04_same.f k1 t257 t283).bind fun t286 => (if t286 = true then ((nat_Of.f k1 45).bind fun t287 => ((alidadelaw04_same.f k1 t258 t287).bind fun t290 => (if t290 = true then (if (t266.length : Int) = 0 then ((nat_Of.f k1 12345).bind fun t291 => ((alidadelaw04_same.f k1 t267 t291).bind fun t294 => (some t294))) else (some false)) else (some false)))) else (some false)))) else (some false))) = some true := H
          have A23 := Aside0.mk A230
          clear A230
          replace H := Option.bind_eq_some_iff.mp H
          obtain ⟨t282, A240, H⟩ := H
          replace H : (if t282 = true then ((nat_Of.f k1 123).bind fun t283 => ((alidadelaw04_same.f k1 t257 t283).bind fun t286 => (if t286 = true then ((nat_Of.f k1 45).bind fun t287 => ((alidadelaw04_same.f k1 t258 t287).bind fun t290 => (if t290 = true then (if (t266.length : Int) = 0 then ((nat_Of.f k1 12345).bind fun t291 => ((alidadelaw04_same.f k1 t267 t291).bind fun t294 => (some t294))) else (some false)) else (some false)))) else (some false)))) else (some false)) = some true := H
          have A24 := Aside0.mk A240
          clear A240
          by_cases c25 : t282 = true
          · subst c25
            have H1 : ((nat_Of.f k1 123).bind fun t283 => ((alidadelaw04_same.f k1 t257 t283).bind fun t286 => (if t286 = true then ((nat_Of.f k1 45).bind fun t287 => ((alidadelaw04_same.f k1 t258 t287).bind fun t290 => (if t290 = true then (if (t266.length : Int) = 0 then ((nat_Of.f k1 12345).bind fun t291 => ((alidadelaw04_same.f k1 t267 t291).bind fun t294 => (some t294))) else (some false)) else (some false)))) else (some false)))) = some true := by rw [if_pos rfl] at H; exact H
            clear H
            have H := H1
            clear H1
            replace H := Option.bind_eq_some_iff.mp H
            obtain ⟨t283, A260, H⟩ := H
            replace H : ((alidadelaw04_same.f k1 t257 t283).bind fun t286 => (if t286 = true then ((nat_Of.f k1 45).bind fun t287 => ((alidadelaw04_same.f k1 t258 t287).bind fun t290 => (if t290 = true then (if (t266.length : Int) = 0 then ((nat_Of.f k1 12345).bind fun t291 => ((alidadelaw04_same.f k1 t267 t291).bind fun t294 => (some t294))) else (some false)) else (some false)))) else (some false))) = some true := H
            have A26 := Aside0.mk A260
            clear A260
            replace H := Option.bind_eq_some_iff.mp H
            obtain ⟨t286, A270, H⟩ := H
            replace H : (if t286 = true then ((nat_Of.f k1 45).bind fun t287 => ((alidadelaw04_same.f k1 t258 t287).bind fun t290 => (if t290 = true then (if (t266.length : Int) = 0 then ((nat_Of.f k1 12345).bind fun t291 => ((alidadelaw04_same.f k1 t267 t291).bind fun t294 => (some t294))) else (some false)) else (some false)))) else (some false)) = some true := H
            have A27 := Aside0.mk A270
            clear A270
            by_cases c28 : t286 = true
            · subst c28
              have H1 : ((nat_Of.f k1 45).bind fun t287 => ((alidadelaw04_same.f k1 t258 t287).bind fun t290 => (if t290 = true then (if (t266.length : Int) = 0 then ((nat_Of.f k1 12345).bind fun t291 => ((alidadelaw04_same.f k1 t267 t291).bind fun t294 => (some t294))) else (some false)) else (some false)))) = some true := by rw [if_pos rfl] at H; exact H
              clear H
              have H := H1
              clear H1
              replace H := Option.bind_eq_some_iff.mp H
              obtain ⟨t287, A290, H⟩ := H
              replace H : ((alidadelaw04_same.f k1 t258 t287).bind fun t290 => (if t290 = true then (if (t266.length : Int) = 0 then ((nat_Of.f k1 12345).bind fun t291 => ((alidadelaw04_same.f k1 t267 t291).bind fun t294 => (some t294))) else (some false)) else (some false))) = some true := H
              have A29 := Aside0.mk A290
              clear A290
              replace H := Option.bind_eq_some_iff.mp H
              obtain ⟨t290, A300, H⟩ := H
              replace H : (if t290 = true then (if (t266.length : Int) = 0 then ((nat_Of.f k1 12345).bind fun t291 => ((alidadelaw04_same.f k1 t267 t291).bind fun t294 => (some t294))) else (some false)) else (some false)) = some true := H
              have A30 := Aside0.mk A300
              clear A300
              by_cases c31 : t290 = true
              · subst c31
                have H1 : (if (t266.length : Int) = 0 then ((nat_Of.f k1 12345).bind fun t291 => ((alidadelaw04_same.f k1 t267 t291).bind fun t294 => (some t294))) else (some false)) = some true := by rw [if_pos rfl] at H; exact H
                clear H
                have H := H1
                clear H1
                by_cases c32 : (t266.length : Int) = 0
                · rw [if_pos c32] at H
                  have c32b0 : ((t266.length : Int) == 0) = true := beq_iff_eq.mpr c32
                  have c32b1 : ((t266.length : Int) != 0) = false := bne_eq_false_iff_eq.mpr c32
                  clear c32
                  replace H := Option.bind_eq_some_iff.mp H
                  obtain ⟨t291, A330, H⟩ := H
                  replace H : ((alidadelaw04_same.f k1 t267 t291).bind fun t294 => (some t294)) = some true := H
                  have A33 := Aside0.mk A330
                  clear A330
                  replace H := Option.bind_eq_some_iff.mp H
                  obtain ⟨t294, A340, H⟩ := H
                  replace H : (some t294) = some true := H
                  have A34 := Aside0.mk A340
                  clear A340
                  obtain rfl := Option.some.inj H
                  go_wp2_with (first | ((with_reducible refine gate_callee (f := 29) rfl ?_); refine goesL_ (some 29) rfl rfl Tryd.func29 (by kernel_rfl) rfl #[.int .u64 12345] rfl (by (try simp only [List.map_toArray, List.map_cons, List.map_nil]); first | done | rfl | (simp only [List.length_drop, List.length_take]; rfl)) ?_; (with_reducible refine (nat_Of.calls k1 12345 t254 _ A16.out).mono ?_); rintro e w35 ⟨v255, rfl, ho0, hb⟩; refine ⟨_, rfl, ?_⟩; have n0_ := Aside0.mk (Kd.R_below (by (with_reducible repeat (first | apply Kd.R_alloc | apply Kd.R_drewN | apply Kd.R_drew)); exact HO_9.out) hb); have n1_ := Aside0.mk (Kd.R_lower ho0 (below_size (by repeat (first | (with_reducible first | exact HB.out | apply below_alloc | apply pw_below_drewN | apply below_drew1) | exact HB.out)))); have n2_ := Aside0.mk (below_step (by repeat (first | (with_reducible first | exact HB.out | apply below_alloc | apply pw_below_drewN | apply below_drew1) | exact HB.out)) hb); clear HO_9; clear HB; have HO_9 := n0_; have HO256 := n1_; have HB := n2_; clear n0_ n1_ n2_; (try clear hb); (try clear hb2); (try clear hk); (try clear hi); (try clear ho0); obtain ⟨Ao36, co36, eo36⟩ := Kd.R_slice HO256.out; subst eo36) | ((with_reducible refine gate_callee (f := 21) rfl ?_); refine goesL_ (some 30) rfl rfl Tryd.func21 (by kernel_rfl) rfl #[.slice Ao36 t254.length co36, .int .i64 2] rfl (by (try simp only [List.map_toArray, List.map_cons, List.map_nil]); first | done | rfl | (simp only [List.length_drop, List.length_take]; rfl)) ?_; (with_reducible refine (dec_Split.calls k1 _ _ t254 2 t257 t258 _ ?side1 ?side2 A17.out).mono ?_); (case side1 => repeat (first | exact (Kd.R_reads' HO256.out).2.2 | (with_reducible refine Kd.C_alloc ?_ _) | (with_reducible refine Kd.C_drewN ?_ _) | (with_reducible refine Kd.C_drew ?_))); (case side2 => exact (Kd.R_reads' HO256.out).2.1); rintro e w37 ⟨v259, v261, rfl, ho0, ho1, hb⟩; refine ⟨_, rfl, ?_⟩; have n0_ := Aside0.mk (Kd.R_below (by (with_reducible repeat (first | apply Kd.R_alloc | apply Kd.R_drewN | apply Kd.R_drew)); exact HO_9.out) hb); have n1_ := Aside0.mk (Kd.R_mono (Kd.R_told (Kd.R_told (Kd.R_old (by (with_reducible repeat (first | apply Kd.R_alloc | apply Kd.R_drewN | apply Kd.R_drew)); exact HO256.out) hb) (Kd.R_base ho0)) (Kd.R_base ho1)) (fun _ h_ => h_.1)); have n2_ := Aside0.mk (Kd.R_lower (Kd.R_new' ho0 (Kd.R_lt (by (with_reducible repeat (first | apply Kd.R_alloc | apply Kd.R_drewN | apply Kd.R_drew)); exact HO256.out))) (below_size (by repeat (first | (with_reducible first | exact HB.out | apply below_alloc | apply pw_below_drewN | apply below_drew1) | exact HB.out)))); have n3_ := Aside0.mk (Kd.R_lower (Kd.R_new' ho1 (Kd.R_lt (by (with_reducible repeat (first | apply Kd.R_alloc | apply Kd.R_drewN | apply Kd.R_drew)); exact HO256.out))) (below_size (by repeat (first | (with_reducible first | exact HB.out | apply below_alloc | apply pw_below_drewN | apply below_drew1) | exact HB.out)))); have n4_ := Aside0.mk (below_step (by repeat (first | (with_reducible first | exact HB.out | apply below_alloc | apply pw_below_drewN | apply below_drew1) | exact HB.out)) hb); clear HO_9; clear HO256; clear HB; have HO_9 := n0_; have HO256 := n1_; have HO260 := n2_; have HO262 := n3_; have HB := n4_; clear n0_ n1_ n2_ n3_ n4_; (try clear hb); (try clear hb2); (try clear hk); (try clear hi); (try clear ho0); (try clear ho1)) | ((with_reducible refine gate_callee (f := 29) rfl ?_); refine goesL_ (some 34) rfl rfl Tryd.func29 (by kernel_rfl) rfl #[.int .u64 12345] rfl (by (try simp only [List.map_toArray, List.map_cons, List.map_nil]); first | done | rfl | (simp only [List.length_drop, List.length_take]; rfl)) ?_; (with_reducible refine (nat_Of.calls k1 12345 t263 _ A18.out).mono ?_); rintro e w38 ⟨v264, rfl, ho0, hb⟩; refine ⟨_, rfl, ?_⟩; have n0_ := Aside0.mk (Kd.R_below (by (with_reducible repeat (first | apply Kd.R_alloc | apply Kd.R_drewN | apply Kd.R_drew)); exact HO_9.out) hb); have n1_ := Aside0.mk (Kd.R_elder' (by (with_reducible repeat (first | apply Kd.R_alloc | apply Kd.R_drewN | apply Kd.R_drew)); exact HO256.out) (Kd.R_base ho0) hb); have n2_ := Aside0.mk (Kd.R_elder' (by (with_reducible repeat (first | apply Kd.R_alloc | apply Kd.R_drewN | apply Kd.R_drew)); exact HO260.out) (Kd.R_base ho0) hb); have n3_ := Aside0.mk (Kd.R_elder' (by (with_reducible repeat (first | apply Kd.R_alloc | apply Kd.R_drewN | apply Kd.R_drew)); exact HO262.out) (Kd.R_base ho0) hb); have n4_ := Aside0.mk (Kd.R_lower (Kd.R_new' (Kd.R_new' (Kd.R_new' ho0 (Kd.R_lt (by (with_reducible repeat (first | apply Kd.R_alloc | apply Kd.R_drewN | apply Kd.R_drew)); exact HO256.out))) (Kd.R_lt (by (with_reducible repeat (first | apply Kd.R_alloc | apply Kd.R_drewN | apply Kd.R_drew)); exact HO260.out))) (Kd.R_lt (by (with_reducible repeat (first | apply Kd.R_alloc | apply Kd.R_drewN | apply Kd.R_drew)); exact HO262.out))) (below_size (by repeat (first | (with_reducible first | exact HB.out | apply below_alloc | apply pw_below_drewN | apply below_drew1) | exact HB.out)))); have n5_ := Aside0.mk (below_step (by repeat (first | (with_reducible first | exact HB.out | apply below_alloc | apply pw_below_drewN | apply below_drew1) | exact HB.out)) hb); clear HO_9; clear HO256; clear HO260; clear HO262; clear HB; have HO_9 := n0_; have HO256 := n1_; have HO260 := n2_; have HO262 := n3_; have HO265 := n4_; have HB := n5_; clear n0_ n1_ n2_ n3_ n4_ n5_; (try clear hb); (try clear hb2); (try clear hk); (try clear hi); (try clear ho0); obtain ⟨Ao39, co39, eo39⟩ := Kd.R_slice HO265.out; subst eo39) | ((with_reducible refine gate_callee (f := 21) rfl ?_); refine goesL_ (some 35) rfl rfl Tryd.func21 (by kernel_rfl) rfl #[.slice Ao39 t263.length co39, .int .i64 9] rfl (by (try simp only [List.map_toArray, List.map_cons, List.map_nil]); first | done | rfl | (simp only [List.length_drop, List.length_take]; rfl)) ?_; (with_reducible refine (dec_Split.calls k1 _ _ t263 9 t266 t267 _ ?side1 ?side2 A19.out).mono ?_); (case side1 => repeat (first | exact (Kd.R_reads' HO265.out).2.2 | (with_reducible refine Kd.C_alloc ?_ _) | (with_reducible refine Kd.C_drewN ?_ _) | (with_reducible refine Kd.C_drew ?_))); (case side2 => exact (Kd.R_reads' HO265.out).2.1); rintro e w40 ⟨v268, v270, rfl, ho0, ho1, hb⟩; refine ⟨_, rfl, ?_⟩; have n0_ := Aside0.mk (Kd.R_below (by (with_reducible repeat (first | apply Kd.R_alloc | apply Kd.R_drewN | apply Kd.R_drew)); exact HO_9.out) hb); have n1_ := Aside0.mk (Kd.R_mono (Kd.R_told (Kd.R_told (Kd.R_old (by (with_reducible repeat (first | apply Kd.R_alloc | apply Kd.R_drewN | apply Kd.R_drew)); exact HO256.out) hb) (Kd.R_base ho0)) (Kd.R_base ho1)) (fun _ h_ => h_.1)); have n2_ := Aside0.mk (Kd.R_mono (Kd.R_told (Kd.R_told (Kd.R_old (by (with_reducible repeat (first | apply Kd.R_alloc | apply Kd.R_drewN | apply Kd.R_drew)); exact HO260.out) hb) (Kd.R_base ho0)) (Kd.R_base ho1)) (fun _ h_ => h_.1)); have n3_ := Aside0.mk (Kd.R_mono (Kd.R_told (Kd.R_told (Kd.R_old (by (with_reducible repeat (first | apply Kd.R_alloc | apply Kd.R_drewN | apply Kd.R_drew)); exact HO262.out) hb) (Kd.R_base ho0)) (Kd.R_base ho1)) (fun _ h_ => h_.1)); have n4_ := Aside0.mk (Kd.R_mono (Kd.R_told (Kd.R_told (Kd.R_old (by (with_reducible repeat (first | apply Kd.R_alloc | apply Kd.R_drewN | apply Kd.R_drew)); exact HO265.out) hb) (Kd.R_base ho0)) (Kd.R_base ho1)) (fun _ h_ => h_.1)); have n5_ := Aside0.mk (Kd.R_lower (Kd.R_new' (Kd.R_new' (Kd.R_new' (Kd.R_new' ho0 (Kd.R_lt (by (with_reducible repeat (first | apply Kd.R_alloc | apply Kd.R_drewN | apply Kd.R_drew)); exact HO256.out))) (Kd.R_lt (by (with_reducible repeat (first | apply Kd.R_alloc | apply Kd.R_drewN | apply Kd.R_drew)); exact HO260.out))) (Kd.R_lt (by (with_reducible repeat (first | apply Kd.R_alloc | apply Kd.R_drewN | apply Kd.R_drew)); exact HO262.out))) (Kd.R_lt (by (with_reducible repeat (first | apply Kd.R_alloc | apply Kd.R_drewN | apply Kd.R_drew)); exact HO265.out))) (below_size (by repeat (first | (with_reducible first | exact HB.out | apply below_alloc | apply pw_below_drewN | apply below_drew1) | exact HB.out)))); have n6_ := Aside0.mk (Kd.R_lower (Kd.R_new' (Kd.R_new' (Kd.R_new' (Kd.R_new' ho1 (Kd.R_lt (by (with_reducible repeat (first | apply Kd.R_alloc | apply Kd.R_drewN | apply Kd.R_drew)); exact HO256.out))) (Kd.R_lt (by (with_reducible repeat (first | apply Kd.R_alloc | apply Kd.R_drewN | apply Kd.R_drew)); exact HO260.out))) (Kd.R_lt (by (with_reducible repeat (first | apply Kd.R_alloc | apply Kd.R_drewN | apply Kd.R_drew)); exact HO262.out))) (Kd.R_lt (by (with_reducible repeat (first | apply Kd.R_alloc | apply Kd.R_drewN | apply Kd.R_drew)); exact HO265.out))) (below_size (by repeat (first | (with_reducible first | exact HB.out | apply below_alloc | apply pw_below_drewN | apply below_drew1) | exact HB.out)))); have n7_ := Aside0.mk (below_step (by repeat (first | (with_reducible first | exact HB.out | apply below_alloc | apply pw_below_drewN | apply below_drew1) | exact HB.out)) hb); clear HO_9; clear HO256; clear HO260; clear HO262; clear HO265; clear HB; have HO_9 := n0_; have HO256 := n1_; have HO260 := n2_; have HO262 := n3_; have HO265 := n4_; have HO269 := n5_; have HO271 := n6_; have HB := n7_; clear n0_ n1_ n2_ n3_ n4_ n5_ n6_ n7_; (try clear hb); (try clear hb2); (try clear hk); (try clear hi); (try clear ho0); (try clear ho1)) | ((with_reducible refine gate_dst (N := 38) rfl ?_); (try (refine gate_guard (by rfl) ?_; dsimp only)); refine Kd.R_lit (Kd.int .u32) _ 39 ?hg (N := 38) ?hd (xs := ([0, 0, 1] : List Int)) (inner := [.int .u32 0, .int .u32 0, .int .u32 1]) (ok := fun _ => True) (okp := fun _ => True) ?hr ?hp (fun _ hk => hk) trivial (Below.refl _ _) (Nat.le_refl _) (by simp) ?_; (case hd => rfl); (case hg => rfl); (case hr => first | (go_simp; done) | (go_simp; rfl)); (case hp => exact (Reps.one (show Kd.M (Kd.int .u32) _ _ _ 0 [.int .u32 0] from rfl) (Reps.one (show Kd.M (Kd.int .u32) _ _ _ 0 [.int .u32 0] from rfl) (Reps.one (show Kd.M (Kd.int .u32) _ _ _ 1 [.int .u32 1] from rfl) (Reps.none _ _))))); intro v273 w41 ho42 hb hg_ hnew_; clear hg_ hnew_; (first | rw [← Ny272.out] at ho42 | (simp only [Int.reduceToNat] at ho42; rw [← Ny272.out] at ho42)); have n0_ := Aside0.mk (Kd.R_below (by (with_reducible repeat (first | apply Kd.R_alloc | apply Kd.R_drewN | apply Kd.R_drew)); exact HO_9.out) hb); have n1_ := Aside0.mk (Kd.R_elder' (by (with_reducible repeat (first | apply Kd.R_alloc | apply Kd.R_drewN | apply Kd.R_drew)); exact HO256.out) (Kd.R_base ho42) hb); have n2_ := Aside0.mk (Kd.R_elder' (by (with_reducible repeat (first | apply Kd.R_alloc | apply Kd.R_drewN | apply Kd.R_drew)); exact HO260.out) (Kd.R_base ho42) hb); have n3_ := Aside0.mk (Kd.R_elder' (by (with_reducible repeat (first | apply Kd.R_alloc | apply Kd.R_drewN | apply Kd.R_drew)); exact HO262.out) (Kd.R_base ho42) hb); have n4_ := Aside0.mk (Kd.R_elder' (by (with_reducible repeat (first | apply Kd.R_alloc | apply Kd.R_drewN | apply Kd.R_drew)); exact HO265.out) (Kd.R_base ho42) hb); have n5_ := Aside0.mk (Kd.R_elder' (by (with_reducible repeat (first | apply Kd.R_alloc | apply Kd.R_drewN | apply Kd.R_drew)); exact HO269.out) (Kd.R_base ho42) hb); have n6_ := Aside0.mk (Kd.R_elder' (by (with_reducible repeat (first | apply Kd.R_alloc | apply Kd.R_drewN | apply Kd.R_drew)); exact HO271.out) (Kd.R_base ho42) hb); have n7_ := Aside0.mk (Kd.R_lower (Kd.R_new' (Kd.R_new' (Kd.R_new' (Kd.R_new' (Kd.R_new' (Kd.R_new' ho42 (Kd.R_lt (by (with_reducible repeat (first | apply Kd.R_alloc | apply Kd.R_drewN | apply Kd.R_drew)); exact HO256.out))) (Kd.R_lt (by (with_reducible repeat (first | apply Kd.R_alloc | apply Kd.R_drewN | apply Kd.R_drew)); exact HO260.out))) (Kd.R_lt (by (with_reducible repeat (first | apply Kd.R_alloc | apply Kd.R_drewN | apply Kd.R_drew)); exact HO262.out))) (Kd.R_lt (by (with_reducible repeat (first | apply Kd.R_alloc | apply Kd.R_drewN | apply Kd.R_drew)); exact HO265.out))) (Kd.R_lt (by (with_reducible repeat (first | apply Kd.R_alloc | apply Kd.R_drewN | apply Kd.R_drew)); exact HO269.out))) (Kd.R_lt (by (with_reducible repeat (first | apply Kd.R_alloc | apply Kd.R_drewN | apply Kd.R_drew)); exact HO271.out))) (below_size (by repeat (first | (with_reducible first | exact HB.out | apply below_alloc | apply pw_below_drewN | apply below_drew1) | exact HB.out)))); have n8_ := Aside0.mk (below_step (by repeat (first | (with_reducible first | exact HB.out | apply below_alloc | apply pw_below_drewN | apply below_drew1) | exact HB.out)) hb); clear HO_9; clear HO256; clear HO260; clear HO262; clear HO265; clear HO269; clear HO271; clear HB; have HO_9 := n0_; have HO256 := n1_; have HO260 := n2_; have HO262 := n3_; have HO265 := n4_; have HO269 := n5_; have HO271 := n6_; have HO274 := n7_; have HB := n8_; clear n0_ n1_ n2_ n3_ n4_ n5_ n6_ n7_ n8_; clear hb ho42; obtain ⟨Ao43, co43, eo43⟩ := Kd.R_slice HO274.out; subst eo43) | ((with_reducible refine gate_callee (f := 28) rfl ?_); refine goesL_ (some 39) rfl rfl Tryd.func28 (by kernel_rfl) rfl #[.slice Ao43 y272.length co43, .string (⟨#[49, 56, 52, 52, 54, 55, 52, 52, 48, 55, 51, 55, 48, 57, 53, 53, 49, 54, 49, 54]⟩ : ByteArray)] rfl (by (try simp only [List.map_toArray, List.map_cons, List.map_nil]); first | done | rfl | (simp only [List.length_drop, List.length_take]; rfl)) ?_; (with_reducible refine (alidadelaw04_is.calls k1 _ _ y272 (⟨#[49, 56, 52, 52, 54, 55, 52, 52, 48, 55, 51, 55, 48, 57, 53, 53, 49, 54, 49, 54]⟩ : ByteArray) true _ ?side1 ?side2 A20.out).mono ?_); (case side1 => repeat (first | exact (Kd.R_reads' HO274.out).2.2 | (with_reducible refine Kd.C_alloc ?_ _) | (with_reducible refine Kd.C_drewN ?_ _) | (with_reducible refine Kd.C_drew ?_))); (case side2 => exact (Kd.R_reads' HO274.out).2.1); rintro e w44 ⟨rfl, hb⟩; refine ⟨_, rfl, ?_⟩; have n0_ := Aside0.mk (Kd.R_below (by (with_reducible repeat (first | apply Kd.R_alloc | apply Kd.R_drewN | apply Kd.R_drew)); exact HO_9.out) hb); have n1_ := Aside0.mk (Kd.R_below (by (with_reducible repeat (first | apply Kd.R_alloc | apply Kd.R_drewN | apply Kd.R_drew)); exact HO256.out) hb); have n2_ := Aside0.mk (Kd.R_below (by (with_reducible repeat (first | apply Kd.R_alloc | apply Kd.R_drewN | apply Kd.R_drew)); exact HO260.out) hb); have n3_ := Aside0.mk (Kd.R_below (by (with_reducible repeat (first | apply Kd.R_alloc | apply Kd.R_drewN | apply Kd.R_drew)); exact HO262.out) hb); have n4_ := Aside0.mk (Kd.R_below (by (with_reducible repeat (first | apply Kd.R_alloc | apply Kd.R_drewN | apply Kd.R_drew)); exact HO265.out) hb); have n5_ := Aside0.mk (Kd.R_below (by (with_reducible repeat (first | apply Kd.R_alloc | apply Kd.R_drewN | apply Kd.R_drew)); exact HO269.out) hb); have n6_ := Aside0.mk (Kd.R_below (by (with_reducible repeat (first | apply Kd.R_alloc | apply Kd.R_drewN | apply Kd.R_drew)); exact HO271.out) hb); have n7_ := Aside0.mk (Kd.R_below (by (with_reducible repeat (first | apply Kd.R_alloc | apply Kd.R_drewN | apply Kd.R_drew)); exact HO274.out) hb); have n8_ := Aside0.mk (below_step (by repeat (first | (with_reducible first | exact HB.out | apply below_alloc | apply pw_below_drewN | apply below_drew1) | exact HB.out)) hb); clear HO_9; clear HO256; clear HO260; clear HO262; clear HO265; clear HO269; clear HO271; clear HO274; clear HB; have HO_9 := n0_; have HO256 := n1_; have HO260 := n2_; have HO262 := n3_; have HO265 := n4_; have HO269 := n5_; have HO271 := n6_; have HO274 := n7_; have HB := n8_; clear n0_ n1_ n2_ n3_ n4_ n5_ n6_ n7_ n8_; (try clear hb); (try clear hb2); (try clear hk); (try clear hi)) | (go_at_call 17; (with_reducible refine (dec_Ten.calls k1 9 t276 _ A22.out).mono ?_); rintro e w45 ⟨v277, rfl, ho0, hb⟩; have n0_ := Aside0.mk (Kd.R_below (by (with_reducible repeat (first | apply Kd.R_alloc | apply Kd.R_drewN | apply Kd.R_drew)); exact HO_9.out) hb); have n1_ := Aside0.mk (Kd.R_elder' (by (with_reducible repeat (first | apply Kd.R_alloc | apply Kd.R_drewN | apply Kd.R_drew)); exact HO256.out) (Kd.R_base ho0) hb); have n2_ := Aside0.mk (Kd.R_elder' (by (with_reducible repeat (first | apply Kd.R_alloc | apply Kd.R_drewN | apply Kd.R_drew)); exact HO260.out) (Kd.R_base ho0) hb); have n3_ := Aside0.mk (Kd.R_elder' (by (with_reducible repeat (first | apply Kd.R_alloc | apply Kd.R_drewN | apply Kd.R_drew)); exact HO262.out) (Kd.R_base ho0) hb); have n4_ := Aside0.mk (Kd.R_elder' (by (with_reducible repeat (first | apply Kd.R_alloc | apply Kd.R_drewN | apply Kd.R_drew)); exact HO265.out) (Kd.R_base ho0) hb); have n5_ := Aside0.mk (Kd.R_elder' (by (with_reducible repeat (first | apply Kd.R_alloc | apply Kd.R_drewN | apply Kd.R_drew)); exact HO269.out) (Kd.R_base ho0) hb); have n6_ := Aside0.mk (Kd.R_elder' (by (with_reducible repeat (first | apply Kd.R_alloc | apply Kd.R_drewN | apply Kd.R_drew)); exact HO271.out) (Kd.R_base ho0) hb); have n7_ := Aside0.mk (Kd.R_elder' (by (with_reducible repeat (first | apply Kd.R_alloc | apply Kd.R_drewN | apply Kd.R_drew)); exact HO274.out) (Kd.R_base ho0) hb); have n8_ := Aside0.mk (Kd.R_lower (Kd.R_new' (Kd.R_new' (Kd.R_new' (Kd.R_new' (Kd.R_new' (Kd.R_new' (Kd.R_new' ho0 (Kd.R_lt (by (with_reducible repeat (first | apply Kd.R_alloc | apply Kd.R_drewN | apply Kd.R_drew)); exact HO256.out))) (Kd.R_lt (by (with_reducible repeat (first | apply Kd.R_alloc | apply Kd.R_drewN | apply Kd.R_drew)); exact HO260.out))) (Kd.R_lt (by (with_reducible repeat (first | apply Kd.R_alloc | apply Kd.R_drewN | apply Kd.R_drew)); exact HO262.out))) (Kd.R_lt (by (with_reducible repeat (first | apply Kd.R_alloc | apply Kd.R_drewN | apply Kd.R_drew)); exact HO265.out))) (Kd.R_lt (by (with_reducible repeat (first | apply Kd.R_alloc | apply Kd.R_drewN | apply Kd.R_drew)); exact HO269.out))) (Kd.R_lt (by (with_reducible repeat (first | apply Kd.R_alloc | apply Kd.R_drewN | apply Kd.R_drew)); exact HO271.out))) (Kd.R_lt (by (with_reducible repeat (first | apply Kd.R_alloc | apply Kd.R_drewN | apply Kd.R_drew)); exact HO274.out))) (below_size (by repeat (first | (with_reducible first | exact HB.out | apply below_alloc | apply pw_below_drewN | apply below_drew1) | exact HB.out)))); have n9_ := Aside0.mk (below_step (by repeat (first | (with_reducible first | exact HB.out | apply below_alloc | apply pw_below_drewN | apply below_drew1) | exact HB.out)) hb); clear HO_9; clear HO256; clear HO260; clear HO262; clear HO265; clear HO269; clear HO271; clear HO274; clear HB; have HO_9 := n0_; have HO256 := n1_; have HO260 := n2_; have HO262 := n3_; have HO265 := n4_; have HO269 := n5_; have HO271 := n6_; have HO274 := n7_; have HO278 := n8_; have HB := n9_; clear n0_ n1_ n2_ n3_ n4_ n5_ n6_ n7_ n8_ n9_; (try clear hb); (try clear hb2); (try clear hk); (try clear hi); (try clear ho0)) | (go_at_call 29; (with_reducible refine (nat_Of.calls k1 1000000000 t279 _ A23.out).mono ?_); rintro e w46 ⟨v280, rfl, ho0, hb⟩; have n0_ := Aside0.mk (Kd.R_below (by (with_reducible repeat (first | apply Kd.R_alloc | apply Kd.R_drewN | apply Kd.R_drew)); exact HO_9.out) hb); have n1_ := Aside0.mk (Kd.R_elder' (by (with_reducible repeat (first | apply Kd.R_alloc | apply Kd.R_drewN | apply Kd.R_drew)); exact HO256.out) (Kd.R_base ho0) hb); have n2_ := Aside0.mk (Kd.R_elder' (by (with_reducible repeat (first | apply Kd.R_alloc | apply Kd.R_drewN | apply Kd.R_drew)); exact HO260.out) (Kd.R_base ho0) hb); have n3_ := Aside0.mk (Kd.R_elder' (by (with_reducible repeat (first | apply Kd.R_alloc | apply Kd.R_drewN | apply Kd.R_drew)); exact HO262.out) (Kd.R_base ho0) hb); have n4_ := Aside0.mk (Kd.R_elder' (by (with_reducible repeat (first | apply Kd.R_alloc | apply Kd.R_drewN | apply Kd.R_drew)); exact HO265.out) (Kd.R_base ho0) hb); have n5_ := Aside0.mk (Kd.R_elder' (by (with_reducible repeat (first | apply Kd.R_alloc | apply Kd.R_drewN | apply Kd.R_drew)); exact HO269.out) (Kd.R_base ho0) hb); have n6_ := Aside0.mk (Kd.R_elder' (by (with_reducible repeat (first | apply Kd.R_alloc | apply Kd.R_drewN | apply Kd.R_drew)); exact HO271.out) (Kd.R_base ho0) hb); have n7_ := Aside0.mk (Kd.R_elder' (by (with_reducible repeat (first | apply Kd.R_alloc | apply Kd.R_drewN | apply Kd.R_drew)); exact HO274.out) (Kd.R_base ho0) hb); have n8_ := Aside0.mk (Kd.R_elder' (by (with_reducible repeat (first | apply Kd.R_alloc | apply Kd.R_drewN | apply Kd.R_drew)); exact HO278.out) (Kd.R_base ho0) hb); have n9_ := Aside0.mk (Kd.R_lower (Kd.R_new' (Kd.R_new' (Kd.R_new' (Kd.R_new' (Kd.R_new' (Kd.R_new' (Kd.R_new' (Kd.R_new' ho0 (Kd.R_lt (by (with_reducible repeat (first | apply Kd.R_alloc | apply Kd.R_drewN | apply Kd.R_drew)); exact HO256.out))) (Kd.R_lt (by (with_reducible repeat (first | apply Kd.R_alloc | apply Kd.R_drewN | apply Kd.R_drew)); exact HO260.out))) (Kd.R_lt (by (with_reducible repeat (first | apply Kd.R_alloc | apply Kd.R_drewN | apply Kd.R_drew)); exact HO262.out))) (Kd.R_lt (by (with_reducible repeat (first | apply Kd.R_alloc | apply Kd.R_drewN | apply Kd.R_drew)); exact HO265.out))) (Kd.R_lt (by (with_reducible repeat (first | apply Kd.R_alloc | apply Kd.R_drewN | apply Kd.R_drew)); exact HO269.out))) (Kd.R_lt (by (with_reducible repeat (first | apply Kd.R_alloc | apply Kd.R_drewN | apply Kd.R_drew)); exact HO271.out))) (Kd.R_lt (by (with_reducible repeat (first | apply Kd.R_alloc | apply Kd.R_drewN | apply Kd.R_drew)); exact HO274.out))) (Kd.R_lt (by (with_reducible repeat (first | apply Kd.R_alloc | apply Kd.R_drewN | apply Kd.R_drew)); exact HO278.out))) (below_size (by repeat (first | (with_reducible first | exact HB.out | apply below_alloc | apply pw_below_drewN | apply below_drew1) | exact HB.out)))); have n10_ := Aside0.mk (below_step (by repeat (first | (with_reducible first | exact HB.out | apply below_alloc | apply pw_below_drewN | apply below_drew1) | exact HB.out)) hb); clear HO_9; clear HO256; clear HO260; clear HO262; clear HO265; clear HO269; clear HO271; clear HO274; clear HO278; clear HB; have HO_9 := n0_; have HO256 := n1_; have HO260 := n2_; have HO262 := n3_; have HO265 := n4_; have HO269 := n5_; have HO271 := n6_; have HO274 := n7_; have HO278 := n8_; have HO281 := n9_; have HB := n10_; clear n0_ n1_ n2_ n3_ n4_ n5_ n6_ n7_ n8_ n9_ n10_; (try clear hb); (try clear hb2); (try clear hk); (try clear hi); (try clear ho0); obtain ⟨Ao47, co47, eo47⟩ := Kd.R_slice HO278.out; subst eo47; obtain ⟨Ao48, co48, eo48⟩ := Kd.R_slice HO281.out; subst eo48) | (go_at_call 16; (with_reducible refine (alidadelaw04_same.calls k1 _ _ t276 _ _ t279 true _ ?side1 ?side2 ?side3 ?side4 A24.out).mono ?_); (case side1 => repeat (first | exact (Kd.R_reads' HO278.out).2.2 | (with_reducible refine Kd.C_alloc ?_ _) | (with_reducible refine Kd.C_drewN ?_ _) | (with_reducible refine Kd.C_drew ?_))); (case side2 => exact (Kd.R_reads' HO278.out).2.1); (case side3 => repeat (first | exact (Kd.R_reads' HO281.out).2.2 | (with_reducible refine Kd.C_alloc ?_ _) | (with_reducible refine Kd.C_drewN ?_ _) | (with_reducible refine Kd.C_drew ?_))); (case side4 => exact (Kd.R_reads' HO281.out).2.1); rintro e w' ⟨rfl, ⟨nd, rfl⟩⟩) | (go_at_call 29; (with_reducible refine (nat_Of.calls k1 123 t283 _ A26.out).mono ?_); rintro e w49 ⟨v284, rfl, ho0, hb⟩; have n0_ := Aside0.mk (Kd.R_below (by (with_reducible repeat (first | apply Kd.R_alloc | apply Kd.R_drewN | apply Kd.R_drew)); exact HO_9.out) hb); have n1_ := Aside0.mk (Kd.R_elder' (by (with_reducible repeat (first | apply Kd.R_alloc | apply Kd.R_drewN | apply Kd.R_drew)); exact HO256.out) (Kd.R_base ho0) hb); have n2_ := Aside0.mk (Kd.R_elder' (by (with_reducible repeat (first | apply Kd.R_alloc | apply Kd.R_drewN | apply Kd.R_drew)); exact HO260.out) (Kd.R_base ho0) hb); have n3_ := Aside0.mk (Kd.R_elder' (by (with_reducible repeat (first | apply Kd.R_alloc | apply Kd.R_drewN | apply Kd.R_drew)); exact HO262.out) (Kd.R_base ho0) hb); have n4_ := Aside0.mk (Kd.R_elder' (by (with_reducible repeat (first | apply Kd.R_alloc | apply Kd.R_drewN | apply Kd.R_drew)); exact HO265.out) (Kd.R_base ho0) hb); have n5_ := Aside0.mk (Kd.R_elder' (by (with_reducible repeat (first | apply Kd.R_alloc | apply Kd.R_drewN | apply Kd.R_drew)); exact HO269.out) (Kd.R_base ho0) hb); have n6_ := Aside0.mk (Kd.R_elder' (by (with_reducible repeat (first | apply Kd.R_alloc | apply Kd.R_drewN | apply Kd.R_drew)); exact HO271.out) (Kd.R_base ho0) hb); have n7_ := Aside0.mk (Kd.R_elder' (by (with_reducible repeat (first | apply Kd.R_alloc | apply Kd.R_drewN | apply Kd.R_drew)); exact HO274.out) (Kd.R_base ho0) hb); have n8_ := Aside0.mk (Kd.R_elder' (by (with_reducible repeat (first | apply Kd.R_alloc | apply Kd.R_drewN | apply Kd.R_drew)); exact HO278.out) (Kd.R_base ho0) hb); have n9_ := Aside0.mk (Kd.R_elder' (by (with_reducible repeat (first | apply Kd.R_alloc | apply Kd.R_drewN | apply Kd.R_drew)); exact HO281.out) (Kd.R_base ho0) hb); have n10_ := Aside0.mk (Kd.R_lower (Kd.R_new' (Kd.R_new' (Kd.R_new' (Kd.R_new' (Kd.R_new' (Kd.R_new' (Kd.R_new' (Kd.R_new' (Kd.R_new' ho0 (Kd.R_lt (by (with_reducible repeat (first | apply Kd.R_alloc | apply Kd.R_drewN | apply Kd.R_drew)); exact HO256.out))) (Kd.R_lt (by (with_reducible repeat (first | apply Kd.R_alloc | apply Kd.R_drewN | apply Kd.R_drew)); exact HO260.out))) (Kd.R_lt (by (with_reducible repeat (first | apply Kd.R_alloc | apply Kd.R_drewN | apply Kd.R_drew)); exact HO262.out))) (Kd.R_lt (by (with_reducible repeat (first | apply Kd.R_alloc | apply Kd.R_drewN | apply Kd.R_drew)); exact HO265.out))) (Kd.R_lt (by (with_reducible repeat (first | apply Kd.R_alloc | apply Kd.R_drewN | apply Kd.R_drew)); exact HO269.out))) (Kd.R_lt (by (with_reducible repeat (first | apply Kd.R_alloc | apply Kd.R_drewN | apply Kd.R_drew)); exact HO271.out))) (Kd.R_lt (by (with_reducible repeat (first | apply Kd.R_alloc | apply Kd.R_drewN | apply Kd.R_drew)); exact HO274.out))) (Kd.R_lt (by (with_reducible repeat (first | apply Kd.R_alloc | apply Kd.R_drewN | apply Kd.R_drew)); exact HO278.out))) (Kd.R_lt (by (with_reducible repeat (first | apply Kd.R_alloc | apply Kd.R_drewN | apply Kd.R_drew)); exact HO281.out))) (below_size (by repeat (first | (with_reducible first | exact HB.out | apply below_alloc | apply pw_below_drewN | apply below_drew1) | exact HB.out)))); have n11_ := Aside0.mk (below_step (by repeat (first | (with_reducible first | exact HB.out | apply below_alloc | apply pw_below_drewN | apply below_drew1) | exact HB.out)) hb); clear HO_9; clear HO256; clear HO260; clear HO262; clear HO265; clear HO269; clear HO271; clear HO274; clear HO278; clear HO281; clear HB; have HO_9 := n0_; have HO256 := n1_; have HO260 := n2_; have HO262 := n3_; have HO265 := n4_; have HO269 := n5_; have HO271 := n6_; have HO274 := n7_; have HO278 := n8_; have HO281 := n9_; have HO285 := n10_; have HB := n11_; clear n0_ n1_ n2_ n3_ n4_ n5_ n6_ n7_ n8_ n9_ n10_ n11_; (try clear hb); (try clear hb2); (try clear hk); (try clear hi); (try clear ho0); obtain ⟨Ao50, co50, eo50⟩ := Kd.R_slice HO260.out; subst eo50; obtain ⟨Ao51, co51, eo51⟩ := Kd.R_slice HO285.out; subst eo51) | (go_at_call 16; (with_reducible refine (alidadelaw04_same.calls k1 _ _ t257 _ _ t283 true _ ?side1 ?side2 ?side3 ?side4 A27.out).mono ?_); (case side1 => repeat (first | exact (Kd.R_reads' HO260.out).2.2 | (with_reducible refine Kd.C_alloc ?_ _) | (with_reducible refine Kd.C_drewN ?_ _) | (with_reducible refine Kd.C_drew ?_))); (case side2 => exact (Kd.R_reads' HO260.out).2.1); (case side3 => repeat (first | exact (Kd.R_reads' HO285.out).2.2 | (with_reducible refine Kd.C_alloc ?_ _) | (with_reducible refine Kd.C_drewN ?_ _) | (with_reducible refine Kd.C_drew ?_))); (case side4 => exact (Kd.R_reads' HO285.out).2.1); rintro e w' ⟨rfl, ⟨nd, rfl⟩⟩) | (go_at_call 29; (with_reducible refine (nat_Of.calls k1 45 t287 _ A29.out).mono ?_); rintro e w52 ⟨v288, rfl, ho0, hb⟩; have n0_ := Aside0.mk (Kd.R_below (by (with_reducible repeat (first | apply Kd.R_alloc | apply Kd.R_drewN | apply Kd.R_drew)); exact HO_9.out) hb); have n1_ := Aside0.mk (Kd.R_elder' (by (with_reducible repeat (first | apply Kd.R_alloc | apply Kd.R_drewN | apply Kd.R_drew)); exact HO256.out) (Kd.R_base ho0) hb); have n2_ := Aside0.mk (Kd.R_elder' (by (with_reducible repeat (first | apply Kd.R_alloc | apply Kd.R_drewN | apply Kd.R_drew)); exact HO260.out) (Kd.R_base ho0) hb); have n3_ := Aside0.mk (Kd.R_elder' (by (with_reducible repeat (first | apply Kd.R_alloc | apply Kd.R_drewN | apply Kd.R_drew)); exact HO262.out) (Kd.R_base ho0) hb); have n4_ := Aside0.mk (Kd.R_elder' (by (with_reducible repeat (first | apply Kd.R_alloc | apply Kd.R_drewN | apply Kd.R_drew)); exact HO265.out) (Kd.R_base ho0) hb); have n5_ := Aside0.mk (Kd.R_elder' (by (with_reducible repeat (first | apply Kd.R_alloc | apply Kd.R_drewN | apply Kd.R_drew)); exact HO269.out) (Kd.R_base ho0) hb); have n6_ := Aside0.mk (Kd.R_elder' (by (with_reducible repeat (first | apply Kd.R_alloc | apply Kd.R_drewN | apply Kd.R_drew)); exact HO271.out) (Kd.R_base ho0) hb); have n7_ := Aside0.mk (Kd.R_elder' (by (with_reducible repeat (first | apply Kd.R_alloc | apply Kd.R_drewN | apply Kd.R_drew)); exact HO274.out) (Kd.R_base ho0) hb); have n8_ := Aside0.mk (Kd.R_elder' (by (with_reducible repeat (first | apply Kd.R_alloc | apply Kd.R_drewN | apply Kd.R_drew)); exact HO278.out) (Kd.R_base ho0) hb); have n9_ := Aside0.mk (Kd.R_elder' (by (with_reducible repeat (first | apply Kd.R_alloc | apply Kd.R_drewN | apply Kd.R_drew)); exact HO281.out) (Kd.R_base ho0) hb); have n10_ := Aside0.mk (Kd.R_elder' (by (with_reducible repeat (first | apply Kd.R_alloc | apply Kd.R_drewN | apply Kd.R_drew)); exact HO285.out) (Kd.R_base ho0) hb); have n11_ := Aside0.mk (Kd.R_lower (Kd.R_new' (Kd.R_new' (Kd.R_new' (Kd.R_new' (Kd.R_new' (Kd.R_new' (Kd.R_new' (Kd.R_new' (Kd.R_new' (Kd.R_new' ho0 (Kd.R_lt (by (with_reducible repeat (first | apply Kd.R_alloc | apply Kd.R_drewN | apply Kd.R_drew)); exact HO256.out))) (Kd.R_lt (by (with_reducible repeat (first | apply Kd.R_alloc | apply Kd.R_drewN | apply Kd.R_drew)); exact HO260.out))) (Kd.R_lt (by (with_reducible repeat (first | apply Kd.R_alloc | apply Kd.R_drewN | apply Kd.R_drew)); exact HO262.out))) (Kd.R_lt (by (with_reducible repeat (first | apply Kd.R_alloc | apply Kd.R_drewN | apply Kd.R_drew)); exact HO265.out))) (Kd.R_lt (by (with_reducible repeat (first | apply Kd.R_alloc | apply Kd.R_drewN | apply Kd.R_drew)); exact HO269.out))) (Kd.R_lt (by (with_reducible repeat (first | apply Kd.R_alloc | apply Kd.R_drewN | apply Kd.R_drew)); exact HO271.out))) (Kd.R_lt (by (with_reducible repeat (first | apply Kd.R_alloc | apply Kd.R_drewN | apply Kd.R_drew)); exact HO274.out))) (Kd.R_lt (by (with_reducible repeat (first | apply Kd.R_alloc | apply Kd.R_drewN | apply Kd.R_drew)); exact HO278.out))) (Kd.R_lt (by (with_reducible repeat (first | apply Kd.R_alloc | apply Kd.R_drewN | apply Kd.R_drew)); exact HO281.out))) (Kd.R_lt (by (with_reducible repeat (first | apply Kd.R_alloc | apply Kd.R_drewN | apply Kd.R_drew)); exact HO285.out))) (below_size (by repeat (first | (with_reducible first | exact HB.out | apply below_alloc | apply pw_below_drewN | apply below_drew1) | exact HB.out)))); have n12_ := Aside0.mk (below_step (by repeat (first | (with_reducible first | exact HB.out | apply below_alloc | apply pw_below_drewN | apply below_drew1) | exact HB.out)) hb); clear HO_9; clear HO256; clear HO260; clear HO262; clear HO265; clear HO269; clear HO271; clear HO274; clear HO278; clear HO281; clear HO285; clear HB; have HO_9 := n0_; have HO256 := n1_; have HO260 := n2_; have HO262 := n3_; have HO265 := n4_; have HO269 := n5_; have HO271 := n6_; have HO274 := n7_; have HO278 := n8_; have HO281 := n9_; have HO285 := n10_; have HO289 := n11_; have HB := n12_; clear n0_ n1_ n2_ n3_ n4_ n5_ n6_ n7_ n8_ n9_ n10_ n11_ n12_; (try clear hb); (try clear hb2); (try clear hk); (try clear hi); (try clear ho0); obtain ⟨Ao53, co53, eo53⟩ := Kd.R_slice HO262.out; subst eo53; obtain ⟨Ao54, co54, eo54⟩ := Kd.R_slice HO289.out; subst eo54) | (go_at_call 16; (with_reducible refine (alidadelaw04_same.calls k1 _ _ t258 _ _ t287 true _ ?side1 ?side2 ?side3 ?side4 A30.out).mono ?_); (case side1 => repeat (first | exact (Kd.R_reads' HO262.out).2.2 | (with_reducible refine Kd.C_alloc ?_ _) | (with_reducible refine Kd.C_drewN ?_ _) | (with_reducible refine Kd.C_drew ?_))); (case side2 => exact (Kd.R_reads' HO262.out).2.1); (case side3 => repeat (first | exact (Kd.R_reads' HO289.out).2.2 | (with_reducible refine Kd.C_alloc ?_ _) | (with_reducible refine Kd.C_drewN ?_ _) | (with_reducible refine Kd.C_drew ?_))); (case side4 => exact (Kd.R_reads' HO289.out).2.1); rintro e w' ⟨rfl, ⟨nd, rfl⟩⟩; obtain ⟨Ao55, co55, eo55⟩ := Kd.R_slice HO269.out; subst eo55) | (go_at_call 29; (with_reducible refine (nat_Of.calls k1 12345 t291 _ A33.out).mono ?_); rintro e w56 ⟨v292, rfl, ho0, hb⟩; have n0_ := Aside0.mk (Kd.R_below (by (with_reducible repeat (first | apply Kd.R_alloc | apply Kd.R_drewN | apply Kd.R_drew)); exact HO_9.out) hb); have n1_ := Aside0.mk (Kd.R_elder' (by (with_reducible repeat (first | apply Kd.R_alloc | apply Kd.R_drewN | apply Kd.R_drew)); exact HO256.out) (Kd.R_base ho0) hb); have n2_ := Aside0.mk (Kd.R_elder' (by (with_reducible repeat (first | apply Kd.R_alloc | apply Kd.R_drewN | apply Kd.R_drew)); exact HO260.out) (Kd.R_base ho0) hb); have n3_ := Aside0.mk (Kd.R_elder' (by (with_reducible repeat (first | apply Kd.R_alloc | apply Kd.R_drewN | apply Kd.R_drew)); exact HO262.out) (Kd.R_base ho0) hb); have n4_ := Aside0.mk (Kd.R_elder' (by (with_reducible repeat (first | apply Kd.R_alloc | apply Kd.R_drewN | apply Kd.R_drew)); exact HO265.out) (Kd.R_base ho0) hb); have n5_ := Aside0.mk (Kd.R_elder' (by (with_reducible repeat (first | apply Kd.R_alloc | apply Kd.R_drewN | apply Kd.R_drew)); exact HO269.out) (Kd.R_base ho0) hb); have n6_ := Aside0.mk (Kd.R_elder' (by (with_reducible repeat (first | apply Kd.R_alloc | apply Kd.R_drewN | apply Kd.R_drew)); exact HO271.out) (Kd.R_base ho0) hb); have n7_ := Aside0.mk (Kd.R_elder' (by (with_reducible repeat (first | apply Kd.R_alloc | apply Kd.R_drewN | apply Kd.R_drew)); exact HO274.out) (Kd.R_base ho0) hb); have n8_ := Aside0.mk (Kd.R_elder' (by (with_reducible repeat (first | apply Kd.R_alloc | apply Kd.R_drewN | apply Kd.R_drew)); exact HO278.out) (Kd.R_base ho0) hb); have n9_ := Aside0.mk (Kd.R_elder' (by (with_reducible repeat (first | apply Kd.R_alloc | apply Kd.R_drewN | apply Kd.R_drew)); exact HO281.out) (Kd.R_base ho0) hb); have n10_ := Aside0.mk (Kd.R_elder' (by (with_reducible repeat (first | apply Kd.R_alloc | apply Kd.R_drewN | apply Kd.R_drew)); exact HO285.out) (Kd.R_base ho0) hb); have n11_ := Aside0.mk (Kd.R_elder' (by (with_reducible repeat (first | apply Kd.R_alloc | apply Kd.R_drewN | apply Kd.R_drew)); exact HO289.out) (Kd.R_base ho0) hb); have n12_ := Aside0.mk (Kd.R_lower (Kd.R_new' (Kd.R_new' (Kd.R_new' (Kd.R_new' (Kd.R_new' (Kd.R_new' (Kd.R_new' (Kd.R_new' (Kd.R_new' (Kd.R_new' (Kd.R_new' ho0 (Kd.R_lt (by (with_reducible repeat (first | apply Kd.R_alloc | apply Kd.R_drewN | apply Kd.R_drew)); exact HO256.out))) (Kd.R_lt (by (with_reducible repeat (first | apply Kd.R_alloc | apply Kd.R_drewN | apply Kd.R_drew)); exact HO260.out))) (Kd.R_lt (by (with_reducible repeat (first | apply Kd.R_alloc | apply Kd.R_drewN | apply Kd.R_drew)); exact HO262.out))) (Kd.R_lt (by (with_reducible repeat (first | apply Kd.R_alloc | apply Kd.R_drewN | apply Kd.R_drew)); exact HO265.out))) (Kd.R_lt (by (with_reducible repeat (first | apply Kd.R_alloc | apply Kd.R_drewN | apply Kd.R_drew)); exact HO269.out))) (Kd.R_lt (by (with_reducible repeat (first | apply Kd.R_alloc | apply Kd.R_drewN | apply Kd.R_drew)); exact HO271.out))) (Kd.R_lt (by (with_reducible repeat (first | apply Kd.R_alloc | apply Kd.R_drewN | apply Kd.R_drew)); exact HO274.out))) (Kd.R_lt (by (with_reducible repeat (first | apply Kd.R_alloc | apply Kd.R_drewN | apply Kd.R_drew)); exact HO278.out))) (Kd.R_lt (by (with_reducible repeat (first | apply Kd.R_alloc | apply Kd.R_drewN | apply Kd.R_drew)); exact HO281.out))) (Kd.R_lt (by (with_reducible repeat (first | apply Kd.R_alloc | apply Kd.R_drewN | apply Kd.R_drew)); exact HO285.out))) (Kd.R_lt (by (with_reducible repeat (first | apply Kd.R_alloc | apply Kd.R_drewN | apply Kd.R_drew)); exact HO289.out))) (below_size (by repeat (first | (with_reducible first | exact HB.out | apply below_alloc | apply pw_below_drewN | apply below_drew1) | exact HB.out)))); have n13_ := Aside0.mk (below_step (by repeat (first | (with_reducible first | exact HB.out | apply below_alloc | apply pw_below_drewN | apply below_drew1) | exact HB.out)) hb); clear HO_9; clear HO256; clear HO260; clear HO262; clear HO265; clear HO269; clear HO271; clear HO274; clear HO278; clear HO281; clear HO285; clear HO289; clear HB; have HO_9 := n0_; have HO256 := n1_; have HO260 := n2_; have HO262 := n3_; have HO265 := n4_; have HO269 := n5_; have HO271 := n6_; have HO274 := n7_; have HO278 := n8_; have HO281 := n9_; have HO285 := n10_; have HO289 := n11_; have HO293 := n12_; have HB := n13_; clear n0_ n1_ n2_ n3_ n4_ n5_ n6_ n7_ n8_ n9_ n10_ n11_ n12_ n13_; (try clear hb); (try clear hb2); (try clear hk); (try clear hi); (try clear ho0); obtain ⟨Ao57, co57, eo57⟩ := Kd.R_slice HO271.out; subst eo57; obtain ⟨Ao58, co58, eo58⟩ := Kd.R_slice HO293.out; subst eo58) | (go_at_call 16; (with_reducible refine (alidadelaw04_same.calls k1 _ _ t267 _ _ t291 true _ ?side1 ?side2 ?side3 ?side4 A34.out).mono ?_); (case side1 => repeat (first | exact (Kd.R_reads' HO271.out).2.2 | (with_reducible refine Kd.C_alloc ?_ _) | (with_reducible refine Kd.C_drewN ?_ _) | (with_reducible refine Kd.C_drew ?_))); (case side2 => exact (Kd.R_reads' HO271.out).2.1); (case side3 => repeat (first | exact (Kd.R_reads' HO293.out).2.2 | (with_reducible refine Kd.C_alloc ?_ _) | (with_reducible refine Kd.C_drewN ?_ _) | (with_reducible refine Kd.C_drew ?_))); (case side4 => exact (Kd.R_reads' HO293.out).2.1); rintro e w' ⟨rfl, ⟨nd, rfl⟩⟩))
                  go_ret
                  exact ⟨by first | rfl | (simp [errW_none, errW_some] <;> rfl) | (simp [*, errW_none, errW_some] <;> rfl), by repeat (first | (with_reducible first | exact HB.out | apply below_alloc | apply pw_below_drewN | apply below_drew1) | exact HB.out)⟩
                · rw [if_neg c32] at H
                  have c32b0 : ((t266.length : Int) == 0) = false := beq_eq_false_iff_ne.mpr c32
                  have c32b1 : ((t266.length : Int) != 0) = true := bne_iff_ne.mpr c32
                  have c32b2 : ¬ (t266 = []) := fun h_ => c32 (by rw [h_]; rfl)
                  exact absurd (Option.some.inj H) (by decide)
              · replace c31 := Bool.eq_false_iff.mpr c31
                subst c31
                have H1 : (some false) = some true := by rw [if_neg (show ¬ (false = true) by decide)] at H; exact H
                clear H
                have H := H1
                clear H1
                exact absurd (Option.some.inj H) (by decide)
            · replace c28 := Bool.eq_false_iff.mpr c28
              subst c28
              have H1 : (some false) = some true := by rw [if_neg (show ¬ (false = true) by decide)] at H; exact H
              clear H
              have H := H1
              clear H1
              exact absurd (Option.some.inj H) (by decide)
          · replace c25 := Bool.eq_false_iff.mpr c25
            subst c25
            have H1 : (some false) = some true := by rw [if_neg (show ¬ (false = true) by decide)] at H; exact H
            clear H
            have H := H1
            clear H1
            exact absurd (Option.some.inj H) (by decide)
        · replace c21 := Bool.eq_false_iff.mpr c21
          subst c21
          have H1 : (some false) = some true := by rw [if_neg (show ¬ (false = true) by decide)] at H; exact H
          clear H
          have H := H1
          clear H1
          exact absurd (Option.some.inj H) (by decide)
theorem alidadelaw04_works.calls (k : Nat)  (r : Bool) (w : World) (h : alidadelaw04_works.f k  = some r) :
    Calls Tryd.prog 10 #[] w fun e w' => e = .returned (.bool r) ∧ Below w.heap.size w w' := by
  obtain rfl := alidadelaw04_works.true_only k r h
  exact alidadelaw04_works.calls_true k w h

/-! ### alidadelaw04_spoil: function 19 -/
def alidadelaw04_spoil.l0 : Nat → List Int → Int → Option (List Int)
  | 0, _, _ => none
  | k + 1, x0, x2 => if x2 < (x0.length : Int) then (if 0 ≤ x2 then (alidadelaw04_spoil.l0 k (x0.set (x2 : Int).toNat 7) (wrap64 (x2 + 1))) else (none)) else (some x0)
def alidadelaw04_spoil.f (k : Nat) (l0 : List Int) : Option (List Int) := alidadelaw04_spoil.l0 k l0 0
theorem alidadelaw04_spoil.mono_l : ∀ k, (∀ y0 y1, LeO (alidadelaw04_spoil.l0 k y0 y1) (alidadelaw04_spoil.l0 (k + 1) y0 y1))
  | 0 => fun _ _ r h => by simp [alidadelaw04_spoil.l0] at h
  | k + 1 => by
    have ih0 := alidadelaw04_spoil.mono_l k
    · intro y0 y1
      unfold alidadelaw04_spoil.l0
      repeat' first
      | (with_reducible exact ih0 _ _)
      | (with_reducible exact LeO.refl _)
      | (with_reducible exact LeO.none _)
      | (with_reducible refine LeO.ite ?_ ?_)
      | (with_reducible refine LeO.bind ?_ (fun _ => ?_))
      | exact ih0 _ _
      | exact LeO.none _
      | refine LeO.ite ?_ ?_
      | refine LeO.bind ?_ (fun _ => ?_)
theorem alidadelaw04_spoil.mono : ∀ a0 k, LeO (alidadelaw04_spoil.f k a0) (alidadelaw04_spoil.f (k + 1) a0) := by
  intro a0 k
  have ih0 := alidadelaw04_spoil.mono_l k
  unfold alidadelaw04_spoil.f
  repeat' first
      | (with_reducible exact ih0 _ _)
      | (with_reducible exact LeO.refl _)
      | (with_reducible exact LeO.none _)
      | (with_reducible refine LeO.ite ?_ ?_)
      | (with_reducible refine LeO.bind ?_ (fun _ => ?_))
      | exact ih0 _ _
      | exact LeO.none _
      | refine LeO.ite ?_ ?_
      | refine LeO.bind ?_ (fun _ => ?_)
set_option maxHeartbeats 8000000 in
set_option maxRecDepth 100000 in
theorem alidadelaw04_spoil.calls (k : Nat) (P0_ : Nat → Prop) (u9000_ : Value) (l0 : List Int) (r : List Int) (w0 w : World) (hB : Below w0.heap.size w0 w) (ho0 : Kd.R (Kd.int .u32) 39 w w0.heap.size P0_ u9000_ l0) (h : alidadelaw04_spoil.f k l0 = some r) :
    Calls Tryd.prog 19 #[u9000_] w fun e w' => e = .returned (.tuple #[]) ∧ Kd.R (Kd.int .u32) 39 w' w0.heap.size (fun k_ => (P0_ k_ ∨ w.heap.size ≤ k_)) u9000_ r ∧ Below w0.heap.size w0 w' ∧ Kept w w' (fun k_ => P0_ k_) := by
  have HO0 := Aside0.mk (show Kd.R (Kd.int .u32) 39 w w0.heap.size (fun k_ => (P0_ k_ ∨ w.heap.size ≤ k_)) u9000_ l0 from Kd.R_mono ho0 (fun k_ hk => (.inl hk)))
  have HK := Aside0.mk (Kept.refl w (fun k_ => P0_ k_))
  have HW0 := Aside0.mk hB.size
  have HB := Aside0.mk hB
  clear hB
  have H : (alidadelaw04_spoil.l0 k l0 0) = some r := h
  clear h
  have H' := Aside0.mk H
  clear H
  go_enter Tryd.func19, Tryd.ntmps19
  go_wp2
  go_loopg [2] k (fun kq v2 w' => ∃ (x0_1 : List Int) (x2_1 : Int), v2 = .int .i64 x2_1 ∧ Aside0 (alidadelaw04_spoil.l0 kq x0_1 x2_1 = some r) ∧ Aside0 (kq ≤ k) ∧ Aside0 (Kd.R (Kd.int .u32) 39 w' w0.heap.size (fun k_ => (P0_ k_ ∨ w.heap.size ≤ k_)) u9000_ x0_1) ∧ Aside0 (Kept w w' (fun k_ => P0_ k_)) ∧ Aside0 (Below w0.heap.size w0 w'))
  case atStart => exact ⟨(l0), (0), (by first | rfl | (simp; done) | (simp [*]; done)), H', ⟨Nat.le_refl _⟩, ⟨by (with_reducible repeat (first | apply Kd.R_alloc | apply Kd.R_drewN | apply Kd.R_drew)); exact HO0.out⟩, ⟨by repeat (first | (with_reducible first | exact HK.out | apply Kept.alloc | apply Kept.drewN | apply Kept.drew) | exact HK.out)⟩, ⟨by repeat (first | (with_reducible first | exact HB.out | apply below_alloc | apply pw_below_drewN | apply below_drew1) | exact HB.out)⟩⟩
  case round =>
    clear H'
    try clear c1
    obtain ⟨x0_1, x2_1, rfl, HA, HK1, HO_0, HK, HB⟩ := hrel
    cases gk with
    | zero => exact absurd HA.out (by simp [alidadelaw04_spoil.l0])
    | succ k1 =>
      have H := HA.out
      clear HA
      simp only [alidadelaw04_spoil.l0] at H
      by_cases c2 : x2_1 < (x0_1.length : Int)
      · rw [if_pos c2] at H
        have c2b0 : decide (x2_1 < (x0_1.length : Int)) = true := decide_eq_true c2
        clear c2
        by_cases c3 : 0 ≤ x2_1
        · rw [if_pos c3] at H
          have c3b0 : decide (0 ≤ x2_1) = true := decide_eq_true c3
          clear c3
          obtain ⟨y295, hy295⟩ : ∃ y_ : List Int, y_ = (x0_1.set (x2_1 : Int).toNat 7) := ⟨_, rfl⟩
          replace H : (alidadelaw04_spoil.l0 k1 y295 (wrap64 (x2_1 + 1))) = some r := by first | (rw [hy295]; with_reducible exact H) | (have H2_ := (Option.bind_some _ _).symm.trans H; rw [hy295]; with_reducible exact H2_) | (have H2_ := (Option.bind_some _ _).symm.trans H; with_reducible exact H2_) | with_reducible exact H | (rw [hy295]; exact H) | exact H
          have Ny295 := Aside0.mk hy295
          clear hy295
          have H' := Aside0.mk H
          clear H
          obtain ⟨Ao5, co5, eo5⟩ := Kd.R_slice HO_0.out
          subst eo5
          have p4 : 0 ≤ (x2_1 : Int) := of_decide_eq_true (by first | (with_reducible assumption) | assumption)
          have q4 : (x2_1 : Int) < ((x0_1.length : Int) : Int) := of_decide_eq_true (by first | (with_reducible assumption) | assumption)
          obtain ⟨go4, co4, eo4, gb4, gl4, cl4, HG4⟩ := Kd.R_form HO_0.out (by omega)
          (first | cases eo4 | (injection eo4 with ea_ en_ ec_; (first | subst ea_ | (injection ea_ with ea_; subst ea_)); subst ec_; clear en_))
          have GB4 := Aside0.mk gb4
          have GG4 := Aside0.mk HG4
          clear gb4 gl4 HG4
          have HMgo4 := Aside0.mk (show (P0_ go4 ∨ w.heap.size ≤ go4) from (HO_0.out.1 _ rfl))
          obtain ⟨hx4_0, hf4_0⟩ := Kd.R_celln 0 HO_0.out (x2_1 : Int) p4 q4
          replace p4 := eq_true p4
          replace q4 := eq_true q4
          have HP6 := Kd.R_putg HO_0.out (x2_1 : Int) 7
          go_wp2_with (first | ((with_reducible refine gate_store (t := 39) (p := 11) rfl ?_); refine store_event (t := 39) (p := 11) (v := ?vo_w7) (w1 := (wr.setCell ⟨go4, (x2_1 : Int).toNat, none⟩ (.int .u32 7))) ?hg ?ho ?hn ?hr ?_; (case ho => rfl); (case hg => rfl); (case hn => rfl); (case hr => first | (go_simp; done) | (go_simp; rfl)); intro w7 hw; have hg : wr.grownBy w7 (some go4) := (by rw [hw]; exact HP6.2); have hp_ : Kd.R (Kd.int .u32) 39 w7 w0.heap.size (fun k_ => (P0_ k_ ∨ w.heap.size ≤ k_)) (.slice (some ⟨go4, 0, none⟩) x0_1.length co5) y295 := (by rw [hw, Ny295.out]; exact HP6.1); clear HP6; have n0_ := Aside0.mk (hp_); have n1_ := Aside0.mk ((by rw [hw]; exact below_set (HB.out) GB4.out : Below w0.heap.size w0 w7)); have n2_ := Aside0.mk (Kept.of_grown (S := (fun k_ => P0_ k_)) hg (by repeat (first | (with_reducible first | exact HK.out | apply Kept.alloc | apply Kept.drewN | apply Kept.drew) | exact HK.out)) (fun k_ e_ => (HO_0.out.1 k_ e_))); clear HO_0; clear HB; clear HK; have HO_0 := n0_; have HB := n1_; have HK := n2_; clear n0_ n1_ n2_; clear hg hw hp_))
          go_roundg k1
          case measure => have := HK1.out; omega
          case rel => exact ⟨(y295), (wrap64 (x2_1 + 1)), (by first | rfl | (simp; done) | (simp [*]; done)), H', ⟨by have := HK1.out; omega⟩, ⟨by (with_reducible repeat (first | apply Kd.R_alloc | apply Kd.R_drewN | apply Kd.R_drew)); exact HO_0.out⟩, ⟨by repeat (first | (with_reducible first | exact HK.out | apply Kept.alloc | apply Kept.drewN | apply Kept.drew) | exact HK.out)⟩, ⟨by repeat (first | (with_reducible first | exact HB.out | apply below_alloc | apply pw_below_drewN | apply below_drew1) | exact HB.out)⟩⟩
        · rw [if_neg c3] at H
          exact absurd H (by simp)
      · rw [if_neg c2] at H
        have c2b0 : decide (x2_1 < (x0_1.length : Int)) = false := decide_eq_false c2
        clear c2
        obtain rfl := Option.some.inj H
        obtain ⟨Ao8, co8, eo8⟩ := Kd.R_slice HO_0.out
        subst eo8
        go_wp2
        first | go_end0 | ((try simp only [Exit.inBlock, Exit.then]); refine bodyPost_ret (results_none rfl _ _ _) rfl ?_)
        exact ⟨by first | rfl | (simp [errW_none, errW_some] <;> rfl) | (simp [*, errW_none, errW_some] <;> rfl), by (with_reducible repeat (first | apply Kd.R_alloc | apply Kd.R_drewN | apply Kd.R_drew)); exact HO_0.out, by repeat (first | (with_reducible first | exact HB.out | apply below_alloc | apply pw_below_drewN | apply below_drew1) | exact HB.out), by repeat (first | (with_reducible first | exact HK.out | apply Kept.alloc | apply Kept.drewN | apply Kept.drew) | exact HK.out)⟩
theorem spoil_ev : ∀ (d i : Nat) (l : List Int), i + d = l.length → l.length ≤ 9223372036854775806 → ∃ r, Nums.Ev (fun k => alidadelaw04_spoil.l0 k l (i : Int)) r := by
  intro d
  induction d with
  | zero =>
    intro i l hi hl
    refine ⟨l, Nums.Ev.now fun k => ?_⟩
    rw [alidadelaw04_spoil.l0, if_neg (by omega)]
  | succ d ih =>
    intro i l hi hl
    obtain ⟨r, hr⟩ := ih (i + 1) (l.set i 7) (by rw [List.length_set]; omega) (by rw [List.length_set]; omega)
    have hii : (i : Int) < (l.length : Int) := by omega
    refine ⟨r, hr.succ fun k => ?_⟩
    rw [alidadelaw04_spoil.l0, if_pos hii, if_pos (Int.natCast_nonneg _), Int.toNat_natCast, w64_succ (by omega)]
theorem spoil_any (l : List Int) (hl : l.length ≤ 9223372036854775806) : ∃ r, Nums.Ev (fun k => alidadelaw04_spoil.f k l) r := spoil_ev l.length 0 l (by omega) hl

/-! ### alidaderef01_May: function 31 -/
def alidaderef01_May.f (l0 : List Int) : Option (Bool) := if (l0.length : Int) > 65536 then (some false) else (if (l0.length : Int) = 0 then (some true) else (if 0 ≤ (wrap64 ((l0.length : Int) - 1)) then (if (wrap64 ((l0.length : Int) - 1)) < (l0.length : Int) then (some (decide ((rd l0 (wrap64 ((l0.length : Int) - 1))) > 0))) else (none)) else (none)))
set_option maxHeartbeats 8000000 in
set_option maxRecDepth 100000 in
theorem alidaderef01_May.calls (A0 : Option Addr) (c0 : Nat) (l0 : List Int) (r : Bool) (w : World) (hr0 : Kd.C (Kd.int .u32) w A0 l0.length l0) (hc0 : l0.length ≤ c0) (h : alidaderef01_May.f l0 = some r) :
    Calls Tryd.prog 31 #[.slice A0 l0.length c0] w fun e w' => e = .returned (.bool r) ∧ Drawn0 w w' := by
  have HR0 := Aside0.mk hr0
  have HC0 := Aside0.mk hc0
  clear hr0 hc0
  have H : (if (l0.length : Int) > 65536 then (some false) else (if (l0.length : Int) = 0 then (some true) else (if 0 ≤ (wrap64 ((l0.length : Int) - 1)) then (if (wrap64 ((l0.length : Int) - 1)) < (l0.length : Int) then (some (decide ((rd l0 (wrap64 ((l0.length : Int) - 1))) > 0))) else (none)) else (none)))) = some r := h
  clear h
  by_cases c2 : (l0.length : Int) > 65536
  · rw [if_pos c2] at H
    have c2b0 : decide (65536 < (l0.length : Int)) = true := decide_eq_true c2
    have c2b1 : decide (65536 < l0.length) = true := decide_eq_true (by omega)
    clear c2
    obtain rfl := Option.some.inj H
    go_enter Tryd.func31, Tryd.ntmps31
    go_wp2
    go_ret
    exact ⟨by first | rfl | (simp; done) | (simp [*]; done), by repeat (first | exact Drawn0.refl _ | apply Drawn0.step)⟩
  · rw [if_neg c2] at H
    have c2b0 : decide (65536 < (l0.length : Int)) = false := decide_eq_false c2
    have c2b1 : decide (65536 < l0.length) = false := decide_eq_false (by omega)
    clear c2
    by_cases c3 : (l0.length : Int) = 0
    · rw [if_pos c3] at H
      have c3b0 : ((l0.length : Int) == 0) = true := beq_iff_eq.mpr c3
      have c3b1 : ((l0.length : Int) != 0) = false := bne_eq_false_iff_eq.mpr c3
      clear c3
      obtain rfl := Option.some.inj H
      go_enter Tryd.func31, Tryd.ntmps31
      go_wp2
      go_ret
      exact ⟨by first | rfl | (simp; done) | (simp [*]; done), by repeat (first | exact Drawn0.refl _ | apply Drawn0.step)⟩
    · rw [if_neg c3] at H
      have c3b0 : ((l0.length : Int) == 0) = false := beq_eq_false_iff_ne.mpr c3
      have c3b1 : ((l0.length : Int) != 0) = true := bne_iff_ne.mpr c3
      have c3b2 : ¬ (l0 = []) := fun h_ => c3 (by rw [h_]; rfl)
      obtain ⟨ji4, hji4⟩ : ∃ j_ : Int, (wrap64 ((l0.length : Int) - 1)) = j_ := ⟨_, rfl⟩
      replace H : (if 0 ≤ (ji4) then (if (ji4) < (l0.length : Int) then (some (decide ((rd l0 (ji4)) > 0))) else (none)) else (none)) = some r := by first | (rw [hji4] at H; exact H) | (simp only [hji4] at H ⊢; exact H)
      have hji4w : (IntKind.i64.wrap ((l0.length : Int) - 1)) = ji4 := (i64_w _).trans hji4
      by_cases c5 : 0 ≤ (ji4)
      · rw [if_pos c5] at H
        have c5b0 : decide (0 ≤ (ji4)) = true := decide_eq_true c5
        clear c5
        by_cases c6 : (ji4) < (l0.length : Int)
        · rw [if_pos c6] at H
          have c6b0 : decide ((ji4) < (l0.length : Int)) = true := decide_eq_true c6
          clear c6
          obtain rfl := Option.some.inj H
          have p296 : 0 ≤ ((ji4) : Int) := of_decide_eq_true (by first | (with_reducible assumption) | assumption)
          have q296 : (ji4) < (l0.length : Int) := of_decide_eq_true (by first | (with_reducible assumption) | assumption)
          obtain ⟨ad296, e296, hx296_0⟩ := Kd.at_int HR0.out (ji4) p296 q296
          cases e296
          replace p296 := eq_true p296
          replace q296 := eq_true q296
          go_enter Tryd.func31, Tryd.ntmps31
          go_wp2
          go_ret
          exact ⟨by first | rfl | (simp; done) | (simp only [← hji4] <;> (first | rfl | simp)) | (simp [*]; done), by repeat (first | exact Drawn0.refl _ | apply Drawn0.step)⟩
        · rw [if_neg c6] at H
          exact absurd H (by simp)
      · rw [if_neg c5] at H
        exact absurd H (by simp)
theorem ref_May_eq (l : List Int) (hr : Nums.rng l = true) : alidaderef01_May.f l = some (Nums.may l) := by
  unfold alidaderef01_May.f
  by_cases h1 : (l.length : Int) > 65536
  · rw [if_pos h1]
    have : ¬ l.length ≤ 65536 := by omega
    simp [Nums.may, this]
  · rw [if_neg h1]
    by_cases h2 : (l.length : Int) = 0
    · rw [if_pos h2]
      obtain rfl : l = [] := List.eq_nil_of_length_eq_zero (by omega)
      rfl
    · have hne : l ≠ [] := fun e => h2 (by rw [e]; rfl)
      rw [if_neg h2, wrap64_len _ (by omega), if_pos (by omega), if_pos (by omega), rd_last l hne]
      congr 1
      have hl : l.length ≤ 65536 := by omega
      have h0 : 0 ≤ l.getLast hne := by
        have := Nums.rng_get hr (i := l.length - 1) (by have := List.length_pos_iff.2 hne; omega)
        rw [List.getLast_eq_getElem]
        exact this.1
      rw [Bool.eq_iff_iff]
      simp only [Nums.may, Nums.top, hl, List.getLast?_eq_some_getLast hne, decide_true, Bool.true_and, bne_iff_ne, ne_eq, Option.some.injEq, decide_eq_true_eq]
      omega

end Go.Proofs.YtjgloepeogelnaaDoor.Pr
