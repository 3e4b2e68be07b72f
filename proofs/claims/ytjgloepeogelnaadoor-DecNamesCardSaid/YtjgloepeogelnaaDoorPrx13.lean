/- Functions with the same answers as the Go functions of the program, with the proofs that the program comes to just these answers; no condition but those that each theorem names. (Laid by this work's own program mk.py out of the translation.) -/
import Derived.Test.YtjgloepeogelnaaDoorPrx0
import Derived.Test.YtjgloepeogelnaaDoorPrx1
import Derived.Test.YtjgloepeogelnaaDoorPrx3
import Derived.Test.YtjgloepeogelnaaDoorPrx10
import Derived.Test.YtjgloepeogelnaaDoorPrx11
namespace Go.Proofs.YtjgloepeogelnaaDoor.Pr
open Go.RowKit Go.Proofs.YtjgloepeogelnaaDoorW.PrintWords Go.Proofs.YtjgloepeogelnaaDoorW.PrintLast Go.Proofs.YtjgloepeogelnaaDoorW.PrintMore
attribute [local go_sem] max2_int min2_int max_two min_two max_three min_three max_four min_four   -- for this text's walks alone
set_option linter.unusedVariables false
set_option linter.unusedSimpArgs false

/-! ### nat_pairs: function 51 -/
/-- What has come of two rows when k rounds are over. -/
def nat_upto (a b : List Int) (k : Nat) : List (Int × Int) := (List.range k).map fun i => (a[i]?.getD 0, b[i]?.getD 0)
theorem nat_upto_succ (a b : List Int) (k : Nat) : nat_upto a b (k + 1) = nat_upto a b k ++ [(a[k]?.getD 0, b[k]?.getD 0)] := by simp [nat_upto, List.range_succ]
theorem nat_upto_length (a b : List Int) (k : Nat) : (nat_upto a b k).length = k := by simp [nat_upto]
section
attribute [local go_sem] Oper.semAt_some
set_option maxRecDepth 100000 in
set_option maxHeartbeats 4000000 in
/-- The iterator over two rows, limb by limb, for every loop body that keeps what lay below n₀ and never stops. -/
theorem nat_pairs1.in_ (F : Fence) (n : Nat) (h78 : F.fn 78) (hro : F.round = none) (hn : 1 ≤ n) (l Ba Bb n₀ : Nat) (A0 A1 : Option Addr) (c0 c1 : Nat) (a b : List Int) (J Jx : List (Int × Int) → World → Prop)
    (hla : a.length ≤ 70368744177664) (hlb : b.length ≤ 70368744177664)
    (hY : ∀ pre x W, J pre W → pre.length < max a.length b.length → YieldAt F (n - 1) Tryd.prog l #[.int .u32 x.1, .int .u32 x.2] W fun e W' =>
      (e = .returned (.bool true) ∧ J (pre ++ [x]) W' ∧ nat_Kp n₀ Ba Bb W W') ∨ (e = .returned (.bool false) ∧ Jx (pre ++ [x]) W'))
    (W : World) (hBa : W.cell? ⟨Ba, 0, none⟩ = some (.slice A0 a.length c0)) (hBb : W.cell? ⟨Bb, 0, none⟩ = some (.slice A1 b.length c1)) 
    (w0 : World) (hra : Kd.C (Kd.int .u32) w0 A0 a.length a) (hrb : Kd.C (Kd.int .u32) w0 A1 b.length b) (hw0 : w0.heap.size ≤ n₀) (hbw : Below w0.heap.size w0 W) (h0 : J [] W) :
    CallsIn F n Tryd.prog 78 #[.func (.yield l) #[] #[], .pointer (some ⟨Ba, 0, none⟩), .pointer (some ⟨Bb, 0, none⟩)] W fun e W' => (∃ v, e = .returned v) ∧
      ((∃ ys, ys = nat_upto a b (max a.length b.length) ∧ J ys W') ∨ (∃ pre, (∃ k, pre = nat_upto a b k) ∧ Jx pre W')) := by
  refine callsIn_of_wp Tryd.func78 rfl h78 ?_ hro
  simp only [Tryd.ntmps78, List.size_toArray, List.length_cons, List.length_nil, Nat.reduceAdd, Nat.reduceSub, Array.replicate_succ, Array.replicate_zero, List.push_toArray, List.append_toArray, List.nil_append, List.cons_append]
  obtain ⟨m, hm⟩ : ∃ m, m = max a.length b.length := ⟨_, rfl⟩
  have hmax : (if a.length < b.length then (b.length : Int) else (a.length : Int)) = (m : Int) := by subst hm; split <;> omega
  have hml : m ≤ 70368744177664 := by omega
  have hma : a.length ≤ m := by omega
  have hmb : b.length ≤ m := by omega
  rw [← hm] at hY ⊢
  clear hm
  gi_wp2
  gi_loopw [12, 4, 5, 6] (fun i _ _ _ wr => ∃ k : Nat, k ≤ m ∧ i = .int .i64 k ∧ J (nat_upto a b k) wr ∧ nat_Kp n₀ Ba Bb W wr)
    (fun i _ _ _ _ => m - (intOf i).toNat)
  case atStart => exact ⟨0, Nat.zero_le _, rfl, h0, nat_Kp.refl _ _ _ _⟩
  case round =>
    obtain ⟨k, hk, rfl, hJs, hnx⟩ := hrel
    have hBa2 := hnx.cellA hBa
    have hBb2 := hnx.cellB hBb
    by_cases hlt : k < m
    · have body : ∀ x y : Int, a[k]?.getD 0 = x → b[k]?.getD 0 = y → nat_upto a b (k + 1) = nat_upto a b k ++ [(x, y)] := fun x y hx hy => by rw [nat_upto_succ, hx, hy]
      have hreadA : k < a.length → ∃ ad, A0 = some ad ∧ wr.cell? (ad.add k) = some (.int .u32 (a[k]?.getD 0)) := fun h => by
        obtain ⟨ad, e, hc⟩ := Kd.at_int hra (k : Int) (by omega) (by omega)
        refine ⟨ad, e, ?_⟩
        have h2 := pw_cell_below (hbw.trans (hnx.1.mono hw0)) hc
        simpa [rd, List.getD_eq_getElem?_getD] using h2
      have hreadB : k < b.length → ∃ ad, A1 = some ad ∧ wr.cell? (ad.add k) = some (.int .u32 (b[k]?.getD 0)) := fun h => by
        obtain ⟨ad, e, hc⟩ := Kd.at_int hrb (k : Int) (by omega) (by omega)
        refine ⟨ad, e, ?_⟩
        have h2 := pw_cell_below (hbw.trans (hnx.1.mono hw0)) hc
        simpa [rd, List.getD_eq_getElem?_getD] using h2
      by_cases ha : k < a.length <;> by_cases hb : k < b.length
      · obtain ⟨ada, rfl, hca⟩ := hreadA ha
        obtain ⟨adb, rfl, hcb⟩ := hreadB hb
        obtain ⟨x, hx⟩ : ∃ x, a[k]?.getD 0 = x := ⟨_, rfl⟩
        rw [hx] at hca
        obtain ⟨y, hy⟩ : ∃ y, b[k]?.getD 0 = y := ⟨_, rfl⟩
        rw [hy] at hcb
        have hs := Aside0.mk (body _ _ hx hy)
        clear hreadA hreadB body hx hy
        obtain ⟨fn, tmps, assign, body, hy, hR⟩ := hY _ (x, y) wr hJs (by rw [nat_upto_length]; exact hlt)
        dsimp only at hy
        gi_wp2
        refine hR.mono ?_
        rintro e W3 (⟨rfl, hJ3, hk3⟩ | ⟨rfl, hJx3⟩)
        · gi_wp2
          go_roundw
          case rel => exact ⟨k + 1, by omega, by simp, by rw [hs.out]; exact hJ3, hnx.trans hk3⟩
          case measure => simp [intOf]; omega
        · gi_wp2
          refine bodyPost_ret (results_none rfl _ _ _) rfl ?_
          exact ⟨⟨_, rfl⟩, .inr ⟨_, ⟨k + 1, hs.out.symm⟩, hJx3⟩⟩
      · obtain ⟨ada, rfl, hca⟩ := hreadA ha
        have hy0 : b[k]?.getD 0 = 0 := by simp [List.getElem?_eq_none (Nat.le_of_not_lt hb)]
        obtain ⟨x, hx⟩ : ∃ x, a[k]?.getD 0 = x := ⟨_, rfl⟩
        rw [hx] at hca
        have hs := Aside0.mk (body _ _ hx hy0)
        clear hreadA hreadB body hx hy0
        obtain ⟨fn, tmps, assign, body, hy, hR⟩ := hY _ (x, 0) wr hJs (by rw [nat_upto_length]; exact hlt)
        dsimp only at hy
        gi_wp2
        refine hR.mono ?_
        rintro e W3 (⟨rfl, hJ3, hk3⟩ | ⟨rfl, hJx3⟩)
        · gi_wp2
          go_roundw
          case rel => exact ⟨k + 1, by omega, by simp, by rw [hs.out]; exact hJ3, hnx.trans hk3⟩
          case measure => simp [intOf]; omega
        · gi_wp2
          refine bodyPost_ret (results_none rfl _ _ _) rfl ?_
          exact ⟨⟨_, rfl⟩, .inr ⟨_, ⟨k + 1, hs.out.symm⟩, hJx3⟩⟩
      · have hx0 : a[k]?.getD 0 = 0 := by simp [List.getElem?_eq_none (Nat.le_of_not_lt ha)]
        obtain ⟨adb, rfl, hcb⟩ := hreadB hb
        obtain ⟨y, hy⟩ : ∃ y, b[k]?.getD 0 = y := ⟨_, rfl⟩
        rw [hy] at hcb
        have hs := Aside0.mk (body _ _ hx0 hy)
        clear hreadA hreadB body hx0 hy
        obtain ⟨fn, tmps, assign, body, hy, hR⟩ := hY _ (0, y) wr hJs (by rw [nat_upto_length]; exact hlt)
        dsimp only at hy
        gi_wp2
        refine hR.mono ?_
        rintro e W3 (⟨rfl, hJ3, hk3⟩ | ⟨rfl, hJx3⟩)
        · gi_wp2
          go_roundw
          case rel => exact ⟨k + 1, by omega, by simp, by rw [hs.out]; exact hJ3, hnx.trans hk3⟩
          case measure => simp [intOf]; omega
        · gi_wp2
          refine bodyPost_ret (results_none rfl _ _ _) rfl ?_
          exact ⟨⟨_, rfl⟩, .inr ⟨_, ⟨k + 1, hs.out.symm⟩, hJx3⟩⟩
      · have hx0 : a[k]?.getD 0 = 0 := by simp [List.getElem?_eq_none (Nat.le_of_not_lt ha)]
        have hy0 : b[k]?.getD 0 = 0 := by simp [List.getElem?_eq_none (Nat.le_of_not_lt hb)]
        have hs := Aside0.mk (body _ _ hx0 hy0)
        clear hreadA hreadB body hx0 hy0
        obtain ⟨fn, tmps, assign, body, hy, hR⟩ := hY _ (0, 0) wr hJs (by rw [nat_upto_length]; exact hlt)
        dsimp only at hy
        gi_wp2
        refine hR.mono ?_
        rintro e W3 (⟨rfl, hJ3, hk3⟩ | ⟨rfl, hJx3⟩)
        · gi_wp2
          go_roundw
          case rel => exact ⟨k + 1, by omega, by simp, by rw [hs.out]; exact hJ3, hnx.trans hk3⟩
          case measure => simp [intOf]; omega
        · gi_wp2
          refine bodyPost_ret (results_none rfl _ _ _) rfl ?_
          exact ⟨⟨_, rfl⟩, .inr ⟨_, ⟨k + 1, hs.out.symm⟩, hJx3⟩⟩
    · obtain rfl : k = m := by omega
      gi_wp2
      go_end0
      exact ⟨⟨_, rfl⟩, .inl ⟨_, rfl, hJs⟩⟩
set_option maxHeartbeats 1000000 in
/-- pairs(a, b): the two slices are boxed; the function value captures the boxes. -/
theorem nat_pairs.in_ (F : Fence) (n : Nat) (h51 : F.fn 51) (hro : F.round = none) (A0 A1 : Option Addr) (n0 c0 n1 c1 : Nat) (w : World) :
    CallsIn F n Tryd.prog 51 #[.slice A0 n0 c0, .slice A1 n1 c1] w fun e w' => e = .returned (.func (.func 78) #[] #[.pointer (some ⟨w.heap.size, 0, none⟩), .pointer (some ⟨w.heap.size + 1, 0, none⟩)]) ∧ w' = (w.alloc (.cells #[.slice A0 n0 c0] 22)).alloc (.cells #[.slice A1 n1 c1] 22) := by
  refine callsIn_of_wp Tryd.func51 rfl h51 ?_ hro
  simp only [Tryd.ntmps51, List.size_toArray, List.length_cons, List.length_nil, Nat.reduceAdd, Nat.reduceSub, Array.replicate_succ, Array.replicate_zero, List.push_toArray, List.append_toArray, List.nil_append, List.cons_append]
  gi_wp2
  go_ret
  exact ⟨rfl, rfl⟩
/-- What pairs hands back: an iterator over all limbs, side by side. -/
theorem nat_pairs.stops (F : Fence) (n : Nat) (h78 : F.fn 78) (hro : F.round = none) (hn : 1 ≤ n) (Ba Bb n₀ : Nat) (A0 A1 : Option Addr) (c0 c1 : Nat) (a b : List Int)
    (hla : a.length ≤ 70368744177664) (hlb : b.length ≤ 70368744177664) (w0 w : World) (hBa : Ba < w.heap.size) (hBb : Bb < w.heap.size)
    (hca : w.cell? ⟨Ba, 0, none⟩ = some (.slice A0 a.length c0)) (hcb : w.cell? ⟨Bb, 0, none⟩ = some (.slice A1 b.length c1))
    (hra : Kd.C (Kd.int .u32) w0 A0 a.length a) (hrb : Kd.C (Kd.int .u32) w0 A1 b.length b) (hw0 : w0.heap.size ≤ n₀) (hbw : Below w0.heap.size w0 w) :
    SeqStopsK F n Tryd.prog 78 #[.pointer (some ⟨Ba, 0, none⟩), .pointer (some ⟨Bb, 0, none⟩)] (fun x : Int × Int => #[Value.int .u32 x.1, Value.int .u32 x.2]) (nat_Kp n₀ Ba Bb) (fun ys => ys = nat_upto a b (max a.length b.length)) (fun pre => ∃ k, pre = nat_upto a b k) (max a.length b.length) w := fun l J Jx W hW _ _ hY h0 =>
  nat_pairs1.in_ F n h78 hro hn l Ba Bb n₀ A0 A1 c0 c1 a b J Jx hla hlb hY W ((hW.cell (p := ⟨Ba, 0, none⟩) hBa).trans hca) ((hW.cell (p := ⟨Bb, 0, none⟩) hBb).trans hcb) w0 hra hrb hw0 (hbw.trans (hW.mono hbw.size)) h0
end

/-! ### nat_Shr: function 72 -/
/-- No operation of a region is a defer statement. -/
def noDefer (ops : Array Oper) : Bool := ops.all fun o => match o.op with | .defer _ => false | _ => true
theorem noDefer_spec {ops : Array Oper} (h : noDefer ops = true) {i : Nat} {o : Oper} (ho : ops[i]? = some o) (c : Call) : o.op ≠ .defer c := by
  intro e
  obtain ⟨hi, hx⟩ := Array.getElem?_eq_some_iff.1 ho
  have := (Array.all_eq_true.1 h) i hi
  rw [hx, e] at this
  cases this
theorem wpOpIn_inRound {F : Fence} {n : Nat} {P : Program} {ops : Array Oper} {Q : Exit → Act → World → Prop} {l i : Nat} {K K' : Act → World → Prop} {a : Act} {w : World} (hro : F.round = none) (hd : noDefer ops = true)
    (hK : ∀ a w, K a w → K' a w) (h : wpOpIn F n P ops Q i K a w) : wpOpIn (F.inRound l) n P ops Q i K' a w := by
  unfold wpOpIn at h ⊢
  cases ho : ops[i]? with
  | none => rw [ho] at h; exact hK _ _ h
  | some o =>
    rw [ho] at h
    simp only at h ⊢
    by_cases hw : Region.wanted o (yielded ops a.tmps) = true
    · rw [if_pos hw] at h ⊢
      have h2 := Oper.wpIn_mono hK h
      unfold Oper.wpIn at h2 ⊢
      rw [hro, Oper.semAt_none] at h2
      rw [Fence.inRound_round, Oper.semAt_some l _ _ (noDefer_spec hd ho)]
      refine ⟨h2.1, ?_⟩
      have h3 := h2.2
      unfold Oper.uponIn at h3 ⊢
      split at h3 <;> exact h3
    · rw [if_neg hw] at h ⊢
      exact ⟨h.1, hK _ _ h.2⟩
theorem wpAnyIn_inRound {F : Fence} {n : Nat} {P : Program} {md : Region.Mode} {ops : Array Oper} {Q : Exit → Act → World → Prop} {l : Nat} (hro : F.round = none) (hd : noDefer ops = true) :
    ∀ (fuel : Nat) (listed : Array Bool) (a : Act) (w : World), wpAnyIn F n P md ops Q fuel listed a w → wpAnyIn (F.inRound l) n P md ops Q fuel listed a w
  | 0, _, _, _, h => h
  | fuel + 1, listed, a, w, h => ⟨h.1, fun i hi => wpOpIn_inRound hro hd (fun a w h => wpAnyIn_inRound hro hd fuel _ a w h) (h.2 i hi)⟩
theorem wpIn_region_round {F : Fence} {n : Nat} {P : Program} {ops : Array Oper} {Q : Exit → Act → World → Prop} {l id : Nat} {a : Act} {w : World} (hro : F.round = none) (hm : P.follows .mixedOrders = true) (hd : noDefer ops = true)
    (A : Act) (W : World) (h : wpAnyIn F n P .any ops (fun e a' w' => match e with | .normal => a' = A ∧ w' = W | _ => False) ops.size (Array.replicate ops.size false) a w.drew) (hk : Q .normal A W) : (Code.region id ops true).wpIn (F.inRound l) n P Q a w := by
  refine Code.wpIn_mono (Q := fun e a' w' => match e with | .normal => a' = A ∧ w' = W | _ => False) ?_ (wpIn_region_any hm (wpAnyIn_inRound hro hd _ _ _ _ h))
  intro e a w h
  cases e <;> first | (obtain ⟨rfl, rfl⟩ := h; exact hk) | exact h.elim
theorem step_append_in {F : Fence} {n : Nat} {P : Program} {ops : Array Oper} {o : Oper} {a : Act} {w : World} {K : Act → World → Prop} {Q : Exit → Act → World → Prop} {E : Prop}
    (hg : o.guard = none) (s x : Operand) (t : TypeId) (hop : o.op = Op.call { callee := Callee.builtin Builtin.append, args := #[s, x], argTypes := #[t, t] })
    (v u v' : Value) (w' : World) (hs : a.eval s = v) (hx : a.eval x = u) (hrun : (Builtin.append_ #[t, t] o.type #[v, u]).run P w = .ok v' w') (hK : K (a.put o.dst v') w') :
    if Region.wanted o (yielded ops a.tmps) = true then Oper.wpIn F n P o a w K Q else E := by
  rw [if_pos (by simp [Region.wanted, hg])]
  unfold Oper.wpIn
  refine ⟨?_, ?_⟩
  · simp [Oper.about, hop, resolve, Target.leads, Sem.run_pure]
  · rw [Oper.semAt_plain F _ _ (by rw [hop]; intro c hc'; cases hc')]
    simp [execOp, hop, resolve, invoke, builtin, hs, hx, hrun, Result.andThen]
    exact hK
/-- A limb of what is shifted right. -/
def shr1 (s : Nat) (p : Int × Int) : Int := IntKind.u32.wrap (bits .or .u64 (IntKind.u64.wrap (IntKind.u64.wrap p.2 * 4294967296)) (IntKind.u64.wrap p.1) / 2 ^ s)
def shrAll (s : Nat) (P : List (Int × Int)) : List Int := P.map (shr1 s)
theorem shrAll_snoc (s : Nat) (P : List (Int × Int)) (p : Int × Int) : shrAll s (P ++ [p]) = shrAll s P ++ [shr1 s p] := by simp [shrAll]
theorem shrAll_length (s : Nat) (P : List (Int × Int)) : (shrAll s P).length = P.length := by simp [shrAll]
theorem shr1_eq {s : Nat} (hs : s < 32) {x y : Int} (hx : 0 ≤ x ∧ x < 4294967296) (hy : 0 ≤ y ∧ y < 4294967296) : shr1 s (x, y) = ((x.toNat + 4294967296 * y.toNat) / 2 ^ s % 4294967296 : Nat) := by
  unfold shr1
  have e1 : IntKind.u64.wrap y = y := u64_wraps _ (by omega) (by omega)
  have e2 : IntKind.u64.wrap (y * 4294967296) = y * 4294967296 := u64_wraps _ (by omega) (by omega)
  have e3 : IntKind.u64.wrap x = x := u64_wraps _ (by omega) (by omega)
  have e4 : bits .or .u64 (y * 4294967296) x = y * 4294967296 + x := bits_join .u64 64 (by decide) wraps_u64 32 _ _ (by omega) (by omega) (by omega) hx.1 (by omega) (by omega)
  show IntKind.u32.wrap (bits .or .u64 (IntKind.u64.wrap (IntKind.u64.wrap y * 4294967296)) (IntKind.u64.wrap x) / 2 ^ s) = _
  rw [e1, e2, e3, e4, powi]
  have e5 : y * 4294967296 + x = ((x.toNat + 4294967296 * y.toNat : Nat) : Int) := by omega
  rw [e5, ← Int.natCast_ediv]
  obtain ⟨Z, hZ⟩ : ∃ Z, (x.toNat + 4294967296 * y.toNat) / 2 ^ s = Z := ⟨_, rfl⟩
  rw [hZ]
  show ((Z : Int)) % 4294967296 = _
  omega
theorem shrAll_val (l : List Int) (s : Nat) (hs : s < 32) (hr : Nums.rng l = true) : Nums.rng (shrAll s (nat_upto l (l.drop 1) l.length)) = true ∧ Nums.val (shrAll s (nat_upto l (l.drop 1) l.length)) = Nums.val l / 2 ^ s := by
  have e : shrAll s (nat_upto l (l.drop 1) l.length) = (List.range l.length).map (shrLimb l s) := by
    simp only [shrAll, nat_upto, List.map_map]
    apply List.map_congr_left
    intro i _
    have h1 := Nums.rng_getD hr i
    have h2 := Nums.rng_getD hr (i + 1)
    show shr1 s (l[i]?.getD 0, (l.drop 1)[i]?.getD 0) = _
    rw [List.getElem?_drop, Nat.add_comm 1 i, shr1_eq hs h1 h2]
    rfl
  rw [e]
  exact val_div_pow l s hs hr
theorem wpIn_ends {F : Fence} {n : Nat} {P : Program} {c : Code} {Q : Exit → Act → World → Prop} {a : Act} {w : World} (A : Act) (W : World) (h : c.wpIn F n P (fun e a' w' => match e with | .normal => a' = A ∧ w' = W | _ => False) a w) (hk : Q .normal A W) : c.wpIn F n P Q a w :=
  Code.wpIn_mono (fun e a w h => by cases e <;> first | (obtain ⟨rfl, rfl⟩ := h; exact hk) | exact h.elim) h
section
attribute [local go_sem] Oper.semAt_some
set_option maxRecDepth 100000 in
set_option maxHeartbeats 4000000 in
theorem nat_Shr.short (A0 : Option Addr) (c0 s : Nat) (l0 : List Int) (w : World) (hr0 : Kd.C (Kd.int .u32) w A0 l0.length l0) (hc0 : l0.length ≤ c0) (hm : Nums.may l0 = true) (hrg : Nums.rng l0 = true) (hp : 0 < l0.length) (hs : s < 32) :
    Calls Tryd.prog 72 #[.slice A0 l0.length c0, .int .i64 (s : Int)] w fun e w' => ∃ v0_ : Value, e = .returned v0_ ∧ Kd.R (Kd.int .u32) 39 w' w.heap.size (fun _ => True) v0_ (Nums.lim (Nums.val l0 / 2 ^ s)) ∧ Below w.heap.size w w' := by
  have hll := (Nums.may_iff.1 hm).1
  have HMR := Aside0.mk hrg
  have HM := Aside0.mk (nat_May.calls A0 c0 l0 _ (w.alloc (.cells #[.int .i64 (s : Int)] 3)) (Kd.C_alloc hr0 _) hc0 (nat_May_eq l0))
  rw [hm] at HM
  have HR0 := Aside0.mk hr0
  have d2 : (s : Int) / 32 = 0 := by omega
  have d3 : (s : Int) % 32 = s := by omega
  have d4 : ((l0.length : Int) ≤ 0) = False := eq_false (by omega)
  obtain ⟨i0, hi, hz0, hz1, hz2⟩ := info_parts info39
  have hA1 := cut_from (P := Tryd.prog) 22 39 .i64 Tryd.underlying22 hi 1 hz1 A0 l0.length c0 0 (by omega) (by omega)
  have hA2 := cut_from (P := Tryd.prog) 22 39 .i64 Tryd.underlying22 hi 1 hz1 A0 l0.length c0 1 (by omega) (by omega)
  have hC1 := Aside0.mk (Kd.C_drop (m := 0) hr0 (by omega) hc0)
  have hC2 := Aside0.mk (Kd.C_drop (m := 1) hr0 (by omega) hc0)
  simp only [Int.toNat_zero, Int.toNat_one, Nat.sub_zero] at hA1 hA2
  obtain ⟨A1, hA1e⟩ : ∃ A1, (if c0 = 0 then A0 else A0.map (·.add (0 * 1))) = A1 := ⟨_, rfl⟩
  obtain ⟨A2, hA2e⟩ : ∃ A1, (if c0 = 1 then A0 else A0.map (·.add (1 * 1))) = A1 := ⟨_, rfl⟩
  rw [hA1e] at hA1
  rw [hA2e] at hA2
  have hC1 : Aside0 (Kd.C (Kd.int .u32) w A1 l0.length l0) := ⟨by rw [← hA1e]; exact hC1.out⟩
  have hC2 : Aside0 (Kd.C (Kd.int .u32) w A2 (l0.drop 1).length (l0.drop 1)) := ⟨by rw [← hA2e]; exact hC2.out⟩
  clear hA1e hA2e
  have d5 : (s : Int).tmod 32 = s := by rw [Int.tmod_eq_emod_of_nonneg (by omega)]; exact d3
  have f0 : IntKind.i64.wrap 0 = 0 := by decide
  have f1 : IntKind.i64.wrap 1 = 1 := by decide
  clear hr0 hm
  refine (callsIn_wide (n := 3)).1 ?_
  refine callsIn_of_wp_marks Tryd.func72 rfl trivial ?_
  simp only [Tryd.ntmps72, List.size_toArray, List.length_cons, List.length_nil, Nat.reduceAdd, Nat.reduceSub, Array.replicate_succ, Array.replicate_zero, List.push_toArray, List.append_toArray, List.nil_append, List.cons_append]
  gi_wp2_with (refine ⟨trivial, ?_⟩; gi_at_call 22; refine (callsIn_wide.2 HM.out).mono ?_; rintro e w' ⟨rfl, ⟨nd, rfl⟩⟩)
  rename_i hbad
  · exact absurd hbad (by rintro (h | h); omega; subst h; simp at hp)
  apply wpIn_ends
  · gi_region_with (refine ⟨trivial, ?_⟩; gi_at_call 51; refine (nat_pairs.in_ Fence.wide _ trivial rfl _ _ _ _ _ _ _).mono ?_; rintro e w' ⟨rfl, rfl⟩)
    all_goals exact ⟨rfl, rfl⟩
  gi_wp2
  have bK := Boxed.new w 3 (.int .i64 (s : Int))
  have bO := Boxed.new ((w.alloc (.cells #[.int .i64 (s : Int)] 3)).drewN nd) 22 (.slice none 0 0)
  have bA := Boxed.new (((w.alloc (.cells #[.int .i64 (s : Int)] 3)).drewN nd).alloc (.cells #[.slice none 0 0] 22)) 22 (.slice A1 l0.length c0)
  have bB := Boxed.new ((((w.alloc (.cells #[.int .i64 (s : Int)] 3)).drewN nd).alloc (.cells #[.slice none 0 0] 22)).alloc (.cells #[.slice A1 l0.length c0] 22)) 22 (.slice A2 (l0.length - 1) (c0 - 1))
  have bK := (((show Boxed ((w.alloc (.cells #[.int .i64 (s : Int)] 3)).drewN nd) w.heap.size 3 (.int .i64 (s : Int)) from bK).alloc (.cells #[.slice none 0 0] 22)).alloc (.cells #[.slice A1 l0.length c0] 22)).alloc (.cells #[.slice A2 (l0.length - 1) (c0 - 1)] 22)
  have bO := (bO.alloc (.cells #[.slice A1 l0.length c0] 22)).alloc (.cells #[.slice A2 (l0.length - 1) (c0 - 1)] 22)
  have bA := bA.alloc (.cells #[.slice A2 (l0.length - 1) (c0 - 1)] 22)
  have HB0 : Below w.heap.size w ((((((w.alloc (.cells #[.int .i64 (s : Int)] 3)).drewN nd).alloc (.cells #[.slice none 0 0] 22)).alloc (.cells #[.slice A1 l0.length c0] 22)).alloc (.cells #[.slice A2 (l0.length - 1) (c0 - 1)] 22)).drew) := by
    repeat (first | (with_reducible first | exact Below.refl _ _ | apply below_alloc | apply pw_below_drewN | apply below_drew1))
  obtain ⟨W0, hW0⟩ : ∃ W0, (((((w.alloc (.cells #[.int .i64 (s : Int)] 3)).drewN nd).alloc (.cells #[.slice none 0 0] 22)).alloc (.cells #[.slice A1 l0.length c0] 22)).alloc (.cells #[.slice A2 (l0.length - 1) (c0 - 1)] 22)).drew = W0 := ⟨_, rfl⟩
  have bK : Boxed W0 w.heap.size 3 (.int .i64 (s : Int)) := by rw [← hW0]; exact bK
  have bO : Boxed W0 (w.heap.size + 1) 22 (.slice none 0 0) := by rw [← hW0]; simp at bO; exact bO
  have bA : Boxed W0 (w.heap.size + 1 + 1) 22 (.slice A1 l0.length c0) := by rw [← hW0]; simp at bA; exact bA
  have bB : Boxed W0 (w.heap.size + 1 + 1 + 1) 22 (.slice A2 (l0.length - 1) (c0 - 1)) := by rw [← hW0]; simp at bB; exact bB
  have hs0 : W0.heap.size = w.heap.size + 4 := by rw [← hW0]; simp
  rw [hW0] at HB0 ⊢
  clear hW0
  have hld : (l0.drop 1).length = l0.length - 1 := List.length_drop
  have hmx : max l0.length (l0.drop 1).length = l0.length := by rw [hld]; omega
  refine wpIn_rangeFunc_ownG rfl (by omega) (gf := 78) (lb := #[.pointer (some ⟨w.heap.size + 1 + 1, 0, none⟩), .pointer (some ⟨w.heap.size + 1 + 1 + 1, 0, none⟩)]) rfl trivial (enters_of Tryd.func78 (by kernel_rfl) rfl)
    (nat_pairs.stops Fence.wide 2 trivial rfl (by omega) (w.heap.size + 1 + 1) (w.heap.size + 1 + 1 + 1) w.heap.size A1 A2 c0 (c0 - 1) l0 (l0.drop 1) (by omega) (by omega) w W0 (by omega) (by omega) bA.cell (by rw [hld]; exact bB.cell) hC1.out hC2.out (Nat.le_refl _) HB0)
    nat_Kp.trans (nat_Kp.put (by omega) (by omega) (by omega)) (Below.refl _ _) (fun _ => rfl)
    (fun pre W => (Boxed W w.heap.size 3 (.int .i64 (s : Int)) ∧ (∃ v, Boxed W (w.heap.size + 1) 22 v ∧ W.ownsRow (w.heap.size + 4) 39 1 v (shrAll s pre).length (nums .u32 (shrAll s pre))) ∧ w.heap.size + 4 ≤ W.heap.size) ∧ Below w.heap.size w W)
    (fun _ _ _ => False)
    (OwnFrom.and (Own.from (fun s A B row hs hg hr => ⟨Boxed.keeps hs.1 hg hr, hs.2.1.elim fun v hv => ⟨v, Boxed.keeps hv.1 hg hr, own_keeps hv.2 hg hr⟩, Nat.le_trans hs.2.2 hg.size⟩) _) (ownFrom_below (Nat.le_refl _) (by omega)))
    (fun _ _ _ _ _ hs _ _ => hs)
    ⟨⟨bK, ⟨_, bO, ?rown⟩, by omega⟩, HB0⟩
    (fun x => { tmps := #[.slice A0 l0.length c0, .int .i64 s, undef, .pointer (some ⟨w.heap.size, 0, none⟩), .slice none 0 0, .pointer (some ⟨w.heap.size + 1, 0, none⟩), .int .u32 x.1, .int .u32 x.2, .slice A0 l0.length c0, .bool true, .bool false, .bool false, .int .i64 s, .bool (decide ((s : Int) < 0)), .bool (decide ((s : Int) < 0)), .bool (decide ((s : Int) < 0)), .int .i64 s, .int .i64 0, .slice A0 l0.length c0, .int .i64 l0.length, .bool false, .bool (decide ((s : Int) < 0)), .slice A0 l0.length c0, .int .i64 s, .int .i64 0, .slice A1 l0.length c0, .slice A0 l0.length c0, .int .i64 s, .int .i64 0, .int .i64 1, .slice A2 (l0.length - 1) (c0 - 1), .func (.func 78) #[] #[.pointer (some ⟨w.heap.size + 1 + 1, 0, none⟩), .pointer (some ⟨w.heap.size + 1 + 1 + 1, 0, none⟩)], .int .u32 x.1, .int .u32 x.2, undef, undef, undef, undef, undef, undef, undef, undef, undef, undef, undef, undef, undef, undef, undef], defers := [] }) ?assign ?body ?done ?stop
  case rown => exact World.ownsRow_nil _ _ _ _
  case assign =>
    intro l x W K hK
    gi_wp2
    exact hK
  case body =>
    rintro l pre ⟨x, y⟩ W ⟨⟨hK, ⟨v, hO, hrow⟩, hsW⟩, hB⟩ hlt
    have hlen : (shrAll s pre).length < l0.length := by rw [shrAll_length]; omega
    have hnext := Aside0.mk (shrAll_snoc s pre (x, y))
    have hrow := (show W.drew.ownsRow (w.heap.size + 4) 39 1 v (shrAll s pre).length (nums .u32 (shrAll s pre)) from hrow)
    obtain ⟨out, hout⟩ : ∃ out, shrAll s pre = out := ⟨_, rfl⟩
    rw [hout] at hrow hlen hnext
    clear hout hlt
    obtain ⟨v2, w2, hrun, hown2, hg2, hv2⟩ := run_append_own (P := Tryd.prog) (w := (W.alloc (.cells #[.int .u32 (shr1 s (x, y))] 39)).drew) (w.heap.size + 4) 22 22 39 i0 (.int .u32 0) 1 4 Tryd.underlying22 hi hz0 hz1 hz2 rfl (by omega) v out.length (nums .u32 out) (World.ownsRow.alloc hrow _) ⟨W.heap.size, 0, none⟩ 1 1 [.int .u32 (shr1 s (x, y))] rfl (cell_one_new W _ _) (by simp [Value.oneCell']) (by unfold maxLen; omega) (by omega) (by simp; omega)
    obtain ⟨ad2, cp2, hv2e, _⟩ := own_form hown2
    subst hv2e
    have hT2 : Tch (fun k => v.ownBlock = some k) W w2 := Tch.grown (((Tch.refl _ W).alloc (.cells #[.int .u32 (shr1 s (x, y))] 39)).drew) hg2 (fun k e => .inl e)
    have hbs := own_base hrow
    have hO2 := hT2.boxed hO (fun e => by have := hbs _ e; omega)
    have hK2 := hT2.boxed hK (fun e => by have := hbs _ e; omega)
    have hRT := Aside0.mk (fun k (e : v.ownBlock = some k) => own_typed hrow k e)
    have hBS := Aside0.mk hbs
    have hO3 := Aside0.mk hown2
    have hTT := Aside0.mk hT2
    have hKc := hK.cell
    have hOa := fun o => (hO.alloc o).cell
    have hKa := fun o => (hK.alloc o).cell
    have hOc := hO.cell
    have hOc2 := hO2.cell
    have hOf2 := hO2.frozen
    clear hrow hg2 hv2 hbs hown2 hT2
    unfold shr1 at hrun
    gi_wp2
    apply wpIn_region_round rfl (by kernel_rfl) (by kernel_rfl)
    · refine wpAnyIn_take (i := 1) (v := ?tv1) rfl rfl (by kernel_rfl) (by kernel_rfl) (by kernel_rfl) (fun _ _ _ h => h) ⟨Or.inl ⟨by rfl, ?ty1⟩, fun _ => rfl⟩ ?tr1
      case ty1 =>
        intro w
        go_simp
        try with_reducible rfl
      refine wpAnyIn_take (i := 2) (v := ?tv2) rfl rfl (by kernel_rfl) (by kernel_rfl) (by kernel_rfl) (fun _ _ _ h => h) ⟨Or.inl ⟨by rfl, ?ty2⟩, fun _ => rfl⟩ ?tr2
      case ty2 =>
        intro w
        go_simp
        try with_reducible rfl
      refine wpAnyIn_take (i := 3) (v := ?tv3) rfl rfl (by kernel_rfl) (by kernel_rfl) (by kernel_rfl) (fun _ _ _ h => h) ⟨Or.inl ⟨by rfl, ?ty3⟩, fun _ => rfl⟩ ?tr3
      case ty3 =>
        intro w
        go_simp
        try with_reducible rfl
      refine wpAnyIn_take (i := 4) (v := ?tv4) rfl rfl (by kernel_rfl) (by kernel_rfl) (by kernel_rfl) (fun _ _ _ h => h) ⟨Or.inl ⟨by rfl, ?ty4⟩, fun _ => rfl⟩ ?tr4
      case ty4 =>
        intro w
        go_simp
        try with_reducible rfl
      refine wpAnyIn_take (i := 5) (v := ?tv5) rfl rfl (by kernel_rfl) (by kernel_rfl) (by kernel_rfl) (fun _ _ _ h => h) ⟨Or.inl ⟨by rfl, ?ty5⟩, fun _ => rfl⟩ ?tr5
      case ty5 =>
        intro w
        go_simp
        try with_reducible rfl
      refine wpAnyIn_take (i := 6) (v := ?tv6) rfl rfl (by kernel_rfl) (by kernel_rfl) (by kernel_rfl) (fun _ _ _ h => h) ⟨Or.inl ⟨by rfl, ?ty6⟩, fun _ => rfl⟩ ?tr6
      case ty6 =>
        intro w
        go_simp
        try with_reducible rfl
      refine wpAnyIn_ready (rs := [0, 7]) (by kernel_rfl) (by simp) ?_
      refine AllReadyIn.cons rfl (fun K hK => ?_) ?_
      · go_simp
        refine hK _ _ ?_
        clear hK K
        refine wpAnyIn_ready (rs := [7]) (by kernel_rfl) (by simp) ?_
        refine AllReadyIn.cons rfl (fun K hK => ?_) ?_
        · go_simp
          refine hK _ _ ?_
          clear hK K
          refine wpAnyIn_take (i := 8) (v := ?tv7) rfl rfl (by kernel_rfl) (by kernel_rfl) (by kernel_rfl) (fun _ _ _ h => h) ⟨Or.inl ⟨by rfl, ?ty7⟩, fun _ => rfl⟩ ?tr7
          case ty7 =>
            intro w
            go_simp
            try with_reducible rfl
          refine wpAnyIn_take (i := 9) (v := ?tv8) rfl rfl (by kernel_rfl) (by kernel_rfl) (by kernel_rfl) (fun _ _ _ h => h) ⟨Or.inl ⟨by rfl, ?ty8⟩, fun _ => rfl⟩ ?tr8
          case ty8 =>
            intro w
            go_simp
            try with_reducible rfl
          refine wpAnyIn_take (i := 10) (v := ?tv9) rfl rfl (by kernel_rfl) (by kernel_rfl) (by kernel_rfl) (fun _ _ _ h => h) ⟨Or.inl ⟨by rfl, ?ty9⟩, fun _ => rfl⟩ ?tr9
          case ty9 =>
            intro w
            go_simp
            try with_reducible rfl
          refine wpAnyIn_ready (rs := [11]) (by kernel_rfl) (by simp) ?_
          refine AllReadyIn.cons rfl (fun K hK => ?_) ?_
          · go_simp
            refine hK _ _ ?_
            clear hK K
            refine wpAnyIn_ready (rs := [12]) (by kernel_rfl) (by simp) ?_
            refine AllReadyIn.cons rfl (fun K hK => ?_) ?_
            · refine step_append_in rfl (Operand.tmp 34) (Operand.tmp 45) 22 rfl _ _ _ w2 rfl rfl hrun ?_
              try go_simp
              refine hK _ _ ?_
              clear hK K
              refine wpAnyIn_ready (rs := [13]) (by kernel_rfl) (by simp) ?_
              refine AllReadyIn.cons rfl (fun K hK => ?_) ?_
              · go_simp
                refine hK _ _ ?_
                clear hK K
                refine wpAnyIn_done (by kernel_rfl) ?_ _
                exact ⟨rfl, rfl⟩
              exact AllReadyIn.nil
            exact AllReadyIn.nil
          exact AllReadyIn.nil
        exact AllReadyIn.nil
      refine AllReadyIn.cons rfl (fun K hK => ?_) ?_
      · go_simp
        refine hK _ _ ?_
        clear hK K
        refine wpAnyIn_take (i := 8) (v := ?tv10) rfl rfl (by kernel_rfl) (by kernel_rfl) (by kernel_rfl) (fun _ _ _ h => h) ⟨Or.inl ⟨by rfl, ?ty10⟩, fun _ => rfl⟩ ?tr10
        case ty10 =>
          intro w
          go_simp
          try with_reducible rfl
        refine wpAnyIn_take (i := 9) (v := ?tv11) rfl rfl (by kernel_rfl) (by kernel_rfl) (by kernel_rfl) (fun _ _ _ h => h) ⟨Or.inl ⟨by rfl, ?ty11⟩, fun _ => rfl⟩ ?tr11
        case ty11 =>
          intro w
          go_simp
          try with_reducible rfl
        refine wpAnyIn_take (i := 10) (v := ?tv12) rfl rfl (by kernel_rfl) (by kernel_rfl) (by kernel_rfl) (fun _ _ _ h => h) ⟨Or.inl ⟨by rfl, ?ty12⟩, fun _ => rfl⟩ ?tr12
        case ty12 =>
          intro w
          go_simp
          try with_reducible rfl
        refine wpAnyIn_ready (rs := [0, 11]) (by kernel_rfl) (by simp) ?_
        refine AllReadyIn.cons rfl (fun K hK => ?_) ?_
        · go_simp
          refine hK _ _ ?_
          clear hK K
          refine wpAnyIn_ready (rs := [11]) (by kernel_rfl) (by simp) ?_
          refine AllReadyIn.cons rfl (fun K hK => ?_) ?_
          · go_simp
            refine hK _ _ ?_
            clear hK K
            refine wpAnyIn_ready (rs := [12]) (by kernel_rfl) (by simp) ?_
            refine AllReadyIn.cons rfl (fun K hK => ?_) ?_
            · refine step_append_in rfl (Operand.tmp 34) (Operand.tmp 45) 22 rfl _ _ _ w2 rfl rfl hrun ?_
              try go_simp
              refine hK _ _ ?_
              clear hK K
              refine wpAnyIn_ready (rs := [13]) (by kernel_rfl) (by simp) ?_
              refine AllReadyIn.cons rfl (fun K hK => ?_) ?_
              · go_simp
                refine hK _ _ ?_
                clear hK K
                refine wpAnyIn_done (by kernel_rfl) ?_ _
                exact ⟨rfl, rfl⟩
              exact AllReadyIn.nil
            exact AllReadyIn.nil
          exact AllReadyIn.nil
        refine AllReadyIn.cons rfl (fun K hK => ?_) ?_
        · go_simp
          refine hK _ _ ?_
          clear hK K
          refine wpAnyIn_ready (rs := [0]) (by kernel_rfl) (by simp) ?_
          refine AllReadyIn.cons rfl (fun K hK => ?_) ?_
          · go_simp
            refine hK _ _ ?_
            clear hK K
            refine wpAnyIn_ready (rs := [12]) (by kernel_rfl) (by simp) ?_
            refine AllReadyIn.cons rfl (fun K hK => ?_) ?_
            · refine step_append_in rfl (Operand.tmp 34) (Operand.tmp 45) 22 rfl _ _ _ w2 rfl rfl hrun ?_
              try go_simp
              refine hK _ _ ?_
              clear hK K
              refine wpAnyIn_ready (rs := [13]) (by kernel_rfl) (by simp) ?_
              refine AllReadyIn.cons rfl (fun K hK => ?_) ?_
              · go_simp
                refine hK _ _ ?_
                clear hK K
                refine wpAnyIn_done (by kernel_rfl) ?_ _
                exact ⟨rfl, rfl⟩
              exact AllReadyIn.nil
            exact AllReadyIn.nil
          exact AllReadyIn.nil
        exact AllReadyIn.nil
      exact AllReadyIn.nil
    have hT3 := (hTT.out.mono (S' := fun k => v.ownBlock = some k ∨ k = w.heap.size + 1) (fun k hk => .inl hk)).setCell (p := ⟨w.heap.size + 1, 0, none⟩) (.inr rfl) (.slice ad2 (out.length + 1) cp2)
    have hbs := hBS.out
    have hn := hnext.out
    refine ⟨(hT3.others ?_).from _, ⟨hT3.below hB.size ?_, ?_, ?_⟩, ⟨?_, ⟨.slice ad2 (out.length + 1) cp2, ?_, ?_⟩, ?_⟩, ?_⟩
    · rintro k o (hk | rfl) ho
      · obtain ⟨cur, hgc⟩ := hRT.out k hk
        rw [show W.heap[k]? = _ from hgc] at ho; cases ho; rfl
      · rw [show W.heap[w.heap.size + 1]? = _ from hO] at ho; cases ho; rfl
    · rintro k (hk | rfl)
      · have := hbs k hk; omega
      · omega
    · exact hT3.block _ (by omega) (by rintro (hk | hk); have := hbs _ hk; omega; omega)
    · exact hT3.block _ (by omega) (by rintro (hk | hk); have := hbs _ hk; omega; omega)
    · exact hT3.boxed hK (by rintro (hk | hk); have := hbs _ hk; omega; omega)
    · exact hO2.set _
    · rw [hn, nums_append]; simp only [List.length_append, List.length_singleton]; exact World.ownsRow.kept hO3.out (grownBy_setCell' _ _ _) (.inr (by intro e; have := own_base hO3.out _ e; omega))
    · exact Nat.le_trans hsW hT3.size
    · exact hB.trans (hT3.below hB.size (by rintro k (hk | rfl); have := hbs k hk; omega; omega))
  case done =>
    rintro D ys W hD rfl ⟨⟨hK, ⟨v, hO, hrow⟩, hsW⟩, hB⟩ hKd
    rw [hmx] at hrow
    obtain ⟨n1, n2⟩ := shrAll_val l0 s hs HMR.out
    obtain ⟨out, hout⟩ : ∃ out, shrAll s (nat_upto l0 (l0.drop 1) l0.length) = out := ⟨_, rfl⟩
    have hlen : out.length = l0.length := by rw [← hout, shrAll_length, nat_upto_length]
    rw [hout] at hrow n1 n2
    have HC := Aside0.mk (nat_cut_eq _ _ (l0.length + 1) hlen (by omega) (by omega) n1)
    rw [n2] at HC
    have hOc := hO.cell
    have hdk := (Array.getElem?_eq_some_iff.1 hKd).1
    have hDn : Aside0 (¬ v.ownBlock = some D) := Aside0.mk (fun e => by obtain ⟨cur, hgc⟩ := own_typed hrow D e; rw [hgc] at hKd; cases hKd)
    have HB := Aside0.mk hB
    have HKD := Aside0.mk hKd
    have HR := Aside0.mk (Kd.R_lower (R_ints (ok := fun k => v.ownBlock = some k) hrow (fun b e => e)) (show w.heap.size ≤ w.heap.size + 4 by omega))
    clear hB hKd hrow n1 n2 hout
    gi_wp2_with (refine ⟨trivial, ?_⟩; gi_at_call 53; refine (callsIn_wide.2 (nat_cut.calls (l0.length + 1) (fun k => v.ownBlock = some k) v out (Nums.lim (Nums.val l0 / 2 ^ s)) w _ HB.out HR.out HC.out)).mono ?_; rintro e w3 ⟨v0, rfl, hR3, hB3, hK3⟩; have HR3 := Aside0.mk hR3; have HB3 := Aside0.mk hB3; have HK3 := Aside0.mk hK3; clear hR3 hB3 hK3)
    have hK3 : w3.heap[D]? = some (.deferred (some [])) := (HK3.out.2 D hdk hDn.out).trans HKD.out
    refine ⟨by simp, .inl ⟨_, _, rfl, run_takeDeferred hK3, ?_⟩⟩
    refine ⟨_, results_tmp rfl _ _ _, v0, rfl, ?_, ?_⟩
    · exact Kd.R_mono (Kd.R_grown HR3.out (grownBy_putObj' w3 D _) (fun k hk e => by cases e; rcases hk with hk | hk; exact hDn.out hk; omega)) (fun _ _ => trivial)
    · exact HB3.out.grown (grownBy_putObj' w3 D _) HB3.out.size (fun k e => by cases e; omega)
  case stop =>
    rintro D c pre W _ _ h _
    exact h.elim
end
theorem toL_prefix {l : List Int} (hr : Nums.rng l = true) : Nums.toL (Nums.val l) = l.take (Nums.toL (Nums.val l)).length := by
  induction l with
  | nil => rw [show Nums.val [] = 0 from rfl, Nums.toL_zero]; rfl
  | cons x xs ih =>
    obtain ⟨⟨h0, h1⟩, hr'⟩ := Nums.rng_cons.1 hr
    have ev : Nums.val (x :: xs) = x.toNat + 4294967296 * Nums.val xs := rfl
    by_cases hz : Nums.val (x :: xs) = 0
    · rw [hz, Nums.toL_zero]; rfl
    · rw [Nums.toL_pos hz, ev, show (x.toNat + 4294967296 * Nums.val xs) / 4294967296 = Nums.val xs by omega, show (x.toNat + 4294967296 * Nums.val xs) % 4294967296 = x.toNat by omega, Int.toNat_of_nonneg h0, List.length_cons, List.take_succ_cons, ← ih hr']
theorem toL_len {l : List Int} (hr : Nums.rng l = true) : (Nums.toL (Nums.val l)).length ≤ l.length := by
  have h := congrArg List.length (toL_prefix hr)
  rw [List.length_take] at h
  omega
theorem val_take_low {l : List Int} (hr : Nums.rng l = true) {n : Nat} (hn : n ≤ l.length) (h : Nums.val l < 4294967296 ^ n) : Nums.val (l.take n) = Nums.val l := by
  have e := Nums.val_take_drop l n hn
  have e3 : Nums.val (l.drop n) = 0 := by
    refine Nat.eq_zero_of_not_pos fun hp => ?_
    have := Nat.le_mul_of_pos_right (4294967296 ^ n) hp
    omega
  rw [e3, Nat.mul_zero, Nat.add_zero] at e
  exact e.symm
set_option maxRecDepth 100000 in
set_option maxHeartbeats 4000000 in
theorem nat_Shr.empty (A0 : Option Addr) (c0 s : Nat) (w : World) (hr0 : Kd.C (Kd.int .u32) w A0 0 []) (hs : s < 32) :
    Calls Tryd.prog 72 #[.slice A0 0 c0, .int .i64 (s : Int)] w fun e w' => e = .returned (.slice none 0 0) ∧ Below w.heap.size w w' := by
  have HM := Aside0.mk (nat_May.calls A0 c0 [] _ (w.alloc (.cells #[.int .i64 (s : Int)] 3)) (Kd.C_alloc hr0 _) (Nat.zero_le _) (nat_May_eq []))
  rw [Nums.may_nil] at HM
  have d2 : (s : Int) / 32 = 0 := by omega
  have d3 : (s : Int) % 32 = s := by omega
  have d5 : (s : Int).tmod 32 = s := by rw [Int.tmod_eq_emod_of_nonneg (by omega)]; exact d3
  have f0 : IntKind.i64.wrap 0 = 0 := by decide
  clear hr0
  go_enter Tryd.func72, Tryd.ntmps72
  go_wp2_with (go_at_call 22; refine HM.out.mono ?_; rintro e w' ⟨rfl, ⟨nd, rfl⟩⟩)
  go_ret
  exact ⟨rfl, pw_below_drewN (below_alloc (Below.refl _ _) _) _⟩
/-- nat.Shr at fewer than 32 places, whatever the row. -/
theorem nat_Shr.few (A0 : Option Addr) (c0 s : Nat) (l0 : List Int) (w : World) (hr0 : Kd.C (Kd.int .u32) w A0 l0.length l0) (hc0 : l0.length ≤ c0) (hm : Nums.may l0 = true) (hrg : Nums.rng l0 = true) (hs : s < 32) :
    Calls Tryd.prog 72 #[.slice A0 l0.length c0, .int .i64 (s : Int)] w fun e w' => ∃ v0_ : Value, e = .returned v0_ ∧ Kd.R (Kd.int .u32) 39 w' w.heap.size (fun _ => True) v0_ (Nums.lim (Nums.val l0 / 2 ^ s)) ∧ Below w.heap.size w w' := by
  by_cases hp : 0 < l0.length
  · exact nat_Shr.short A0 c0 s l0 w hr0 hc0 hm hrg hp hs
  · obtain rfl : l0 = [] := List.length_eq_zero_iff.1 (by omega)
    refine (nat_Shr.empty A0 c0 s w hr0 hs).mono ?_
    rintro e w' ⟨rfl, hB⟩
    refine ⟨_, rfl, ?_, hB⟩
    rw [show Nums.val [] = 0 from rfl, Nat.zero_div, show Nums.lim 0 = [] by unfold Nums.lim; rw [Nums.toL_zero]; rfl]
    exact Kd.R_nil _ _ _ _ _

end Go.Proofs.YtjgloepeogelnaaDoor.Pr
