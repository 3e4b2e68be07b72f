/- Two naturals stand as their texts do: over numbers and lists alone. No condition beyond the statement's own. -/
import Derived.Test.YtjgloepeogelnaaDoorPrx18
import Derived.OpenShut
namespace Go.Proofs.YtjgloepeogelnaaDoor.Pure
open Go.RowKit Go.Proofs.YtjgloepeogelnaaDoor.Pr Go.Proofs.YtjgloepeogelnaaDoorW.PrintWords Go.Proofs.YtjgloepeogelnaaDoorW.PrintLast
theorem rng_of_wf {l : List Int} (h : ∀ x ∈ l, (Lit.int .u32 x).wf = true) : Nums.rng l = true := by
  unfold Nums.rng
  rw [List.all_eq_true]
  intro x hx
  have := bounds_u32 (h x hx)
  simp
  omega
theorem num_cons (a : UInt8) (x : List UInt8) : Nums.num (a :: x) = (a.toNat - 48) * 10 ^ x.length + Nums.num x := by
  have := Nums.num_append [a] x
  rw [Nums.num_one] at this
  exact this
theorem less_num : ∀ (x y : List UInt8), x.length = y.length → Nums.allDig x = true → Nums.allDig y = true → Op.bytesLess x y = decide (Nums.num x < Nums.num y)
  | [], [], _, _, _ => rfl
  | [], _ :: _, h, _, _ => by cases h
  | _ :: _, [], h, _, _ => by cases h
  | a :: x, b :: y, h, hx, hy => by
    have hl : x.length = y.length := by simpa using h
    have hx1 := Nums.allDig_iff.1 hx
    have hy1 := Nums.allDig_iff.1 hy
    have hx2 : Nums.allDig x = true := Nums.allDig_iff.2 (fun c hc => hx1 c (List.mem_cons_of_mem _ hc))
    have hy2 : Nums.allDig y = true := Nums.allDig_iff.2 (fun c hc => hy1 c (List.mem_cons_of_mem _ hc))
    have ih := less_num x y hl hx2 hy2
    have ha := hx1 a List.mem_cons_self
    have hb := hy1 b List.mem_cons_self
    have nx := Nums.num_lt_dig hx2
    have ny := Nums.num_lt_dig hy2
    rw [num_cons, num_cons, Op.bytesLess, ih, hl]
    rw [hl] at nx
    obtain ⟨P, hP⟩ : ∃ P, 10 ^ y.length = P := ⟨_, rfl⟩
    rw [hP] at nx ny ⊢
    rw [Bool.eq_iff_iff]
    simp only [Bool.or_eq_true, decide_eq_true_eq, Bool.and_eq_true, beq_iff_eq, UInt8.lt_iff_toNat_lt, ← UInt8.toNat_inj]
    obtain ⟨A, hA⟩ : ∃ A, a.toNat - 48 = A := ⟨_, rfl⟩
    obtain ⟨B, hB⟩ : ∃ B, b.toNat - 48 = B := ⟨_, rfl⟩
    rw [hA, hB]
    rcases Nat.lt_trichotomy A B with h1 | h1 | h1
    · have : (A + 1) * P ≤ B * P := Nat.mul_le_mul_right P h1
      rw [Nat.add_mul, Nat.one_mul] at this
      exact ⟨fun _ => by omega, fun _ => .inl (by omega)⟩
    · subst h1
      exact ⟨fun h => by rcases h with h | h; omega; omega, fun h => .inr ⟨by omega, by omega⟩⟩
    · have : (B + 1) * P ≤ A * P := Nat.mul_le_mul_right P h1
      rw [Nat.add_mul, Nat.one_mul] at this
      exact ⟨fun h => by rcases h with h | h; omega; omega, fun h => by omega⟩
theorem DecOrder : alidadelaw04_DecOrder.Pure := by
  intro l0 l1 _ _ hw0 _ _ hw1
  have hr0 := rng_of_wf hw0
  have hr1 := rng_of_wf hw1
  have hW := works_ev
  refine Nums.Ev.get (r := true) ?_
  have hT : Nums.Ev (fun k => alidadelaw04_DecOrder.j0 k l0 l1 true) true := by
    refine Nums.Ev.succ (g := fun k => (alidadelaw04_works.f k).bind fun t => some t) (Nums.Ev.bind (f := fun k => alidadelaw04_works.f k) hW (Nums.Ev.some _)) fun k => ?_
    rw [alidadelaw04_DecOrder.j0, if_pos rfl]
  refine Nums.Ev.bind (f := fun k => alidadelaw04_works.f k) hW ?_
  simp only [if_true, nat_May_eq, Option.bind_some]
  by_cases h1 : (l0.length : Int) > 300
  · simp only [if_pos h1]
    exact hT
  · simp only [if_neg h1]
    by_cases h2 : (l1.length : Int) > 300
    · simp only [if_pos h2]
      exact hT
    · simp only [if_neg h2]
      cases hm0 : Nums.may l0 with
      | false => simpa using hT
      | true =>
        cases hm1 : Nums.may l1 with
        | false => simpa using hT
        | true =>
          simp only [if_true]
          have hC := nat_Cmp_eq hr0 hr1 hm0 hm1
          have hsz : ∀ n, ((⟨(Nums.deci n).toArray⟩ : ByteArray).size : Int) = (Nums.deci n).length := fun n => by rw [bytes_size]
          refine Nums.Ev.succ (g := fun k => if ((Nums.deci (Nums.val l0)).length : Int) < ((Nums.deci (Nums.val l1)).length : Int) then (alidadelaw04_DecOrder.j1 k l0 l1 ⟨(Nums.deci (Nums.val l0)).toArray⟩ ⟨(Nums.deci (Nums.val l1)).toArray⟩ 0 true) else (if ((Nums.deci (Nums.val l0)).length : Int) = ((Nums.deci (Nums.val l1)).length : Int) then (alidadelaw04_DecOrder.j1 k l0 l1 ⟨(Nums.deci (Nums.val l0)).toArray⟩ ⟨(Nums.deci (Nums.val l1)).toArray⟩ 0 (Op.bytesLess (Nums.deci (Nums.val l0)) (Nums.deci (Nums.val l1)))) else (alidadelaw04_DecOrder.j1 k l0 l1 ⟨(Nums.deci (Nums.val l0)).toArray⟩ ⟨(Nums.deci (Nums.val l1)).toArray⟩ 0 false))) ?_ fun k => ?_
          · by_cases c1 : (Nums.deci (Nums.val l0)).length < (Nums.deci (Nums.val l1)).length
            · have hlt := Nums.deci_lt_of_len c1
              refine Nums.Ev.now fun k => ?_
              rw [if_pos (by omega), alidadelaw04_DecOrder.j1, if_pos rfl, hC, if_pos hlt]
              rfl
            · refine Nums.Ev.now fun k => ?_
              rw [if_neg (by omega)]
              by_cases c2 : (Nums.deci (Nums.val l0)).length = (Nums.deci (Nums.val l1)).length
              · rw [if_pos (by omega), less_num _ _ c2 (Nums.deci_dig _) (Nums.deci_dig _), Nums.num_deci, Nums.num_deci, alidadelaw04_DecOrder.j1, hC]
                simp only [Lib.toList_data, Option.bind_some, decide_eq_true_eq]
                rcases Nat.lt_trichotomy (Nums.val l0) (Nums.val l1) with h3 | h3 | h3
                · rw [if_pos h3, if_pos h3]; rfl
                · rw [if_neg (by omega), h3, if_pos rfl, if_neg (by omega), if_neg (by omega)]; rfl
                · rw [if_neg (by omega), if_neg (fun e => by have := Nums.deci_inj e; omega), if_neg (by omega), if_pos h3]; rfl
              · have hlt := Nums.deci_lt_of_len (show (Nums.deci (Nums.val l1)).length < (Nums.deci (Nums.val l0)).length by omega)
                rw [if_neg (by omega), alidadelaw04_DecOrder.j1, hC, if_neg (by decide)]
                simp only [Lib.toList_data, Option.bind_some]
                rw [if_neg (fun e => by have := Nums.deci_inj e; omega), if_neg (by omega), if_pos hlt]
                rfl
          · rw [alidadelaw04_DecOrder.j0]
            simp only [Bool.not_true, Bool.false_eq_true, if_false, dec_Show_eq l0 hr0 hm0, dec_Show_eq l1 hr1 hm1, Option.bind_some, hsz, Lib.toList_data]

end Go.Proofs.YtjgloepeogelnaaDoor.Pure
