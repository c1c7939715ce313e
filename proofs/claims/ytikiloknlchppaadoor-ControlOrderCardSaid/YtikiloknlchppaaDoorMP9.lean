/-
  A part of the proof. No condition.
-/
import Derived.Test.YtikiloknlchppaaDoorMP8
/- Chapter 13 (control): what is printed is parsed; elements in any order. No condition but on sizes. -/
set_option linter.unusedSimpArgs false
set_option linter.unusedVariables false
namespace Go.Proofs.X
open Go Go.Dp

def plainB (b : UInt8) : Bool := !(b == 34) && !(b == 44) && !blank b
theorem aut_plain (s : List UInt8) (h : s.all plainB = true) : aut 0 s = some 0 := by
  induction s with
  | nil => rfl
  | cons a s ih =>
    simp only [List.all_cons, Bool.and_eq_true, plainB, Bool.not_eq_true', beq_eq_false_iff_ne] at h
    simp [aut, autS, h.1.1.1, h.1.1.2, ih (by simpa only [plainB, Bool.and_eq_true, Bool.not_eq_true', beq_eq_false_iff_ne] using h.2)]
theorem trim_plain (s : List UInt8) (h : s.all plainB = true) : trim s = s := by
  have hr : ∀ s : List UInt8, s.all plainB = true → rdw blank s = s := by
    intro s
    induction s with
    | nil => intro _; rfl
    | cons a s ih =>
      intro h
      simp only [List.all_cons, Bool.and_eq_true, plainB, Bool.not_eq_true'] at h
      have h3 : blank a = false := h.1.2
      rw [rdw_cons, ih (by simpa only [plainB, Bool.and_eq_true, Bool.not_eq_true'] using h.2)]
      cases s with
      | nil => simp [h3]
      | cons b s => simp
  rw [trim, hr s h]
  cases s with
  | nil => rfl
  | cons a s =>
    simp only [List.all_cons, Bool.and_eq_true, plainB, Bool.not_eq_true'] at h
    exact dw_hd _ _ _ h.1.2
theorem goodI_plain {s : List UInt8} (h : s.all plainB = true) (hne : s ≠ []) : goodI s := ⟨aut_plain s h, trim_plain s h, hne⟩
theorem dig_facts : (List.range 256).all (fun n => !isDig (UInt8.ofNat n) || (tok (UInt8.ofNat n) && plainB (UInt8.ofNat n))) = true := by kernel_rfl
theorem dig_tok {b : UInt8} (h : isDig b = true) : tok b = true ∧ plainB b = true := by
  have := forall_byte (p := fun b => !isDig b || (tok b && plainB b)) dig_facts b
  simpa [h] using this
theorem decDigits_ne (n : Nat) : Lib.decDigits n ≠ [] := by
  by_cases h : n < 10
  · rw [decDigits_low h]; simp
  · rw [decDigits_high h]; simp
theorem isDig_low {n : Nat} (h : n < 10) : isDig (UInt8.ofNat (48 + n)) = true ∧ ((UInt8.ofNat (48 + n)).toNat : Int) = 48 + n := by
  have e : (UInt8.ofNat (48 + n)).toNat = 48 + n := by simp [UInt8.toNat_ofNat']; omega
  refine ⟨?_, by rw [e]; omega⟩
  simp only [isDig, e, Bool.and_eq_true, decide_eq_true_eq]
  omega
theorem decDigits_sec : ∀ (k n : Nat), n ≤ k → (Lib.decDigits n).all isDig = true ∧ (n ≤ 2147483648 → secF (Lib.decDigits n) 0 = n) := by
  intro k
  induction k with
  | zero =>
    intro n h
    obtain rfl : n = 0 := by omega
    rw [decDigits_low (by omega)]
    exact ⟨by simpa using (isDig_low (n := 0) (by omega)).1, fun _ => by decide⟩
  | succ k ih =>
    intro n h
    by_cases hn : n < 10
    · rw [decDigits_low hn]
      obtain ⟨h1, h2⟩ := isDig_low hn
      refine ⟨by simpa using h1, fun _ => ?_⟩
      simp only [secF, List.foldl_cons, List.foldl_nil, h2, Int.min_def]
      split <;> omega
    · rw [decDigits_high hn]
      obtain ⟨h1, h2⟩ := ih (n / 10) (by omega)
      obtain ⟨h3, h4⟩ := isDig_low (n := n % 10) (by omega)
      refine ⟨by rw [List.all_append, h1]; simpa using h3, fun hb => ?_⟩
      have h5 := h2 (by omega)
      have h6 : secF (Lib.decDigits (n / 10) ++ [UInt8.ofNat (48 + n % 10)]) 0 = min (secF (Lib.decDigits (n / 10)) 0 * 10 + (((UInt8.ofNat (48 + n % 10)).toNat : Int) - 48)) 2147483648 := by simp only [secF, List.foldl_append, List.foldl_cons, List.foldl_nil]
      rw [h6, h5]
      omega
theorem secOf_digits {n : Nat} (h : n ≤ 2147483648) : secOf (Lib.decDigits n) = ((n : Int), true, ()) := by
  obtain ⟨h1, h2⟩ := decDigits_sec n n (Nat.le_refl _)
  have h3 : (Lib.decDigits n == []) = false := by simpa using decDigits_ne n
  simp only [secOf, h1, if_true, h2 h, h3, Bool.not_false]
theorem isTok_digits (n : Nat) : isTok (Lib.decDigits n) = true := by
  obtain ⟨h1, _⟩ := decDigits_sec n n (Nat.le_refl _)
  have h3 := decDigits_ne n
  simp only [isTok, Bool.and_eq_true, Bool.not_eq_true']
  refine ⟨by simpa using h3, ?_⟩
  rw [List.all_eq_true] at h1 ⊢
  exact fun b hb => (dig_tok (h1 b hb)).1
theorem paramS_num (nm : List UInt8) (n : Nat) (h : isTok nm = true) (hl : lower nm = nm) : paramS (nm ++ 61 :: Lib.decDigits n) = (nm, Lib.decDigits n, true, 0, ()) := by
  have h1 : nm.all tok = true := by simp only [isTok, Bool.and_eq_true] at h; exact h.2
  unfold paramS
  rw [cutAt_append _ _ _ (not_contains_tok h1)]
  simp only [h, isTok_digits, Bool.true_eq_false, if_false, and_false, hl]
theorem foldE_append (c : Ctl) (a b : List (List UInt8)) : foldE c (a ++ b) = foldE (foldE c a) b := by simp only [foldE, elemsOf, List.filterMap_append, List.foldl_append]
theorem foldE_nil (c : Ctl) : foldE c [] = c := rfl
theorem foldE_one (c : Ctl) (x : List UInt8) : foldE c [x] = if (paramS x).2.2.2.1 = 0 then stepC c ((paramS x).1, (paramS x).2.1) else c := foldE_snoc c [] x

theorem par0 : paramS nm0 = (nm0, [], false, 0, ()) := by decide +kernel
theorem fold0 (c : Ctl) (b : Bool) : foldE c (fl b nm0) = ((c.1 || b), c.2) := by
  have e : stepC c (nm0, []) = act 0 [] c := by kernel_rfl
  cases b
  · simp only [fl, Bool.false_eq_true, if_false, foldE_nil, Bool.or_false]
  · simp only [fl, if_true, foldE_one, par0, e, act, Bool.or_true]
theorem par1 : paramS nm1 = (nm1, [], false, 0, ()) := by decide +kernel
theorem fold1 (c : Ctl) (b : Bool) : foldE c (fl b nm1) = (c.1, (c.2.1 || b), c.2.2) := by
  have e : stepC c (nm1, []) = act 1 [] c := by kernel_rfl
  cases b
  · simp only [fl, Bool.false_eq_true, if_false, foldE_nil, Bool.or_false]
  · simp only [fl, if_true, foldE_one, par1, e, act, Bool.or_true]
theorem par2 : paramS nm2 = (nm2, [], false, 0, ()) := by decide +kernel
theorem fold2 (c : Ctl) (b : Bool) : foldE c (fl b nm2) = (c.1, c.2.1, (c.2.2.1 || b), c.2.2.2) := by
  have e : stepC c (nm2, []) = act 2 [] c := by kernel_rfl
  cases b
  · simp only [fl, Bool.false_eq_true, if_false, foldE_nil, Bool.or_false]
  · simp only [fl, if_true, foldE_one, par2, e, act, Bool.or_true]
theorem par3 : paramS nm3 = (nm3, [], false, 0, ()) := by decide +kernel
theorem fold3 (c : Ctl) (b : Bool) : foldE c (fl b nm3) = (c.1, c.2.1, c.2.2.1, (c.2.2.2.1 || b), c.2.2.2.2) := by
  have e : stepC c (nm3, []) = act 3 [] c := by kernel_rfl
  cases b
  · simp only [fl, Bool.false_eq_true, if_false, foldE_nil, Bool.or_false]
  · simp only [fl, if_true, foldE_one, par3, e, act, Bool.or_true]
theorem par4 : paramS nm4 = (nm4, [], false, 0, ()) := by decide +kernel
theorem fold4 (c : Ctl) (b : Bool) : foldE c (fl b nm4) = (c.1, c.2.1, c.2.2.1, c.2.2.2.1, (c.2.2.2.2.1 || b), c.2.2.2.2.2) := by
  have e : stepC c (nm4, []) = act 4 [] c := by kernel_rfl
  cases b
  · simp only [fl, Bool.false_eq_true, if_false, foldE_nil, Bool.or_false]
  · simp only [fl, if_true, foldE_one, par4, e, act, Bool.or_true]
theorem par6 : paramS nm6 = (nm6, [], false, 0, ()) := by decide +kernel
theorem fold6 (c : Ctl) (b : Bool) : foldE c (fl b nm6) = (c.1, c.2.1, c.2.2.1, c.2.2.2.1, c.2.2.2.2.1, (c.2.2.2.2.2.1 || b), c.2.2.2.2.2.2) := by
  have e : stepC c (nm6, []) = act 6 [] c := by kernel_rfl
  cases b
  · simp only [fl, Bool.false_eq_true, if_false, foldE_nil, Bool.or_false]
  · simp only [fl, if_true, foldE_one, par6, e, act, Bool.or_true]
theorem tok7 : isTok nm7 = true ∧ lower nm7 = nm7 := by decide +kernel
theorem fold7 (c : Ctl) (n : Int) (h : n ≤ 2147483648) : foldE c (numL (decide (n ≥ 0)) nm7 n) = if 0 ≤ n then (c.1, c.2.1, c.2.2.1, c.2.2.2.1, c.2.2.2.2.1, c.2.2.2.2.2.1, leastI c.2.2.2.2.2.2.1 n, c.2.2.2.2.2.2.2) else c := by
  have e : ∀ v, stepC c (nm7, v) = act 7 v c := fun v => by kernel_rfl
  by_cases c1 : 0 ≤ n
  · have c2 : n ≥ 0 := c1
    have hs := secOf_digits (n := n.toNat) (by omega)
    have hn : ((n.toNat : Nat) : Int) = n := by omega
    have hv : secV (Lib.decDigits n.toNat) 0 = n := by simp only [secV, hs, if_true, hn]
    simp only [numL, c2, decide_true, fl, if_true, foldE_one, paramS_num nm7 n.toNat tok7.1 tok7.2, e, act, hv, c1]
  · have c2 : ¬ n ≥ 0 := c1
    simp only [numL, c2, decide_false, fl, Bool.false_eq_true, if_false, foldE_nil, c1]
theorem tok8 : isTok nm8 = true ∧ lower nm8 = nm8 := by decide +kernel
theorem fold8 (c : Ctl) (n : Int) (h : n ≤ 2147483648) : foldE c (numL (decide (n ≥ 0)) nm8 n) = if 0 ≤ n then (c.1, c.2.1, c.2.2.1, c.2.2.2.1, c.2.2.2.2.1, c.2.2.2.2.2.1, c.2.2.2.2.2.2.1, leastI c.2.2.2.2.2.2.2.1 n, c.2.2.2.2.2.2.2.2) else c := by
  have e : ∀ v, stepC c (nm8, v) = act 8 v c := fun v => by kernel_rfl
  by_cases c1 : 0 ≤ n
  · have c2 : n ≥ 0 := c1
    have hs := secOf_digits (n := n.toNat) (by omega)
    have hn : ((n.toNat : Nat) : Int) = n := by omega
    have hv : secV (Lib.decDigits n.toNat) 0 = n := by simp only [secV, hs, if_true, hn]
    simp only [numL, c2, decide_true, fl, if_true, foldE_one, paramS_num nm8 n.toNat tok8.1 tok8.2, e, act, hv, c1]
  · have c2 : ¬ n ≥ 0 := c1
    simp only [numL, c2, decide_false, fl, Bool.false_eq_true, if_false, foldE_nil, c1]
theorem tok9 : isTok nm9 = true ∧ lower nm9 = nm9 := by decide +kernel
theorem fold9 (c : Ctl) (n : Int) (h : n ≤ 2147483648) : foldE c (numL (decide (n ≥ 0)) nm9 n) = if 0 ≤ n then (c.1, c.2.1, c.2.2.1, c.2.2.2.1, c.2.2.2.2.1, c.2.2.2.2.2.1, c.2.2.2.2.2.2.1, c.2.2.2.2.2.2.2.1, (if n > c.2.2.2.2.2.2.2.2.1 then n else c.2.2.2.2.2.2.2.2.1), ()) else c := by
  have e : ∀ v, stepC c (nm9, v) = act 9 v c := fun v => by kernel_rfl
  by_cases c1 : 0 ≤ n
  · have c2 : n ≥ 0 := c1
    have hs := secOf_digits (n := n.toNat) (by omega)
    have hn : ((n.toNat : Nat) : Int) = n := by omega
    have hv : secV (Lib.decDigits n.toNat) 2147483648 = n := by simp only [secV, hs, if_true, hn]
    simp only [numL, c2, decide_true, fl, if_true, foldE_one, paramS_num nm9 n.toNat tok9.1 tok9.2, e, act, hv, c1]
  · have c2 : ¬ n ≥ 0 := c1
    simp only [numL, c2, decide_false, fl, Bool.false_eq_true, if_false, foldE_nil, c1]
theorem printL_good (c : Ctl) : ∀ x ∈ printL c, goodI x := by
  have hn : ∀ nm : List UInt8, nm.all plainB = true → ∀ n : Nat, goodI (nm ++ 61 :: Lib.decDigits n) := by
    intro nm h n
    obtain ⟨h1, _⟩ := decDigits_sec n n (Nat.le_refl _)
    refine goodI_plain ?_ (by simp)
    rw [List.all_append, h, List.all_cons]
    simp only [Bool.true_and, Bool.and_eq_true]
    refine ⟨by decide, ?_⟩
    rw [List.all_eq_true] at h1 ⊢
    exact fun b hb => (dig_tok (h1 b hb)).2
  have hf : ∀ (b : Bool) (nm : List UInt8), goodI nm → ∀ x ∈ fl b nm, goodI x := by
    intro b nm h x hx
    cases b <;> simp [fl] at hx
    subst hx; exact h
  have g : ∀ nm : List UInt8, nm.all plainB = true → nm ≠ [] → goodI nm := fun nm h h2 => goodI_plain h h2
  intro x hx
  simp only [printL, numL, List.mem_append] at hx
  rcases hx with ((((((((hx | hx) | hx) | hx) | hx) | hx) | hx) | hx) | hx)
  · exact hf _ _ (g nm0 (by decide +kernel) (by decide)) x hx
  · exact hf _ _ (g nm1 (by decide +kernel) (by decide)) x hx
  · exact hf _ _ (g nm2 (by decide +kernel) (by decide)) x hx
  · exact hf _ _ (g nm3 (by decide +kernel) (by decide)) x hx
  · exact hf _ _ (g nm4 (by decide +kernel) (by decide)) x hx
  · exact hf _ _ (g nm6 (by decide +kernel) (by decide)) x hx
  · exact hf _ _ (hn nm7 (by decide +kernel) _) x hx
  · exact hf _ _ (hn nm8 (by decide +kernel) _) x hx
  · exact hf _ _ (hn nm9 (by decide +kernel) _) x hx
def small31 (n : Int) : Prop := -1 ≤ n ∧ n ≤ 2147483648
theorem foldE_print (c : Ctl) (h6 : small31 c.2.2.2.2.2.2.1) (h7 : small31 c.2.2.2.2.2.2.2.1) (h8 : small31 c.2.2.2.2.2.2.2.2.1) : foldE ctl0 (printL c) = c := by
  simp only [printL, foldE_append, fold0, fold1, fold2, fold3, fold4, fold6]
  rw [fold7 _ _ h6.2, fold8 _ _ h7.2, fold9 _ _ h8.2]
  obtain ⟨a, b, d, e, f, g, m, s, q, u⟩ := c
  simp only [small31] at h6 h7 h8
  have l1 : ∀ n : Int, 0 ≤ n → leastI (-1) n = n := by
    intro n hn
    simp only [leastI]
    rw [if_neg (by omega), if_pos (by omega)]
  have l2 : ∀ n : Int, ¬ 0 ≤ n → -1 ≤ n → n = -1 := by intro n h1 h2; omega
  simp only [ctl0, Bool.false_or]
  by_cases c1 : 0 ≤ m <;> by_cases c2 : 0 ≤ s <;> by_cases c3 : 0 ≤ q <;> simp only [c1, c2, c3, if_true, if_false, l1, true_and] <;>
    (try rw [if_pos (show q > -1 by omega)]) <;> (try rw [l2 m c1 h6.1]) <;> (try rw [l2 s c2 h7.1]) <;> (try rw [l2 q c3 h8.1])
theorem parseV_one (s : List UInt8) : parseV [s] = if (splitS s).2.1 = 0 then foldE ctl0 (splitS s).1 else (true, true, (foldE ctl0 (splitS s).1).2.2) := by
  simp only [parseV, fineV, foldV, List.all_cons, List.all_nil, Bool.and_true, List.foldl_cons, List.foldl_nil, decide_eq_true_eq]
theorem allOf_one (s : List UInt8) : allOf [(hdr, s, ())] hdr = [s] := by
  simp only [allOf, List.filter_cons, same_self, if_true, List.filter_nil, List.map_cons, List.map_nil]
theorem parseC_one (s : List UInt8) : parseC [(hdr, s, ())] = if (splitS s).2.1 = 0 then foldE ctl0 (splitS s).1 else (true, true, (foldE ctl0 (splitS s).1).2.2) := by
  rw [parseC, allOf_one, parseV_one]
theorem askedC_one (s : List UInt8) : askedC [(hdr, s, ())] = parseC [(hdr, s, ())] := by
  have : (getOf [(hdr, s, ())] hdr).2.1 = true := by simp only [getOf, allOf_one]; rfl
  simp only [askedC, this, Bool.true_eq_false, false_and, if_false]
theorem parse_print (c : Ctl) (h6 : small31 c.2.2.2.2.2.2.1) (h7 : small31 c.2.2.2.2.2.2.2.1) (h8 : small31 c.2.2.2.2.2.2.2.2.1) : parseC [(hdr, Lib.join (printL c) sep2, ())] = c := by
  rw [parseC_one, split_join _ (printL_good c)]
  simp only [if_true]
  exact foldE_print c h6 h7 h8

/-! The order of elements. -/
theorem leastI_min {z w : Int} (hz : 0 ≤ z) (hw : 0 ≤ w) : leastI z w = min z w := by
  simp only [leastI]
  rw [if_neg (by omega), if_neg (by omega), if_neg (by omega)]
  split <;> omega
theorem leastI_neg {a x : Int} (h1 : a < 0) (hx : 0 ≤ x) : leastI a x = x := by
  simp only [leastI]; rw [if_neg (by omega), if_pos h1]
theorem leastI_swap {a x y : Int} (hx : 0 ≤ x) (hy : 0 ≤ y) : leastI (leastI a x) y = leastI (leastI a y) x := by
  by_cases h1 : a < 0
  · rw [leastI_neg h1 hx, leastI_neg h1 hy, leastI_min hx hy, leastI_min hy hx]; omega
  · have h2 : 0 ≤ a := by omega
    rw [leastI_min h2 hx, leastI_min h2 hy, leastI_min (by omega) hy, leastI_min (by omega) hx]; omega
theorem stepC_swap (c : Ctl) (p q : List UInt8 × List UInt8) : stepC (stepC c p) q = stepC (stepC c q) p := by
  have h1 := secV_range p.2 0 (by omega) (by omega)
  have h2 := secV_range q.2 0 (by omega) (by omega)
  rw [stepC_eq (stepC c p), stepC_eq (stepC c q), stepC_eq c p, stepC_eq c q]
  have s7 : ∀ (b d : Bool) (a : Int), (if d = true then leastI (if b = true then leastI a (secV p.2 0) else a) (secV q.2 0) else if b = true then leastI a (secV p.2 0) else a) =
      (if b = true then leastI (if d = true then leastI a (secV q.2 0) else a) (secV p.2 0) else if d = true then leastI a (secV q.2 0) else a) := by
    intro b d a
    cases b <;> cases d <;> simp only [Bool.false_eq_true, if_true, if_false]
    exact leastI_swap h1.1 h2.1
  have s9 : ∀ (b d : Bool) (a x y : Int), (if d = true then (if y > (if b = true then (if x > a then x else a) else a) then y else (if b = true then (if x > a then x else a) else a)) else (if b = true then (if x > a then x else a) else a)) =
      (if b = true then (if x > (if d = true then (if y > a then y else a) else a) then x else (if d = true then (if y > a then y else a) else a)) else (if d = true then (if y > a then y else a) else a)) := by
    intro b d a x y
    cases b <;> cases d <;> simp only [Bool.false_eq_true, if_true, if_false]
    split <;> split <;> (try split) <;> (try split) <;> omega
  have so : ∀ a b d : Bool, (a || b || d) = (a || d || b) := by decide
  have so2 : ∀ a b b' d d' : Bool, (a || b || b' || d || d') = (a || d || d' || b || b') := by decide
  simp only [Prod.mk.injEq, and_true]
  refine ⟨so _ _ _, so _ _ _, so _ _ _, so _ _ _, so2 _ _ _ _ _, so _ _ _, s7 _ _ _, s7 _ _ _, s9 _ _ _ _ _⟩
theorem foldE_reverse (c : Ctl) (xs : List (List UInt8)) : foldE c xs.reverse = foldE c xs := by
  simp only [foldE, elemsOf, List.filterMap_reverse]
  exact List.Perm.foldl_eq' (List.reverse_perm _) (fun x _ y _ z => stepC_swap z x y) c
end Go.Proofs.X


