/-
  A part of the proof. No condition.
-/
import Derived.Test.YtkfffmpnmoiikaaGreatDoorUPb
import Derived.Test.YtkfffmpnmoiikaaGreatDoorUPk
/- Chapter 17 (life): what each printed function of the program and of the reference gives. No condition but on sizes. -/
set_option linter.unusedSimpArgs false
set_option linter.unusedVariables false
namespace Go.Proofs.X
open Go Go.Dp
open Classical in
noncomputable def parD (s : List UInt8) : Int × Int × Unit := if h : ∃ r, ParseR s r then Classical.choose h else (0, 0, ())
theorem wg3 {s : List UInt8} {r : Int × Int × Unit} (h : ParseR s r) : parD s = r := by
  have h2 : ∃ r, ParseR s r := ⟨r, h⟩
  unfold parD
  rw [dif_pos h2]
  exact we3 (Classical.choose_spec h2) h
theorem wg5 {K : Nat} {s : List UInt8} (hs : s.length < 10000000) (hK : 20000 ≤ K) : wcP K s = some (parD s) := by
  obtain ⟨r, h1, h2⟩ := wgM (K := K) s hs hK
  rw [h1, wg3 h2]
noncomputable def whenV (vs : List (List UInt8)) : Int × Bool × Unit := if vs.length = 1 then ((parD (vs.getD 0 [])).1, decide ((parD (vs.getD 0 [])).2.1 = 0), ()) else (0, false, ())
noncomputable def whenO (l : List Fld) (n : List UInt8) : Int × Bool × Unit := whenV (allOf l n)
theorem wdo {K : Nat} {l : List Fld} {n : List UInt8} (h : sized l) (h2 : n.length < 1000000) (hK : 1000000 + 100 ≤ K) : wcA K l n = some (whenO l n) := by
  have hb : ∀ v ∈ allOf l n, v.length ≤ 99999 := wdj fun f hf => by have := (h.2 f hf).2; omega
  have hA : wQ_ K l n = some (allOf l n) := wc5 h.1 (fun f hf => by have := (h.2 f hf).1; omega) h2 (by omega)
  simp only [wcA, hA, za', zb', zc', zd', ze', zf', zg', zh', zi', zj', zk', zl', zm', zn', zo', zp', zq', zr', zs', zt']
  unfold whenO whenV
  by_cases c : (allOf l n).length = 1
  · have c1 : ((allOf l n).length : Int) = 1 := by omega
    have hd := wg5 (K := K) (s := (allOf l n).getD 0 []) (by have := hb _ (wc9 (allOf l n) [] (i := 0) (by omega)); omega) (by omega)
    have c3 : (0 : Int) < ((allOf l n).length : Int) := by omega
    rw [if_pos c]
    simp only [decide_eq_true c1, c3, za', zb', zc', zd', ze', zf', zg', zh', zi', zj', zk', zl', zm', zn', zo', zp', zq', zr', zs', zt', hd, Int.le_refl]
    rfl
  · have c1 : ¬ ((allOf l n).length : Int) = 1 := by omega
    rw [if_neg c]
    simp only [decide_eq_false c1, za', zb', zc', zd', ze', zf', zg', zh', zi', zj', zk', zl', zm', zn', zo', zp', zq', zr', zs', zt']
theorem great1 {K : Nat} (x : Int) (hK : 2 ≤ K) : wu_ K [x] = some (max x 0) := by
  obtain ⟨k, rfl⟩ : ∃ k, K = k + 2 := ⟨K - 2, by omega⟩
  have e1 : wu_.l0 (k + 2) (k + 2) ((0, ([x], (1, (0, ())))), ()) = wu_.t0 (k + 2) (wu_.t0 (k + 2) (wu_.l0 (k + 2) k)) ((0, ([x], (1, (0, ())))), ()) := rfl
  have w : IntKind.wrap .i64 (0 + 1) = 1 := by decide
  have h : wu_.l0 (k + 2) (k + 2) ((0, ([x], (1, (0, ())))), ()) = some ((max x 0, ()), ()) := by
    rw [e1]
    simp only [wu_.t0, za', zb', zc', zd', ze', zf', zg', zh', zi', zj', zk', zl', zm', zn', zo', zp', zq', zr', zs', zt', List.length_cons, List.length_nil, Nat.zero_add, Int.natCast_one, Int.le_refl, show (0 : Int) < 1 by decide, List.getD_cons_zero, w, Int.lt_irrefl]
    congr 3
    simp only [Int.max_def]; split <;> split <;> omega
  simp only [wu_, wu_.tr, List.length_cons, List.length_nil, Nat.zero_add, Int.natCast_one]
  rw [h]
  rfl
theorem great2 {K : Nat} (x y : Int) (hK : 3 ≤ K) : wu_ K [x, y] = some (max y (max x 0)) := by
  obtain ⟨k, rfl⟩ : ∃ k, K = k + 3 := ⟨K - 3, by omega⟩
  have e1 : wu_.l0 (k + 3) (k + 3) ((0, ([x, y], (2, (0, ())))), ()) = wu_.t0 (k + 3) (wu_.t0 (k + 3) (wu_.t0 (k + 3) (wu_.l0 (k + 3) k))) ((0, ([x, y], (2, (0, ())))), ()) := rfl
  have w : IntKind.wrap .i64 (0 + 1) = 1 := by decide
  have w2 : IntKind.wrap .i64 (1 + 1) = 2 := by decide
  have t1 : Int.toNat 1 = 1 := rfl
  have n2 : (((0 + 1 + 1 : Nat)) : Int) = 2 := rfl
  have h : wu_.l0 (k + 3) (k + 3) ((0, ([x, y], (2, (0, ())))), ()) = some ((max y (max x 0), ()), ()) := by
    rw [e1]
    simp only [wu_.t0, za', zb', zc', zd', ze', zf', zg', zh', zi', zj', zk', zl', zm', zn', zo', zp', zq', zr', zs', zt', List.length_cons, List.length_nil, n2, Int.le_refl, show (0 : Int) < 2 by decide, show (1 : Int) < 2 by decide, show (0 : Int) ≤ 1 by decide, List.getD_cons_zero, List.getD_cons_succ, w, w2, t1, Int.lt_irrefl]
    congr 3
    simp only [Int.max_def]; (repeat' split) <;> omega
  simp only [wu_, wu_.tr, List.length_cons, List.length_nil, n2]
  rw [h]
  rfl
def clk (t : Int) : Int := min (max t 0) 253402300799
def apt (a b : Int) : Int := min (max (clk a - clk b) 0) 2147483648
theorem weG (t : Int) : 0 ≤ clk t ∧ clk t ≤ 253402300799 := by unfold clk; omega
theorem wfV (a b : Int) : 0 ≤ apt a b ∧ apt a b ≤ 2147483648 := by unfold apt; omega
theorem wfe (a m : Int) : (if m < a then m else a) = min a m := by simp only [Int.min_def]; (repeat' split) <;> omega
theorem wgR (a : Int) : (if 0 > a then 0 else a) = max a 0 := by simp only [Int.max_def]; (repeat' split) <;> omega
theorem weB {K : Nat} (t : Int) (hK : 2 ≤ K) : wcT K t = some (clk t) := by
  simp only [wcT, great1 t hK, za', zb', zc', zd', ze', zf', zg', zh', zi', zj', zk', zl', zm', zn', zo', zp', zq', zr', zs', zt', wfe]
  rfl
theorem wdu {K : Nat} (a b : Int) (hK : 2 ≤ K) : wcD K a b = some (apt a b) := by
  have h1 := weG a
  have h2 := weG b
  have w : IntKind.wrap .i64 (clk a - clk b) = clk a - clk b := wrap64 (by omega) (by omega)
  simp only [wcD, weB _ hK, great1 _ hK, za', zb', zc', zd', ze', zf', zg', zh', zi', zj', zk', zl', zm', zn', zo', zp', zq', zr', zs', zt', w, wfe]
  rfl
def hold (a : Int) : Int := min (max a 0) 2147483648
def addS (a b : Int) : Int := hold (hold a + hold b)
theorem wen (a : Int) : 0 ≤ hold a ∧ hold a ≤ 2147483648 := by unfold hold; omega
theorem wgT {K : Nat} (a : Int) (hK : 2 ≤ K) : wb4 K a = some (hold a) := by
  simp only [wb4, wgR, weX _ _ hK, za', zb', zc', zd', ze', zf', zg', zh', zi', zj', zk', zl', zm', zn', zo', zp', zq', zr', zs', zt']
  congr 1
  unfold hold
  simp only [Int.min_def]; (repeat' split) <;> omega
theorem whe {K : Nat} (a b : Int) (hK : 2 ≤ K) : wcL K a b = some (addS a b) := by
  have h1 := wen a
  have h2 := wen b
  have w : IntKind.wrap .i64 (hold a + hold b) = hold a + hold b := wrap64 (by omega) (by omega)
  simp only [wcL, wgT _ hK, za', zb', zc', zd', ze', zf', zg', zh', zi', zj', zk', zl', zm', zn', zo', zp', zq', zr', zs', zt', w, addS]
/-! How old it says that it is. -/
def toldF (n : Int) (s : List UInt8) : Int := max (secOf s).1 n
def toldX (n : Int) (xs : List (List UInt8)) : Int := xs.foldl toldF n
def toldV (n : Int) (vs : List (List UInt8)) : Int := vs.foldl (fun n v => toldX n (splitS v).1) n
theorem wfx (n : Int) (xs : List (List UInt8)) (x : List UInt8) : toldX n (xs ++ [x]) = max (secOf x).1 (toldX n xs) := by simp only [toldX, List.foldl_append, List.foldl_cons, List.foldl_nil, toldF]
theorem wfq (n : Int) (vs : List (List UInt8)) (v : List UInt8) : toldV n (vs ++ [v]) = toldX (toldV n vs) (splitS v).1 := by simp only [toldV, List.foldl_append, List.foldl_cons, List.foldl_nil]
theorem wd9 : ∀ (xs : List (List UInt8)) (n : Int), 0 ≤ n → n ≤ 2147483648 → 0 ≤ toldX n xs ∧ toldX n xs ≤ 2147483648 := by
  intro xs
  induction xs with
  | nil => intro n h1 h2; exact ⟨h1, h2⟩
  | cons x xs ih =>
    intro n h1 h2
    have := wec x
    exact ih (toldF n x) (by unfold toldF; omega) (by unfold toldF; omega)
theorem wd5 : ∀ (vs : List (List UInt8)) (n : Int), 0 ≤ n → n ≤ 2147483648 → 0 ≤ toldV n vs ∧ toldV n vs ≤ 2147483648 := by
  intro vs
  induction vs with
  | nil => intro n h1 h2; exact ⟨h1, h2⟩
  | cons v vs ih =>
    intro n h1 h2
    have := wd9 (splitS v).1 n h1 h2
    exact ih (toldX n (splitS v).1) this.1 this.2
theorem wgS {K : Nat} (n : Int) (vals : List (List UInt8)) (ln ix : Int) (xs : List (List UInt8)) (h1 : 0 ≤ n) (h2 : n ≤ 2147483648) (hx : ∀ x ∈ xs, x.length < 1000000) (hl : xs.length < 1000000) (hK : 1000000 + 100 ≤ K) :
    wU_.l0 K K ((n, (vals, (ln, (ix, (xs, ((xs.length : Int), (0, ()))))))), ()) = some ((toldX n xs, (vals, (ln, (ix, ())))), ()) := by
  have H := idx_rule (l := wU_.l0 K) (wU_.t0 K) (fun _ _ => rfl) xs.length
    (fun i => ((toldX n (xs.take i), (vals, (ln, (ix, (xs, ((xs.length : Int), ((i : Int), ()))))))), ())) (fun i => ((toldX n xs, (vals, (ln, (ix, ())))), ())) ?_ K 0 (by omega) (by omega)
  · exact H
  · intro i rec hi ih
    by_cases h : i < xs.length
    · have hh : (i : Int) < (xs.length : Int) := by omega
      have w1 := wrapSucc (show i < 9223372036854775807 by omega)
      have hm := hx _ (wc9 xs [] h)
      have ih' := ih h
      have hr := wd9 (xs.take i) n h1 h2
      rw [take_get xs [] h, wfx] at ih'
      have hs := wdl (K := K) (s := xs.getD i []) (by omega) (by omega)
      have hsr := wec (xs.getD i [])
      cases c : (secOf (xs.getD i [])).2.1 with
      | true =>
        have e : max (secOf (xs.getD i [])).1 (max (toldX n (xs.take i)) 0) = max (secOf (xs.getD i [])).1 (toldX n (xs.take i)) := by omega
        simp only [wU_.t0, za', zb', zc', zd', ze', zf', zg', zh', zi', zj', zk', zl', zm', zn', zo', zp', zq', zr', zs', zt', hh, hs, c, great2 _ _ (show 3 ≤ K by omega), e, w1]
        exact ih'
      | false =>
        have e0 := wfW _ c
        have e : max (secOf (xs.getD i [])).1 (toldX n (xs.take i)) = toldX n (xs.take i) := by omega
        rw [e] at ih'
        simp only [wU_.t0, za', zb', zc', zd', ze', zf', zg', zh', zi', zj', zk', zl', zm', zn', zo', zp', zq', zr', zs', zt', hh, hs, c, w1]
        exact ih'
    · have h2 : i = xs.length := by omega
      subst h2
      simp only [wU_.t0, za', zb', zc', zd', ze', zf', zg', zh', zi', zj', zk', zl', zm', zn', zo', zp', zq', zr', zs', zt', Int.lt_irrefl, List.take_length]
abbrev Rep := Int × List UInt8 × Int × List Fld × List UInt8 × Unit
abbrev Pk := List UInt8 × Bool × List UInt8 × Unit
abbrev Sto := Rep × Int × List Pk × Unit
def nAge : List UInt8 := [65, 103, 101]
def nDate : List UInt8 := [68, 97, 116, 101]
def nExp : List UInt8 := [69, 120, 112, 105, 114, 101, 115]
def nMod : List UInt8 := [76, 97, 115, 116, 45, 77, 111, 100, 105, 102, 105, 101, 100]
def toldO (l : List Fld) : Int := toldV 0 (allOf l nAge)
theorem we0 (l : List Fld) : 0 ≤ toldO l ∧ toldO l ≤ 2147483648 := wd5 _ 0 (by omega) (by omega)
theorem weQ {K : Nat} {r : Rep} (h : sized r.2.2.2.1) (hK : 1000000 + 100 ≤ K) : wU_ K r = some (toldO r.2.2.2.1) := by
  have hlen := h.1
  have h3 := wdw r.2.2.2.1 nAge
  have hb : ∀ v ∈ allOf r.2.2.2.1 nAge, v.length ≤ 99999 := wdj fun f hf => by have := (h.2 f hf).2; omega
  have hA : wQ_ K r.2.2.2.1 [65, 103, 101] = some (allOf r.2.2.2.1 nAge) := wc5 h.1 (fun f hf => by have := (h.2 f hf).1; omega) (name := nAge) (by decide) (by omega)
  have H := idx_rule (l := wU_.l1 K) (wU_.t1 (wU_.l0 K) K) (fun _ _ => rfl) (allOf r.2.2.2.1 nAge).length
    (fun i => ((toldV 0 ((allOf r.2.2.2.1 nAge).take i), (allOf r.2.2.2.1 nAge, (((allOf r.2.2.2.1 nAge).length : Int), ((i : Int), ())))), ())) (fun i => ((toldO r.2.2.2.1, ()), ())) ?_ K 0 (by omega) (by omega)
  · simp only [wU_, wU_.tr, hA, za', zb', zc', zd', ze', zf', zg', zh', zi', zj', zk', zl', zm', zn', zo', zp', zq', zr', zs', zt']
    change Option.bind (wU_.l1 K K ((toldV 0 ((allOf r.2.2.2.1 nAge).take 0), (allOf r.2.2.2.1 nAge, (((allOf r.2.2.2.1 nAge).length : Int), (((0 : Nat) : Int), ())))), ())) _ = _
    rw [H]
    rfl
  · unfold toldO
    generalize allOf r.2.2.2.1 nAge = vs at hb h3
    intro i rec hi ih
    by_cases h : i < vs.length
    · have hh : (i : Int) < (vs.length : Int) := by omega
      have w1 := wrapSucc (show i < 9223372036854775807 by omega)
      have hm := hb _ (wc9 vs [] h)
      have ih' := ih h
      have hsc := wdd (vs.getD i [])
      have hsi := wdm (vs.getD i [])
      have hs := wdc (K := K) (s := vs.getD i []) (by omega) (by omega)
      have hr := wd5 (vs.take i) 0 (by omega) (by omega)
      rw [take_get vs [] h, wfq] at ih'
      have h0 := wgS (K := K) (toldV 0 (vs.take i)) vs (vs.length : Int) (i : Int) (splitS (vs.getD i [])).1 hr.1 hr.2 (fun x hx => by have := hsi x hx; omega) (by omega) hK
      simp only [wU_.t1, za', zb', zc', zd', ze', zf', zg', zh', zi', zj', zk', zl', zm', zn', zo', zp', zq', zr', zs', zt', hh, hs, h0, w1]
      exact ih'
    · have h2 : i = vs.length := by omega
      subst h2
      simp only [wU_.t1, za', zb', zc', zd', ze', zf', zg', zh', zi', zj', zk', zl', zm', zn', zo', zp', zq', zr', zs', zt', Int.lt_irrefl, List.take_length]
/-! Date, age, lifetime. -/
noncomputable def dateO (s : Sto) : Int := if (whenO s.1.2.2.2.1 nDate).2.1 = true then (whenO s.1.2.2.2.1 nDate).1 else s.2.1
noncomputable def ageO (s : Sto) (now : Int) : Int := addS (max (apt s.2.1 (dateO s)) (toldO s.1.2.2.2.1)) (apt now s.2.1)
def usual (c : Int) : Bool := ([200, 203, 204, 300, 301, 308, 404, 405, 410, 414, 501] : List Int).any fun x => decide (x = c)
noncomputable def lifeO (s : Sto) : Int :=
  if (parseC s.1.2.2.2.1).2.2.2.2.2.2.2.1 ≥ 0 then (parseC s.1.2.2.2.1).2.2.2.2.2.2.2.1
  else if (parseC s.1.2.2.2.1).2.2.2.2.2.2.1 ≥ 0 then (parseC s.1.2.2.2.1).2.2.2.2.2.2.1
  else if (allOf s.1.2.2.2.1 nExp).length > 0 then (if (whenO s.1.2.2.2.1 nExp).2.1 = true then apt (whenO s.1.2.2.2.1 nExp).1 (dateO s) else 0)
  else if (whenO s.1.2.2.2.1 nMod).2.1 = true ∧ usual s.1.1 = true then min (apt (dateO s) (whenO s.1.2.2.2.1 nMod).1 / 10) 86400 else 0
theorem wdT {K : Nat} {s : Sto} (h : sized s.1.2.2.2.1) (hK : 1000000 + 100 ≤ K) : wcN K s = some (dateO s) := by
  have hw : wcA K s.1.2.2.2.1 [68, 97, 116, 101] = some (whenO s.1.2.2.2.1 nDate) := wdo (n := nDate) h (by decide) hK
  simp only [wcN, hw, za', zb', zc', zd', ze', zf', zg', zh', zi', zj', zk', zl', zm', zn', zo', zp', zq', zr', zs', zt', dateO]
  cases (whenO s.1.2.2.2.1 nDate).2.1 <;> simp only [za', zb', zc', zd', ze', zf', zg', zh', zi', zj', zk', zl', zm', zn', zo', zp', zq', zr', zs', zt']
theorem wff {K : Nat} {s : Sto} {now : Int} (h : sized s.1.2.2.2.1) (hK : 1000000 + 100 ≤ K) : wcO K s now = some (ageO s now) := by
  have h1 : wU_ K (s.1.1, (s.1.2.1, (s.1.2.2.1, (s.1.2.2.2.1, (s.1.2.2.2.2.1, ()))))) = some (toldO s.1.2.2.2.1) := weQ (r := s.1) h hK
  have h2 : wcN K (((s.1.1, (s.1.2.1, (s.1.2.2.1, (s.1.2.2.2.1, (s.1.2.2.2.2.1, ()))))), (s.2.1, (s.2.2.1, ())))) = some (dateO s) := wdT (s := s) h hK
  have hr := we0 s.1.2.2.2.1
  have e : max (apt s.2.1 (dateO s)) (max (toldO s.1.2.2.2.1) 0) = max (apt s.2.1 (dateO s)) (toldO s.1.2.2.2.1) := by omega
  simp only [wcO, h1, h2, za', zb', zc', zd', ze', zf', zg', zh', zi', zj', zk', zl', zm', zn', zo', zp', zq', zr', zs', zt', wdu _ _ (show 2 ≤ K by omega), great2 _ _ (show 3 ≤ K by omega), e, whe _ _ (show 2 ≤ K by omega), ageO]
theorem wdC (K : Nat) (c : Int) : wcJ K c = some (usual c) := by
  simp only [wcJ, usual, List.any_cons, List.any_nil, Bool.or_false]
  have e : ∀ x : Int, decide (x = c) = decide (c = x) := fun x => by rw [decide_eq_decide]; exact eq_comm
  simp only [e]
  have u0 : ∀ b : Bool, (bif b then some true else some false) = some b := fun b => by cases b <;> rfl
  have u1 : ∀ b x : Bool, (bif b then some b else some x) = some (b || x) := fun b x => by cases b <;> rfl
  simp only [u0, u1]
end Go.Proofs.X
