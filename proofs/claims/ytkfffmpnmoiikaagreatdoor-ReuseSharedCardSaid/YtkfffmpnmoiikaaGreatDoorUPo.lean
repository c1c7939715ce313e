/-
  A part of the proof. No condition.
-/
import Derived.Test.YtkfffmpnmoiikaaGreatDoorUPn
import Derived.Test.YtkfffmpnmoiikaaGreatDoorUP5
/- Chapter 15 (vary): what each printed function of the program gives. No condition but on sizes. -/
set_option linter.unusedSimpArgs false
set_option linter.unusedVariables false
namespace Go.Proofs.X
open Go Go.Dp
def okT (x : List UInt8) : Bool := !(x == [42]) && isTok x
theorem wgk {K : Nat} (vals : List (List UInt8)) (ln ix : Int) (z : List (List UInt8)) (xs : List (List UInt8)) (hx : ∀ x ∈ xs, x.length < 1000000) (hxl : xs.length < 1000000000) (hK : 1000000 + 100 ≤ K) :
    ∀ (d i fuel : Nat) (P : List (List UInt8)), i + d = xs.length → d < fuel → P.length + d < 1000000000000 →
    ((xs.drop i).all okT = true → wz_.l0 K fuel (((), ((), (vals, (ln, (ix, (xs, ((xs.length : Int), ((i : Int), ())))))))), (z, (mp P, (dd P, ())))) = some (.inl (((), ((), (vals, (ln, (ix, ()))))), (z, (mp (P ++ (xs.drop i).map lower), (dd (P ++ (xs.drop i).map lower), ())))))) ∧
    ((xs.drop i).all okT = false → ∃ m n, wz_.l0 K fuel (((), ((), (vals, (ln, (ix, (xs, ((xs.length : Int), ((i : Int), ())))))))), (z, (mp P, (dd P, ())))) = some (.inr (((), (false, ())), (z, (m, (n, ([], ()))))))) := by
  intro d
  induction d with
  | zero =>
    intro i fuel P h1 h2 h3
    obtain ⟨fuel, rfl⟩ : ∃ f, fuel = f + 1 := ⟨fuel - 1, by omega⟩
    have hd : xs.drop i = [] := List.drop_eq_nil_of_le (by omega)
    rw [hd]
    refine ⟨fun _ => ?_, fun h => by cases h⟩
    have hh : ¬ (i : Int) < (xs.length : Int) := by omega
    simp only [wz_.l0, wz_.t0, za', zb', zc', zd', ze', zf', zg', zh', zi', zj', zk', zl', zm', zn', zo', zp', zq', zr', zs', zt', hh, List.map_nil, List.append_nil]
  | succ d ih =>
    intro i fuel P h1 h2 h3
    obtain ⟨fuel, rfl⟩ : ∃ f, fuel = f + 1 := ⟨fuel - 1, by omega⟩
    have hi : i < xs.length := by omega
    have hh : (i : Int) < (xs.length : Int) := by omega
    have w1 := wrapSucc (show i < 9223372036854775807 by omega)
    have hm := hx _ (wc9 xs [] hi)
    have hd : xs.drop i = xs.getD i [] :: xs.drop (i + 1) := by
      rw [List.drop_eq_getElem_cons hi]
      simp [List.getD_eq_getElem?_getD, hi]
    rw [hd, List.all_cons, List.map_cons]
    have hl := wc4 (K := K) (s := xs.getD i []) (by omega) (by omega)
    have ht := wde (K := K) (s := xs.getD i []) (by omega) (by omega)
    have hN := ih (i + 1) fuel (P ++ [lower (xs.getD i [])]) (by omega) (by omega) (by simp; omega)
    have hc := whh P.length P (lower (xs.getD i [])) rfl (by omega)
    have hcl := List.count_le_length (a := lower (xs.getD i [])) (l := P)
    have hr : ((dd P).length + 1) * 16 ≤ maxRoom := by have := wgC P; simp only [maxRoom]; omega
    have hc' : Option.getD (mfind (eqv .str) (mp P) (lower (xs.getD i []))) 0 = (P.count (lower (xs.getD i [])) : Int) := hc
    have hw : IntKind.i64.wrap ((P.count (lower (xs.getD i [])) : Int) + 1) = ((P.count (lower (xs.getD i [])) + 1 : Nat) : Int) := wrapSucc (by omega)
    have hmp : mput (eqv .str) (mp P) (lower (xs.getD i [])) ((P.count (lower (xs.getD i [])) + 1 : Nat) : Int) = mp (P ++ [lower (xs.getD i [])]) := by
      rw [wfT, mstep, hc, hw]
    have hf : Option.getD (mfind (eqv .str) (mp (P ++ [lower (xs.getD i [])])) (lower (xs.getD i []))) 0 = ((P.count (lower (xs.getD i [])) + 1 : Nat) : Int) := by
      rw [← hmp, wek, if_pos rfl]; rfl
    have e1 : ∀ (Q : List (List UInt8)) (y : List UInt8) (r : List (List UInt8)), Q ++ [y] ++ r = Q ++ y :: r := fun Q y r => by simp
    rw [e1] at hN
    by_cases c1 : (xs.getD i [] == [42]) = true
    · have ho : okT (xs.getD i []) = false := by simp only [okT, c1, Bool.not_true, Bool.false_and]
      rw [ho, Bool.false_and]
      refine ⟨fun h => (by cases h), fun _ => ⟨mp P, dd P, ?_⟩⟩
      simp only [wz_.l0, wz_.t0, za', zb', zc', zd', ze', zf', zg', zh', zi', zj', zk', zl', zm', zn', zo', zp', zq', zr', zs', zt', hh, c1]
    · have c1 : (xs.getD i [] == [42]) = false := by simpa using c1
      cases c2 : isTok (xs.getD i []) with
      | false =>
        have ho : okT (xs.getD i []) = false := by simp only [okT, c2, Bool.and_false]
        rw [ho, Bool.false_and]
        refine ⟨fun h => (by cases h), fun _ => ⟨mp P, dd P, ?_⟩⟩
        simp only [wz_.l0, wz_.t0, za', zb', zc', zd', ze', zf', zg', zh', zi', zj', zk', zl', zm', zn', zo', zp', zq', zr', zs', zt', hh, c1, ht, c2]
      | true =>
        have ho : okT (xs.getD i []) = true := by simp only [okT, c1, c2, Bool.not_false, Bool.and_self]
        rw [ho, Bool.true_and]
        have key : wz_.l0 K (fuel + 1) (((), ((), (vals, (ln, (ix, (xs, ((xs.length : Int), ((i : Int), ())))))))), (z, (mp P, (dd P, ())))) = wz_.l0 K fuel (((), ((), (vals, (ln, (ix, (xs, ((xs.length : Int), (((i + 1 : Nat) : Int), ())))))))), (z, (mp (P ++ [lower (xs.getD i [])]), (dd (P ++ [lower (xs.getD i [])]), ())))) := by
          by_cases c3 : lower (xs.getD i []) ∈ P
          · have h5 : 0 < P.count (lower (xs.getD i [])) := List.count_pos_iff.2 c3
            have h6 : ¬ ((P.count (lower (xs.getD i [])) + 1 : Nat) : Int) = 1 := by omega
            have h7 : dd (P ++ [lower (xs.getD i [])]) = dd P := by rw [wf5, addT, if_pos ((wgE _ _).2 c3)]
            rw [h7]
            simp only [wz_.l0, wz_.t0, za', zb', zc', zd', ze', zf', zg', zh', zi', zj', zk', zl', zm', zn', zo', zp', zq', zr', zs', zt', hh, c1, ht, c2, hl, hc', hw, hmp, hf, h6, w1]
          · have h5 : P.count (lower (xs.getD i [])) = 0 := List.count_eq_zero.2 c3
            have h6 : ((P.count (lower (xs.getD i [])) + 1 : Nat) : Int) = 1 := by omega
            have h7 : dd (P ++ [lower (xs.getD i [])]) = dd P ++ [lower (xs.getD i [])] := by rw [wf5, addT, if_neg (fun h => c3 ((wgE _ _).1 h))]
            rw [h7]
            rw [h6] at hw hmp hf
            simp only [wz_.l0, wz_.t0, za', zb', zc', zd', ze', zf', zg', zh', zi', zj', zk', zl', zm', zn', zo', zp', zq', zr', zs', zt', hh, c1, ht, c2, hl, hc', hw, hmp, hf, hr, w1, eq_self]
        rw [key]
        exact hN
def goodV (v : List UInt8) : Bool := decide ((splitS v).2.1 = 0) && (splitS v).1.all okT
def toks (vs : List (List UInt8)) : List (List UInt8) := vs.flatMap fun v => (splitS v).1.map lower
theorem wgy {K : Nat} (z : List (List UInt8)) (vs : List (List UInt8)) (hx : ∀ x ∈ vs, x.length < 100000) (hxl : vs.length < 1000000) (hK : 1000000 + 100 ≤ K) :
    ∀ (d i fuel : Nat) (P : List (List UInt8)), i + d = vs.length → d < fuel → P.length + d * 100001 < 900000000000 →
    ((vs.drop i).all goodV = true → wz_.l1 K fuel (((), ((), (vs, ((vs.length : Int), ((i : Int), ()))))), (z, (mp P, (dd P, ())))) = some (.inl (((), ()), (z, (mp (P ++ toks (vs.drop i)), (dd (P ++ toks (vs.drop i)), ())))))) ∧
    ((vs.drop i).all goodV = false → ∃ m n, wz_.l1 K fuel (((), ((), (vs, ((vs.length : Int), ((i : Int), ()))))), (z, (mp P, (dd P, ())))) = some (.inr (((), (false, ())), (z, (m, (n, ([], ()))))))) := by
  intro d
  induction d with
  | zero =>
    intro i fuel P h1 h2 h3
    obtain ⟨fuel, rfl⟩ : ∃ f, fuel = f + 1 := ⟨fuel - 1, by omega⟩
    have hd : vs.drop i = [] := List.drop_eq_nil_of_le (by omega)
    rw [hd]
    refine ⟨fun _ => ?_, fun h => by cases h⟩
    have hh : ¬ (i : Int) < (vs.length : Int) := by omega
    simp only [wz_.l1, wz_.t1, za', zb', zc', zd', ze', zf', zg', zh', zi', zj', zk', zl', zm', zn', zo', zp', zq', zr', zs', zt', hh, toks, List.flatMap_nil, List.append_nil]
  | succ d ih =>
    intro i fuel P h1 h2 h3
    obtain ⟨fuel, rfl⟩ : ∃ f, fuel = f + 1 := ⟨fuel - 1, by omega⟩
    have hi : i < vs.length := by omega
    have hh : (i : Int) < (vs.length : Int) := by omega
    have w1 := wrapSucc (show i < 9223372036854775807 by omega)
    have hm := hx _ (wc9 vs [] hi)
    have hd : vs.drop i = vs.getD i [] :: vs.drop (i + 1) := by
      rw [List.drop_eq_getElem_cons hi]
      simp [List.getD_eq_getElem?_getD, hi]
    have hsc := wdd (vs.getD i [])
    have hsi := wdm (vs.getD i [])
    have hs := wdc (K := K) (s := vs.getD i []) (by omega) (by omega)
    have et : toks (vs.getD i [] :: vs.drop (i + 1)) = (splitS (vs.getD i [])).1.map lower ++ toks (vs.drop (i + 1)) := by simp [toks]
    rw [hd, List.all_cons, et, ← List.append_assoc]
    have h0 := wgk (K := K) vs (vs.length : Int) (i : Int) z (splitS (vs.getD i [])).1 (fun x hx => by have := hsi x hx; omega) (by omega) hK (splitS (vs.getD i [])).1.length 0 K P (by omega) (by omega) (by omega)
    rw [List.drop_zero] at h0
    have hN := ih (i + 1) fuel (P ++ (splitS (vs.getD i [])).1.map lower) (by omega) (by omega) (by rw [List.length_append, List.length_map]; omega)
    by_cases c1 : (splitS (vs.getD i [])).2.1 = 0
    · cases c2 : (splitS (vs.getD i [])).1.all okT with
      | false =>
        have ho : goodV (vs.getD i []) = false := by simp only [goodV, c2, Bool.and_false]
        rw [ho, Bool.false_and]
        obtain ⟨m, n, h4⟩ := h0.2 c2
        refine ⟨fun h => (by cases h), fun _ => ⟨m, n, ?_⟩⟩
        simp only [wz_.l1, wz_.t1, za', zb', zc', zd', ze', zf', zg', zh', zi', zj', zk', zl', zm', zn', zo', zp', zq', zr', zs', zt', hh, hs, c1]
        rw [show ((0 : Nat) : Int) = 0 from rfl] at h4
        rw [h4]
        simp only [za', zb', zc', zd', ze', zf', zg', zh', zi', zj', zk', zl', zm', zn', zo', zp', zq', zr', zs', zt']
      | true =>
        have ho : goodV (vs.getD i []) = true := by simp only [goodV, c1, c2, decide_true, Bool.and_self]
        rw [ho, Bool.true_and]
        have h4 := h0.1 c2
        have key : wz_.l1 K (fuel + 1) (((), ((), (vs, ((vs.length : Int), ((i : Int), ()))))), (z, (mp P, (dd P, ())))) = wz_.l1 K fuel (((), ((), (vs, ((vs.length : Int), (((i + 1 : Nat) : Int), ()))))), (z, (mp (P ++ (splitS (vs.getD i [])).1.map lower), (dd (P ++ (splitS (vs.getD i [])).1.map lower), ())))) := by
          simp only [wz_.l1, wz_.t1, za', zb', zc', zd', ze', zf', zg', zh', zi', zj', zk', zl', zm', zn', zo', zp', zq', zr', zs', zt', hh, hs, c1]
          rw [show ((0 : Nat) : Int) = 0 from rfl] at h4
          rw [h4]
          simp only [za', zb', zc', zd', ze', zf', zg', zh', zi', zj', zk', zl', zm', zn', zo', zp', zq', zr', zs', zt', w1]
        rw [key]
        exact hN
    · have ho : goodV (vs.getD i []) = false := by simp only [goodV, c1, decide_false, Bool.false_and]
      rw [ho, Bool.false_and]
      refine ⟨fun h => (by cases h), fun _ => ⟨mp P, dd P, ?_⟩⟩
      simp only [wz_.l1, wz_.t1, za', zb', zc', zd', ze', zf', zg', zh', zi', zj', zk', zl', zm', zn', zo', zp', zq', zr', zs', zt', hh, hs, c1]
def hV : List UInt8 := [86, 97, 114, 121]
def namesV (vs : List (List UInt8)) : List (List UInt8) × Bool × Unit := if vs.all goodV then (ord (toks vs), true, ()) else ([], false, ())
def namesO (l : List Fld) : List (List UInt8) × Bool × Unit := namesV (allOf l hV)
theorem wgf {m : Nat} : ∀ (vs : List (List UInt8)), (∀ v ∈ vs, v.length ≤ m) → (toks vs).length ≤ vs.length * (m + 1) := by
  intro vs
  induction vs with
  | nil => intro _; simp [toks]
  | cons v vs ih =>
    intro h
    have h1 := ih fun x hx => h x (List.mem_cons_of_mem _ hx)
    have h2 := h v (by simp)
    have h3 := wdd v
    have e : toks (v :: vs) = (splitS v).1.map lower ++ toks vs := by simp [toks]
    rw [e, List.length_append, List.length_map, List.length_cons, Nat.succ_mul]
    omega
theorem wex {K : Nat} {l : List Fld} (h : sized l) (hK : 1000000 + 100 ≤ K) : wz_ K l = some (namesO l) := by
  have hlen := h.1
  have h3 := wdw l hV
  have hb : ∀ v ∈ allOf l hV, v.length ≤ 99999 := wdj fun f hf => by have := (h.2 f hf).2; omega
  have hA : wQ_ K l [86, 97, 114, 121] = some (allOf l hV) := wc5 h.1 (fun f hf => by have := (h.2 f hf).1; omega) (name := hV) (by decide) (by omega)
  have h1 := wgy (K := K) [] (allOf l hV) (fun v hv => by have := hb v hv; omega) (by omega) hK (allOf l hV).length 0 K [] (by omega) (by omega) (by simp; omega)
  rw [List.drop_zero] at h1
  simp only [wz_, wz_.tr, hA, za', zb', zc', zd', ze', zf', zg', zh', zi', zj', zk', zl', zm', zn', zo', zp', zq', zr', zs', zt']
  change Option.bind (wz_.l1 K K (((), ((), (allOf l hV, (((allOf l hV).length : Int), (((0 : Nat) : Int), ()))))), ([], (mp [], (dd [], ()))))) _ = _
  have h6 := wgf (allOf l hV) hb
  cases c : (allOf l hV).all goodV with
  | false =>
    obtain ⟨m, n, h4⟩ := h1.2 c
    rw [h4]
    simp only [za', zb', zc', zd', ze', zf', zg', zh', zi', zj', zk', zl', zm', zn', zo', zp', zq', zr', zs', zt', namesO, namesV, c]
  | true =>
    rw [h1.1 c]
    have h5 : sortS K (dd (toks (allOf l hV))) = some (ord (toks (allOf l hV))) := by
      have h7 := wgC (toks (allOf l hV))
      have : (dd (toks (allOf l hV))).length < 4611686018427387904 := by omega
      simp only [sortS, sortF, this, za', zb', zc', zd', ze', zf', zg', zh', zi', zj', zk', zl', zm', zn', zo', zp', zq', zr', zs', zt']
      rfl
    simp only [za', zb', zc', zd', ze', zf', zg', zh', zi', zj', zk', zl', zm', zn', zo', zp', zq', zr', zs', zt', List.nil_append, h5, namesO, namesV, c]
/-! Blanks. -/
/-! Picks. -/
end Go.Proofs.X
