import Derived.Test.YtbbpgbdiifmkhaaGn
import Derived.Test.YtbbpgbdiifmkhaaGp
namespace Go.HL
/-! one byte is another one -/
theorem mul_one_l (x : UInt8) : mul 1 x = x := by rw [mul_comm, mul_one]
theorem px_turn {wt : Nat → UInt8} {a b : List (List UInt8)} {k i : Nat} {x : UInt8} (h : ∀ j, j ≠ i → (b.getD j []).getD k 0 = (a.getD j []).getD k 0) (hi : (b.getD i []).getD k 0 = (a.getD i []).getD k 0 ^^^ x) :
    ∀ t, px wt b k t = if i < t then px wt a k t ^^^ mul (wt i) x else px wt a k t := by
  intro t
  induction t with
  | zero => rw [if_neg (by omega)]; rfl
  | succ t ih =>
    rw [px, px, ih]
    by_cases h1 : i = t
    · subst h1
      rw [if_neg (Nat.lt_irrefl _), if_pos (by omega), hi, mul_xor, ← UInt8.xor_assoc]
    · rw [h t (fun e => h1 e.symm)]
      by_cases h2 : i < t
      · rw [if_pos h2, if_pos (by omega), UInt8.xor_assoc, UInt8.xor_comm (mul (wt i) x), ← UInt8.xor_assoc]
      · rw [if_neg h2, if_neg (by omega)]
theorem set_getD {l : List UInt8} {k : Nat} {u : UInt8} (h : k < l.length) : (l.set k u).getD k 0 = u := by
  rw [List.getD_eq_getElem?_getD, List.getElem?_set_self h]
  rfl
theorem xor_self_zero {z x : UInt8} (h : z ^^^ x = z) : x = 0 := by
  have h1 : z ^^^ (z ^^^ x) = z ^^^ z := by rw [h]
  rw [← UInt8.xor_assoc, UInt8.xor_self, UInt8.zero_xor] at h1
  exact h1
theorem set_same {α : Type} {l : List α} {k : Nat} {z : α} (h : l[k]? = some z) : l.set k z = l := by
  apply List.ext_getElem?
  intro i
  rw [List.getElem?_set]
  split
  · rename_i e
    subst e
    rw [h]
    have := (List.getElem?_eq_some_iff.1 h).1
    simp [this]
  · rfl
/-- columns and their parities, a byte of them turned: they fit no longer, unless it is the same byte -/
theorem turned {cols : List (List UInt8)} {n i k : Nat} {row : List UInt8} {z x : UInt8} (hall : ∀ d ∈ cols, d.length = n) (hpos : 0 < cols.length) (hr : (cols ++ three cols n cols.length)[i]? = some row) (hz : row[k]? = some z) (hk : k < n) :
    three (((cols ++ three cols n cols.length).set i (row.set k (z ^^^ x))).take cols.length) n cols.length = ((cols ++ three cols n cols.length).set i (row.set k (z ^^^ x))).drop cols.length ↔ x = 0 := by
  constructor
  · intro he
    rcases Nat.lt_or_ge i cols.length with hi | hi
    · rw [List.set_append_left _ _ hi, List.take_left' (by rw [List.length_set]), List.drop_left' (by rw [List.length_set])] at he
      rw [List.getElem?_append_left hi] at hr
      have hrl : row.length = n := hall row (List.mem_of_getElem? hr)
      have h0 : prow (wtq 0) (cols.set i (row.set k (z ^^^ x))) n cols.length = prow (wtq 0) cols n cols.length := by
        have h1 := congrArg (fun l : List (List UInt8) => l[0]?) he
        simp only [three, List.getElem?_cons_zero] at h1
        injection h1
      have hall2 : ∀ d ∈ cols.set i (row.set k (z ^^^ x)), d.length = n := by
        intro d hd
        rcases List.mem_or_eq_of_mem_set hd with h1 | h1
        · exact hall d h1
        · rw [h1, List.length_set, hrl]
      have e1 := prow_at (wt := wtq 0) hall2 hk (i := cols.length) (by rw [List.length_set]; exact Nat.le_refl _)
      have e2 := prow_at (wt := wtq 0) hall hk (i := cols.length) (Nat.le_refl _)
      rw [h0, e2] at e1
      injection e1 with e1
      have hg : ∀ j, j ≠ i → ((cols.set i (row.set k (z ^^^ x))).getD j []).getD k 0 = (cols.getD j []).getD k 0 := by
        intro j hj
        rw [List.getD_eq_getElem?_getD (l := cols.set i (row.set k (z ^^^ x))), List.getElem?_set_ne (fun e => hj e.symm), ← List.getD_eq_getElem?_getD]
      have hgi : ((cols.set i (row.set k (z ^^^ x))).getD i []).getD k 0 = (cols.getD i []).getD k 0 ^^^ x := by
        have a1 : (cols.set i (row.set k (z ^^^ x))).getD i [] = row.set k (z ^^^ x) := by rw [List.getD_eq_getElem?_getD, List.getElem?_set_self hi]; rfl
        have a2 : cols.getD i [] = row := by rw [List.getD_eq_getElem?_getD, hr]; rfl
        have a3 : row.getD k 0 = z := by rw [List.getD_eq_getElem?_getD, hz]; rfl
        rw [a1, a2, a3, set_getD (by omega)]
      rw [px_turn hg hgi, if_pos hi, show wtq 0 i = 1 from rfl, mul_one_l] at e1
      exact xor_self_zero e1.symm
    · rw [List.set_append_right _ _ hi, List.take_left, List.drop_left] at he
      rw [List.getElem?_append_right hi] at hr
      have h1 : (three cols n cols.length)[i - cols.length]? = ((three cols n cols.length).set (i - cols.length) (row.set k (z ^^^ x)))[i - cols.length]? := by rw [← he]
      rw [List.getElem?_set_self (List.getElem?_eq_some_iff.1 hr).1, hr] at h1
      injection h1 with h1
      have h2 : row[k]? = (row.set k (z ^^^ x))[k]? := by rw [← h1]
      rw [List.getElem?_set_self (List.getElem?_eq_some_iff.1 hz).1, hz] at h2
      injection h2 with h2
      exact xor_self_zero h2.symm
  · intro hx
    subst hx
    rw [UInt8.xor_zero, set_same hz, set_same hr, List.take_left, List.drop_left]
end Go.HL
