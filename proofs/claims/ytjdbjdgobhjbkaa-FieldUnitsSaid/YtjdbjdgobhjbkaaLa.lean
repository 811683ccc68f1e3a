import Derived.Test.YtjdbjdgobhjbkaaFa
/-! plain: linear equations over the field -/
namespace Go.HL
theorem xor_self' (a : UInt8) : a ^^^ a = 0 := UInt8.xor_self
theorem xor_zero' (a : UInt8) : a ^^^ 0 = a := UInt8.xor_zero
theorem zero_xor' (a : UInt8) : 0 ^^^ a = a := UInt8.zero_xor
theorem xor_eq_zero {a b : UInt8} : a ^^^ b = 0 ↔ a = b := by
  constructor
  · intro h
    have : a ^^^ b ^^^ b = 0 ^^^ b := by rw [h]
    rwa [UInt8.xor_assoc, xor_self', xor_zero', zero_xor'] at this
  · rintro rfl; exact xor_self' a
theorem xor_mul (a b c : UInt8) : mul (a ^^^ b) c = mul a c ^^^ mul b c := by rw [mul_comm, mul_xor, mul_comm c a, mul_comm c b]
theorem one_mul' (a : UInt8) : mul 1 a = a := by rw [mul_comm, mul_one]
theorem mul_eq_zero {a b : UInt8} : mul a b = 0 ↔ a = 0 ∨ b = 0 := by
  constructor
  · intro h
    by_cases ha : a = 0
    · exact .inl ha
    · by_cases hb : b = 0
      · exact .inr hb
      · exact absurd h (mul_ne ha hb)
  · rintro (rfl | rfl)
    · exact mul_zero_l b
    · exact mul_zero_r a
def sumF : Nat → (Nat → UInt8) → UInt8
  | 0, _ => 0
  | n + 1, f => sumF n f ^^^ f n
theorem sumF_cong {n : Nat} {f g : Nat → UInt8} (h : ∀ i, i < n → f i = g i) : sumF n f = sumF n g := by
  induction n with
  | zero => rfl
  | succ n ih => rw [sumF, sumF, ih (fun i hi => h i (by omega)), h n (by omega)]
theorem sumF_zero {n : Nat} {f : Nat → UInt8} (h : ∀ i, i < n → f i = 0) : sumF n f = 0 := by
  induction n with
  | zero => rfl
  | succ n ih => rw [sumF, ih (fun i hi => h i (by omega)), h n (by omega)]; rfl
theorem sumF_xor (n : Nat) (f g : Nat → UInt8) : sumF n (fun i => f i ^^^ g i) = sumF n f ^^^ sumF n g := by
  induction n with
  | zero => show (0 : UInt8) = 0 ^^^ 0; decide
  | succ n ih => rw [sumF, sumF, sumF, ih, xor4]
theorem sumF_mul (n : Nat) (c : UInt8) (f : Nat → UInt8) : sumF n (fun i => mul c (f i)) = mul c (sumF n f) := by
  induction n with
  | zero => exact (mul_zero_r c).symm
  | succ n ih => rw [sumF, sumF, ih, mul_xor]
theorem sumF_single {n k : Nat} (hk : k < n) {f : Nat → UInt8} (h : ∀ i, i < n → i ≠ k → f i = 0) : sumF n f = f k := by
  induction n with
  | zero => omega
  | succ n ih =>
    rw [sumF]
    by_cases e : k = n
    · subst e
      rw [sumF_zero (fun i hi => h i (by omega) (by omega)), zero_xor']
    · rw [ih (by omega) (fun i hi hne => h i (by omega) hne), h n (by omega) (fun e2 => e e2.symm), xor_zero']
theorem sumF_front (n : Nat) (f : Nat → UInt8) : sumF (n + 1) f = f 0 ^^^ sumF n (fun i => f (i + 1)) := by
  induction n with
  | zero => rw [sumF, sumF, sumF, UInt8.xor_comm]
  | succ n ih => rw [sumF, ih, sumF, UInt8.xor_assoc]
theorem sumF_two {n a b : Nat} (ha : a < n) (hb : b < n) (hab : a ≠ b) {f : Nat → UInt8} (h : ∀ i, i < n → i ≠ a → i ≠ b → f i = 0) : sumF n f = f a ^^^ f b := by
  have e : sumF n f = sumF n (fun i => (if i = a then f a else 0) ^^^ (if i = b then f b else 0)) := sumF_cong (fun i hi => by
    by_cases h1 : i = a
    · subst h1; rw [if_pos rfl, if_neg hab, xor_zero']
    · by_cases h2 : i = b
      · subst h2; rw [if_neg h1, if_pos rfl, zero_xor']
      · rw [if_neg h1, if_neg h2, h i hi h1 h2]; rfl)
  rw [e, sumF_xor, sumF_single ha (fun i _ hne => if_neg hne), sumF_single hb (fun i _ hne => if_neg hne), if_pos rfl, if_pos rfl]
theorem sumF_swap (n m : Nat) (f : Nat → Nat → UInt8) : sumF n (fun i => sumF m (fun j => f i j)) = sumF m (fun j => sumF n (fun i => f i j)) := by
  induction n with
  | zero => exact (sumF_zero (fun _ _ => rfl)).symm
  | succ n ih =>
    rw [sumF, ih, ← sumF_xor]
    rfl
/-- what a matrix sends to 0 -/
def Ker (n c : Nat) (m : Nat → Nat → UInt8) (y : Nat → UInt8) : Prop := ∀ i, i < n → sumF c (fun j => mul (m i j) (y j)) = 0
structure GE (n : Nat) (R m : Nat → Nat → UInt8) (k : Nat) : Prop where
  ker : ∀ y, Ker n (n + 1) R y ↔ Ker n (n + 1) m y
  unit : ∀ j, j < k → ∀ i, i < n → m i j = if i = j then 1 else 0
section
variable {n k : Nat} {R m m' : Nat → Nat → UInt8}
theorem GE.start (n : Nat) (R : Nat → Nat → UInt8) : GE n R R 0 := ⟨fun _ => Iff.rfl, fun j hj => absurd hj (Nat.not_lt_zero j)⟩
theorem GE.swap (h : GE n R m k) {a b : Nat} (ha : k ≤ a ∧ a < n) (hb : k ≤ b ∧ b < n) (hm : ∀ i j, i < n → m' i j = m (if i = a then b else if i = b then a else i) j) : GE n R m' k := by
  have hlt : ∀ i, i < n → (if i = a then b else if i = b then a else i) < n := fun i hi => by split; exact hb.2; split; exact ha.2; exact hi
  refine ⟨fun y => (h.ker y).trans ⟨fun hK i hi => ?_, fun hK i hi => ?_⟩, fun j hj i hi => ?_⟩
  · have := hK _ (hlt i hi)
    rw [← this]
    exact sumF_cong (fun j _ => by rw [hm i j hi])
  · have := hK _ (hlt i hi)
    rw [← this]
    refine sumF_cong (fun j _ => ?_)
    rw [hm _ j (hlt i hi)]
    congr 2
    by_cases e1 : i = a
    · rw [if_pos e1]
      by_cases e3 : b = a
      · rw [if_pos e3]; omega
      · rw [if_neg e3, if_pos rfl]; omega
    · rw [if_neg e1]
      by_cases e2 : i = b
      · rw [if_pos e2, if_pos rfl]; omega
      · rw [if_neg e2, if_neg e1, if_neg e2]
  · rw [hm i j hi, h.unit j hj _ (hlt i hi)]
    by_cases e1 : i = a
    · rw [if_pos e1, if_neg (by omega), if_neg (by omega)]
    · rw [if_neg e1]
      by_cases e2 : i = b
      · rw [if_pos e2, if_neg (by omega), if_neg (by omega)]
      · rw [if_neg e2]
theorem GE.scale (h : GE n R m k) {s : UInt8} (hs : s ≠ 0) (hk : k < n) (hm : ∀ i j, i < n → m' i j = if i = k then mul (m i j) s else m i j) : GE n R m' k := by
  have key : ∀ i, i < n → ∀ y : Nat → UInt8, sumF (n + 1) (fun j => mul (m' i j) (y j)) = mul (if i = k then s else 1) (sumF (n + 1) (fun j => mul (m i j) (y j))) := fun i hi y => by
    rw [← sumF_mul]
    refine sumF_cong (fun j _ => ?_)
    rw [hm i j hi]
    by_cases e : i = k
    · rw [if_pos e, if_pos e, mul_comm (m i j) s, mul_assoc]
    · rw [if_neg e, if_neg e, one_mul']
  refine ⟨fun y => (h.ker y).trans ⟨fun hK i hi => ?_, fun hK i hi => ?_⟩, fun j hj i hi => ?_⟩
  · rw [key i hi, hK i hi, mul_zero_r]
  · have h1 := hK i hi
    rw [key i hi, mul_eq_zero] at h1
    rcases h1 with h1 | h1
    · split at h1
      · exact absurd h1 hs
      · exact absurd h1 (by decide)
    · exact h1
  · rw [hm i j hi, h.unit j hj i hi]
    by_cases e : i = k
    · rw [if_pos e, if_neg (by omega), mul_zero_l]
    · rw [if_neg e]
theorem GE.add (h : GE n R m k) {a : Nat} (ha : a < n ∧ a ≠ k) (hk : k < n) (b : UInt8) (hm : ∀ i j, i < n → m' i j = if i = a then m i j ^^^ mul (m k j) b else m i j) : GE n R m' k := by
  have key : ∀ y : Nat → UInt8, sumF (n + 1) (fun j => mul (m' a j) (y j)) = sumF (n + 1) (fun j => mul (m a j) (y j)) ^^^ mul b (sumF (n + 1) (fun j => mul (m k j) (y j))) := fun y => by
    rw [← sumF_mul, ← sumF_xor]
    refine sumF_cong (fun j _ => ?_)
    rw [hm a j ha.1, if_pos rfl, xor_mul, mul_comm (m k j) b, mul_assoc]
  have same : ∀ i, i < n → i ≠ a → ∀ y : Nat → UInt8, sumF (n + 1) (fun j => mul (m' i j) (y j)) = sumF (n + 1) (fun j => mul (m i j) (y j)) := fun i hi hne y => sumF_cong (fun j _ => by rw [hm i j hi, if_neg hne])
  refine ⟨fun y => (h.ker y).trans ⟨fun hK i hi => ?_, fun hK i hi => ?_⟩, fun j hj i hi => ?_⟩
  · by_cases e : i = a
    · subst e; rw [key, hK i hi, hK k hk, mul_zero_r]; rfl
    · rw [same i hi e]; exact hK i hi
  · by_cases e : i = a
    · subst e
      have h1 := hK i hi
      rw [key, ← same k hk (fun e => ha.2 e.symm), hK k hk, mul_zero_r, xor_zero'] at h1
      exact h1
    · rw [← same i hi e]; exact hK i hi
  · rw [hm i j hi, h.unit j hj i hi, h.unit j hj k hk, if_neg (show ¬ k = j by omega), mul_zero_l, xor_zero']
    split <;> rfl
theorem GE.next (h : GE n R m k) (h1 : ∀ i, i < n → m i k = if i = k then 1 else 0) : GE n R m (k + 1) := ⟨h.ker, fun j hj i hi => by
  by_cases e : j = k
  · subst e; exact h1 i hi
  · exact h.unit j (by omega) i hi⟩
/-- all columns are done: one solution -/
theorem GE.done (h : GE n R m n) (z : Nat → UInt8) : (∀ i, i < n → sumF n (fun j => mul (R i j) (z j)) = R i n) ↔ ∀ i, i < n → z i = m i n := by
  obtain ⟨y, hy⟩ : ∃ y : Nat → UInt8, y = fun j => if j < n then z j else 1 := ⟨_, rfl⟩
  have e1 : ∀ (M : Nat → Nat → UInt8) i, sumF (n + 1) (fun j => mul (M i j) (y j)) = sumF n (fun j => mul (M i j) (z j)) ^^^ M i n := fun M i => by
    rw [sumF]
    congr 1
    · exact sumF_cong (fun j hj => by rw [hy]; simp only [if_pos hj])
    · rw [hy]; simp only [Nat.lt_irrefl, if_false, mul_one]
  have e2 : ∀ i, i < n → sumF n (fun j => mul (m i j) (z j)) = z i := fun i hi => by
    rw [sumF_single hi (fun j hj hne => by rw [h.unit j hj i hi, if_neg (fun e => hne e.symm), mul_zero_l]), h.unit i hi i hi, if_pos rfl, one_mul']
  have hK := h.ker y
  constructor
  · intro hs i hi
    have h1 := hK.1 (fun i hi => by rw [e1, xor_eq_zero]; exact hs i hi) i hi
    rw [e1, xor_eq_zero, e2 i hi] at h1
    exact h1
  · intro hs i hi
    have h1 := hK.2 (fun i hi => by rw [e1, xor_eq_zero, e2 i hi]; exact hs i hi) i hi
    rw [e1, xor_eq_zero] at h1
    exact h1
/-- a column without a pivot: no solution, or many -/
theorem GE.miss (h : GE n R m k) (hk : k < n) (h0 : ∀ i, k ≤ i → i < n → m i k = 0) : ∃ y : Nat → UInt8, (∃ j, j < n ∧ y j ≠ 0) ∧ Ker n n R y := by
  obtain ⟨y, hy⟩ : ∃ y : Nat → UInt8, y = fun j => if j < k then m j k else if j = k then 1 else 0 := ⟨_, rfl⟩
  have hyk : y k = 1 := by rw [hy]; simp
  have hyl : ∀ j, j < k → y j = m j k := fun j hj => by rw [hy]; simp [hj]
  have hyg : ∀ j, k < j → y j = 0 := fun j hj => by
    rw [hy]
    show (if j < k then _ else if j = k then (1 : UInt8) else 0) = 0
    rw [if_neg (by omega), if_neg (by omega)]
  have hK := (h.ker y).2 (fun i hi => by
    by_cases hik : i < k
    · rw [sumF_two (a := i) (b := k) (by omega) (by omega) (by omega) (fun j hj h1 h2 => by
        rcases Nat.lt_or_ge j k with h3 | h3
        · rw [h.unit j h3 i hi, if_neg (fun e => h1 e.symm), mul_zero_l]
        · rw [hyg j (by omega), mul_zero_r])]
      rw [h.unit i hik i hi, if_pos rfl, one_mul', hyl i hik, hyk, mul_one, xor_self']
    · refine sumF_zero (fun j hj => ?_)
      rcases Nat.lt_or_ge j k with h3 | h3
      · rw [h.unit j h3 i hi, if_neg (by omega), mul_zero_l]
      · by_cases e : j = k
        · subst e; rw [h0 i (by omega) hi, mul_zero_l]
        · rw [hyg j (by omega), mul_zero_r])
  refine ⟨y, ⟨k, hk, by rw [hyk]; decide⟩, fun i hi => ?_⟩
  have h1 := hK i hi
  rw [sumF, hyg n (by omega), mul_zero_r, xor_zero'] at h1
  exact h1
end
/-! as lists -/
def fn (m : List (List UInt8)) (i j : Nat) : UInt8 := (m.getD i []).getD j 0
theorem fn_at {m : List (List UInt8)} {i j : Nat} {r : List UInt8} {x : UInt8} (hr : m[i]? = some r) (hx : r[j]? = some x) : fn m i j = x := by
  have e1 : m.getD i [] = r := by rw [List.getD_eq_getElem?_getD, hr]; rfl
  rw [fn, e1, List.getD_eq_getElem?_getD, hx]
  rfl
theorem fn_set {m : List (List UInt8)} {k : Nat} (hk : k < m.length) (r : List UInt8) (i j : Nat) : fn (m.set k r) i j = if i = k then r.getD j 0 else fn m i j := by
  have e1 : (m.set k r).getD i [] = if i = k then r else m.getD i [] := by
    rw [List.getD_eq_getElem?_getD, List.getElem?_set]
    by_cases e : k = i
    · subst e
      rw [if_pos rfl, if_pos hk, if_pos rfl]
      rfl
    · rw [if_neg e, if_neg (fun e2 => e e2.symm), List.getD_eq_getElem?_getD]
  rw [fn, fn, e1]
  split <;> rfl
/-- what Solve answers -/
def ShapeOk (rows : List (List UInt8)) (right : List UInt8) : Prop := (1 ≤ rows.length ∧ rows.length ≤ 8) ∧ right.length = rows.length ∧ ∀ r ∈ rows, r.length = rows.length
def SolR (rows : List (List UInt8)) (right out : List UInt8) (e : Int) : Prop :=
  (¬ ShapeOk rows right ∧ out = [] ∧ e = 1) ∨
  (ShapeOk rows right ∧ e = 0 ∧ out.length = rows.length ∧ ∀ z : Nat → UInt8, (∀ i, i < rows.length → sumF rows.length (fun j => mul (fn rows i j) (z j)) = right.getD i 0) ↔ ∀ i, i < rows.length → z i = out.getD i 0) ∨
  (ShapeOk rows right ∧ e = 7 ∧ out = [] ∧ ∃ y : Nat → UInt8, (∃ j, j < rows.length ∧ y j ≠ 0) ∧ Ker rows.length rows.length (fn rows) y)
theorem getD_ext {a b : List UInt8} (h : a.length = b.length) (k : ∀ i, i < a.length → a.getD i 0 = b.getD i 0) : a = b := by
  apply List.ext_getElem h
  intro i h1 h2
  have := k i h1
  rw [List.getD_eq_getElem?_getD, List.getD_eq_getElem?_getD, List.getElem?_eq_getElem h1, List.getElem?_eq_getElem h2] at this
  exact this
theorem ker_uniq {n : Nat} {R : Nat → Nat → UInt8} {r : Nat → UInt8} {out : Nat → UInt8} (h : ∀ z : Nat → UInt8, (∀ i, i < n → sumF n (fun j => mul (R i j) (z j)) = r i) ↔ ∀ i, i < n → z i = out i) {y : Nat → UInt8} (hK : Ker n n R y) {j : Nat} (hj : j < n) : y j = 0 := by
  have h1 := (h (fun j => out j ^^^ y j)).1 (fun i hi => by
    have h2 := (h out).2 (fun _ _ => rfl) i hi
    have h3 := hK i hi
    rw [← h2, ← xor_zero' (sumF n fun j => mul (R i j) (out j)), ← h3, ← sumF_xor]
    exact sumF_cong (fun j _ => mul_xor _ _ _)) j hj
  have h2 : out j ^^^ y j = out j := h1
  have h3 : out j ^^^ (out j ^^^ y j) = out j ^^^ out j := by rw [h2]
  rwa [← UInt8.xor_assoc, xor_self', zero_xor'] at h3
theorem SolR.uniq {rows : List (List UInt8)} {right o1 o2 : List UInt8} {e1 e2 : Int} (h : SolR rows right o1 e1) (k : SolR rows right o2 e2) : o1 = o2 ∧ e1 = e2 := by
  rcases h with ⟨h0, rfl, rfl⟩ | ⟨h0, rfl, hl, h1⟩ | ⟨h0, rfl, rfl, y, ⟨j, hj, hy⟩, hK⟩ <;> rcases k with ⟨k0, rfl, rfl⟩ | ⟨k0, rfl, kl, k1⟩ | ⟨k0, rfl, rfl, y2, ⟨j2, hj2, hy2⟩, kK⟩
  · exact ⟨rfl, rfl⟩
  · exact absurd k0 h0
  · exact absurd k0 h0
  · exact absurd h0 k0
  · refine ⟨getD_ext (hl.trans kl.symm) (fun i hi => ?_), rfl⟩
    exact (k1 (fun i => o1.getD i 0)).1 ((h1 _).2 (fun _ _ => rfl)) i (by omega)
  · exact absurd (ker_uniq h1 kK hj2) hy2
  · exact absurd h0 k0
  · exact absurd (ker_uniq k1 hK hj) hy
  · exact ⟨rfl, rfl⟩
end Go.HL
