import Derived.Test.YtjdbjdgobhjbkaaHp
/-! the field of 256 elements: plain laws -/
namespace Go.HL
/-- twice an element -/
def xt (b : UInt8) : UInt8 := if b < 128 then b <<< 1 else (b <<< 1) ^^^ 0x1D
theorem fin_all {p : UInt8 → Prop} (h : ∀ n : Fin 256, p (UInt8.ofNat n.1)) (b : UInt8) : p b := by
  have := h ⟨b.toNat, b.toNat_lt⟩
  simpa using this
def hi1 (u : UInt8) : UInt8 := if u = 0 then 0 else 0x1D
theorem xt_eq (b : UInt8) : xt b = (b <<< 1) ^^^ hi1 (b >>> 7) ∧ (b >>> 7 = 0 ∨ b >>> 7 = 1) :=
  fin_all (p := fun b => xt b = (b <<< 1) ^^^ hi1 (b >>> 7) ∧ (b >>> 7 = 0 ∨ b >>> 7 = 1)) (by decide +kernel) b
theorem hi1_xor {u v : UInt8} (hu : u = 0 ∨ u = 1) (hv : v = 0 ∨ v = 1) : hi1 (u ^^^ v) = hi1 u ^^^ hi1 v := by
  rcases hu with rfl | rfl <;> rcases hv with rfl | rfl <;> decide
theorem xor4 (a b c d : UInt8) : (a ^^^ b) ^^^ (c ^^^ d) = (a ^^^ c) ^^^ (b ^^^ d) := by
  rw [UInt8.xor_assoc, ← UInt8.xor_assoc b, UInt8.xor_comm b c, UInt8.xor_assoc c, ← UInt8.xor_assoc]
theorem xt_xor (b c : UInt8) : xt (b ^^^ c) = xt b ^^^ xt c := by
  have hs : (b ^^^ c) <<< 1 = b <<< 1 ^^^ c <<< 1 := by
    apply UInt8.toBitVec_inj.1
    simp [BitVec.shiftLeft_xor_distrib]
  have hr : (b ^^^ c) >>> 7 = b >>> 7 ^^^ c >>> 7 := by
    apply UInt8.toBitVec_inj.1
    simp [BitVec.ushiftRight_xor_distrib]
  rw [(xt_eq b).1, (xt_eq c).1, (xt_eq (b ^^^ c)).1, hs, hr, hi1_xor (xt_eq b).2 (xt_eq c).2, xor4]
def xtN : Nat → UInt8 → UInt8
  | 0, b => b
  | k + 1, b => xt (xtN k b)
theorem xtN_xor (k : Nat) (b c : UInt8) : xtN k (b ^^^ c) = xtN k b ^^^ xtN k c := by
  induction k with
  | zero => rfl
  | succ k ih => rw [xtN, ih, xt_xor]; rfl
def EXP : List UInt8 := [1, 2, 4, 8, 16, 32, 64, 128, 29, 58, 116, 232, 205, 135, 19, 38, 76, 152, 45, 90, 180, 117, 234, 201, 143, 3, 6, 12, 24, 48, 96, 192, 157, 39, 78, 156, 37, 74, 148, 53, 106, 212, 181, 119, 238, 193, 159, 35, 70, 140, 5, 10, 20, 40, 80, 160, 93, 186, 105, 210, 185, 111, 222, 161, 95, 190, 97, 194, 153, 47, 94, 188, 101, 202, 137, 15, 30, 60, 120, 240, 253, 231, 211, 187, 107, 214, 177, 127, 254, 225, 223, 163, 91, 182, 113, 226, 217, 175, 67, 134, 17, 34, 68, 136, 13, 26, 52, 104, 208, 189, 103, 206, 129, 31, 62, 124, 248, 237, 199, 147, 59, 118, 236, 197, 151, 51, 102, 204, 133, 23, 46, 92, 184, 109, 218, 169, 79, 158, 33, 66, 132, 21, 42, 84, 168, 77, 154, 41, 82, 164, 85, 170, 73, 146, 57, 114, 228, 213, 183, 115, 230, 209, 191, 99, 198, 145, 63, 126, 252, 229, 215, 179, 123, 246, 241, 255, 227, 219, 171, 75, 150, 49, 98, 196, 149, 55, 110, 220, 165, 87, 174, 65, 130, 25, 50, 100, 200, 141, 7, 14, 28, 56, 112, 224, 221, 167, 83, 166, 81, 162, 89, 178, 121, 242, 249, 239, 195, 155, 43, 86, 172, 69, 138, 9, 18, 36, 72, 144, 61, 122, 244, 245, 247, 243, 251, 235, 203, 139, 11, 22, 44, 88, 176, 125, 250, 233, 207, 131, 27, 54, 108, 216, 173, 71, 142, 1, 2, 4, 8, 16, 32, 64, 128, 29, 58, 116, 232, 205, 135, 19, 38, 76, 152, 45, 90, 180, 117, 234, 201, 143, 3, 6, 12, 24, 48, 96, 192, 157, 39, 78, 156, 37, 74, 148, 53, 106, 212, 181, 119, 238, 193, 159, 35, 70, 140, 5, 10, 20, 40, 80, 160, 93, 186, 105, 210, 185, 111, 222, 161, 95, 190, 97, 194, 153, 47, 94, 188, 101, 202, 137, 15, 30, 60, 120, 240, 253, 231, 211, 187, 107, 214, 177, 127, 254, 225, 223, 163, 91, 182, 113, 226, 217, 175, 67, 134, 17, 34, 68, 136, 13, 26, 52, 104, 208, 189, 103, 206, 129, 31, 62, 124, 248, 237, 199, 147, 59, 118, 236, 197, 151, 51, 102, 204, 133, 23, 46, 92, 184, 109, 218, 169, 79, 158, 33, 66, 132, 21, 42, 84, 168, 77, 154, 41, 82, 164, 85, 170, 73, 146, 57, 114, 228, 213, 183, 115, 230, 209, 191, 99, 198, 145, 63, 126, 252, 229, 215, 179, 123, 246, 241, 255, 227, 219, 171, 75, 150, 49, 98, 196, 149, 55, 110, 220, 165, 87, 174, 65, 130, 25, 50, 100, 200, 141, 7, 14, 28, 56, 112, 224, 221, 167, 83, 166, 81, 162, 89, 178, 121, 242, 249, 239, 195, 155, 43, 86, 172, 69, 138, 9, 18, 36, 72, 144, 61, 122, 244, 245, 247, 243, 251, 235, 203, 139, 11, 22, 44, 88, 176, 125, 250, 233, 207, 131, 27, 54, 108, 216, 173, 71, 142]
def LOG : List Nat := [0, 0, 1, 25, 2, 50, 26, 198, 3, 223, 51, 238, 27, 104, 199, 75, 4, 100, 224, 14, 52, 141, 239, 129, 28, 193, 105, 248, 200, 8, 76, 113, 5, 138, 101, 47, 225, 36, 15, 33, 53, 147, 142, 218, 240, 18, 130, 69, 29, 181, 194, 125, 106, 39, 249, 185, 201, 154, 9, 120, 77, 228, 114, 166, 6, 191, 139, 98, 102, 221, 48, 253, 226, 152, 37, 179, 16, 145, 34, 136, 54, 208, 148, 206, 143, 150, 219, 189, 241, 210, 19, 92, 131, 56, 70, 64, 30, 66, 182, 163, 195, 72, 126, 110, 107, 58, 40, 84, 250, 133, 186, 61, 202, 94, 155, 159, 10, 21, 121, 43, 78, 212, 229, 172, 115, 243, 167, 87, 7, 112, 192, 247, 140, 128, 99, 13, 103, 74, 222, 237, 49, 197, 254, 24, 227, 165, 153, 119, 38, 184, 180, 124, 17, 68, 146, 217, 35, 32, 137, 46, 55, 63, 209, 91, 149, 188, 207, 205, 144, 135, 151, 178, 220, 252, 190, 97, 242, 86, 211, 171, 20, 42, 93, 158, 132, 60, 57, 83, 71, 109, 65, 162, 31, 45, 67, 216, 183, 123, 164, 118, 196, 23, 73, 236, 127, 12, 111, 246, 108, 161, 59, 82, 41, 157, 85, 170, 251, 96, 134, 177, 187, 204, 62, 90, 203, 89, 95, 176, 156, 169, 160, 81, 11, 245, 22, 235, 122, 117, 44, 215, 79, 174, 213, 233, 230, 231, 173, 232, 116, 214, 244, 234, 168, 80, 88, 175]
def E (i : Nat) : UInt8 := EXP.getD i 0
def L (a : UInt8) : Nat := LOG.getD a.toNat 0
set_option maxRecDepth 100000 in
theorem E_zero : E 0 = 1 := by decide +kernel
set_option maxRecDepth 100000 in
theorem E_next : ∀ i : Fin 255, E ((i.1 + 1) % 255) = xt (E i.1) ∧ E (i.1 + 255) = E i.1 ∧ E i.1 ≠ 0 ∧ L (E i.1) = i.1 := by decide +kernel
set_option maxRecDepth 100000 in
theorem L_all : ∀ n : Fin 256, L (UInt8.ofNat n.1) < 255 ∧ (n.1 = 0 ∨ E (L (UInt8.ofNat n.1)) = UInt8.ofNat n.1) := by decide +kernel
theorem L_lt (a : UInt8) : L a < 255 := fin_all (p := fun a => L a < 255) (fun n => (L_all n).1) a
theorem E_L {a : UInt8} (h : a ≠ 0) : E (L a) = a := by
  have := (L_all ⟨a.toNat, a.toNat_lt⟩).2
  simp at this
  rcases this with h1 | h1
  · exact absurd (UInt8.toNat_inj.1 (by simpa using h1)) h
  · exact h1
theorem E_mod {i : Nat} (h : i < 510) : E i = E (i % 255) := by
  rcases Nat.lt_or_ge i 255 with h1 | h1
  · rw [Nat.mod_eq_of_lt h1]
  · have e : i % 255 = i - 255 := by omega
    have h2 : E (i - 255 + 255) = E (i - 255) := (E_next ⟨i - 255, by omega⟩).2.1
    rw [e, ← h2, show i - 255 + 255 = i from by omega]
/-- the powers of 2, of any exponent -/
def G (i : Nat) : UInt8 := E (i % 255)
theorem G_zero : G 0 = 1 := E_zero
theorem G_next (i : Nat) : G (i + 1) = xt (G i) := by
  have h2 : E ((i % 255 + 1) % 255) = xt (E (i % 255)) := (E_next ⟨i % 255, Nat.mod_lt _ (by decide)⟩).1
  rw [G, G, ← h2, show (i % 255 + 1) % 255 = (i + 1) % 255 from by omega]
theorem G_ne (i : Nat) : G i ≠ 0 := (E_next ⟨i % 255, Nat.mod_lt _ (by decide)⟩).2.2.1
theorem L_G (i : Nat) : L (G i) = i % 255 := (E_next ⟨i % 255, Nat.mod_lt _ (by decide)⟩).2.2.2
theorem G_L {a : UInt8} (h : a ≠ 0) : G (L a) = a := by rw [G, Nat.mod_eq_of_lt (L_lt a), E_L h]
theorem G_mod (i : Nat) : G (i % 255) = G i := by rw [G, Nat.mod_mod]; rfl
theorem xtN_G (k i : Nat) : xtN k (G i) = G (i + k) := by
  induction k with
  | zero => rfl
  | succ k ih => rw [xtN, ih, ← Nat.add_assoc, G_next]
theorem xtN_zero (k : Nat) : xtN k 0 = 0 := by
  induction k with
  | zero => rfl
  | succ k ih => rw [xtN, ih]; rfl
/-- the product, as the program reckons it -/
def mul (a b : UInt8) : UInt8 := if a = 0 ∨ b = 0 then 0 else E (L a + L b)
theorem mul_G {a b : UInt8} (ha : a ≠ 0) (hb : b ≠ 0) : mul a b = G (L a + L b) := by
  rw [mul, if_neg (by simp [ha, hb]), E_mod (by have := L_lt a; have := L_lt b; omega)]
  rfl
theorem mul_xt {a : UInt8} (ha : a ≠ 0) (b : UInt8) : mul a b = xtN (L a) b := by
  by_cases hb : b = 0
  · rw [mul, if_pos (.inr hb), hb, xtN_zero]
  · rw [mul_G ha hb, ← G_L hb, xtN_G, L_G, Nat.mod_eq_of_lt (L_lt b), Nat.add_comm]
theorem mul_zero_l (b : UInt8) : mul 0 b = 0 := by rw [mul, if_pos (.inl rfl)]
theorem mul_zero_r (b : UInt8) : mul b 0 = 0 := by rw [mul, if_pos (.inr rfl)]
theorem mul_comm (a b : UInt8) : mul a b = mul b a := by
  rw [mul, mul, Nat.add_comm]
  by_cases h : a = 0 ∨ b = 0
  · rw [if_pos h, if_pos h.symm]
  · rw [if_neg h, if_neg (fun k => h k.symm)]
theorem mul_ne {a b : UInt8} (ha : a ≠ 0) (hb : b ≠ 0) : mul a b ≠ 0 := by rw [mul_G ha hb]; exact G_ne _
theorem L_mul {a b : UInt8} (ha : a ≠ 0) (hb : b ≠ 0) : L (mul a b) = (L a + L b) % 255 := by rw [mul_G ha hb, L_G]
theorem mul_assoc (a b c : UInt8) : mul a (mul b c) = mul (mul a b) c := by
  by_cases ha : a = 0
  · subst ha; rw [mul_zero_l, mul_zero_l, mul_zero_l]
  by_cases hb : b = 0
  · subst hb; rw [mul_zero_l, mul_zero_r, mul_zero_l]
  by_cases hc : c = 0
  · subst hc; rw [mul_zero_r, mul_zero_r, mul_zero_r]
  rw [mul_G ha (mul_ne hb hc), mul_G (mul_ne ha hb) hc, L_mul hb hc, L_mul ha hb, ← G_mod, ← G_mod ((L a + L b) % 255 + L c), show (L a + (L b + L c) % 255) % 255 = ((L a + L b) % 255 + L c) % 255 from by omega]
theorem mul_xor (a b c : UInt8) : mul a (b ^^^ c) = mul a b ^^^ mul a c := by
  by_cases ha : a = 0
  · subst ha; rw [mul_zero_l, mul_zero_l, mul_zero_l]; rfl
  · rw [mul_xt ha, mul_xt ha, mul_xt ha, xtN_xor]
theorem mul_one (a : UInt8) : mul a 1 = a := by
  by_cases ha : a = 0
  · subst ha; rw [mul_zero_l]
  · rw [mul_G ha (by decide), ← G_zero, L_G, show 0 % 255 = 0 from rfl, Nat.add_zero, G_L ha]
/-- the inverse, as the program reckons it -/
def inv (a : UInt8) : UInt8 := if a = 0 then 0 else E (255 - L a)
theorem mul_inv {a : UInt8} (ha : a ≠ 0) : mul a (inv a) = 1 := by
  have hl := L_lt a
  have e : inv a = G (255 - L a) := by rw [inv, if_neg ha, E_mod (by omega)]; rfl
  rw [e, mul_G ha (G_ne _), L_G, ← G_mod, ← G_zero, ← G_mod 0, show (L a + (255 - L a) % 255) % 255 = 0 % 255 from by omega]
theorem mul_self_xor (a b : UInt8) : mul (a ^^^ b) (a ^^^ b) = mul a a ^^^ mul b b := by
  rw [mul_xor, mul_comm (a ^^^ b) a, mul_comm (a ^^^ b) b, mul_xor, mul_xor, mul_comm b a]
  have : ∀ x y z : UInt8, (x ^^^ y) ^^^ (y ^^^ z) = x ^^^ z := fun x y z => by rw [UInt8.xor_assoc, ← UInt8.xor_assoc y y z, UInt8.xor_self, UInt8.zero_xor]
  rw [this]
end Go.HL
