import Derived.Lib.AppendZeros
import Derived.Laws.ResultCell
import Derived.Test.YtjdbjdgobhjbkaaProg
import Derived.Tactics
import Derived.Tactics2
import Derived.Defers
import Derived.Laws.Pointers
import Derived.Laws.LoneSync
import Derived.RegionTactic
import Derived.RegionCalls
import Derived.ChangeAlike
import Derived.Test.YtjdbjdgobhjbkaaQFieldApart2
namespace Go.HL
open Go.RowKit
/-! what follows a piece of code is shown once; other ways out of it go on by themselves -/
def CutG {σ : Type} (Q : Exit → Act → World → Prop) (N : Nat) (Ef : σ → Env) (I : σ → World → Prop) : Exit → Act → World → Prop := fun x a w => (x = .normal ∧ ∃ s, Holds N (Ef s) a ∧ I s w) ∨ Q x a w
section
variable {P : Program} {Q : Exit → Act → World → Prop} {N : Nat} {E : Env} {w : World} {σ : Type} {Ef : σ → Env} {I : σ → World → Prop} {c : Code}
theorem WC.cutG (Ef : σ → Env) (I : σ → World → Prop) (htail : ∀ s w', I s w' → WX Q .normal N (Ef s) w') (hbody : WC P c (CutG Q N Ef I) N E w) : WC P c Q N E w := fun a ha => by
  refine Code.wp_mono ?_ (hbody a ha)
  rintro x a' w' (⟨rfl, s, hs, hI⟩ | h)
  · exact htail s w' hI a' hs
  · exact h
theorem WX.cutN (s : σ) (hs : Sub (Ef s) E) (hI : I s w) : WX (CutG Q N Ef I) .normal N E w := fun _ ha => .inl ⟨rfl, s, ha.sub hs, hI⟩
theorem WX.pass {x : Exit} (h : WX Q x N E w) : WX (CutG Q N Ef I) x N E w := fun a ha => .inr (h a ha)
end
/-- a row of the call's own, where another one has grown -/
def ApG (x y : Option Addr) : Prop := ∀ a b, x = some a → y = some b → a.block ≠ b.block
theorem ApG.symm {x y : Option Addr} (h : ApG x y) : ApG y x := fun a b ha hb e => h b a hb ha e.symm
theorem ApG.none (x : Option Addr) : ApG x none := fun _ _ _ h => by cases h
theorem ApG.eqb {a b : Option Addr} {x : Nat} (h : ApG a b) (h1 : Eqb a x) (h2 : Eqb b x) : False := by
  obtain ⟨p, rfl, e1⟩ := h1
  obtain ⟨q, rfl, e2⟩ := h2
  exact h p q rfl rfl (e1.symm.trans e2)
theorem ApG.grow {S' : Nat → Prop} {w w' : World} {a b b' : Option Addr} (h : ApG a b) (ha : At (· < w.heap.size) a) (g : Grow S' w b w' b') : ApG a b' := by
  rcases g.fr with e | e
  · rw [e]; exact h
  · intro p q hp hq e2
    have h1 := ha p hp
    have h2 := e q hq
    omega
theorem Row.otherG {α : Type} {e : Enc α} {S S' : Nat → Prop} {w w' : World} {T : TypeId} {c : Nat} {xs : List α} {a b b' : Option Addr} (h : Row S w T e a c xs) (hA : ApG a b) (g : Grow S' w b w' b') : Row S w' T e a c xs := by
  have h1 : Row (fun x => S x ∧ Eqb a x) w T e a c xs := ⟨fun p hp => ⟨h.at_ p hp, p, hp, rfl⟩, h.own⟩
  exact (h1.chg g.chg (fun x _ h2 h3 => hA.eqb h2.2 h3.1)).mono (fun x hx => hx.1)
end Go.HL
namespace Go.HL
open Go.RowKit
section
variable {P : Program} {ops : Array Oper} {Q : Exit → Act → World → Prop} {N : Nat} {E : Env} {w : World} {rest : List Oper} {ty : TypeId} {pos : String} {af : Array Edge} {d : Nat} {α : Type} {e : Enc α} {t T tx : TypeId}
/-- noughts are appended to what is nil: room is made -/
theorem WL.appendZ {s x : Operand} {bytes n : Nat} {k kn : IntKind} {z : Value} (hinfo : (P.info? T).map (fun i => (i.zero, i.size, i.bytes)) = some (some z, e.sz, bytes)) (hzs : z.cells.size = e.sz)
    (ht : P.underlying t = some (.slice T)) (htx : P.underlying tx = some (.int kn)) (hs : ev E s = some (.slice none 0 0)) (hx : ev E x = some (.int k (n : Int))) (hn : 0 < n ∧ n ≤ 9223372036854775807 ∧ n * bytes ≤ 140737488355328) (hd : Nat.blt d N = true)
    (h : ∀ g c w', Row (fun b => b = g) w' T e (some ⟨g, 0, none⟩) c ([] : List α) → n ≤ c → Chg Nob w w' → g = w.heap.size → WL P ops Q N rest ((d, .slice (some ⟨g, 0, none⟩) n c) :: E) w') :
    WL P ops Q N (⟨some d, .call ⟨.builtin .append, #[s, x], #[t, tx]⟩, ty, pos, af, none⟩ :: rest) E w := by
  obtain ⟨i, hi, h1, h2, h3⟩ := info_parts hinfo
  have hr := Lib.run_append_nil_zeros (P := P) w t tx ty T i z k kn ht htx hi h1 n hn.1 (by rw [h2]; exact e.pos) (by omega) (by rw [h3]; omega)
  have hge := grownCap_ge w n 0 T
  have hcm : grownCap w n 0 T ≤ maxLen := grownCap_le_maxLen w n 0 T (by simpa [maxLen] using hn.2.1)
  obtain ⟨cap, hcap⟩ : ∃ cap, cap = grownCap w n 0 T := ⟨_, rfl⟩
  rw [← hcap] at hr hge hcm
  obtain ⟨W', hW'⟩ : ∃ W', W' = w.drew.alloc (.cells (Builtin.zeroCells z.cells n ++ Builtin.zeroCells z.cells (cap - n)) T) := ⟨_, rfl⟩
  rw [← hW'] at hr
  refine WL.run (.slice (some ⟨w.heap.size, 0, none⟩) n cap) W' (fun a ha => by simp [execOp, resolve, invoke, builtin, ev_eval ha hs, ev_eval ha hx, hr]) hd ?_
  subst hW'
  refine h w.heap.size cap _ ⟨fun a ea => by injection ea with ea; subst ea; rfl, by simp [Enc.all], Nat.zero_le _, .inr ⟨w.heap.size, _, (0, 0), rfl, heap_alloc_new w.drew _, fun j _ hh => by omega, hcm, ?_, ?_⟩⟩ hge ⟨rfl, rfl, rfl, by simp, fun k hk _ => Below.heap_alloc w.drew _ k hk⟩ rfl
  · simp only [Array.size_append, size_zeroCells, hzs, ← Nat.add_mul]
    congr 1
    omega
  · simp [Enc.all]
end
end Go.HL
/-! the field of 256 elements: plain laws -/
namespace Go.HL
/-- twice an element -/
def xt (b : UInt8) : UInt8 := if b < 128 then b <<< 1 else (b <<< 1) ^^^ 0x1D
theorem fin_all {p : UInt8 → Prop} (h : ∀ n : Fin 256, p (UInt8.ofNat n.1)) (b : UInt8) : p b := by
  have := h ⟨b.toNat, b.toNat_lt⟩
  simpa using this
def hi1 (u : UInt8) : UInt8 := if u = 0 then 0 else 0x1D
theorem xt_eq (b : UInt8) : xt b = (b <<< 1) ^^^ hi1 (b >>> 7) ∧ (b >>> 7 = 0 ∨ b >>> 7 = 1) :=
  fin_all (p := fun b => xt b = (b <<< 1) ^^^ hi1 (b >>> 7) ∧ (b >>> 7 = 0 ∨ b >>> 7 = 1)) (by decide +kernel) b
theorem hi1_xor {u v : UInt8} (hu : u = 0 ∨ u = 1) (hv : v = 0 ∨ v = 1) : hi1 (u ^^^ v) = hi1 u ^^^ hi1 v := by
  rcases hu with rfl | rfl <;> rcases hv with rfl | rfl <;> decide
theorem xor4 (a b c d : UInt8) : (a ^^^ b) ^^^ (c ^^^ d) = (a ^^^ c) ^^^ (b ^^^ d) := by
  rw [UInt8.xor_assoc, ← UInt8.xor_assoc b, UInt8.xor_comm b c, UInt8.xor_assoc c, ← UInt8.xor_assoc]
theorem xt_xor (b c : UInt8) : xt (b ^^^ c) = xt b ^^^ xt c := by
  have hs : (b ^^^ c) <<< 1 = b <<< 1 ^^^ c <<< 1 := by
    apply UInt8.toBitVec_inj.1
    simp [BitVec.shiftLeft_xor_distrib]
  have hr : (b ^^^ c) >>> 7 = b >>> 7 ^^^ c >>> 7 := by
    apply UInt8.toBitVec_inj.1
    simp [BitVec.ushiftRight_xor_distrib]
  rw [(xt_eq b).1, (xt_eq c).1, (xt_eq (b ^^^ c)).1, hs, hr, hi1_xor (xt_eq b).2 (xt_eq c).2, xor4]
def xtN : Nat → UInt8 → UInt8
  | 0, b => b
  | k + 1, b => xt (xtN k b)
theorem xtN_xor (k : Nat) (b c : UInt8) : xtN k (b ^^^ c) = xtN k b ^^^ xtN k c := by
  induction k with
  | zero => rfl
  | succ k ih => rw [xtN, ih, xt_xor]; rfl
def EXP : List UInt8 := [1, 2, 4, 8, 16, 32, 64, 128, 29, 58, 116, 232, 205, 135, 19, 38, 76, 152, 45, 90, 180, 117, 234, 201, 143, 3, 6, 12, 24, 48, 96, 192, 157, 39, 78, 156, 37, 74, 148, 53, 106, 212, 181, 119, 238, 193, 159, 35, 70, 140, 5, 10, 20, 40, 80, 160, 93, 186, 105, 210, 185, 111, 222, 161, 95, 190, 97, 194, 153, 47, 94, 188, 101, 202, 137, 15, 30, 60, 120, 240, 253, 231, 211, 187, 107, 214, 177, 127, 254, 225, 223, 163, 91, 182, 113, 226, 217, 175, 67, 134, 17, 34, 68, 136, 13, 26, 52, 104, 208, 189, 103, 206, 129, 31, 62, 124, 248, 237, 199, 147, 59, 118, 236, 197, 151, 51, 102, 204, 133, 23, 46, 92, 184, 109, 218, 169, 79, 158, 33, 66, 132, 21, 42, 84, 168, 77, 154, 41, 82, 164, 85, 170, 73, 146, 57, 114, 228, 213, 183, 115, 230, 209, 191, 99, 198, 145, 63, 126, 252, 229, 215, 179, 123, 246, 241, 255, 227, 219, 171, 75, 150, 49, 98, 196, 149, 55, 110, 220, 165, 87, 174, 65, 130, 25, 50, 100, 200, 141, 7, 14, 28, 56, 112, 224, 221, 167, 83, 166, 81, 162, 89, 178, 121, 242, 249, 239, 195, 155, 43, 86, 172, 69, 138, 9, 18, 36, 72, 144, 61, 122, 244, 245, 247, 243, 251, 235, 203, 139, 11, 22, 44, 88, 176, 125, 250, 233, 207, 131, 27, 54, 108, 216, 173, 71, 142, 1, 2, 4, 8, 16, 32, 64, 128, 29, 58, 116, 232, 205, 135, 19, 38, 76, 152, 45, 90, 180, 117, 234, 201, 143, 3, 6, 12, 24, 48, 96, 192, 157, 39, 78, 156, 37, 74, 148, 53, 106, 212, 181, 119, 238, 193, 159, 35, 70, 140, 5, 10, 20, 40, 80, 160, 93, 186, 105, 210, 185, 111, 222, 161, 95, 190, 97, 194, 153, 47, 94, 188, 101, 202, 137, 15, 30, 60, 120, 240, 253, 231, 211, 187, 107, 214, 177, 127, 254, 225, 223, 163, 91, 182, 113, 226, 217, 175, 67, 134, 17, 34, 68, 136, 13, 26, 52, 104, 208, 189, 103, 206, 129, 31, 62, 124, 248, 237, 199, 147, 59, 118, 236, 197, 151, 51, 102, 204, 133, 23, 46, 92, 184, 109, 218, 169, 79, 158, 33, 66, 132, 21, 42, 84, 168, 77, 154, 41, 82, 164, 85, 170, 73, 146, 57, 114, 228, 213, 183, 115, 230, 209, 191, 99, 198, 145, 63, 126, 252, 229, 215, 179, 123, 246, 241, 255, 227, 219, 171, 75, 150, 49, 98, 196, 149, 55, 110, 220, 165, 87, 174, 65, 130, 25, 50, 100, 200, 141, 7, 14, 28, 56, 112, 224, 221, 167, 83, 166, 81, 162, 89, 178, 121, 242, 249, 239, 195, 155, 43, 86, 172, 69, 138, 9, 18, 36, 72, 144, 61, 122, 244, 245, 247, 243, 251, 235, 203, 139, 11, 22, 44, 88, 176, 125, 250, 233, 207, 131, 27, 54, 108, 216, 173, 71, 142]
def LOG : List Nat := [0, 0, 1, 25, 2, 50, 26, 198, 3, 223, 51, 238, 27, 104, 199, 75, 4, 100, 224, 14, 52, 141, 239, 129, 28, 193, 105, 248, 200, 8, 76, 113, 5, 138, 101, 47, 225, 36, 15, 33, 53, 147, 142, 218, 240, 18, 130, 69, 29, 181, 194, 125, 106, 39, 249, 185, 201, 154, 9, 120, 77, 228, 114, 166, 6, 191, 139, 98, 102, 221, 48, 253, 226, 152, 37, 179, 16, 145, 34, 136, 54, 208, 148, 206, 143, 150, 219, 189, 241, 210, 19, 92, 131, 56, 70, 64, 30, 66, 182, 163, 195, 72, 126, 110, 107, 58, 40, 84, 250, 133, 186, 61, 202, 94, 155, 159, 10, 21, 121, 43, 78, 212, 229, 172, 115, 243, 167, 87, 7, 112, 192, 247, 140, 128, 99, 13, 103, 74, 222, 237, 49, 197, 254, 24, 227, 165, 153, 119, 38, 184, 180, 124, 17, 68, 146, 217, 35, 32, 137, 46, 55, 63, 209, 91, 149, 188, 207, 205, 144, 135, 151, 178, 220, 252, 190, 97, 242, 86, 211, 171, 20, 42, 93, 158, 132, 60, 57, 83, 71, 109, 65, 162, 31, 45, 67, 216, 183, 123, 164, 118, 196, 23, 73, 236, 127, 12, 111, 246, 108, 161, 59, 82, 41, 157, 85, 170, 251, 96, 134, 177, 187, 204, 62, 90, 203, 89, 95, 176, 156, 169, 160, 81, 11, 245, 22, 235, 122, 117, 44, 215, 79, 174, 213, 233, 230, 231, 173, 232, 116, 214, 244, 234, 168, 80, 88, 175]
def E (i : Nat) : UInt8 := EXP.getD i 0
def L (a : UInt8) : Nat := LOG.getD a.toNat 0
set_option maxRecDepth 100000 in
theorem E_zero : E 0 = 1 := by decide +kernel
set_option maxRecDepth 100000 in
theorem E_next : ∀ i : Fin 255, E ((i.1 + 1) % 255) = xt (E i.1) ∧ E (i.1 + 255) = E i.1 ∧ E i.1 ≠ 0 ∧ L (E i.1) = i.1 := by decide +kernel
set_option maxRecDepth 100000 in
theorem L_all : ∀ n : Fin 256, L (UInt8.ofNat n.1) < 255 ∧ (n.1 = 0 ∨ E (L (UInt8.ofNat n.1)) = UInt8.ofNat n.1) := by decide +kernel
theorem L_lt (a : UInt8) : L a < 255 := fin_all (p := fun a => L a < 255) (fun n => (L_all n).1) a
theorem E_L {a : UInt8} (h : a ≠ 0) : E (L a) = a := by
  have := (L_all ⟨a.toNat, a.toNat_lt⟩).2
  simp at this
  rcases this with h1 | h1
  · exact absurd (UInt8.toNat_inj.1 (by simpa using h1)) h
  · exact h1
theorem E_mod {i : Nat} (h : i < 510) : E i = E (i % 255) := by
  rcases Nat.lt_or_ge i 255 with h1 | h1
  · rw [Nat.mod_eq_of_lt h1]
  · have e : i % 255 = i - 255 := by omega
    have h2 : E (i - 255 + 255) = E (i - 255) := (E_next ⟨i - 255, by omega⟩).2.1
    rw [e, ← h2, show i - 255 + 255 = i from by omega]
/-- the powers of 2, of any exponent -/
def G (i : Nat) : UInt8 := E (i % 255)
theorem G_zero : G 0 = 1 := E_zero
theorem G_next (i : Nat) : G (i + 1) = xt (G i) := by
  have h2 : E ((i % 255 + 1) % 255) = xt (E (i % 255)) := (E_next ⟨i % 255, Nat.mod_lt _ (by decide)⟩).1
  rw [G, G, ← h2, show (i % 255 + 1) % 255 = (i + 1) % 255 from by omega]
theorem G_ne (i : Nat) : G i ≠ 0 := (E_next ⟨i % 255, Nat.mod_lt _ (by decide)⟩).2.2.1
theorem L_G (i : Nat) : L (G i) = i % 255 := (E_next ⟨i % 255, Nat.mod_lt _ (by decide)⟩).2.2.2
theorem G_L {a : UInt8} (h : a ≠ 0) : G (L a) = a := by rw [G, Nat.mod_eq_of_lt (L_lt a), E_L h]
theorem G_mod (i : Nat) : G (i % 255) = G i := by rw [G, Nat.mod_mod]; rfl
theorem xtN_G (k i : Nat) : xtN k (G i) = G (i + k) := by
  induction k with
  | zero => rfl
  | succ k ih => rw [xtN, ih, ← Nat.add_assoc, G_next]
theorem xtN_zero (k : Nat) : xtN k 0 = 0 := by
  induction k with
  | zero => rfl
  | succ k ih => rw [xtN, ih]; rfl
/-- the product, as the program reckons it -/
def mul (a b : UInt8) : UInt8 := if a = 0 ∨ b = 0 then 0 else E (L a + L b)
theorem mul_G {a b : UInt8} (ha : a ≠ 0) (hb : b ≠ 0) : mul a b = G (L a + L b) := by
  rw [mul, if_neg (by simp [ha, hb]), E_mod (by have := L_lt a; have := L_lt b; omega)]
  rfl
theorem mul_xt {a : UInt8} (ha : a ≠ 0) (b : UInt8) : mul a b = xtN (L a) b := by
  by_cases hb : b = 0
  · rw [mul, if_pos (.inr hb), hb, xtN_zero]
  · rw [mul_G ha hb, ← G_L hb, xtN_G, L_G, Nat.mod_eq_of_lt (L_lt b), Nat.add_comm]
theorem mul_zero_l (b : UInt8) : mul 0 b = 0 := by rw [mul, if_pos (.inl rfl)]
theorem mul_zero_r (b : UInt8) : mul b 0 = 0 := by rw [mul, if_pos (.inr rfl)]
theorem mul_comm (a b : UInt8) : mul a b = mul b a := by
  rw [mul, mul, Nat.add_comm]
  by_cases h : a = 0 ∨ b = 0
  · rw [if_pos h, if_pos h.symm]
  · rw [if_neg h, if_neg (fun k => h k.symm)]
theorem mul_ne {a b : UInt8} (ha : a ≠ 0) (hb : b ≠ 0) : mul a b ≠ 0 := by rw [mul_G ha hb]; exact G_ne _
theorem L_mul {a b : UInt8} (ha : a ≠ 0) (hb : b ≠ 0) : L (mul a b) = (L a + L b) % 255 := by rw [mul_G ha hb, L_G]
theorem mul_assoc (a b c : UInt8) : mul a (mul b c) = mul (mul a b) c := by
  by_cases ha : a = 0
  · subst ha; rw [mul_zero_l, mul_zero_l, mul_zero_l]
  by_cases hb : b = 0
  · subst hb; rw [mul_zero_l, mul_zero_r, mul_zero_l]
  by_cases hc : c = 0
  · subst hc; rw [mul_zero_r, mul_zero_r, mul_zero_r]
  rw [mul_G ha (mul_ne hb hc), mul_G (mul_ne ha hb) hc, L_mul hb hc, L_mul ha hb, ← G_mod, ← G_mod ((L a + L b) % 255 + L c), show (L a + (L b + L c) % 255) % 255 = ((L a + L b) % 255 + L c) % 255 from by omega]
theorem mul_xor (a b c : UInt8) : mul a (b ^^^ c) = mul a b ^^^ mul a c := by
  by_cases ha : a = 0
  · subst ha; rw [mul_zero_l, mul_zero_l, mul_zero_l]; rfl
  · rw [mul_xt ha, mul_xt ha, mul_xt ha, xtN_xor]
theorem mul_one (a : UInt8) : mul a 1 = a := by
  by_cases ha : a = 0
  · subst ha; rw [mul_zero_l]
  · rw [mul_G ha (by decide), ← G_zero, L_G, show 0 % 255 = 0 from rfl, Nat.add_zero, G_L ha]
/-- the inverse, as the program reckons it -/
def inv (a : UInt8) : UInt8 := if a = 0 then 0 else E (255 - L a)
theorem mul_inv {a : UInt8} (ha : a ≠ 0) : mul a (inv a) = 1 := by
  have hl := L_lt a
  have e : inv a = G (255 - L a) := by rw [inv, if_neg ha, E_mod (by omega)]; rfl
  rw [e, mul_G ha (G_ne _), L_G, ← G_mod, ← G_zero, ← G_mod 0, show (L a + (255 - L a) % 255) % 255 = 0 % 255 from by omega]
theorem mul_self_xor (a b : UInt8) : mul (a ^^^ b) (a ^^^ b) = mul a a ^^^ mul b b := by
  rw [mul_xor, mul_comm (a ^^^ b) a, mul_comm (a ^^^ b) b, mul_xor, mul_xor, mul_comm b a]
  have : ∀ x y z : UInt8, (x ^^^ y) ^^^ (y ^^^ z) = x ^^^ z := fun x y z => by rw [UInt8.xor_assoc, ← UInt8.xor_assoc y y z, UInt8.xor_self, UInt8.zero_xor]
  rw [this]
end Go.HL
/-! plain: linear equations over the field -/
namespace Go.HL
theorem xor_self' (a : UInt8) : a ^^^ a = 0 := UInt8.xor_self
theorem xor_zero' (a : UInt8) : a ^^^ 0 = a := UInt8.xor_zero
theorem zero_xor' (a : UInt8) : 0 ^^^ a = a := UInt8.zero_xor
theorem xor_eq_zero {a b : UInt8} : a ^^^ b = 0 ↔ a = b := by
  constructor
  · intro h
    have : a ^^^ b ^^^ b = 0 ^^^ b := by rw [h]
    rwa [UInt8.xor_assoc, xor_self', xor_zero', zero_xor'] at this
  · rintro rfl; exact xor_self' a
theorem xor_mul (a b c : UInt8) : mul (a ^^^ b) c = mul a c ^^^ mul b c := by rw [mul_comm, mul_xor, mul_comm c a, mul_comm c b]
theorem one_mul' (a : UInt8) : mul 1 a = a := by rw [mul_comm, mul_one]
theorem mul_eq_zero {a b : UInt8} : mul a b = 0 ↔ a = 0 ∨ b = 0 := by
  constructor
  · intro h
    by_cases ha : a = 0
    · exact .inl ha
    · by_cases hb : b = 0
      · exact .inr hb
      · exact absurd h (mul_ne ha hb)
  · rintro (rfl | rfl)
    · exact mul_zero_l b
    · exact mul_zero_r a
def sumF : Nat → (Nat → UInt8) → UInt8
  | 0, _ => 0
  | n + 1, f => sumF n f ^^^ f n
theorem sumF_cong {n : Nat} {f g : Nat → UInt8} (h : ∀ i, i < n → f i = g i) : sumF n f = sumF n g := by
  induction n with
  | zero => rfl
  | succ n ih => rw [sumF, sumF, ih (fun i hi => h i (by omega)), h n (by omega)]
theorem sumF_zero {n : Nat} {f : Nat → UInt8} (h : ∀ i, i < n → f i = 0) : sumF n f = 0 := by
  induction n with
  | zero => rfl
  | succ n ih => rw [sumF, ih (fun i hi => h i (by omega)), h n (by omega)]; rfl
theorem sumF_xor (n : Nat) (f g : Nat → UInt8) : sumF n (fun i => f i ^^^ g i) = sumF n f ^^^ sumF n g := by
  induction n with
  | zero => show (0 : UInt8) = 0 ^^^ 0; decide
  | succ n ih => rw [sumF, sumF, sumF, ih, xor4]
theorem sumF_mul (n : Nat) (c : UInt8) (f : Nat → UInt8) : sumF n (fun i => mul c (f i)) = mul c (sumF n f) := by
  induction n with
  | zero => exact (mul_zero_r c).symm
  | succ n ih => rw [sumF, sumF, ih, mul_xor]
theorem sumF_single {n k : Nat} (hk : k < n) {f : Nat → UInt8} (h : ∀ i, i < n → i ≠ k → f i = 0) : sumF n f = f k := by
  induction n with
  | zero => omega
  | succ n ih =>
    rw [sumF]
    by_cases e : k = n
    · subst e
      rw [sumF_zero (fun i hi => h i (by omega) (by omega)), zero_xor']
    · rw [ih (by omega) (fun i hi hne => h i (by omega) hne), h n (by omega) (fun e2 => e e2.symm), xor_zero']
theorem sumF_front (n : Nat) (f : Nat → UInt8) : sumF (n + 1) f = f 0 ^^^ sumF n (fun i => f (i + 1)) := by
  induction n with
  | zero => rw [sumF, sumF, sumF, UInt8.xor_comm]
  | succ n ih => rw [sumF, ih, sumF, UInt8.xor_assoc]
theorem sumF_two {n a b : Nat} (ha : a < n) (hb : b < n) (hab : a ≠ b) {f : Nat → UInt8} (h : ∀ i, i < n → i ≠ a → i ≠ b → f i = 0) : sumF n f = f a ^^^ f b := by
  have e : sumF n f = sumF n (fun i => (if i = a then f a else 0) ^^^ (if i = b then f b else 0)) := sumF_cong (fun i hi => by
    by_cases h1 : i = a
    · subst h1; rw [if_pos rfl, if_neg hab, xor_zero']
    · by_cases h2 : i = b
      · subst h2; rw [if_neg h1, if_pos rfl, zero_xor']
      · rw [if_neg h1, if_neg h2, h i hi h1 h2]; rfl)
  rw [e, sumF_xor, sumF_single ha (fun i _ hne => if_neg hne), sumF_single hb (fun i _ hne => if_neg hne), if_pos rfl, if_pos rfl]
theorem sumF_swap (n m : Nat) (f : Nat → Nat → UInt8) : sumF n (fun i => sumF m (fun j => f i j)) = sumF m (fun j => sumF n (fun i => f i j)) := by
  induction n with
  | zero => exact (sumF_zero (fun _ _ => rfl)).symm
  | succ n ih =>
    rw [sumF, ih, ← sumF_xor]
    rfl
/-- what a matrix sends to 0 -/
def Ker (n c : Nat) (m : Nat → Nat → UInt8) (y : Nat → UInt8) : Prop := ∀ i, i < n → sumF c (fun j => mul (m i j) (y j)) = 0
structure GE (n : Nat) (R m : Nat → Nat → UInt8) (k : Nat) : Prop where
  ker : ∀ y, Ker n (n + 1) R y ↔ Ker n (n + 1) m y
  unit : ∀ j, j < k → ∀ i, i < n → m i j = if i = j then 1 else 0
section
variable {n k : Nat} {R m m' : Nat → Nat → UInt8}
theorem GE.start (n : Nat) (R : Nat → Nat → UInt8) : GE n R R 0 := ⟨fun _ => Iff.rfl, fun j hj => absurd hj (Nat.not_lt_zero j)⟩
theorem GE.swap (h : GE n R m k) {a b : Nat} (ha : k ≤ a ∧ a < n) (hb : k ≤ b ∧ b < n) (hm : ∀ i j, i < n → m' i j = m (if i = a then b else if i = b then a else i) j) : GE n R m' k := by
  have hlt : ∀ i, i < n → (if i = a then b else if i = b then a else i) < n := fun i hi => by split; exact hb.2; split; exact ha.2; exact hi
  refine ⟨fun y => (h.ker y).trans ⟨fun hK i hi => ?_, fun hK i hi => ?_⟩, fun j hj i hi => ?_⟩
  · have := hK _ (hlt i hi)
    rw [← this]
    exact sumF_cong (fun j _ => by rw [hm i j hi])
  · have := hK _ (hlt i hi)
    rw [← this]
    refine sumF_cong (fun j _ => ?_)
    rw [hm _ j (hlt i hi)]
    congr 2
    by_cases e1 : i = a
    · rw [if_pos e1]
      by_cases e3 : b = a
      · rw [if_pos e3]; omega
      · rw [if_neg e3, if_pos rfl]; omega
    · rw [if_neg e1]
      by_cases e2 : i = b
      · rw [if_pos e2, if_pos rfl]; omega
      · rw [if_neg e2, if_neg e1, if_neg e2]
  · rw [hm i j hi, h.unit j hj _ (hlt i hi)]
    by_cases e1 : i = a
    · rw [if_pos e1, if_neg (by omega), if_neg (by omega)]
    · rw [if_neg e1]
      by_cases e2 : i = b
      · rw [if_pos e2, if_neg (by omega), if_neg (by omega)]
      · rw [if_neg e2]
theorem GE.scale (h : GE n R m k) {s : UInt8} (hs : s ≠ 0) (hk : k < n) (hm : ∀ i j, i < n → m' i j = if i = k then mul (m i j) s else m i j) : GE n R m' k := by
  have key : ∀ i, i < n → ∀ y : Nat → UInt8, sumF (n + 1) (fun j => mul (m' i j) (y j)) = mul (if i = k then s else 1) (sumF (n + 1) (fun j => mul (m i j) (y j))) := fun i hi y => by
    rw [← sumF_mul]
    refine sumF_cong (fun j _ => ?_)
    rw [hm i j hi]
    by_cases e : i = k
    · rw [if_pos e, if_pos e, mul_comm (m i j) s, mul_assoc]
    · rw [if_neg e, if_neg e, one_mul']
  refine ⟨fun y => (h.ker y).trans ⟨fun hK i hi => ?_, fun hK i hi => ?_⟩, fun j hj i hi => ?_⟩
  · rw [key i hi, hK i hi, mul_zero_r]
  · have h1 := hK i hi
    rw [key i hi, mul_eq_zero] at h1
    rcases h1 with h1 | h1
    · split at h1
      · exact absurd h1 hs
      · exact absurd h1 (by decide)
    · exact h1
  · rw [hm i j hi, h.unit j hj i hi]
    by_cases e : i = k
    · rw [if_pos e, if_neg (by omega), mul_zero_l]
    · rw [if_neg e]
theorem GE.add (h : GE n R m k) {a : Nat} (ha : a < n ∧ a ≠ k) (hk : k < n) (b : UInt8) (hm : ∀ i j, i < n → m' i j = if i = a then m i j ^^^ mul (m k j) b else m i j) : GE n R m' k := by
  have key : ∀ y : Nat → UInt8, sumF (n + 1) (fun j => mul (m' a j) (y j)) = sumF (n + 1) (fun j => mul (m a j) (y j)) ^^^ mul b (sumF (n + 1) (fun j => mul (m k j) (y j))) := fun y => by
    rw [← sumF_mul, ← sumF_xor]
    refine sumF_cong (fun j _ => ?_)
    rw [hm a j ha.1, if_pos rfl, xor_mul, mul_comm (m k j) b, mul_assoc]
  have same : ∀ i, i < n → i ≠ a → ∀ y : Nat → UInt8, sumF (n + 1) (fun j => mul (m' i j) (y j)) = sumF (n + 1) (fun j => mul (m i j) (y j)) := fun i hi hne y => sumF_cong (fun j _ => by rw [hm i j hi, if_neg hne])
  refine ⟨fun y => (h.ker y).trans ⟨fun hK i hi => ?_, fun hK i hi => ?_⟩, fun j hj i hi => ?_⟩
  · by_cases e : i = a
    · subst e; rw [key, hK i hi, hK k hk, mul_zero_r]; rfl
    · rw [same i hi e]; exact hK i hi
  · by_cases e : i = a
    · subst e
      have h1 := hK i hi
      rw [key, ← same k hk (fun e => ha.2 e.symm), hK k hk, mul_zero_r, xor_zero'] at h1
      exact h1
    · rw [← same i hi e]; exact hK i hi
  · rw [hm i j hi, h.unit j hj i hi, h.unit j hj k hk, if_neg (show ¬ k = j by omega), mul_zero_l, xor_zero']
    split <;> rfl
theorem GE.next (h : GE n R m k) (h1 : ∀ i, i < n → m i k = if i = k then 1 else 0) : GE n R m (k + 1) := ⟨h.ker, fun j hj i hi => by
  by_cases e : j = k
  · subst e; exact h1 i hi
  · exact h.unit j (by omega) i hi⟩
/-- all columns are done: one solution -/
theorem GE.done (h : GE n R m n) (z : Nat → UInt8) : (∀ i, i < n → sumF n (fun j => mul (R i j) (z j)) = R i n) ↔ ∀ i, i < n → z i = m i n := by
  obtain ⟨y, hy⟩ : ∃ y : Nat → UInt8, y = fun j => if j < n then z j else 1 := ⟨_, rfl⟩
  have e1 : ∀ (M : Nat → Nat → UInt8) i, sumF (n + 1) (fun j => mul (M i j) (y j)) = sumF n (fun j => mul (M i j) (z j)) ^^^ M i n := fun M i => by
    rw [sumF]
    congr 1
    · exact sumF_cong (fun j hj => by rw [hy]; simp only [if_pos hj])
    · rw [hy]; simp only [Nat.lt_irrefl, if_false, mul_one]
  have e2 : ∀ i, i < n → sumF n (fun j => mul (m i j) (z j)) = z i := fun i hi => by
    rw [sumF_single hi (fun j hj hne => by rw [h.unit j hj i hi, if_neg (fun e => hne e.symm), mul_zero_l]), h.unit i hi i hi, if_pos rfl, one_mul']
  have hK := h.ker y
  constructor
  · intro hs i hi
    have h1 := hK.1 (fun i hi => by rw [e1, xor_eq_zero]; exact hs i hi) i hi
    rw [e1, xor_eq_zero, e2 i hi] at h1
    exact h1
  · intro hs i hi
    have h1 := hK.2 (fun i hi => by rw [e1, xor_eq_zero, e2 i hi]; exact hs i hi) i hi
    rw [e1, xor_eq_zero] at h1
    exact h1
/-- a column without a pivot: no solution, or many -/
theorem GE.miss (h : GE n R m k) (hk : k < n) (h0 : ∀ i, k ≤ i → i < n → m i k = 0) : ∃ y : Nat → UInt8, (∃ j, j < n ∧ y j ≠ 0) ∧ Ker n n R y := by
  obtain ⟨y, hy⟩ : ∃ y : Nat → UInt8, y = fun j => if j < k then m j k else if j = k then 1 else 0 := ⟨_, rfl⟩
  have hyk : y k = 1 := by rw [hy]; simp
  have hyl : ∀ j, j < k → y j = m j k := fun j hj => by rw [hy]; simp [hj]
  have hyg : ∀ j, k < j → y j = 0 := fun j hj => by
    rw [hy]
    show (if j < k then _ else if j = k then (1 : UInt8) else 0) = 0
    rw [if_neg (by omega), if_neg (by omega)]
  have hK := (h.ker y).2 (fun i hi => by
    by_cases hik : i < k
    · rw [sumF_two (a := i) (b := k) (by omega) (by omega) (by omega) (fun j hj h1 h2 => by
        rcases Nat.lt_or_ge j k with h3 | h3
        · rw [h.unit j h3 i hi, if_neg (fun e => h1 e.symm), mul_zero_l]
        · rw [hyg j (by omega), mul_zero_r])]
      rw [h.unit i hik i hi, if_pos rfl, one_mul', hyl i hik, hyk, mul_one, xor_self']
    · refine sumF_zero (fun j hj => ?_)
      rcases Nat.lt_or_ge j k with h3 | h3
      · rw [h.unit j h3 i hi, if_neg (by omega), mul_zero_l]
      · by_cases e : j = k
        · subst e; rw [h0 i (by omega) hi, mul_zero_l]
        · rw [hyg j (by omega), mul_zero_r])
  refine ⟨y, ⟨k, hk, by rw [hyk]; decide⟩, fun i hi => ?_⟩
  have h1 := hK i hi
  rw [sumF, hyg n (by omega), mul_zero_r, xor_zero'] at h1
  exact h1
end
/-! as lists -/
def fn (m : List (List UInt8)) (i j : Nat) : UInt8 := (m.getD i []).getD j 0
theorem fn_at {m : List (List UInt8)} {i j : Nat} {r : List UInt8} {x : UInt8} (hr : m[i]? = some r) (hx : r[j]? = some x) : fn m i j = x := by
  have e1 : m.getD i [] = r := by rw [List.getD_eq_getElem?_getD, hr]; rfl
  rw [fn, e1, List.getD_eq_getElem?_getD, hx]
  rfl
theorem fn_set {m : List (List UInt8)} {k : Nat} (hk : k < m.length) (r : List UInt8) (i j : Nat) : fn (m.set k r) i j = if i = k then r.getD j 0 else fn m i j := by
  have e1 : (m.set k r).getD i [] = if i = k then r else m.getD i [] := by
    rw [List.getD_eq_getElem?_getD, List.getElem?_set]
    by_cases e : k = i
    · subst e
      rw [if_pos rfl, if_pos hk, if_pos rfl]
      rfl
    · rw [if_neg e, if_neg (fun e2 => e e2.symm), List.getD_eq_getElem?_getD]
  rw [fn, fn, e1]
  split <;> rfl
/-- what Solve answers -/
def ShapeOk (rows : List (List UInt8)) (right : List UInt8) : Prop := (1 ≤ rows.length ∧ rows.length ≤ 8) ∧ right.length = rows.length ∧ ∀ r ∈ rows, r.length = rows.length
def SolR (rows : List (List UInt8)) (right out : List UInt8) (e : Int) : Prop :=
  (¬ ShapeOk rows right ∧ out = [] ∧ e = 1) ∨
  (ShapeOk rows right ∧ e = 0 ∧ out.length = rows.length ∧ ∀ z : Nat → UInt8, (∀ i, i < rows.length → sumF rows.length (fun j => mul (fn rows i j) (z j)) = right.getD i 0) ↔ ∀ i, i < rows.length → z i = out.getD i 0) ∨
  (ShapeOk rows right ∧ e = 7 ∧ out = [] ∧ ∃ y : Nat → UInt8, (∃ j, j < rows.length ∧ y j ≠ 0) ∧ Ker rows.length rows.length (fn rows) y)
theorem getD_ext {a b : List UInt8} (h : a.length = b.length) (k : ∀ i, i < a.length → a.getD i 0 = b.getD i 0) : a = b := by
  apply List.ext_getElem h
  intro i h1 h2
  have := k i h1
  rw [List.getD_eq_getElem?_getD, List.getD_eq_getElem?_getD, List.getElem?_eq_getElem h1, List.getElem?_eq_getElem h2] at this
  exact this
theorem ker_uniq {n : Nat} {R : Nat → Nat → UInt8} {r : Nat → UInt8} {out : Nat → UInt8} (h : ∀ z : Nat → UInt8, (∀ i, i < n → sumF n (fun j => mul (R i j) (z j)) = r i) ↔ ∀ i, i < n → z i = out i) {y : Nat → UInt8} (hK : Ker n n R y) {j : Nat} (hj : j < n) : y j = 0 := by
  have h1 := (h (fun j => out j ^^^ y j)).1 (fun i hi => by
    have h2 := (h out).2 (fun _ _ => rfl) i hi
    have h3 := hK i hi
    rw [← h2, ← xor_zero' (sumF n fun j => mul (R i j) (out j)), ← h3, ← sumF_xor]
    exact sumF_cong (fun j _ => mul_xor _ _ _)) j hj
  have h2 : out j ^^^ y j = out j := h1
  have h3 : out j ^^^ (out j ^^^ y j) = out j ^^^ out j := by rw [h2]
  rwa [← UInt8.xor_assoc, xor_self', zero_xor'] at h3
theorem SolR.uniq {rows : List (List UInt8)} {right o1 o2 : List UInt8} {e1 e2 : Int} (h : SolR rows right o1 e1) (k : SolR rows right o2 e2) : o1 = o2 ∧ e1 = e2 := by
  rcases h with ⟨h0, rfl, rfl⟩ | ⟨h0, rfl, hl, h1⟩ | ⟨h0, rfl, rfl, y, ⟨j, hj, hy⟩, hK⟩ <;> rcases k with ⟨k0, rfl, rfl⟩ | ⟨k0, rfl, kl, k1⟩ | ⟨k0, rfl, rfl, y2, ⟨j2, hj2, hy2⟩, kK⟩
  · exact ⟨rfl, rfl⟩
  · exact absurd k0 h0
  · exact absurd k0 h0
  · exact absurd h0 k0
  · refine ⟨getD_ext (hl.trans kl.symm) (fun i hi => ?_), rfl⟩
    exact (k1 (fun i => o1.getD i 0)).1 ((h1 _).2 (fun _ _ => rfl)) i (by omega)
  · exact absurd (ker_uniq h1 kK hj2) hy2
  · exact absurd h0 k0
  · exact absurd (ker_uniq k1 hK hj) hy
  · exact ⟨rfl, rfl⟩
end Go.HL
namespace Go.Proofs.Ytjdbjdgobhjbkaa
open Go.RowKit Go.HL
theorem eg_2 : ∀ (args : Array Value) (w : World), (callFunc 2 args).run Try.prog w = .ok (.enter 2 args) w := eg_of Try.func2 (by kernel_rfl) rfl
theorem eg_3 : ∀ (args : Array Value) (w : World), (callFunc 3 args).run Try.prog w = .ok (.enter 3 args) w := eg_of Try.func3 (by kernel_rfl) rfl
theorem eg_4 : ∀ (args : Array Value) (w : World), (callFunc 4 args).run Try.prog w = .ok (.enter 4 args) w := eg_of Try.func4 (by kernel_rfl) rfl
theorem eg_5 : ∀ (args : Array Value) (w : World), (callFunc 5 args).run Try.prog w = .ok (.enter 5 args) w := eg_of Try.func5 (by kernel_rfl) rfl
theorem eg_6 : ∀ (args : Array Value) (w : World), (callFunc 6 args).run Try.prog w = .ok (.enter 6 args) w := eg_of Try.func6 (by kernel_rfl) rfl
theorem eg_7 : ∀ (args : Array Value) (w : World), (callFunc 7 args).run Try.prog w = .ok (.enter 7 args) w := eg_of Try.func7 (by kernel_rfl) rfl
theorem eg_8 : ∀ (args : Array Value) (w : World), (callFunc 8 args).run Try.prog w = .ok (.enter 8 args) w := eg_of Try.func8 (by kernel_rfl) rfl
theorem eg_9 : ∀ (args : Array Value) (w : World), (callFunc 9 args).run Try.prog w = .ok (.enter 9 args) w := eg_of Try.func9 (by kernel_rfl) rfl
theorem eg_10 : ∀ (args : Array Value) (w : World), (callFunc 10 args).run Try.prog w = .ok (.enter 10 args) w := eg_of Try.func10 (by kernel_rfl) rfl
theorem eg_11 : ∀ (args : Array Value) (w : World), (callFunc 11 args).run Try.prog w = .ok (.enter 11 args) w := eg_of Try.func11 (by kernel_rfl) rfl
theorem eg_12 : ∀ (args : Array Value) (w : World), (callFunc 12 args).run Try.prog w = .ok (.enter 12 args) w := eg_of Try.func12 (by kernel_rfl) rfl
theorem eg_13 : ∀ (args : Array Value) (w : World), (callFunc 13 args).run Try.prog w = .ok (.enter 13 args) w := eg_of Try.func13 (by kernel_rfl) rfl
theorem eg_14 : ∀ (args : Array Value) (w : World), (callFunc 14 args).run Try.prog w = .ok (.enter 14 args) w := eg_of Try.func14 (by kernel_rfl) rfl
theorem eg_15 : ∀ (args : Array Value) (w : World), (callFunc 15 args).run Try.prog w = .ok (.enter 15 args) w := eg_of Try.func15 (by kernel_rfl) rfl
theorem eg_16 : ∀ (args : Array Value) (w : World), (callFunc 16 args).run Try.prog w = .ok (.enter 16 args) w := eg_of Try.func16 (by kernel_rfl) rfl
theorem eg_17 : ∀ (args : Array Value) (w : World), (callFunc 17 args).run Try.prog w = .ok (.enter 17 args) w := eg_of Try.func17 (by kernel_rfl) rfl
theorem eg_18 : ∀ (args : Array Value) (w : World), (callFunc 18 args).run Try.prog w = .ok (.enter 18 args) w := eg_of Try.func18 (by kernel_rfl) rfl
theorem eg_19 : ∀ (args : Array Value) (w : World), (callFunc 19 args).run Try.prog w = .ok (.enter 19 args) w := eg_of Try.func19 (by kernel_rfl) rfl
theorem eg_20 : ∀ (args : Array Value) (w : World), (callFunc 20 args).run Try.prog w = .ok (.enter 20 args) w := eg_of Try.func20 (by kernel_rfl) rfl
theorem eg_21 : ∀ (args : Array Value) (w : World), (callFunc 21 args).run Try.prog w = .ok (.enter 21 args) w := eg_of Try.func21 (by kernel_rfl) rfl
theorem eg_22 : ∀ (args : Array Value) (w : World), (callFunc 22 args).run Try.prog w = .ok (.enter 22 args) w := eg_of Try.func22 (by kernel_rfl) rfl
theorem eg_23 : ∀ (args : Array Value) (w : World), (callFunc 23 args).run Try.prog w = .ok (.enter 23 args) w := eg_of Try.func23 (by kernel_rfl) rfl
theorem eg_24 : ∀ (args : Array Value) (w : World), (callFunc 24 args).run Try.prog w = .ok (.enter 24 args) w := eg_of Try.func24 (by kernel_rfl) rfl
theorem eg_25 : ∀ (args : Array Value) (w : World), (callFunc 25 args).run Try.prog w = .ok (.enter 25 args) w := eg_of Try.func25 (by kernel_rfl) rfl
theorem eg_26 : ∀ (args : Array Value) (w : World), (callFunc 26 args).run Try.prog w = .ok (.enter 26 args) w := eg_of Try.func26 (by kernel_rfl) rfl
theorem eg_27 : ∀ (args : Array Value) (w : World), (callFunc 27 args).run Try.prog w = .ok (.enter 27 args) w := eg_of Try.func27 (by kernel_rfl) rfl
theorem eg_28 : ∀ (args : Array Value) (w : World), (callFunc 28 args).run Try.prog w = .ok (.enter 28 args) w := eg_of Try.func28 (by kernel_rfl) rfl
theorem eg_29 : ∀ (args : Array Value) (w : World), (callFunc 29 args).run Try.prog w = .ok (.enter 29 args) w := eg_of Try.func29 (by kernel_rfl) rfl
theorem eg_30 : ∀ (args : Array Value) (w : World), (callFunc 30 args).run Try.prog w = .ok (.enter 30 args) w := eg_of Try.func30 (by kernel_rfl) rfl
theorem eg_31 : ∀ (args : Array Value) (w : World), (callFunc 31 args).run Try.prog w = .ok (.enter 31 args) w := eg_of Try.func31 (by kernel_rfl) rfl
theorem eg_32 : ∀ (args : Array Value) (w : World), (callFunc 32 args).run Try.prog w = .ok (.enter 32 args) w := eg_of Try.func32 (by kernel_rfl) rfl
theorem eg_33 : ∀ (args : Array Value) (w : World), (callFunc 33 args).run Try.prog w = .ok (.enter 33 args) w := eg_of Try.func33 (by kernel_rfl) rfl
theorem eg_34 : ∀ (args : Array Value) (w : World), (callFunc 34 args).run Try.prog w = .ok (.enter 34 args) w := eg_of Try.func34 (by kernel_rfl) rfl
theorem eg_35 : ∀ (args : Array Value) (w : World), (callFunc 35 args).run Try.prog w = .ok (.enter 35 args) w := eg_of Try.func35 (by kernel_rfl) rfl
theorem eg_36 : ∀ (args : Array Value) (w : World), (callFunc 36 args).run Try.prog w = .ok (.enter 36 args) w := eg_of Try.func36 (by kernel_rfl) rfl
theorem eg_37 : ∀ (args : Array Value) (w : World), (callFunc 37 args).run Try.prog w = .ok (.enter 37 args) w := eg_of Try.func37 (by kernel_rfl) rfl
theorem eg_38 : ∀ (args : Array Value) (w : World), (callFunc 38 args).run Try.prog w = .ok (.enter 38 args) w := eg_of Try.func38 (by kernel_rfl) rfl
theorem eg_39 : ∀ (args : Array Value) (w : World), (callFunc 39 args).run Try.prog w = .ok (.enter 39 args) w := eg_of Try.func39 (by kernel_rfl) rfl
theorem eg_40 : ∀ (args : Array Value) (w : World), (callFunc 40 args).run Try.prog w = .ok (.enter 40 args) w := eg_of Try.func40 (by kernel_rfl) rfl
theorem eg_41 : ∀ (args : Array Value) (w : World), (callFunc 41 args).run Try.prog w = .ok (.enter 41 args) w := eg_of Try.func41 (by kernel_rfl) rfl
theorem eg_42 : ∀ (args : Array Value) (w : World), (callFunc 42 args).run Try.prog w = .ok (.enter 42 args) w := eg_of Try.func42 (by kernel_rfl) rfl
theorem eg_43 : ∀ (args : Array Value) (w : World), (callFunc 43 args).run Try.prog w = .ok (.enter 43 args) w := eg_of Try.func43 (by kernel_rfl) rfl
theorem eg_44 : ∀ (args : Array Value) (w : World), (callFunc 44 args).run Try.prog w = .ok (.enter 44 args) w := eg_of Try.func44 (by kernel_rfl) rfl
theorem eg_45 : ∀ (args : Array Value) (w : World), (callFunc 45 args).run Try.prog w = .ok (.enter 45 args) w := eg_of Try.func45 (by kernel_rfl) rfl
theorem eg_46 : ∀ (args : Array Value) (w : World), (callFunc 46 args).run Try.prog w = .ok (.enter 46 args) w := eg_of Try.func46 (by kernel_rfl) rfl
theorem eg_47 : ∀ (args : Array Value) (w : World), (callFunc 47 args).run Try.prog w = .ok (.enter 47 args) w := eg_of Try.func47 (by kernel_rfl) rfl
theorem eg_48 : ∀ (args : Array Value) (w : World), (callFunc 48 args).run Try.prog w = .ok (.enter 48 args) w := eg_of Try.func48 (by kernel_rfl) rfl
theorem eg_49 : ∀ (args : Array Value) (w : World), (callFunc 49 args).run Try.prog w = .ok (.enter 49 args) w := eg_of Try.func49 (by kernel_rfl) rfl
theorem eg_50 : ∀ (args : Array Value) (w : World), (callFunc 50 args).run Try.prog w = .ok (.enter 50 args) w := eg_of Try.func50 (by kernel_rfl) rfl
theorem eg_51 : ∀ (args : Array Value) (w : World), (callFunc 51 args).run Try.prog w = .ok (.enter 51 args) w := eg_of Try.func51 (by kernel_rfl) rfl
theorem eg_52 : ∀ (args : Array Value) (w : World), (callFunc 52 args).run Try.prog w = .ok (.enter 52 args) w := eg_of Try.func52 (by kernel_rfl) rfl
theorem eg_53 : ∀ (args : Array Value) (w : World), (callFunc 53 args).run Try.prog w = .ok (.enter 53 args) w := eg_of Try.func53 (by kernel_rfl) rfl
theorem eg_54 : ∀ (args : Array Value) (w : World), (callFunc 54 args).run Try.prog w = .ok (.enter 54 args) w := eg_of Try.func54 (by kernel_rfl) rfl
theorem eg_55 : ∀ (args : Array Value) (w : World), (callFunc 55 args).run Try.prog w = .ok (.enter 55 args) w := eg_of Try.func55 (by kernel_rfl) rfl
theorem eg_56 : ∀ (args : Array Value) (w : World), (callFunc 56 args).run Try.prog w = .ok (.enter 56 args) w := eg_of Try.func56 (by kernel_rfl) rfl
theorem eg_58 : ∀ (args : Array Value) (w : World), (callFunc 58 args).run Try.prog w = .ok (.enter 58 args) w := eg_of Try.func58 (by kernel_rfl) rfl
theorem eg_59 : ∀ (args : Array Value) (w : World), (callFunc 59 args).run Try.prog w = .ok (.enter 59 args) w := eg_of Try.func59 (by kernel_rfl) rfl
theorem eg_60 : ∀ (args : Array Value) (w : World), (callFunc 60 args).run Try.prog w = .ok (.enter 60 args) w := eg_of Try.func60 (by kernel_rfl) rfl
theorem eg_61 : ∀ (args : Array Value) (w : World), (callFunc 61 args).run Try.prog w = .ok (.enter 61 args) w := eg_of Try.func61 (by kernel_rfl) rfl
theorem eg_62 : ∀ (args : Array Value) (w : World), (callFunc 62 args).run Try.prog w = .ok (.enter 62 args) w := eg_of Try.func62 (by kernel_rfl) rfl
theorem eg_64 : ∀ (args : Array Value) (w : World), (callFunc 64 args).run Try.prog w = .ok (.enter 64 args) w := eg_of Try.func64 (by kernel_rfl) rfl
theorem eg_69 : ∀ (args : Array Value) (w : World), (callFunc 69 args).run Try.prog w = .ok (.enter 69 args) w := eg_of Try.func69 (by kernel_rfl) rfl
theorem eg_72 : ∀ (args : Array Value) (w : World), (callFunc 72 args).run Try.prog w = .ok (.enter 72 args) w := eg_of Try.func72 (by kernel_rfl) rfl
theorem fld_7_0 (b o : Nat) (w : World) : (Instr.fieldAt 7 (.pointer (some ⟨b, o, none⟩)) 0).run Try.prog w = .ok (.pointer (some ⟨b, o + 0, none⟩)) w := by
  simp [Instr.fieldAt, run_underlying Try.underlying7, Instr.sureAddr, fieldPlace, Try.sizeOf2, Addr.add_lit]
theorem fld_7_1 (b o : Nat) (w : World) : (Instr.fieldAt 7 (.pointer (some ⟨b, o, none⟩)) 1).run Try.prog w = .ok (.pointer (some ⟨b, o + 1, none⟩)) w := by
  simp [Instr.fieldAt, run_underlying Try.underlying7, Instr.sureAddr, fieldPlace, Try.sizeOf3, Addr.add_lit]
theorem fld_7_2 (b o : Nat) (w : World) : (Instr.fieldAt 7 (.pointer (some ⟨b, o, none⟩)) 2).run Try.prog w = .ok (.pointer (some ⟨b, o + 2, none⟩)) w := by
  simp [Instr.fieldAt, run_underlying Try.underlying7, Instr.sureAddr, fieldPlace, Try.sizeOf4, Addr.add_lit]
theorem fld_7_3 (b o : Nat) (w : World) : (Instr.fieldAt 7 (.pointer (some ⟨b, o, none⟩)) 3).run Try.prog w = .ok (.pointer (some ⟨b, o + 3, none⟩)) w := by
  simp [Instr.fieldAt, run_underlying Try.underlying7, Instr.sureAddr, fieldPlace, Try.sizeOf6, Addr.add_lit]
theorem fld_13_0 (b o : Nat) (w : World) : (Instr.fieldAt 13 (.pointer (some ⟨b, o, none⟩)) 0).run Try.prog w = .ok (.pointer (some ⟨b, o + 0, none⟩)) w := by
  simp [Instr.fieldAt, run_underlying Try.underlying13, Instr.sureAddr, fieldPlace, Try.sizeOf9, Addr.add_lit]
theorem fld_13_1 (b o : Nat) (w : World) : (Instr.fieldAt 13 (.pointer (some ⟨b, o, none⟩)) 1).run Try.prog w = .ok (.pointer (some ⟨b, o + 1, none⟩)) w := by
  simp [Instr.fieldAt, run_underlying Try.underlying13, Instr.sureAddr, fieldPlace, Try.sizeOf12, Addr.add_lit]
theorem fld_18_0 (b o : Nat) (w : World) : (Instr.fieldAt 18 (.pointer (some ⟨b, o, none⟩)) 0).run Try.prog w = .ok (.pointer (some ⟨b, o + 0, none⟩)) w := by
  simp [Instr.fieldAt, run_underlying Try.underlying18, Instr.sureAddr, fieldPlace, Try.sizeOf17, Addr.add_lit]
theorem fld_40_0 (b o : Nat) (w : World) : (Instr.fieldAt 40 (.pointer (some ⟨b, o, none⟩)) 0).run Try.prog w = .ok (.pointer (some ⟨b, o + 0, none⟩)) w := by
  simp [Instr.fieldAt, run_underlying Try.underlying40, Instr.sureAddr, fieldPlace, Try.sizeOf22, Addr.add_lit]
theorem fld_40_1 (b o : Nat) (w : World) : (Instr.fieldAt 40 (.pointer (some ⟨b, o, none⟩)) 1).run Try.prog w = .ok (.pointer (some ⟨b, o + 1, none⟩)) w := by
  simp [Instr.fieldAt, run_underlying Try.underlying40, Instr.sureAddr, fieldPlace, Try.sizeOf33, Addr.add_lit]
theorem fld_40_2 (b o : Nat) (w : World) : (Instr.fieldAt 40 (.pointer (some ⟨b, o, none⟩)) 2).run Try.prog w = .ok (.pointer (some ⟨b, o + 2, none⟩)) w := by
  simp [Instr.fieldAt, run_underlying Try.underlying40, Instr.sureAddr, fieldPlace, Try.sizeOf23, Addr.add_lit]
theorem fld_41_0 (b o : Nat) (w : World) : (Instr.fieldAt 41 (.pointer (some ⟨b, o, none⟩)) 0).run Try.prog w = .ok (.pointer (some ⟨b, o + 0, none⟩)) w := by
  simp [Instr.fieldAt, run_underlying Try.underlying41, Instr.sureAddr, fieldPlace, Try.sizeOf22, Addr.add_lit]
theorem fld_41_1 (b o : Nat) (w : World) : (Instr.fieldAt 41 (.pointer (some ⟨b, o, none⟩)) 1).run Try.prog w = .ok (.pointer (some ⟨b, o + 1, none⟩)) w := by
  simp [Instr.fieldAt, run_underlying Try.underlying41, Instr.sureAddr, fieldPlace, Try.sizeOf33, Addr.add_lit]
theorem fld_41_2 (b o : Nat) (w : World) : (Instr.fieldAt 41 (.pointer (some ⟨b, o, none⟩)) 2).run Try.prog w = .ok (.pointer (some ⟨b, o + 2, none⟩)) w := by
  simp [Instr.fieldAt, run_underlying Try.underlying41, Instr.sureAddr, fieldPlace, Try.sizeOf23, Addr.add_lit]
theorem fld_54_1 (b o : Nat) (w : World) : (Instr.fieldAt 54 (.pointer (some ⟨b, o, none⟩)) 1).run Try.prog w = .ok (.pointer (some ⟨b, o + 0, none⟩)) w := by
  simp [Instr.fieldAt, run_underlying Try.underlying54, Instr.sureAddr, fieldPlace, Try.sizeOf53, Addr.add_lit]
theorem fld_55_1 (b o : Nat) (w : World) : (Instr.fieldAt 55 (.pointer (some ⟨b, o, none⟩)) 1).run Try.prog w = .ok (.pointer (some ⟨b, o + 0, none⟩)) w := by
  simp [Instr.fieldAt, run_underlying Try.underlying55, Instr.sureAddr, fieldPlace, Try.sizeOf53, Addr.add_lit]
theorem fld_56_0 (b o : Nat) (w : World) : (Instr.fieldAt 56 (.pointer (some ⟨b, o, none⟩)) 0).run Try.prog w = .ok (.pointer (some ⟨b, o + 0, none⟩)) w := by
  simp [Instr.fieldAt, run_underlying Try.underlying56, Instr.sureAddr, fieldPlace, Try.sizeOf21, Addr.add_lit]
theorem fld_56_1 (b o : Nat) (w : World) : (Instr.fieldAt 56 (.pointer (some ⟨b, o, none⟩)) 1).run Try.prog w = .ok (.pointer (some ⟨b, o + 1, none⟩)) w := by
  simp [Instr.fieldAt, run_underlying Try.underlying56, Instr.sureAddr, fieldPlace, Try.sizeOf53, Addr.add_lit]
theorem fld_57_0 (b o : Nat) (w : World) : (Instr.fieldAt 57 (.pointer (some ⟨b, o, none⟩)) 0).run Try.prog w = .ok (.pointer (some ⟨b, o + 0, none⟩)) w := by
  simp [Instr.fieldAt, run_underlying Try.underlying57, Instr.sureAddr, fieldPlace, Try.sizeOf21, Addr.add_lit]
theorem fld_57_1 (b o : Nat) (w : World) : (Instr.fieldAt 57 (.pointer (some ⟨b, o, none⟩)) 1).run Try.prog w = .ok (.pointer (some ⟨b, o + 1, none⟩)) w := by
  simp [Instr.fieldAt, run_underlying Try.underlying57, Instr.sureAddr, fieldPlace, Try.sizeOf53, Addr.add_lit]
theorem fld_58_1 (b o : Nat) (w : World) : (Instr.fieldAt 58 (.pointer (some ⟨b, o, none⟩)) 1).run Try.prog w = .ok (.pointer (some ⟨b, o + 0, none⟩)) w := by
  simp [Instr.fieldAt, run_underlying Try.underlying58, Instr.sureAddr, fieldPlace, Try.sizeOf57, Addr.add_lit]
theorem fld_59_1 (b o : Nat) (w : World) : (Instr.fieldAt 59 (.pointer (some ⟨b, o, none⟩)) 1).run Try.prog w = .ok (.pointer (some ⟨b, o + 0, none⟩)) w := by
  simp [Instr.fieldAt, run_underlying Try.underlying59, Instr.sureAddr, fieldPlace, Try.sizeOf57, Addr.add_lit]
theorem fld_60_1 (b o : Nat) (w : World) : (Instr.fieldAt 60 (.pointer (some ⟨b, o, none⟩)) 1).run Try.prog w = .ok (.pointer (some ⟨b, o + 0, none⟩)) w := by
  simp [Instr.fieldAt, run_underlying Try.underlying60, Instr.sureAddr, fieldPlace, Try.sizeOf55, Addr.add_lit]
theorem fld_60_2 (b o : Nat) (w : World) : (Instr.fieldAt 60 (.pointer (some ⟨b, o, none⟩)) 2).run Try.prog w = .ok (.pointer (some ⟨b, o + 1, none⟩)) w := by
  simp [Instr.fieldAt, run_underlying Try.underlying60, Instr.sureAddr, fieldPlace, Try.sizeOf59, Addr.add_lit]
theorem fld_61_1 (b o : Nat) (w : World) : (Instr.fieldAt 61 (.pointer (some ⟨b, o, none⟩)) 1).run Try.prog w = .ok (.pointer (some ⟨b, o + 0, none⟩)) w := by
  simp [Instr.fieldAt, run_underlying Try.underlying61, Instr.sureAddr, fieldPlace, Try.sizeOf55, Addr.add_lit]
theorem fld_61_2 (b o : Nat) (w : World) : (Instr.fieldAt 61 (.pointer (some ⟨b, o, none⟩)) 2).run Try.prog w = .ok (.pointer (some ⟨b, o + 1, none⟩)) w := by
  simp [Instr.fieldAt, run_underlying Try.underlying61, Instr.sureAddr, fieldPlace, Try.sizeOf59, Addr.add_lit]
theorem fld_64_0 (b o : Nat) (w : World) : (Instr.fieldAt 64 (.pointer (some ⟨b, o, none⟩)) 0).run Try.prog w = .ok (.pointer (some ⟨b, o + 0, none⟩)) w := by
  simp [Instr.fieldAt, run_underlying Try.underlying64, Instr.sureAddr, fieldPlace, Try.sizeOf61, Addr.add_lit]
theorem fld_64_1 (b o : Nat) (w : World) : (Instr.fieldAt 64 (.pointer (some ⟨b, o, none⟩)) 1).run Try.prog w = .ok (.pointer (some ⟨b, o + 3, none⟩)) w := by
  simp [Instr.fieldAt, run_underlying Try.underlying64, Instr.sureAddr, fieldPlace, Try.sizeOf62, Addr.add_lit]
theorem fld_64_2 (b o : Nat) (w : World) : (Instr.fieldAt 64 (.pointer (some ⟨b, o, none⟩)) 2).run Try.prog w = .ok (.pointer (some ⟨b, o + 513, none⟩)) w := by
  simp [Instr.fieldAt, run_underlying Try.underlying64, Instr.sureAddr, fieldPlace, Try.sizeOf63, Addr.add_lit]
theorem fld_65_0 (b o : Nat) (w : World) : (Instr.fieldAt 65 (.pointer (some ⟨b, o, none⟩)) 0).run Try.prog w = .ok (.pointer (some ⟨b, o + 0, none⟩)) w := by
  simp [Instr.fieldAt, run_underlying Try.underlying65, Instr.sureAddr, fieldPlace, Try.sizeOf61, Addr.add_lit]
theorem fld_65_1 (b o : Nat) (w : World) : (Instr.fieldAt 65 (.pointer (some ⟨b, o, none⟩)) 1).run Try.prog w = .ok (.pointer (some ⟨b, o + 3, none⟩)) w := by
  simp [Instr.fieldAt, run_underlying Try.underlying65, Instr.sureAddr, fieldPlace, Try.sizeOf62, Addr.add_lit]
theorem fld_65_2 (b o : Nat) (w : World) : (Instr.fieldAt 65 (.pointer (some ⟨b, o, none⟩)) 2).run Try.prog w = .ok (.pointer (some ⟨b, o + 513, none⟩)) w := by
  simp [Instr.fieldAt, run_underlying Try.underlying65, Instr.sureAddr, fieldPlace, Try.sizeOf63, Addr.add_lit]
theorem fld_109_0 (b o : Nat) (w : World) : (Instr.fieldAt 109 (.pointer (some ⟨b, o, none⟩)) 0).run Try.prog w = .ok (.pointer (some ⟨b, o + 0, none⟩)) w := by
  simp [Instr.fieldAt, run_underlying Try.underlying109, Instr.sureAddr, fieldPlace, Try.sizeOf17, Addr.add_lit]
theorem fld_109_1 (b o : Nat) (w : World) : (Instr.fieldAt 109 (.pointer (some ⟨b, o, none⟩)) 1).run Try.prog w = .ok (.pointer (some ⟨b, o + 1, none⟩)) w := by
  simp [Instr.fieldAt, run_underlying Try.underlying109, Instr.sureAddr, fieldPlace, Try.sizeOf17, Addr.add_lit]
theorem fld_109_2 (b o : Nat) (w : World) : (Instr.fieldAt 109 (.pointer (some ⟨b, o, none⟩)) 2).run Try.prog w = .ok (.pointer (some ⟨b, o + 2, none⟩)) w := by
  simp [Instr.fieldAt, run_underlying Try.underlying109, Instr.sureAddr, fieldPlace, Try.sizeOf17, Addr.add_lit]
theorem fld_109_3 (b o : Nat) (w : World) : (Instr.fieldAt 109 (.pointer (some ⟨b, o, none⟩)) 3).run Try.prog w = .ok (.pointer (some ⟨b, o + 3, none⟩)) w := by
  simp [Instr.fieldAt, run_underlying Try.underlying109, Instr.sureAddr, fieldPlace, Try.sizeOf9, Addr.add_lit]
theorem fld_121_0 (b o : Nat) (w : World) : (Instr.fieldAt 121 (.pointer (some ⟨b, o, none⟩)) 0).run Try.prog w = .ok (.pointer (some ⟨b, o + 0, none⟩)) w := by
  simp [Instr.fieldAt, run_underlying Try.underlying121, Instr.sureAddr, fieldPlace, Try.sizeOf12, Addr.add_lit]
theorem fld_121_1 (b o : Nat) (w : World) : (Instr.fieldAt 121 (.pointer (some ⟨b, o, none⟩)) 1).run Try.prog w = .ok (.pointer (some ⟨b, o + 1, none⟩)) w := by
  simp [Instr.fieldAt, run_underlying Try.underlying121, Instr.sureAddr, fieldPlace, Try.sizeOf12, Addr.add_lit]
theorem fld_121_2 (b o : Nat) (w : World) : (Instr.fieldAt 121 (.pointer (some ⟨b, o, none⟩)) 2).run Try.prog w = .ok (.pointer (some ⟨b, o + 2, none⟩)) w := by
  simp [Instr.fieldAt, run_underlying Try.underlying121, Instr.sureAddr, fieldPlace, Try.sizeOf53, Addr.add_lit]
theorem fld_121_3 (b o : Nat) (w : World) : (Instr.fieldAt 121 (.pointer (some ⟨b, o, none⟩)) 3).run Try.prog w = .ok (.pointer (some ⟨b, o + 3, none⟩)) w := by
  simp [Instr.fieldAt, run_underlying Try.underlying121, Instr.sureAddr, fieldPlace, Try.sizeOf115, Addr.add_lit]
theorem fld_121_4 (b o : Nat) (w : World) : (Instr.fieldAt 121 (.pointer (some ⟨b, o, none⟩)) 4).run Try.prog w = .ok (.pointer (some ⟨b, o + 4, none⟩)) w := by
  simp [Instr.fieldAt, run_underlying Try.underlying121, Instr.sureAddr, fieldPlace, Try.sizeOf5, Addr.add_lit]
theorem fld_121_5 (b o : Nat) (w : World) : (Instr.fieldAt 121 (.pointer (some ⟨b, o, none⟩)) 5).run Try.prog w = .ok (.pointer (some ⟨b, o + 5, none⟩)) w := by
  simp [Instr.fieldAt, run_underlying Try.underlying121, Instr.sureAddr, fieldPlace, Try.sizeOf5, Addr.add_lit]
theorem fld_121_6 (b o : Nat) (w : World) : (Instr.fieldAt 121 (.pointer (some ⟨b, o, none⟩)) 6).run Try.prog w = .ok (.pointer (some ⟨b, o + 6, none⟩)) w := by
  simp [Instr.fieldAt, run_underlying Try.underlying121, Instr.sureAddr, fieldPlace, Try.sizeOf116, Addr.add_lit]
theorem fld_121_7 (b o : Nat) (w : World) : (Instr.fieldAt 121 (.pointer (some ⟨b, o, none⟩)) 7).run Try.prog w = .ok (.pointer (some ⟨b, o + 7, none⟩)) w := by
  simp [Instr.fieldAt, run_underlying Try.underlying121, Instr.sureAddr, fieldPlace, Try.sizeOf117, Addr.add_lit]
theorem fld_121_8 (b o : Nat) (w : World) : (Instr.fieldAt 121 (.pointer (some ⟨b, o, none⟩)) 8).run Try.prog w = .ok (.pointer (some ⟨b, o + 8, none⟩)) w := by
  simp [Instr.fieldAt, run_underlying Try.underlying121, Instr.sureAddr, fieldPlace, Try.sizeOf118, Addr.add_lit]
theorem fld_121_9 (b o : Nat) (w : World) : (Instr.fieldAt 121 (.pointer (some ⟨b, o, none⟩)) 9).run Try.prog w = .ok (.pointer (some ⟨b, o + 9, none⟩)) w := by
  simp [Instr.fieldAt, run_underlying Try.underlying121, Instr.sureAddr, fieldPlace, Try.sizeOf119, Addr.add_lit]
theorem fld_121_10 (b o : Nat) (w : World) : (Instr.fieldAt 121 (.pointer (some ⟨b, o, none⟩)) 10).run Try.prog w = .ok (.pointer (some ⟨b, o + 10, none⟩)) w := by
  simp [Instr.fieldAt, run_underlying Try.underlying121, Instr.sureAddr, fieldPlace, Try.sizeOf120, Addr.add_lit]
theorem info_3 : (Try.prog.info? 3).map (fun i => (i.zero, i.size, i.bytes)) = some (some (.int .i64 0), 1, 8) := by kernel_rfl
theorem info_4 : (Try.prog.info? 4).map (fun i => (i.zero, i.size, i.bytes)) = some (some (.bool false), 1, 1) := by kernel_rfl
theorem info_5 : (Try.prog.info? 5).map (fun i => (i.zero, i.size, i.bytes)) = some (some (.int .u8 0), 1, 1) := by kernel_rfl
theorem info_23 : (Try.prog.info? 23).map (fun i => (i.zero, i.size, i.bytes)) = some (some (.slice none 0 0), 1, 24) := by kernel_rfl
theorem bld_84_0_1_2 (x0 : Int) (x1 : Int) (x2 : Int) (w : World) : (Instr.build 84 #[(0, .int .u8 x0), (1, .int .u8 x1), (2, .int .u8 x2)]).run Try.prog w = .ok (.agg #[.int .u8 x0, .int .u8 x1, .int .u8 x2]) w := by
  simp [Instr.build, run_underlying Try.underlying84, Try.zeroValue84, Instr.fill, Value.cells, Try.sizeOf5]
theorem mixed : Try.prog.follows .mixedOrders = true := by kernel_rfl
end Go.Proofs.Ytjdbjdgobhjbkaa
namespace Go.Proofs.Ytjdbjdgobhjbkaa
open Go.RowKit Go.HL

/-! sync.Once, one goroutine: its parts -/
theorem raceDisable (w : World) : (callFunc 65 #[]).run Try.prog w = .ok (.value (.tuple #[])) w := run_call_mark0 Try.func65 (by kernel_rfl) (by kernel_rfl) (by kernel_rfl) .disable (by kernel_rfl) w
theorem raceEnable (w : World) : (callFunc 67 #[]).run Try.prog w = .ok (.value (.tuple #[])) w := run_call_mark0 Try.func67 (by kernel_rfl) (by kernel_rfl) (by kernel_rfl) .enable (by kernel_rfl) w
theorem raceAcquire (a : Addr) (w : World) : (callFunc 68 #[.pointer (some a)]).run Try.prog w = .ok (.value (.tuple #[])) w := run_call_marked Try.func68 (by kernel_rfl) (by kernel_rfl) (by kernel_rfl) .acquire (by kernel_rfl) a w
theorem raceRelease (a : Addr) (w : World) : (callFunc 70 #[.pointer (some a)]).run Try.prog w = .ok (.value (.tuple #[])) w := run_call_marked Try.func70 (by kernel_rfl) (by kernel_rfl) (by kernel_rfl) .releaseMerge (by kernel_rfl) a w
theorem store_deferred (a : Addr) (x : Value) (u : FrameMode) (w : World) (hc : w.cell? a = some x) (hz : w.frozen? a = false) :
    CallsD Try.prog 60 #[.pointer (some a), .bool true] u w fun e u' w' => u' = u ∧ (e = .returned (.tuple #[]) ∧ w' = w.drew.setCell a (.int .u32 1)) := by
  have hc' : w.drew.cell? a = some x := by go_simp
  have hz' : w.drew.frozen? a = false := by go_simp
  have hst := run_call_store (P := Try.prog) Try.func63 (by kernel_rfl) (by kernel_rfl) (by kernel_rfl) (by kernel_rfl) (k := .u32) (y := 1) hc' hz'
  go_enter_d Try.func60, Try.ntmps60
  go_wp2
  go_region_calls
  all_goals (go_end0; exact ⟨rfl, rfl⟩)
set_option maxRecDepth 100000 in
theorem unlock_deferred (a : Addr) (u : FrameMode) (w : World) (hc : w.cell? a = some (.int .i32 1)) (hz : w.frozen? a = false) :
    CallsD Try.prog 59 #[.pointer (some a)] u w fun e u' w' => u' = u ∧ (e = .returned (.tuple #[]) ∧ w' = w.setCell a (.int .i32 0)) := by
  have hd := raceDisable
  have he := raceEnable
  have hr := raceRelease
  have hadd := run_call_add (P := Try.prog) Try.func71 (by kernel_rfl) (by kernel_rfl) (by kernel_rfl) .i32 (by kernel_rfl) (y := -1) (s := 0) hc hz (by simp [go_sem]; rfl)
  have hcv := run_convert_to_unsafe (P := Try.prog) (src := 97) (dst := 101) Try.underlying97 Try.underlying101 (by kernel_rfl) hc
  go_enter_d Try.func59, Try.ntmps59
  go_wp2
  go_end0
  go_wp2
  go_end0
  exact ⟨rfl, rfl⟩
set_option maxRecDepth 100000 in
theorem lock_free (a : Addr) (w : World) (hc : w.cell? a = some (.int .i32 0)) (hz : w.frozen? a = false) :
    Calls Try.prog 58 #[.pointer (some a)] w fun e w' => e = .returned (.tuple #[]) ∧ w' = w.setCell a (.int .i32 1) := by
  have hd := raceDisable
  have he := raceEnable
  have ha := raceAcquire
  have hcas := run_call_cas_hit (P := Try.prog) Try.func66 (by kernel_rfl) (by kernel_rfl) (by kernel_rfl) .i32 (by kernel_rfl) (y := 1) hc hz
  have hc' : (w.setCell a (.int .i32 1)).cell? a = some (.int .i32 1) := World.cell?_setCell_same w a _ hc
  have hcv := run_convert_to_unsafe (P := Try.prog) (src := 97) (dst := 101) Try.underlying97 Try.underlying101 (by kernel_rfl) hc'
  go_enter Try.func58, Try.ntmps58
  go_wp2
  first | go_end0 | (simp only [Exit.inBlock, Exit.then]; refine bodyPost_ret (results_none rfl _ _ _) rfl ?_) | refine bodyPost_ret (results_none rfl _ _ _) rfl ?_
  go_wp2
  go_end0
  exact ⟨rfl, rfl⟩
end Go.Proofs.Ytjdbjdgobhjbkaa
namespace Go.HL
def xNext (x : Nat) : Nat := if 255 < 2 * x then (2 * x) ^^^ 285 else 2 * x
def X : Nat → Nat
  | 0 => 1
  | n + 1 => xNext (X n)
def expN : Nat → List UInt8
  | 0 => List.replicate 510 0
  | n + 1 => ((expN n).set n (UInt8.ofNat (X n))).set (n + 255) (UInt8.ofNat (X n))
def logN : Nat → List Nat
  | 0 => List.replicate 256 0
  | n + 1 => (logN n).set (X n) n
theorem X_lt : ∀ n : Fin 256, X n.1 < 256 := by decide +kernel
set_option maxRecDepth 100000 in
theorem exp_end : expN 255 = EXP := by decide +kernel
set_option maxRecDepth 100000 in
theorem log_end : logN 255 = LOG := by decide +kernel
end Go.HL
namespace Go.Proofs.Ytjdbjdgobhjbkaa
open Go.RowKit Go.HL

/-! the tables are worked out -/
abbrev lv (n : Nat) : Value := vi (n : Int)
def tabs (es : List UInt8) (ls : List Nat) : List Value := es.map v8 ++ ls.map lv
def cellsF (d s : Value) (es : List UInt8) (ls : List Nat) : List Value := d :: s :: .int .u32 0 :: tabs es ls
theorem set_e (d s : Value) {es : List UInt8} {ls : List Nat} {j : Nat} (x : UInt8) (h : j < es.length) : (cellsF d s es ls).set (0 + 3 + j) (v8 x) = cellsF d s (es.set j x) ls := by
  rw [show 0 + 3 + j = j + 1 + 1 + 1 from by omega]
  simp only [cellsF, tabs, List.set_cons_succ]
  rw [List.set_append_left _ _ (by rw [List.length_map]; exact h), List.map_set]
theorem set_l (d s : Value) {es : List UInt8} {ls : List Nat} {j : Nat} (n : Nat) (h : es.length = 510) : (cellsF d s es ls).set (0 + 513 + j) (lv n) = cellsF d s es (ls.set j n) := by
  rw [show 0 + 513 + j = (510 + j) + 1 + 1 + 1 from by omega]
  simp only [cellsF, tabs, List.set_cons_succ]
  rw [List.set_append_right _ _ (by rw [List.length_map]; omega), List.map_set, List.length_map, h, show 510 + j - 510 = j from by omega]
theorem at_e (d s : Value) {es : List UInt8} {ls : List Nat} {j : Nat} {x : UInt8} (h : es[j]? = some x) : (cellsF d s es ls)[0 + 3 + j]? = some (v8 x) := by
  rw [show 0 + 3 + j = j + 1 + 1 + 1 from by omega]
  simp only [cellsF, tabs, List.getElem?_cons_succ]
  rw [List.getElem?_append_left (by rw [List.length_map]; exact (List.getElem?_eq_some_iff.1 h).1), List.getElem?_map, h]
  rfl
theorem at_l (d s : Value) {es : List UInt8} {ls : List Nat} {j : Nat} {x : Nat} (h : es.length = 510) (hx : ls[j]? = some x) : (cellsF d s es ls)[0 + 513 + j]? = some (lv x) := by
  rw [show 0 + 513 + j = (510 + j) + 1 + 1 + 1 from by omega]
  simp only [cellsF, tabs, List.getElem?_cons_succ]
  rw [List.getElem?_append_right (by rw [List.length_map]; omega), List.length_map, h, show 510 + j - 510 = j from by omega, List.getElem?_map, hx]
  rfl
theorem cellsF_len (d s : Value) {es : List UInt8} {ls : List Nat} (h : es.length = 510) (h2 : ls.length = 256) : (cellsF d s es ls).length = 769 := by
  simp [cellsF, tabs, h, h2]
theorem expN_len (n : Nat) : (expN n).length = 510 := by
  induction n with
  | zero => rw [expN, List.length_replicate]
  | succ n ih => rw [expN, List.length_set, List.length_set, ih]
theorem logN_len (n : Nat) : (logN n).length = 256 := by
  induction n with
  | zero => rw [logN, List.length_replicate]
  | succ n ih => rw [logN, List.length_set, ih]
theorem b8X {n : Nat} (h : n < 256) : B8 (n : Int) = UInt8.ofNat n := by
  rw [B8, show ((n : Int) % 256).toNat = n from by omega]
set_option maxHeartbeats 2000000 in
theorem fill_calls {w : World} {g gv : Nat} (hb : Blk w g 65 (cellsF (.int .u32 0) (.int .i32 1) (expN 0) (logN 0))) (hv : Blk w gv 28 [.pointer (some ⟨g, 0, none⟩)]) (hne : g ≠ gv) :
    Calls Try.prog 53 [.pointer (some ⟨gv, 0, none⟩)].toArray w (Ret fun v w' => v = .tuple #[] ∧ Blk w' g 65 (cellsF (.int .u32 0) (.int .i32 1) (expN 255) (logN 255)) ∧ Chg (fun x => x = g) w w') := by
  have hw : Chg (fun x => x = g) w w := Chg.refl _ w
  have lg := hb.lt
  refine Calls.of_WC Try.func53 rfl Try.ntmps53 (by simp) ?_
  refine WC.seq (WC.region (WL.assign rfl rfl (WL.nil (WX.then_normal (WC.seq (WC.region (WL.move rfl rfl (?_))))))))
  refine WL.nil (WX.then_normal (WC.block (?_)))
  refine WC.loop (σ := Nat) (fun n => [(0, .pointer (some ⟨gv, 0, none⟩)), (1, vi (X n)), (3, vi n)])
    (fun n w' => n ≤ 255 ∧ Blk w' g 65 (cellsF (.int .u32 0) (.int .i32 1) (expN n) (logN n)) ∧ Blk w' gv 28 [.pointer (some ⟨g, 0, none⟩)] ∧ Chg (fun x => x = g) w w') (fun n => 255 - n) 0 ⟨rfl, rfl, rfl, trivial⟩ ⟨Nat.zero_le _, hb, hv, hw⟩ ?_
  clear hb hv hw
  rintro n w2 ⟨hn, hb, hv, hw⟩
  have hX : X n < 256 := X_lt ⟨n, by omega⟩
  have hel := expN_len n
  have hll := logN_len n
  obtain ⟨x, hx⟩ : ∃ x, x = X n := ⟨_, rfl⟩
  obtain ⟨es, hes⟩ : ∃ es, es = expN n := ⟨_, rfl⟩
  obtain ⟨ls, hls⟩ : ∃ ls, ls = logN n := ⟨_, rfl⟩
  rw [← hx] at hX ⊢
  rw [← hes] at hel hb
  rw [← hls] at hll hb
  refine WC.seq (WC.region (?_))
  refine WL.lss? rfl rfl rfl (fun h4 => ?_) (fun h4 => ?_)
  ·
    refine WL.nil (WX.then_normal (WC.seq (WC.cond_true rfl (WC.skip (WX.then_normal (WC.seq (WC.block (?_))))))))
    refine WC.seq (WC.region (WL.move rfl rfl (WL.assign rfl rfl (WL.nil (WX.then_normal (WC.seq (?_)))))))
    refine WC.draw (fun x => x = g) [0, 1, 2, 3, 4, 5, 6, 7, 8, 9, 10, 11, 13, 14, 15] [12, 16] mixed rfl rfl (fun wd_1 kd_1 zd_1 => ?_)
    have zs_kd_1 := kd_1.size
    replace hb := hb.pure kd_1
    replace hv := hv.pure kd_1
    replace hw := hw.pure kd_1
    apply DQ.step (E' := [(0, _)])
    case ho => rfl
    case hs => exact ⟨rfl, trivial⟩
    case hk => rfl
    case h1 =>
      intro wq_3 kq_3
      have zs_kq_3 := kq_3.size
      replace hv := hv.chg kq_3 (by first | (intro x h1 h2; exact h2) | (intro x h0 h1 h2; exact hS x h1 h2) | (intro x h0 h1 h2; have h3 : _ = _ := h2; subst h3; exact hSR h1.1) | (intro x h1 h2; have h3 : _ = _ := h2; subst h3; assumption) | (intro x h1 h2; have h3 : _ = _ := h2; exfalso; omega) | (intro b h1 h2 h3; have h4 : _ = _ := h3; (try dsimp only at h2); exfalso; omega) | (intro h1; have h2 : _ = _ := h1; exfalso; omega) | (intro h1; have h2 : _ ≤ _ := h1; exfalso; omega) | (intros; exfalso; (try dsimp only at *); omega) | (intro b h1 h2 h3; exfalso; have h4 := h3.2; (try dsimp only at *); omega) | (intro h1; exfalso; have h4 := h1.2; (try dsimp only at *); omega) | (intro x h1 h2; exfalso; have h4 := h2.2; (try dsimp only at *); omega) | (intro x h1 h2; exact ⟨_, rfl, h2⟩) | (intro x h1 h2; have h4 := h2.1; have h5 := h2.2; exfalso; omega) | (intro x h1 h2; exact h2.1) | (intro x h1 h2; rcases h2.1 with h3 | h3; exact h3; exfalso; omega) | (intro x h1 h2; rcases h2 with h3 | h3; exact h3; exfalso; omega))
      refine WL.loadB Try.isAgg28 hv rfl rfl rfl (?_)
      refine WL.nil ?_
      exact WX.one ⟨rfl, by first | exact Chg.refl _ _ | assumption⟩
    apply DQ.step (E' := [(2, _)])
    case ho => rfl
    case hs => exact ⟨rfl, trivial⟩
    case hk => rfl
    case h1 =>
      intro wq_4 kq_4
      refine WL.move rfl rfl (?_)
      refine WL.nil ?_
      exact WX.one ⟨rfl, by first | exact Chg.refl _ _ | assumption⟩
    apply DQ.step (E' := [(0, _)])
    case ho => rfl
    case hs => exact ⟨rfl, trivial⟩
    case hk => rfl
    case h1 =>
      intro wq_5 kq_5
      have zs_kq_5 := kq_5.size
      replace hv := hv.chg kq_5 (by first | (intro x h1 h2; exact h2) | (intro x h0 h1 h2; exact hS x h1 h2) | (intro x h0 h1 h2; have h3 : _ = _ := h2; subst h3; exact hSR h1.1) | (intro x h1 h2; have h3 : _ = _ := h2; subst h3; assumption) | (intro x h1 h2; have h3 : _ = _ := h2; exfalso; omega) | (intro b h1 h2 h3; have h4 : _ = _ := h3; (try dsimp only at h2); exfalso; omega) | (intro h1; have h2 : _ = _ := h1; exfalso; omega) | (intro h1; have h2 : _ ≤ _ := h1; exfalso; omega) | (intros; exfalso; (try dsimp only at *); omega) | (intro b h1 h2 h3; exfalso; have h4 := h3.2; (try dsimp only at *); omega) | (intro h1; exfalso; have h4 := h1.2; (try dsimp only at *); omega) | (intro x h1 h2; exfalso; have h4 := h2.2; (try dsimp only at *); omega) | (intro x h1 h2; exact ⟨_, rfl, h2⟩) | (intro x h1 h2; have h4 := h2.1; have h5 := h2.2; exfalso; omega) | (intro x h1 h2; exact h2.1) | (intro x h1 h2; rcases h2.1 with h3 | h3; exact h3; exfalso; omega) | (intro x h1 h2; rcases h2 with h3 | h3; exact h3; exfalso; omega))
      refine WL.loadB Try.isAgg28 hv rfl rfl rfl (?_)
      refine WL.nil ?_
      exact WX.one ⟨rfl, by first | exact Chg.refl _ _ | assumption⟩
    apply DQ.step (E' := [(2, _)])
    case ho => rfl
    case hs => exact ⟨rfl, trivial⟩
    case hk => rfl
    case h1 =>
      intro wq_6 kq_6
      refine WL.move rfl rfl (?_)
      refine WL.nil ?_
      exact WX.one ⟨rfl, by first | exact Chg.refl _ _ | assumption⟩
    apply DQ.step (E' := [(9, _)])
    case ho => rfl
    case hs => exact ⟨rfl, trivial⟩
    case hk => rfl
    case h1 =>
      intro wq_7 kq_7
      refine WL.add64 rfl rfl (by first | omega | (constructor <;> omega)) rfl (?_)
      refine WL.nil ?_
      exact WX.one ⟨rfl, by first | exact Chg.refl _ _ | assumption⟩
    apply DQ.step (E' := [(1, _)])
    case ho => rfl
    case hs => exact ⟨rfl, trivial⟩
    case hk => rfl
    case h1 =>
      intro wq_8 kq_8
      refine WL.move rfl rfl (?_)
      refine WL.nil ?_
      exact WX.one ⟨rfl, by first | exact Chg.refl _ _ | assumption⟩
    apply DQ.step (E' := [(11, _)])
    case ho => rfl
    case hs => exact ⟨rfl, trivial⟩
    case hk => rfl
    case h1 =>
      intro wq_9 kq_9
      have zs_kq_9 := kq_9.size
      replace hv := hv.chg kq_9 (by first | (intro x h1 h2; exact h2) | (intro x h0 h1 h2; exact hS x h1 h2) | (intro x h0 h1 h2; have h3 : _ = _ := h2; subst h3; exact hSR h1.1) | (intro x h1 h2; have h3 : _ = _ := h2; subst h3; assumption) | (intro x h1 h2; have h3 : _ = _ := h2; exfalso; omega) | (intro b h1 h2 h3; have h4 : _ = _ := h3; (try dsimp only at h2); exfalso; omega) | (intro h1; have h2 : _ = _ := h1; exfalso; omega) | (intro h1; have h2 : _ ≤ _ := h1; exfalso; omega) | (intros; exfalso; (try dsimp only at *); omega) | (intro b h1 h2 h3; exfalso; have h4 := h3.2; (try dsimp only at *); omega) | (intro h1; exfalso; have h4 := h1.2; (try dsimp only at *); omega) | (intro x h1 h2; exfalso; have h4 := h2.2; (try dsimp only at *); omega) | (intro x h1 h2; exact ⟨_, rfl, h2⟩) | (intro x h1 h2; have h4 := h2.1; have h5 := h2.2; exfalso; omega) | (intro x h1 h2; exact h2.1) | (intro x h1 h2; rcases h2.1 with h3 | h3; exact h3; exfalso; omega) | (intro x h1 h2; rcases h2 with h3 | h3; exact h3; exfalso; omega))
      refine WL.c_i64_u8 Try.underlying3 Try.underlying5 rfl rfl ?_
      rw [b8X hX]
      refine WL.nil ?_
      exact WX.one ⟨rfl, by first | exact Chg.refl _ _ | assumption⟩
    apply DQ.step (E' := [(1, _)])
    case ho => rfl
    case hs => exact ⟨rfl, trivial⟩
    case hk => rfl
    case h1 =>
      intro wq_10 kq_10
      refine WL.move rfl rfl (?_)
      refine WL.nil ?_
      exact WX.one ⟨rfl, by first | exact Chg.refl _ _ | assumption⟩
    apply DQ.step (E' := [(13, _)])
    case ho => rfl
    case hs => exact ⟨rfl, trivial⟩
    case hk => rfl
    case h1 =>
      intro wq_11 kq_11
      have zs_kq_11 := kq_11.size
      replace hv := hv.chg kq_11 (by first | (intro x h1 h2; exact h2) | (intro x h0 h1 h2; exact hS x h1 h2) | (intro x h0 h1 h2; have h3 : _ = _ := h2; subst h3; exact hSR h1.1) | (intro x h1 h2; have h3 : _ = _ := h2; subst h3; assumption) | (intro x h1 h2; have h3 : _ = _ := h2; exfalso; omega) | (intro b h1 h2 h3; have h4 : _ = _ := h3; (try dsimp only at h2); exfalso; omega) | (intro h1; have h2 : _ = _ := h1; exfalso; omega) | (intro h1; have h2 : _ ≤ _ := h1; exfalso; omega) | (intros; exfalso; (try dsimp only at *); omega) | (intro b h1 h2 h3; exfalso; have h4 := h3.2; (try dsimp only at *); omega) | (intro h1; exfalso; have h4 := h1.2; (try dsimp only at *); omega) | (intro x h1 h2; exfalso; have h4 := h2.2; (try dsimp only at *); omega) | (intro x h1 h2; exact ⟨_, rfl, h2⟩) | (intro x h1 h2; have h4 := h2.1; have h5 := h2.2; exfalso; omega) | (intro x h1 h2; exact h2.1) | (intro x h1 h2; rcases h2.1 with h3 | h3; exact h3; exfalso; omega) | (intro x h1 h2; rcases h2 with h3 | h3; exact h3; exfalso; omega))
      refine WL.c_i64_u8 Try.underlying3 Try.underlying5 rfl rfl ?_
      rw [b8X hX]
      refine WL.nil ?_
      exact WX.one ⟨rfl, by first | exact Chg.refl _ _ | assumption⟩
    apply DQ.step (E' := [(6, _)])
    case ho => rfl
    case hs => exact ⟨rfl, trivial⟩
    case hk => rfl
    case h1 =>
      intro wq_12 kq_12
      refine WL.nilCheck rfl rfl (?_)
      refine WL.nil ?_
      exact WX.one ⟨rfl, by first | exact Chg.refl _ _ | assumption⟩
    apply DQ.step (E' := [(15, _)])
    case ho => rfl
    case hs => exact ⟨rfl, trivial⟩
    case hk => rfl
    case h1 =>
      intro wq_13 kq_13
      refine WL.fieldAddr (fld_65_1) rfl rfl (?_)
      refine WL.nil ?_
      exact WX.one ⟨rfl, by first | exact Chg.refl _ _ | assumption⟩
    apply DQ.step (E' := [(16, _), (7, _)])
    case ho => rfl
    case hs => exact ⟨rfl, rfl, trivial⟩
    case hk => rfl
    case h1 =>
      intro wq_14 kq_14
      have zs_kq_14 := kq_14.size
      replace hv := hv.chg kq_14 (by first | (intro x h1 h2; exact h2) | (intro x h0 h1 h2; exact hS x h1 h2) | (intro x h0 h1 h2; have h3 : _ = _ := h2; subst h3; exact hSR h1.1) | (intro x h1 h2; have h3 : _ = _ := h2; subst h3; assumption) | (intro x h1 h2; have h3 : _ = _ := h2; exfalso; omega) | (intro b h1 h2 h3; have h4 : _ = _ := h3; (try dsimp only at h2); exfalso; omega) | (intro h1; have h2 : _ = _ := h1; exfalso; omega) | (intro h1; have h2 : _ ≤ _ := h1; exfalso; omega) | (intros; exfalso; (try dsimp only at *); omega) | (intro b h1 h2 h3; exfalso; have h4 := h3.2; (try dsimp only at *); omega) | (intro h1; exfalso; have h4 := h1.2; (try dsimp only at *); omega) | (intro x h1 h2; exfalso; have h4 := h2.2; (try dsimp only at *); omega) | (intro x h1 h2; exact ⟨_, rfl, h2⟩) | (intro x h1 h2; have h4 := h2.1; have h5 := h2.2; exfalso; omega) | (intro x h1 h2; exact h2.1) | (intro x h1 h2; rcases h2.1 with h3 | h3; exact h3; exfalso; omega) | (intro x h1 h2; rcases h2 with h3 | h3; exact h3; exfalso; omega))
      refine WL.indexArrO n Try.underlying62 Try.sizeOf5 rfl rfl ⟨rfl, by omega⟩ rfl ?_
      refine WL.nil ?_
      exact WX.one ⟨rfl, by first | exact Chg.refl _ _ | assumption⟩
    apply DQ.step (E' := [(8, _)])
    case ho => rfl
    case hs => exact ⟨rfl, trivial⟩
    case hk => rfl
    case h1 =>
      intro wq_15 kq_15
      refine WL.nilCheck rfl rfl (?_)
      refine WL.nil ?_
      exact WX.one ⟨rfl, by first | exact Chg.refl _ _ | assumption⟩
    apply DQ.step (E' := [(18, _)])
    case ho => rfl
    case hs => exact ⟨rfl, trivial⟩
    case hk => rfl
    case h1 =>
      intro wq_16 kq_16
      refine WL.fieldAddr (fld_65_1) rfl rfl (?_)
      refine WL.nil ?_
      exact WX.one ⟨rfl, by first | exact Chg.refl _ _ | assumption⟩
    apply DQ.step (E' := [(19, _), (10, _)])
    case ho => rfl
    case hs => exact ⟨rfl, rfl, trivial⟩
    case hk => rfl
    case h1 =>
      intro wq_17 kq_17
      have zs_kq_17 := kq_17.size
      replace hv := hv.chg kq_17 (by first | (intro x h1 h2; exact h2) | (intro x h0 h1 h2; exact hS x h1 h2) | (intro x h0 h1 h2; have h3 : _ = _ := h2; subst h3; exact hSR h1.1) | (intro x h1 h2; have h3 : _ = _ := h2; subst h3; assumption) | (intro x h1 h2; have h3 : _ = _ := h2; exfalso; omega) | (intro b h1 h2 h3; have h4 : _ = _ := h3; (try dsimp only at h2); exfalso; omega) | (intro h1; have h2 : _ = _ := h1; exfalso; omega) | (intro h1; have h2 : _ ≤ _ := h1; exfalso; omega) | (intros; exfalso; (try dsimp only at *); omega) | (intro b h1 h2 h3; exfalso; have h4 := h3.2; (try dsimp only at *); omega) | (intro h1; exfalso; have h4 := h1.2; (try dsimp only at *); omega) | (intro x h1 h2; exfalso; have h4 := h2.2; (try dsimp only at *); omega) | (intro x h1 h2; exact ⟨_, rfl, h2⟩) | (intro x h1 h2; have h4 := h2.1; have h5 := h2.2; exfalso; omega) | (intro x h1 h2; exact h2.1) | (intro x h1 h2; rcases h2.1 with h3 | h3; exact h3; exfalso; omega) | (intro x h1 h2; rcases h2 with h3 | h3; exact h3; exfalso; omega))
      refine WL.indexArrO (n + 255) Try.underlying62 Try.sizeOf5 rfl rfl ⟨by omega, by omega⟩ rfl ?_
      refine WL.nil ?_
      exact WX.one ⟨rfl, by first | exact Chg.refl _ _ | assumption⟩
    refine DQ.done (fun hd_2 => ?_)
    refine DL.step [(17, _), (12, _)] rfl ⟨rfl, rfl, trivial⟩ rfl (fun wq_18 kq_18 => ?_)
    have zs_kq_18 := kq_18.size
    replace hb := hb.pure kq_18
    replace hv := hv.pure kq_18
    replace hw := hw.pure kq_18
    replace hd_2 := hd_2.pure kq_18
    refine WL.store Try.sizeOf5 hb rfl rfl rfl (by rw [List.getElem?_eq_getElem (by rw [cellsF_len _ _ hel hll]; omega)]; rfl) ?_
    intro w3 hs3 hn3 k3
    rw [set_e _ _ _ (by omega)] at hn3
    have zs_k3 := k3.size
    replace hv := hv.chg k3 (by first | (intro x h1 h2; exact h2) | (intro x h0 h1 h2; exact hS x h1 h2) | (intro x h0 h1 h2; have h3 : _ = _ := h2; subst h3; exact hSR h1.1) | (intro x h1 h2; have h3 : _ = _ := h2; subst h3; assumption) | (intro x h1 h2; have h3 : _ = _ := h2; exfalso; omega) | (intro b h1 h2 h3; have h4 : _ = _ := h3; (try dsimp only at h2); exfalso; omega) | (intro h1; have h2 : _ = _ := h1; exfalso; omega) | (intro h1; have h2 : _ ≤ _ := h1; exfalso; omega) | (intros; exfalso; (try dsimp only at *); omega) | (intro b h1 h2 h3; exfalso; have h4 := h3.2; (try dsimp only at *); omega) | (intro h1; exfalso; have h4 := h1.2; (try dsimp only at *); omega) | (intro x h1 h2; exfalso; have h4 := h2.2; (try dsimp only at *); omega) | (intro x h1 h2; exact ⟨_, rfl, h2⟩) | (intro x h1 h2; have h4 := h2.1; have h5 := h2.2; exfalso; omega) | (intro x h1 h2; exact h2.1) | (intro x h1 h2; rcases h2.1 with h3 | h3; exact h3; exfalso; omega) | (intro x h1 h2; rcases h2 with h3 | h3; exact h3; exfalso; omega))
    replace hw := hw.chg k3 (by first | (intro x h1 h2; exact h2) | (intro x h0 h1 h2; exact hS x h1 h2) | (intro x h0 h1 h2; have h3 : _ = _ := h2; subst h3; exact hSR h1.1) | (intro x h1 h2; have h3 : _ = _ := h2; subst h3; assumption) | (intro x h1 h2; have h3 : _ = _ := h2; exfalso; omega) | (intro b h1 h2 h3; have h4 : _ = _ := h3; (try dsimp only at h2); exfalso; omega) | (intro h1; have h2 : _ = _ := h1; exfalso; omega) | (intro h1; have h2 : _ ≤ _ := h1; exfalso; omega) | (intros; exfalso; (try dsimp only at *); omega) | (intro b h1 h2 h3; exfalso; have h4 := h3.2; (try dsimp only at *); omega) | (intro h1; exfalso; have h4 := h1.2; (try dsimp only at *); omega) | (intro x h1 h2; exfalso; have h4 := h2.2; (try dsimp only at *); omega) | (intro x h1 h2; exact ⟨_, rfl, h2⟩) | (intro x h1 h2; have h4 := h2.1; have h5 := h2.2; exfalso; omega) | (intro x h1 h2; exact h2.1) | (intro x h1 h2; rcases h2.1 with h3 | h3; exact h3; exfalso; omega) | (intro x h1 h2; rcases h2 with h3 | h3; exact h3; exfalso; omega))
    replace hd_2 := hd_2.chg k3 (by first | (intro x h1 h2; exact h2) | (intro x h0 h1 h2; exact hS x h1 h2) | (intro x h0 h1 h2; have h3 : _ = _ := h2; subst h3; exact hSR h1.1) | (intro x h1 h2; have h3 : _ = _ := h2; subst h3; assumption) | (intro x h1 h2; have h3 : _ = _ := h2; exfalso; omega) | (intro b h1 h2 h3; have h4 : _ = _ := h3; (try dsimp only at h2); exfalso; omega) | (intro h1; have h2 : _ = _ := h1; exfalso; omega) | (intro h1; have h2 : _ ≤ _ := h1; exfalso; omega) | (intros; exfalso; (try dsimp only at *); omega) | (intro b h1 h2 h3; exfalso; have h4 := h3.2; (try dsimp only at *); omega) | (intro h1; exfalso; have h4 := h1.2; (try dsimp only at *); omega) | (intro x h1 h2; exfalso; have h4 := h2.2; (try dsimp only at *); omega) | (intro x h1 h2; exact ⟨_, rfl, h2⟩) | (intro x h1 h2; have h4 := h2.1; have h5 := h2.2; exfalso; omega) | (intro x h1 h2; exact h2.1) | (intro x h1 h2; rcases h2.1 with h3 | h3; exact h3; exfalso; omega) | (intro x h1 h2; rcases h2 with h3 | h3; exact h3; exfalso; omega))
    replace hb := hn3
    have hel3 : (es.set n (UInt8.ofNat x)).length = 510 := by rw [List.length_set]; exact hel
    refine WL.nil ?_
    refine WX.one0 (v := undef) ⟨hd_2, ?_⟩
    refine DL.step [(20, _), (14, _)] rfl ⟨rfl, rfl, trivial⟩ rfl (fun wq_19 kq_19 => ?_)
    have zs_kq_19 := kq_19.size
    replace hb := hb.pure kq_19
    replace hv := hv.pure kq_19
    replace hw := hw.pure kq_19
    replace hd_2 := hd_2.pure kq_19
    refine WL.store Try.sizeOf5 hb rfl rfl rfl (by rw [List.getElem?_eq_getElem (by rw [cellsF_len _ _ hel3 hll]; omega)]; rfl) ?_
    intro w4 hs4 hn4 k4
    rw [set_e _ _ _ (by omega)] at hn4
    have zs_k4 := k4.size
    replace hv := hv.chg k4 (by first | (intro x h1 h2; exact h2) | (intro x h0 h1 h2; exact hS x h1 h2) | (intro x h0 h1 h2; have h3 : _ = _ := h2; subst h3; exact hSR h1.1) | (intro x h1 h2; have h3 : _ = _ := h2; subst h3; assumption) | (intro x h1 h2; have h3 : _ = _ := h2; exfalso; omega) | (intro b h1 h2 h3; have h4 : _ = _ := h3; (try dsimp only at h2); exfalso; omega) | (intro h1; have h2 : _ = _ := h1; exfalso; omega) | (intro h1; have h2 : _ ≤ _ := h1; exfalso; omega) | (intros; exfalso; (try dsimp only at *); omega) | (intro b h1 h2 h3; exfalso; have h4 := h3.2; (try dsimp only at *); omega) | (intro h1; exfalso; have h4 := h1.2; (try dsimp only at *); omega) | (intro x h1 h2; exfalso; have h4 := h2.2; (try dsimp only at *); omega) | (intro x h1 h2; exact ⟨_, rfl, h2⟩) | (intro x h1 h2; have h4 := h2.1; have h5 := h2.2; exfalso; omega) | (intro x h1 h2; exact h2.1) | (intro x h1 h2; rcases h2.1 with h3 | h3; exact h3; exfalso; omega) | (intro x h1 h2; rcases h2 with h3 | h3; exact h3; exfalso; omega))
    replace hw := hw.chg k4 (by first | (intro x h1 h2; exact h2) | (intro x h0 h1 h2; exact hS x h1 h2) | (intro x h0 h1 h2; have h3 : _ = _ := h2; subst h3; exact hSR h1.1) | (intro x h1 h2; have h3 : _ = _ := h2; subst h3; assumption) | (intro x h1 h2; have h3 : _ = _ := h2; exfalso; omega) | (intro b h1 h2 h3; have h4 : _ = _ := h3; (try dsimp only at h2); exfalso; omega) | (intro h1; have h2 : _ = _ := h1; exfalso; omega) | (intro h1; have h2 : _ ≤ _ := h1; exfalso; omega) | (intros; exfalso; (try dsimp only at *); omega) | (intro b h1 h2 h3; exfalso; have h4 := h3.2; (try dsimp only at *); omega) | (intro h1; exfalso; have h4 := h1.2; (try dsimp only at *); omega) | (intro x h1 h2; exfalso; have h4 := h2.2; (try dsimp only at *); omega) | (intro x h1 h2; exact ⟨_, rfl, h2⟩) | (intro x h1 h2; have h4 := h2.1; have h5 := h2.2; exfalso; omega) | (intro x h1 h2; exact h2.1) | (intro x h1 h2; rcases h2.1 with h3 | h3; exact h3; exfalso; omega) | (intro x h1 h2; rcases h2 with h3 | h3; exact h3; exfalso; omega))
    replace hd_2 := hd_2.chg k4 (by first | (intro x h1 h2; exact h2) | (intro x h0 h1 h2; exact hS x h1 h2) | (intro x h0 h1 h2; have h3 : _ = _ := h2; subst h3; exact hSR h1.1) | (intro x h1 h2; have h3 : _ = _ := h2; subst h3; assumption) | (intro x h1 h2; have h3 : _ = _ := h2; exfalso; omega) | (intro b h1 h2 h3; have h4 : _ = _ := h3; (try dsimp only at h2); exfalso; omega) | (intro h1; have h2 : _ = _ := h1; exfalso; omega) | (intro h1; have h2 : _ ≤ _ := h1; exfalso; omega) | (intros; exfalso; (try dsimp only at *); omega) | (intro b h1 h2 h3; exfalso; have h4 := h3.2; (try dsimp only at *); omega) | (intro h1; exfalso; have h4 := h1.2; (try dsimp only at *); omega) | (intro x h1 h2; exfalso; have h4 := h2.2; (try dsimp only at *); omega) | (intro x h1 h2; exact ⟨_, rfl, h2⟩) | (intro x h1 h2; have h4 := h2.1; have h5 := h2.2; exfalso; omega) | (intro x h1 h2; exact h2.1) | (intro x h1 h2; rcases h2.1 with h3 | h3; exact h3; exfalso; omega) | (intro x h1 h2; rcases h2 with h3 | h3; exact h3; exfalso; omega))
    replace hb := hn4
    have hel4 : ((es.set n (UInt8.ofNat x)).set (n + 255) (UInt8.ofNat x)).length = 510 := by rw [List.length_set]; exact hel3
    refine WL.nil ?_
    refine WX.one0 (v := undef) ⟨hd_2, ?_⟩
    refine DL.done (fun we_20 ke_20 => ?_)
    have zs_ke_20 := ke_20.size
    replace hb := hb.pure ke_20
    replace hv := hv.pure ke_20
    replace hw := hw.pure ke_20
    replace hd_2 := hd_2.pure ke_20
    refine WX.then_normal (WC.seq (WC.region (WL.loadB Try.isAgg28 hv rfl rfl rfl (WL.move rfl rfl (WL.move rfl rfl (WL.nilCheck rfl rfl (WL.fieldAddr (fld_65_2) rfl rfl (?_))))))))
    refine WL.indexArrO x Try.underlying63 Try.sizeOf3 rfl rfl ⟨rfl, by omega⟩ rfl ?_
    refine WL.store Try.sizeOf3 hb rfl rfl rfl (by rw [List.getElem?_eq_getElem (by rw [cellsF_len _ _ hel4 hll]; omega)]; rfl) ?_
    intro w5 hs5 hn5 k5
    rw [set_l _ _ _ hel4] at hn5
    have zs_k5 := k5.size
    replace hv := hv.chg k5 (by first | (intro x h1 h2; exact h2) | (intro x h0 h1 h2; exact hS x h1 h2) | (intro x h0 h1 h2; have h3 : _ = _ := h2; subst h3; exact hSR h1.1) | (intro x h1 h2; have h3 : _ = _ := h2; subst h3; assumption) | (intro x h1 h2; have h3 : _ = _ := h2; exfalso; omega) | (intro b h1 h2 h3; have h4 : _ = _ := h3; (try dsimp only at h2); exfalso; omega) | (intro h1; have h2 : _ = _ := h1; exfalso; omega) | (intro h1; have h2 : _ ≤ _ := h1; exfalso; omega) | (intros; exfalso; (try dsimp only at *); omega) | (intro b h1 h2 h3; exfalso; have h4 := h3.2; (try dsimp only at *); omega) | (intro h1; exfalso; have h4 := h1.2; (try dsimp only at *); omega) | (intro x h1 h2; exfalso; have h4 := h2.2; (try dsimp only at *); omega) | (intro x h1 h2; exact ⟨_, rfl, h2⟩) | (intro x h1 h2; have h4 := h2.1; have h5 := h2.2; exfalso; omega) | (intro x h1 h2; exact h2.1) | (intro x h1 h2; rcases h2.1 with h3 | h3; exact h3; exfalso; omega) | (intro x h1 h2; rcases h2 with h3 | h3; exact h3; exfalso; omega))
    replace hw := hw.chg k5 (by first | (intro x h1 h2; exact h2) | (intro x h0 h1 h2; exact hS x h1 h2) | (intro x h0 h1 h2; have h3 : _ = _ := h2; subst h3; exact hSR h1.1) | (intro x h1 h2; have h3 : _ = _ := h2; subst h3; assumption) | (intro x h1 h2; have h3 : _ = _ := h2; exfalso; omega) | (intro b h1 h2 h3; have h4 : _ = _ := h3; (try dsimp only at h2); exfalso; omega) | (intro h1; have h2 : _ = _ := h1; exfalso; omega) | (intro h1; have h2 : _ ≤ _ := h1; exfalso; omega) | (intros; exfalso; (try dsimp only at *); omega) | (intro b h1 h2 h3; exfalso; have h4 := h3.2; (try dsimp only at *); omega) | (intro h1; exfalso; have h4 := h1.2; (try dsimp only at *); omega) | (intro x h1 h2; exfalso; have h4 := h2.2; (try dsimp only at *); omega) | (intro x h1 h2; exact ⟨_, rfl, h2⟩) | (intro x h1 h2; have h4 := h2.1; have h5 := h2.2; exfalso; omega) | (intro x h1 h2; exact h2.1) | (intro x h1 h2; rcases h2.1 with h3 | h3; exact h3; exfalso; omega) | (intro x h1 h2; rcases h2 with h3 | h3; exact h3; exfalso; omega))
    replace hb := hn5
    refine WL.nil (WX.then_normal (WC.seq (WC.region (WL.move rfl rfl (?_)))))
    refine WL.num rfl rfl (n_shli _ _ x 1 (by decide) (by omega) _) rfl ?_
    refine WL.assign rfl rfl (WL.nil (WX.then_normal (WC.seq (WC.region (WL.move rfl rfl (?_))))))
    refine WL.gtr? rfl rfl rfl (fun h30 => ?_) (fun h30 => ?_)
    ·
      refine WL.nil (WX.then_normal (WC.cond_true rfl (WC.region (WL.move rfl rfl (?_)))))
      refine WL.num rfl rfl (n_xori _ _ (x * 2 ^ 1) 285 (by omega) (by decide)) rfl ?_
      refine WL.assign rfl rfl (WL.nil (WX.block_normal (WX.then_normal (WC.region (WL.add64 rfl rfl (by first | omega | (constructor <;> omega)) rfl (WL.move rfl rfl (WL.nil (?_))))))))
      have e1 : expN (n + 1) = (es.set n (UInt8.ofNat x)).set (n + 255) (UInt8.ofNat x) := by rw [expN, ← hes, ← hx]
      have e2 : logN (n + 1) = ls.set x n := by rw [logN, ← hls, ← hx]
      first
        | (have e3 : X (n + 1) = (x * 2 ^ 1) ^^^ 285 := by rw [X, ← hx, xNext, if_pos (by omega), Nat.mul_comm]
           refine WX.loop_next (n + 1) ⟨rfl, ?_, rfl, trivial⟩ ⟨by omega, ?_, hv, hw⟩ (by show _ - _ < _ - _; omega)
           ·
             rw [e3]; rfl
           ·
             rw [e1, e2]; exact hb)
        | (have e3 : X (n + 1) = x * 2 ^ 1 := by rw [X, ← hx, xNext, if_neg (by omega), Nat.mul_comm]
           refine WX.loop_next (n + 1) ⟨rfl, ?_, rfl, trivial⟩ ⟨by omega, ?_, hv, hw⟩ (by show _ - _ < _ - _; omega)
           ·
             rw [e3]; rfl
           ·
             rw [e1, e2]; exact hb)
    ·
      refine WL.nil (WX.then_normal (WC.cond_false rfl (WC.skip (WX.block_normal (WX.then_normal (WC.region (WL.add64 rfl rfl (by first | omega | (constructor <;> omega)) rfl (?_))))))))
      refine WL.move rfl rfl (WL.nil (?_))
      have e1 : expN (n + 1) = (es.set n (UInt8.ofNat x)).set (n + 255) (UInt8.ofNat x) := by rw [expN, ← hes, ← hx]
      have e2 : logN (n + 1) = ls.set x n := by rw [logN, ← hls, ← hx]
      first
        | (have e3 : X (n + 1) = (x * 2 ^ 1) ^^^ 285 := by rw [X, ← hx, xNext, if_pos (by omega), Nat.mul_comm]
           refine WX.loop_next (n + 1) ⟨rfl, ?_, rfl, trivial⟩ ⟨by omega, ?_, hv, hw⟩ (by show _ - _ < _ - _; omega)
           ·
             rw [e3]; rfl
           ·
             rw [e1, e2]; exact hb)
        | (have e3 : X (n + 1) = x * 2 ^ 1 := by rw [X, ← hx, xNext, if_neg (by omega), Nat.mul_comm]
           refine WX.loop_next (n + 1) ⟨rfl, ?_, rfl, trivial⟩ ⟨by omega, ?_, hv, hw⟩ (by show _ - _ < _ - _; omega)
           ·
             rw [e3]; rfl
           ·
             rw [e1, e2]; exact hb)
  ·
    refine WL.nil (WX.then_normal (WC.seq (WC.cond_false rfl (WC.exit (WX.then_exit (WX.then_exit (WX.block_here (?_))))))))
    refine WX.ret0 (.inr rfl) Try.results53 ?_
    have h255 : n = 255 := by omega
    refine ⟨_, rfl, rfl, ?_, hw⟩
    rw [← h255, ← hes, ← hls]
    exact hb
end Go.Proofs.Ytjdbjdgobhjbkaa
namespace Go.Proofs.Ytjdbjdgobhjbkaa
open Go.RowKit Go.HL

/-- a field that was not asked yet -/
def FZ : List Value := cellsF (.int .u32 0) (.int .i32 0) (expN 0) (logN 0)
/-- a field whose tables are there -/
def FR : List Value := cellsF (.int .u32 1) (.int .i32 0) EXP LOG
theorem Blk.drew {w : World} {b : Nat} {e : TypeId} {cs : List Value} (h : Blk w b e cs) : Blk w.drew b e cs := h
set_option maxRecDepth 100000 in
set_option maxHeartbeats 1600000 in
theorem slow_calls {w : World} {g gv : Nat} (hb : Blk w g 65 FZ) (hv : Blk w gv 28 [.pointer (some ⟨g, 0, none⟩)]) (hne : g ≠ gv) :
    Calls Try.prog 56 #[.pointer (some ⟨g, 0, none⟩), .func (.func 53) #[] #[.pointer (some ⟨gv, 0, none⟩)]] w fun e w' => e = .returned (.tuple #[]) ∧ Blk w' g 65 FR ∧ Chg (fun x => x = g) w w' := by
  have h0 : w.cell? ⟨g, 0, none⟩ = some (.int .u32 0) := hb.cell rfl
  have h1 : w.cell? ⟨g, 0 + 1, none⟩ = some (.int .i32 0) := hb.cell rfl
  have f1 : w.frozen? ⟨g, 0 + 1, none⟩ = false := hb.free _
  have hb1 : Blk (w.setCell ⟨g, 0 + 1, none⟩ (.int .i32 1)) g 65 (cellsF (.int .u32 0) (.int .i32 1) (expN 0) (logN 0)) := hb.set (0 + 1) (.int .i32 1)
  have c1 : Chg (fun x => x = g) w (w.setCell ⟨g, 0 + 1, none⟩ (.int .i32 1)) := Chg.setCell w ⟨g, 0 + 1, none⟩ _
  have hv1 := Blk.chg hv c1 (fun h => hne h.symm)
  have hl := run_call_load (P := Try.prog) Try.func57 (by kernel_rfl) (by kernel_rfl) (by kernel_rfl) .u32 (by kernel_rfl) (w := w.setCell ⟨g, 0 + 1, none⟩ (.int .i32 1)) (a := ⟨g, 0, none⟩) (x := 0) (hb1.cell rfl)
  have hnot : ∀ (x : Bool) (w : World), (Op.unary .not (.bool x)).run Try.prog w = .ok (.bool (!x)) w := fun _ _ => rfl
  go_enter_defers Try.func56, Try.ntmps56
  go_wp2_with (first | (go_at_call 58; refine (lock_free ⟨g, 0 + 1, none⟩ _ h1 f1).mono ?_; rintro e w' ⟨rfl, rfl⟩) | (go_at_call 55; go_in) | (go_at_call 53; refine (fill_calls hb1 hv1 hne).mono ?_; rintro e w2 ⟨v, rfl, rfl, hb2, c2⟩))
  have d1 : w2.cell? ⟨g, 0, none⟩ = some (.int .u32 0) := hb2.cell rfl
  have d2 : w2.frozen? ⟨g, 0, none⟩ = false := hb2.free _
  have hb3 : Blk (w2.drew.setCell ⟨g, 0, none⟩ (.int .u32 1)) g 65 (cellsF (.int .u32 1) (.int .i32 1) (expN 255) (logN 255)) := (Blk.drew hb2).set 0 (.int .u32 1)
  have c3 : Chg (fun x => x = g) w2 (w2.drew.setCell ⟨g, 0, none⟩ (.int .u32 1)) := ((Chg.drew w2).mono (M' := fun x => x = g) (fun _ _ h => h.elim)).trans (Chg.setCell w2.drew ⟨g, 0, none⟩ _) (fun _ _ h => h)
  have d3 : (w2.drew.setCell ⟨g, 0, none⟩ (.int .u32 1)).cell? ⟨g, 1, none⟩ = some (.int .i32 1) := hb3.cell rfl
  have d4 : (w2.drew.setCell ⟨g, 0, none⟩ (.int .u32 1)).frozen? ⟨g, 1, none⟩ = false := hb3.free _
  have hb4 : Blk ((w2.drew.setCell ⟨g, 0, none⟩ (.int .u32 1)).setCell ⟨g, 1, none⟩ (.int .i32 0)) g 65 (cellsF (.int .u32 1) (.int .i32 0) (expN 255) (logN 255)) := hb3.set 1 (.int .i32 0)
  rw [exp_end, log_end] at hb4
  have c4 := (c1.trans c2 (fun _ _ h => h)).trans (c3.trans (Chg.setCell (w2.drew.setCell ⟨g, 0, none⟩ (.int .u32 1)) ⟨g, 1, none⟩ (.int .i32 0)) (fun _ _ h => h)) (fun _ _ h => h)
  refine leaves_cons (f := 60) (args := #[.pointer (some ⟨g, 0, none⟩), .bool true]) (by simp) (by simp [go_sem]) ?_
  refine (store_deferred ⟨g, 0, none⟩ (.int .u32 0) .returning _ d1 d2).mono ?_
  rintro e u' w'' ⟨rfl, rfl, rfl⟩
  refine leaves_cons (f := 59) (args := #[.pointer (some ⟨g, 1, none⟩)]) (by simp [settle]) (by simp [go_sem]) ?_
  refine (unlock_deferred ⟨g, 1, none⟩ _ _ d3 d4).mono ?_
  rintro e u' w'' ⟨rfl, rfl, rfl⟩
  have hend : Blk ((w2.drew.setCell ⟨g, 0, none⟩ (.int .u32 1)).setCell ⟨g, 1, none⟩ (.int .i32 0)) g 65 FR ∧ Chg (fun x => x = g) w ((w2.drew.setCell ⟨g, 0, none⟩ (.int .u32 1)).setCell ⟨g, 1, none⟩ (.int .i32 0)) := ⟨hb4, c4⟩
  refine ⟨.tuple #[], ?_, rfl, hend⟩
  simp [results, Try.results56]
/-- Do, for the first time -/
theorem do_first {w : World} {g gv : Nat} (hb : Blk w g 65 FZ) (hv : Blk w gv 28 [.pointer (some ⟨g, 0, none⟩)]) (hne : g ≠ gv) :
    Calls Try.prog 52 #[.pointer (some ⟨g, 0, none⟩), .func (.func 53) #[] #[.pointer (some ⟨gv, 0, none⟩)]] w fun e w' => e = .returned (.tuple #[]) ∧ Blk w' g 65 FR ∧ Chg (fun x => x = g) w w' := by
  have h0 : w.cell? ⟨g, 0, none⟩ = some (.int .u32 0) := hb.cell rfl
  have hl := run_call_load (P := Try.prog) Try.func57 (by kernel_rfl) (by kernel_rfl) (by kernel_rfl) .u32 (by kernel_rfl) h0
  have hnot : ∀ (x : Bool) (w : World), (Op.unary .not (.bool x)).run Try.prog w = .ok (.bool (!x)) w := fun _ _ => rfl
  go_enter Try.func52, Try.ntmps52
  go_wp2_with (first | (go_at_call 56; refine (slow_calls hb hv hne).mono ?_; rintro e w' ⟨rfl, hend⟩) | (go_at_call 55; go_in))
  go_end0
  exact ⟨rfl, hend⟩
/-- Do, later -/
theorem do_done {w : World} {g : Nat} (hb : Blk w g 65 FR) (fv : Value) :
    Calls Try.prog 52 #[.pointer (some ⟨g, 0, none⟩), fv] w fun e w' => e = .returned (.tuple #[]) ∧ w' = w := by
  have h0 : w.cell? ⟨g, 0, none⟩ = some (.int .u32 1) := hb.cell rfl
  have hl := run_call_load (P := Try.prog) Try.func57 (by kernel_rfl) (by kernel_rfl) (by kernel_rfl) .u32 (by kernel_rfl) h0
  have hnot : ∀ (x : Bool) (w : World), (Op.unary .not (.bool x)).run Try.prog w = .ok (.bool (!x)) w := fun _ _ => rfl
  go_enter Try.func52, Try.ntmps52
  go_wp2
  go_end0
  exact ⟨rfl, rfl⟩
/-- a field, asked or not -/
def Fld (w : World) (g : Nat) : Prop := Blk w g 65 FZ ∨ Blk w g 65 FR
theorem Fld.lt {w : World} {g : Nat} (h : Fld w g) : g < w.heap.size := by rcases h with h | h <;> exact Blk.lt h
theorem Fld.chg {w w' : World} {g : Nat} {M : Nat → Prop} (h : Fld w g) (k : Chg M w w') (hm : ¬ M g) : Fld w' g := by
  rcases h with h | h
  · exact .inl (Blk.chg h k hm)
  · exact .inr (Blk.chg h k hm)
theorem Fld.pure {w w' : World} {g : Nat} (h : Fld w g) (k : Chg Nob w w') : Fld w' g := h.chg k (fun x => x)
/-- Do, the first time or later -/
theorem do_calls {w : World} {g gv : Nat} (hb : Fld w g) (hv : Blk w gv 28 [.pointer (some ⟨g, 0, none⟩)]) (hne : g ≠ gv) :
    Calls Try.prog 52 [.pointer (some ⟨g, 0, none⟩), .func (.func 53) #[] #[.pointer (some ⟨gv, 0, none⟩)]].toArray w (Ret fun v w' => v = .tuple #[] ∧ Blk w' g 65 FR ∧ Chg (fun x => x = g) w w') := by
  rcases hb with hb | hb
  · refine (do_first hb hv hne).mono ?_
    rintro e w' ⟨rfl, h1, h2⟩
    exact ⟨_, rfl, rfl, h1, h2⟩
  · refine (do_done hb _).mono ?_
    rintro e w' ⟨rfl, rfl⟩
    exact ⟨_, rfl, rfl, hb, Chg.refl _ _⟩
end Go.Proofs.Ytjdbjdgobhjbkaa
namespace Go.HL
open Go.RowKit
section
variable {P : Program} {ops : Array Oper} {Q : Exit → Act → World → Prop} {N : Nat} {E : Env} {w : World} {rest : List Oper} {d : Nat} {ty : TypeId} {pos : String} {af : Array Edge} {t tb : TypeId} {x y : Operand}
theorem WL.makeFunc {f : FuncId} {v : Value} (hx : ev E x = some v) (hd : Nat.blt d N = true) (h : WL P ops Q N rest ((d, .func (.func f) #[] #[v]) :: E) w) :
    WL P ops Q N (⟨some d, .makeFunc (.func f) #[] #[x], ty, pos, af, none⟩ :: rest) E w :=
  WL.run _ w (fun a ha => by simp [execOp, ev_eval ha hx, Instr.makeFunc]) hd h
theorem WL.pnil {ao : Option Addr} (ht : P.underlying t = some (.pointer (P.pointee t))) (hx : ev E x = some (.pointer ao)) (hy : ev E y = some (.pointer none)) (hd : Nat.blt d N = true) (h : WL P ops Q N rest ((d, .bool ao.isNone) :: E) w) :
    WL P ops Q N (⟨some d, .binOp .eql t x y tb, ty, pos, af, none⟩ :: rest) E w :=
  WL.run _ w (fun a ha => by simp [execOp, ev_eval ha hx, ev_eval ha hy, eqGuard, binOp, run_equal_pointer_nil (P := P) w t ao ht]) hd h
end
end Go.HL
namespace Go.Proofs.Ytjdbjdgobhjbkaa
open Go.RowKit Go.HL

theorem fz_info : (Try.prog.info? 65).map (fun i => (i.zero, i.size, i.bytes)) = some (some (.agg FZ.toArray), 769, 2576) := by kernel_rfl
theorem fz_zero (w : World) : (zeroValue 65).run Try.prog w = .ok (.agg FZ.toArray) w := by
  obtain ⟨i, h1, h2, _, _⟩ := info_parts fz_info
  simp only [zeroValue, typeInfo]
  simp [h1, h2]
theorem bldF (w : World) : (Instr.build 65 #[]).run Try.prog w = .ok (.agg FZ.toArray) w := by
  simp [Instr.build, fz_zero, run_underlying Try.underlying65, Instr.fill, Value.cells, Try.sizeOf61, Try.sizeOf62, Try.sizeOf63] <;> kernel_rfl
theorem fresh_calls (w : World) : Calls Try.prog 13 [].toArray w (Ret fun v w' => (∃ g, v = .pointer (some ⟨g, 0, none⟩) ∧ Fld w' g ∧ w.heap.size ≤ g) ∧ Chg Nob w w') := by
  have hw := Chg.refl Nob w
  refine Calls.of_WC Try.func13 rfl Try.ntmps13 (by simp) ?_
  refine WC.seq (WC.region (WL.assign rfl rfl (WL.nil (WX.then_normal (WC.seq (WC.region (?_)))))))
  refine WL.bld rfl bldF rfl ?_
  refine WL.box rfl rfl ?_
  intro g_1 w_1 hge_1 hlt_1 hb_1 k_1
  have zs_k_1 := k_1.size
  replace hw := hw.pure k_1
  refine WL.assign rfl rfl (WL.nil (WX.then_normal (WC.ret (?_))))
  refine WX.ret1 (.inl rfl) Try.results13 rfl ?_
  exact ⟨_, rfl, ⟨g_1, rfl, .inl hb_1, hge_1⟩, hw⟩
theorem nobody_calls (w : World) : Calls Try.prog 23 [].toArray w (Ret fun v w' => v = .pointer none ∧ Chg Nob w w') := by
  have hw := Chg.refl Nob w
  refine Calls.of_WC Try.func23 rfl Try.ntmps23 (by simp) ?_
  refine WC.seq (WC.region (WL.assign rfl rfl (WL.nil (WX.then_normal (WC.seq (WC.region (WL.assign rfl rfl (?_))))))))
  refine WL.nil (WX.then_normal (WC.ret (?_)))
  refine WX.ret1 (.inl rfl) Try.results23 rfl ?_
  exact ⟨_, rfl, rfl, hw⟩
set_option maxRecDepth 100000 in
theorem tables_calls {w : World} {g : Nat} (hF : Fld w g) : Calls Try.prog 47 [.pointer (some ⟨g, 0, none⟩)].toArray w (Ret fun v w' => v = .tuple #[] ∧ Blk w' g 65 FR ∧ Chg (fun x => x = g) w w') := by
  have hw := Chg.refl (fun x => x = g) w
  have lg := hF.lt
  refine Calls.of_WC Try.func47 rfl Try.ntmps47 (by simp) ?_
  refine WC.seq (WC.region (?_))
  refine WL.box rfl rfl ?_
  intro g_1 w_1 hge_1 hlt_1 hb_1 k_1
  have zs_k_1 := k_1.size
  replace hF := hF.pure k_1
  replace hw := hw.pure k_1
  refine WL.nil (WX.then_normal (WC.region (WL.loadB Try.isAgg28 hb_1 rfl rfl rfl (WL.nilCheck rfl rfl (WL.fieldAddr (fld_65_0) rfl rfl (?_))))))
  refine WL.makeFunc rfl rfl ?_
  refine WL.call eg_52 rfl rfl (do_calls hF hb_1 (by omega)) ?_
  rintro v w2 ⟨rfl, hR, k⟩
  have zs_k := k.size
  replace hw := hw.chg k (by first | (intro x h1 h2; exact h2) | (intro x h0 h1 h2; exact hS x h1 h2) | (intro x h0 h1 h2; have h3 : _ = _ := h2; subst h3; exact hSR h1.1) | (intro x h1 h2; have h3 : _ = _ := h2; subst h3; assumption) | (intro x h1 h2; have h3 : _ = _ := h2; exfalso; omega) | (intro b h1 h2 h3; have h4 : _ = _ := h3; (try dsimp only at h2); exfalso; omega) | (intro h1; have h2 : _ = _ := h1; exfalso; omega) | (intro h1; have h2 : _ ≤ _ := h1; exfalso; omega) | (intros; exfalso; (try dsimp only at *); omega) | (intro b h1 h2 h3; exfalso; have h4 := h3.2; (try dsimp only at *); omega) | (intro h1; exfalso; have h4 := h1.2; (try dsimp only at *); omega) | (intro x h1 h2; exfalso; have h4 := h2.2; (try dsimp only at *); omega) | (intro x h1 h2; exact ⟨_, rfl, h2⟩) | (intro x h1 h2; have h4 := h2.1; have h5 := h2.2; exfalso; omega) | (intro x h1 h2; exact h2.1) | (intro x h1 h2; rcases h2.1 with h3 | h3; exact h3; exfalso; omega) | (intro x h1 h2; rcases h2 with h3 | h3; exact h3; exfalso; omega))
  refine WL.nil (?_)
  refine WX.ret0 (.inr rfl) Try.results47 ?_
  exact ⟨_, rfl, rfl, hR, hw⟩
set_option maxRecDepth 100000 in
theorem ready_calls {w : World} {g : Nat} (hF : Fld w g) : Calls Try.prog 29 [.pointer (some ⟨g, 0, none⟩)].toArray w (Ret fun v w' => v = .pointer (some ⟨g, 0, none⟩) ∧ Blk w' g 65 FR ∧ Chg (fun x => x = g) w w') := by
  have hw := Chg.refl (fun x => x = g) w
  refine Calls.of_WC Try.func29 rfl Try.ntmps29 (by simp) ?_
  refine WC.seq (WC.region (WL.assign rfl rfl (WL.nil (WX.then_normal (WC.seq (WC.seq (WC.region (?_))))))))
  refine WL.move rfl rfl (?_)
  refine WL.pnil Try.underlying28 rfl rfl rfl ?_
  rw [show (some (⟨g, 0, none⟩ : Addr)).isNone = false from rfl]
  refine WL.nil (WX.then_normal (WC.cond_false rfl (WC.skip (WX.then_normal (WC.seq (WC.region (WL.move rfl rfl (?_))))))))
  refine WL.call eg_47 rfl rfl (tables_calls hF) ?_
  rintro v w2 ⟨rfl, hR, k⟩
  have zs_k := k.size
  replace hw := hw.chg k (by first | (intro x h1 h2; exact h2) | (intro x h0 h1 h2; exact hS x h1 h2) | (intro x h0 h1 h2; have h3 : _ = _ := h2; subst h3; exact hSR h1.1) | (intro x h1 h2; have h3 : _ = _ := h2; subst h3; assumption) | (intro x h1 h2; have h3 : _ = _ := h2; exfalso; omega) | (intro b h1 h2 h3; have h4 : _ = _ := h3; (try dsimp only at h2); exfalso; omega) | (intro h1; have h2 : _ = _ := h1; exfalso; omega) | (intro h1; have h2 : _ ≤ _ := h1; exfalso; omega) | (intros; exfalso; (try dsimp only at *); omega) | (intro b h1 h2 h3; exfalso; have h4 := h3.2; (try dsimp only at *); omega) | (intro h1; exfalso; have h4 := h1.2; (try dsimp only at *); omega) | (intro x h1 h2; exfalso; have h4 := h2.2; (try dsimp only at *); omega) | (intro x h1 h2; exact ⟨_, rfl, h2⟩) | (intro x h1 h2; have h4 := h2.1; have h5 := h2.2; exfalso; omega) | (intro x h1 h2; exact h2.1) | (intro x h1 h2; rcases h2.1 with h3 | h3; exact h3; exfalso; omega) | (intro x h1 h2; rcases h2 with h3 | h3; exact h3; exfalso; omega))
  refine WL.nil (WX.then_normal (WC.seq (WC.region (WL.move rfl rfl (WL.assign rfl rfl (WL.nil (WX.then_normal (?_))))))))
  refine WC.ret (?_)
  refine WX.ret1 (.inl rfl) Try.results29 rfl ?_
  exact ⟨_, rfl, rfl, hR, hw⟩
set_option maxRecDepth 100000 in
theorem ready_nil (w : World) : Calls Try.prog 29 [.pointer none].toArray w (Ret fun v w' => (∃ g, v = .pointer (some ⟨g, 0, none⟩) ∧ Blk w' g 65 FR ∧ w.heap.size ≤ g) ∧ Chg Nob w w') := by
  have hw := Chg.refl Nob w
  refine Calls.of_WC Try.func29 rfl Try.ntmps29 (by simp) ?_
  refine WC.seq (WC.region (WL.assign rfl rfl (WL.nil (WX.then_normal (WC.seq (WC.seq (WC.region (?_))))))))
  refine WL.move rfl rfl (?_)
  refine WL.pnil Try.underlying28 rfl rfl rfl ?_
  rw [show (none : Option Addr).isNone = true from rfl]
  refine WL.nil (WX.then_normal (WC.cond_true rfl (WC.region (?_))))
  refine WL.bld rfl bldF rfl ?_
  refine WL.box rfl rfl ?_
  intro g_1 w_1 hge_1 hlt_1 hb_1 k_1
  have zs_k_1 := k_1.size
  replace hw := hw.pure k_1
  refine WL.assign rfl rfl (WL.nil (WX.then_normal (WC.seq (WC.region (WL.move rfl rfl (?_))))))
  have hF : Fld w_1 g_1 := .inl hb_1
  refine WL.call eg_47 rfl rfl (tables_calls hF) ?_
  rintro v w2 ⟨rfl, hR, k⟩
  have zs_k := k.size
  replace hw := hw.chg k (by first | (intro x h1 h2; exact h2) | (intro x h0 h1 h2; exact hS x h1 h2) | (intro x h0 h1 h2; have h3 : _ = _ := h2; subst h3; exact hSR h1.1) | (intro x h1 h2; have h3 : _ = _ := h2; subst h3; assumption) | (intro x h1 h2; have h3 : _ = _ := h2; exfalso; omega) | (intro b h1 h2 h3; have h4 : _ = _ := h3; (try dsimp only at h2); exfalso; omega) | (intro h1; have h2 : _ = _ := h1; exfalso; omega) | (intro h1; have h2 : _ ≤ _ := h1; exfalso; omega) | (intros; exfalso; (try dsimp only at *); omega) | (intro b h1 h2 h3; exfalso; have h4 := h3.2; (try dsimp only at *); omega) | (intro h1; exfalso; have h4 := h1.2; (try dsimp only at *); omega) | (intro x h1 h2; exfalso; have h4 := h2.2; (try dsimp only at *); omega) | (intro x h1 h2; exact ⟨_, rfl, h2⟩) | (intro x h1 h2; have h4 := h2.1; have h5 := h2.2; exfalso; omega) | (intro x h1 h2; exact h2.1) | (intro x h1 h2; rcases h2.1 with h3 | h3; exact h3; exfalso; omega) | (intro x h1 h2; rcases h2 with h3 | h3; exact h3; exfalso; omega))
  refine WL.nil (WX.then_normal (WC.seq (WC.region (WL.move rfl rfl (WL.assign rfl rfl (WL.nil (WX.then_normal (?_))))))))
  refine WC.ret (?_)
  refine WX.ret1 (.inl rfl) Try.results29 rfl ?_
  exact ⟨_, rfl, ⟨g_1, rfl, hR, hge_1⟩, hw⟩
theorem exp_len : EXP.length = 510 := by rw [← exp_end, expN_len]
theorem log_len : LOG.length = 256 := by rw [← log_end, logN_len]
theorem exp_at {i : Nat} (h : i < 510) : EXP[i]? = some (Go.HL.E i) := by
  rw [Go.HL.E, List.getD_eq_getElem?_getD, List.getElem?_eq_getElem (by rw [exp_len]; exact h)]
  rfl
theorem log_at (a : UInt8) : LOG[a.toNat]? = some (L a) := by
  rw [L, List.getD_eq_getElem?_getD, List.getElem?_eq_getElem (by rw [log_len]; exact a.toNat_lt)]
  rfl
theorem FR_e {i : Nat} (h : i < 510) : FR[0 + 3 + i]? = some (v8 (Go.HL.E i)) := at_e _ _ (exp_at h)
theorem FR_l (a : UInt8) : FR[0 + 513 + a.toNat]? = some (lv (L a)) := at_l _ _ exp_len (log_at a)
theorem u8_zero {a : UInt8} (h : (a.toNat : Int) = 0) : a = 0 := UInt8.toNat_inj.1 (by have h0 : (0 : UInt8).toNat = 0 := rfl; omega)
theorem u8_ne {a : UInt8} (h : (a.toNat : Int) ≠ 0) : a ≠ 0 := fun e => h (by rw [e]; rfl)
end Go.Proofs.Ytjdbjdgobhjbkaa
namespace Go.Proofs.Ytjdbjdgobhjbkaa
open Go.RowKit Go.HL

theorem mul_calls {w : World} {g : Nat} (hF : Fld w g) (a b : UInt8) : Calls Try.prog 15 [.pointer (some ⟨g, 0, none⟩), v8 a, v8 b].toArray w (Ret fun v w' => v = v8 (mul a b) ∧ Fld w' g ∧ Chg (fun x => x = g) w w') := by
  have hw := Chg.refl (fun x => x = g) w
  have hla := L_lt a
  have hlb := L_lt b
  refine Calls.of_WC Try.func15 rfl Try.ntmps15 (by simp) ?_
  refine WC.seq (WC.region (WL.assign rfl rfl (WL.nil (WX.then_normal (WC.seq (WC.seq (WC.region (?_))))))))
  refine WL.move rfl rfl (?_)
  refine WL.eql? rfl rfl rfl (fun h8 => ?_) (fun h8 => ?_)
  ·
    refine WL.move rfl rfl (WL.pass rfl rfl rfl rfl (WL.pass rfl rfl rfl rfl (WL.pickT rfl rfl rfl (WL.nil (WX.then_normal (WC.cond_true rfl (WC.seq (?_))))))))
    refine WC.region (WL.assign rfl rfl (WL.nil (WX.then_normal (WC.ret (WX.then_ret (?_))))))
    refine WX.ret1 (.inl rfl) Try.results15 rfl ?_
    first
      | (have ha := u8_zero h8
         subst ha
         refine ⟨_, rfl, ?_, hF, hw⟩
         rw [mul_zero_l]
         rfl)
      | (have hb := u8_zero h11
         subst hb
         refine ⟨_, rfl, ?_, hF, hw⟩
         rw [mul_zero_r]
         rfl)
      | (refine ⟨_, rfl, ?_, .inr hR, hw⟩
         rw [mul, if_neg (by rintro (h | h); exact u8_ne h8 h; exact u8_ne h11 h)])
  ·
    refine WL.move rfl rfl (WL.want rfl rfl rfl (WL.move rfl rfl (WL.want rfl rfl rfl (?_))))
    refine WL.eql? rfl rfl rfl (fun h11 => ?_) (fun h11 => ?_)
    ·
      refine WL.pickF rfl rfl rfl (WL.nil (WX.then_normal (WC.cond_true rfl (WC.seq (WC.region (WL.assign rfl rfl (WL.nil (?_))))))))
      refine WX.then_normal (WC.ret (WX.then_ret (?_)))
      refine WX.ret1 (.inl rfl) Try.results15 rfl ?_
      first
        | (have ha := u8_zero h8
           subst ha
           refine ⟨_, rfl, ?_, hF, hw⟩
           rw [mul_zero_l]
           rfl)
        | (have hb := u8_zero h11
           subst hb
           refine ⟨_, rfl, ?_, hF, hw⟩
           rw [mul_zero_r]
           rfl)
        | (refine ⟨_, rfl, ?_, .inr hR, hw⟩
           rw [mul, if_neg (by rintro (h | h); exact u8_ne h8 h; exact u8_ne h11 h)])
    ·
      refine WL.pickF rfl rfl rfl (WL.nil (WX.then_normal (WC.cond_false rfl (WC.skip (WX.then_normal (WC.seq (WC.region (?_))))))))
      refine WL.move rfl rfl (?_)
      refine WL.call eg_29 rfl rfl (ready_calls hF) ?_
      rintro v w2 ⟨rfl, hR, k⟩
      have zs_k := k.size
      replace hw := hw.chg k (by first | (intro x h1 h2; exact h2) | (intro x h0 h1 h2; exact hS x h1 h2) | (intro x h0 h1 h2; have h3 : _ = _ := h2; subst h3; exact hSR h1.1) | (intro x h1 h2; have h3 : _ = _ := h2; subst h3; assumption) | (intro x h1 h2; have h3 : _ = _ := h2; exfalso; omega) | (intro b h1 h2 h3; have h4 : _ = _ := h3; (try dsimp only at h2); exfalso; omega) | (intro h1; have h2 : _ = _ := h1; exfalso; omega) | (intro h1; have h2 : _ ≤ _ := h1; exfalso; omega) | (intros; exfalso; (try dsimp only at *); omega) | (intro b h1 h2 h3; exfalso; have h4 := h3.2; (try dsimp only at *); omega) | (intro h1; exfalso; have h4 := h1.2; (try dsimp only at *); omega) | (intro x h1 h2; exfalso; have h4 := h2.2; (try dsimp only at *); omega) | (intro x h1 h2; exact ⟨_, rfl, h2⟩) | (intro x h1 h2; have h4 := h2.1; have h5 := h2.2; exfalso; omega) | (intro x h1 h2; exact h2.1) | (intro x h1 h2; rcases h2.1 with h3 | h3; exact h3; exfalso; omega) | (intro x h1 h2; rcases h2 with h3 | h3; exact h3; exfalso; omega))
      refine WL.assign rfl rfl (WL.nil (WX.then_normal (WC.seq (?_))))
      refine WC.draw (Nob) [0, 1, 2, 3, 4, 5, 6, 7, 8, 9, 10, 11, 12, 13, 14, 15, 16, 17, 18] [] mixed rfl rfl (fun wd_1 kd_1 zd_1 => ?_)
      have zs_kd_1 := kd_1.size
      replace hw := hw.pure kd_1
      replace hR := hR.pure kd_1
      apply DQ.step (E' := [(0, _)])
      case ho => rfl
      case hs => exact ⟨rfl, trivial⟩
      case hk => rfl
      case h1 =>
        intro wq_2 kq_2
        refine WL.move rfl rfl (?_)
        refine WL.nil ?_
        exact WX.one ⟨rfl, by first | exact Chg.refl _ _ | assumption⟩
      apply DQ.step (E' := [(0, _)])
      case ho => rfl
      case hs => exact ⟨rfl, trivial⟩
      case hk => rfl
      case h1 =>
        intro wq_3 kq_3
        refine WL.move rfl rfl (?_)
        refine WL.nil ?_
        exact WX.one ⟨rfl, by first | exact Chg.refl _ _ | assumption⟩
      apply DQ.step (E' := [(1, _)])
      case ho => rfl
      case hs => exact ⟨rfl, trivial⟩
      case hk => rfl
      case h1 =>
        intro wq_4 kq_4
        refine WL.move rfl rfl (?_)
        refine WL.nil ?_
        exact WX.one ⟨rfl, by first | exact Chg.refl _ _ | assumption⟩
      apply DQ.step (E' := [(16, _)])
      case ho => rfl
      case hs => exact ⟨rfl, trivial⟩
      case hk => rfl
      case h1 =>
        intro wq_5 kq_5
        refine WL.nilCheck rfl rfl (?_)
        refine WL.nil ?_
        exact WX.one ⟨rfl, by first | exact Chg.refl _ _ | assumption⟩
      apply DQ.step (E' := [(18, _)])
      case ho => rfl
      case hs => exact ⟨rfl, trivial⟩
      case hk => rfl
      case h1 =>
        intro wq_6 kq_6
        refine WL.fieldAddr (fld_65_2) rfl rfl (?_)
        refine WL.nil ?_
        exact WX.one ⟨rfl, by first | exact Chg.refl _ _ | assumption⟩
      apply DQ.step (E' := [(19, _), (17, _)])
      case ho => rfl
      case hs => exact ⟨rfl, rfl, trivial⟩
      case hk => rfl
      case h1 =>
        intro wq_7 kq_7
        have zs_kq_7 := kq_7.size
        replace hw := hw.pure kq_7
        replace hR := hR.pure kq_7
        refine WL.indexArrO a.toNat Try.underlying63 Try.sizeOf3 rfl rfl ⟨rfl, a.toNat_lt⟩ rfl ?_
        refine WL.nil ?_
        exact WX.one ⟨rfl, by first | exact Chg.refl _ _ | assumption⟩
      apply DQ.step (E' := [(20, _)])
      case ho => rfl
      case hs => exact ⟨rfl, trivial⟩
      case hk => rfl
      case h1 =>
        intro wq_8 kq_8
        have zs_kq_8 := kq_8.size
        replace hw := hw.pure kq_8
        replace hR := hR.pure kq_8
        refine WL.loadB Try.isAgg3 hR rfl (FR_l a) rfl ?_
        refine WL.nil ?_
        exact WX.one ⟨rfl, by first | exact Chg.refl _ _ | assumption⟩
      apply DQ.step (E' := [(0, _)])
      case ho => rfl
      case hs => exact ⟨rfl, trivial⟩
      case hk => rfl
      case h1 =>
        intro wq_9 kq_9
        refine WL.move rfl rfl (?_)
        refine WL.nil ?_
        exact WX.one ⟨rfl, by first | exact Chg.refl _ _ | assumption⟩
      apply DQ.step (E' := [(2, _)])
      case ho => rfl
      case hs => exact ⟨rfl, trivial⟩
      case hk => rfl
      case h1 =>
        intro wq_10 kq_10
        refine WL.move rfl rfl (?_)
        refine WL.nil ?_
        exact WX.one ⟨rfl, by first | exact Chg.refl _ _ | assumption⟩
      apply DQ.step (E' := [(22, _)])
      case ho => rfl
      case hs => exact ⟨rfl, trivial⟩
      case hk => rfl
      case h1 =>
        intro wq_11 kq_11
        refine WL.nilCheck rfl rfl (?_)
        refine WL.nil ?_
        exact WX.one ⟨rfl, by first | exact Chg.refl _ _ | assumption⟩
      apply DQ.step (E' := [(24, _)])
      case ho => rfl
      case hs => exact ⟨rfl, trivial⟩
      case hk => rfl
      case h1 =>
        intro wq_12 kq_12
        refine WL.fieldAddr (fld_65_2) rfl rfl (?_)
        refine WL.nil ?_
        exact WX.one ⟨rfl, by first | exact Chg.refl _ _ | assumption⟩
      apply DQ.step (E' := [(25, _), (23, _)])
      case ho => rfl
      case hs => exact ⟨rfl, rfl, trivial⟩
      case hk => rfl
      case h1 =>
        intro wq_13 kq_13
        have zs_kq_13 := kq_13.size
        replace hw := hw.pure kq_13
        replace hR := hR.pure kq_13
        refine WL.indexArrO b.toNat Try.underlying63 Try.sizeOf3 rfl rfl ⟨rfl, b.toNat_lt⟩ rfl ?_
        refine WL.nil ?_
        exact WX.one ⟨rfl, by first | exact Chg.refl _ _ | assumption⟩
      apply DQ.step (E' := [(26, _)])
      case ho => rfl
      case hs => exact ⟨rfl, trivial⟩
      case hk => rfl
      case h1 =>
        intro wq_14 kq_14
        have zs_kq_14 := kq_14.size
        replace hw := hw.pure kq_14
        replace hR := hR.pure kq_14
        refine WL.loadB Try.isAgg3 hR rfl (FR_l b) rfl ?_
        refine WL.nil ?_
        exact WX.one ⟨rfl, by first | exact Chg.refl _ _ | assumption⟩
      apply DQ.step (E' := [(21, _), (27, _)])
      case ho => rfl
      case hs => exact ⟨rfl, rfl, trivial⟩
      case hk => rfl
      case h1 =>
        intro wq_15 kq_15
        refine WL.add64 rfl rfl (by first | omega | (constructor <;> omega)) rfl (?_)
        refine WL.nil ?_
        exact WX.one ⟨rfl, by first | exact Chg.refl _ _ | assumption⟩
      apply DQ.step (E' := [(15, _)])
      case ho => rfl
      case hs => exact ⟨rfl, trivial⟩
      case hk => rfl
      case h1 =>
        intro wq_16 kq_16
        refine WL.nilCheck rfl rfl (?_)
        refine WL.nil ?_
        exact WX.one ⟨rfl, by first | exact Chg.refl _ _ | assumption⟩
      apply DQ.step (E' := [(29, _)])
      case ho => rfl
      case hs => exact ⟨rfl, trivial⟩
      case hk => rfl
      case h1 =>
        intro wq_17 kq_17
        refine WL.fieldAddr (fld_65_1) rfl rfl (?_)
        refine WL.nil ?_
        exact WX.one ⟨rfl, by first | exact Chg.refl _ _ | assumption⟩
      apply DQ.step (E' := [(30, _), (28, _)])
      case ho => rfl
      case hs => exact ⟨rfl, rfl, trivial⟩
      case hk => rfl
      case h1 =>
        intro wq_18 kq_18
        have zs_kq_18 := kq_18.size
        replace hw := hw.pure kq_18
        replace hR := hR.pure kq_18
        refine WL.indexArrO (L a + L b) Try.underlying62 Try.sizeOf5 rfl rfl ⟨by omega, by omega⟩ rfl ?_
        refine WL.nil ?_
        exact WX.one ⟨rfl, by first | exact Chg.refl _ _ | assumption⟩
      apply DQ.step (E' := [(31, _)])
      case ho => rfl
      case hs => exact ⟨rfl, trivial⟩
      case hk => rfl
      case h1 =>
        intro wq_19 kq_19
        have zs_kq_19 := kq_19.size
        replace hw := hw.pure kq_19
        replace hR := hR.pure kq_19
        refine WL.loadB Try.isAgg5 hR rfl (FR_e (by omega)) rfl ?_
        refine WL.nil ?_
        exact WX.one ⟨rfl, by first | exact Chg.refl _ _ | assumption⟩
      apply DQ.step (E' := [(32, _)])
      case ho => rfl
      case hs => exact ⟨rfl, trivial⟩
      case hk => rfl
      case h1 =>
        intro wq_20 kq_20
        refine WL.assign rfl rfl (?_)
        refine WL.nil ?_
        exact WX.one ⟨rfl, by first | exact Chg.refl _ _ | assumption⟩
      refine DQ.done (fun _ => ?_)
      refine DL.done (fun we_21 ke_21 => ?_)
      have zs_ke_21 := ke_21.size
      replace hw := hw.pure ke_21
      replace hR := hR.pure ke_21
      refine WX.then_normal (WC.ret (?_))
      refine WX.ret1 (.inl rfl) Try.results15 rfl ?_
      first
        | (have ha := u8_zero h8
           subst ha
           refine ⟨_, rfl, ?_, hF, hw⟩
           rw [mul_zero_l]
           rfl)
        | (have hb := u8_zero h11
           subst hb
           refine ⟨_, rfl, ?_, hF, hw⟩
           rw [mul_zero_r]
           rfl)
        | (refine ⟨_, rfl, ?_, .inr hR, hw⟩
           rw [mul, if_neg (by rintro (h | h); exact u8_ne h8 h; exact u8_ne h11 h)])
theorem mul_nil {w : World} (a b : UInt8) : Calls Try.prog 15 [.pointer none, v8 a, v8 b].toArray w (Ret fun v w' => v = v8 (mul a b) ∧ Chg Nob w w') := by
  have hw := Chg.refl Nob w
  have hla := L_lt a
  have hlb := L_lt b
  refine Calls.of_WC Try.func15 rfl Try.ntmps15 (by simp) ?_
  refine WC.seq (WC.region (WL.assign rfl rfl (WL.nil (WX.then_normal (WC.seq (WC.seq (WC.region (?_))))))))
  refine WL.move rfl rfl (?_)
  refine WL.eql? rfl rfl rfl (fun h8 => ?_) (fun h8 => ?_)
  ·
    refine WL.move rfl rfl (WL.pass rfl rfl rfl rfl (WL.pass rfl rfl rfl rfl (WL.pickT rfl rfl rfl (WL.nil (WX.then_normal (WC.cond_true rfl (WC.seq (?_))))))))
    refine WC.region (WL.assign rfl rfl (WL.nil (WX.then_normal (WC.ret (WX.then_ret (?_))))))
    refine WX.ret1 (.inl rfl) Try.results15 rfl ?_
    first
      | (have ha := u8_zero h8
         subst ha
         refine ⟨_, rfl, ?_, hw⟩
         rw [mul_zero_l]
         rfl)
      | (have hb := u8_zero h11
         subst hb
         refine ⟨_, rfl, ?_, hw⟩
         rw [mul_zero_r]
         rfl)
      | (refine ⟨_, rfl, ?_, hw⟩
         rw [mul, if_neg (by rintro (h | h); exact u8_ne h8 h; exact u8_ne h11 h)])
  ·
    refine WL.move rfl rfl (WL.want rfl rfl rfl (WL.move rfl rfl (WL.want rfl rfl rfl (?_))))
    refine WL.eql? rfl rfl rfl (fun h11 => ?_) (fun h11 => ?_)
    ·
      refine WL.pickF rfl rfl rfl (WL.nil (WX.then_normal (WC.cond_true rfl (WC.seq (WC.region (WL.assign rfl rfl (WL.nil (?_))))))))
      refine WX.then_normal (WC.ret (WX.then_ret (?_)))
      refine WX.ret1 (.inl rfl) Try.results15 rfl ?_
      first
        | (have ha := u8_zero h8
           subst ha
           refine ⟨_, rfl, ?_, hw⟩
           rw [mul_zero_l]
           rfl)
        | (have hb := u8_zero h11
           subst hb
           refine ⟨_, rfl, ?_, hw⟩
           rw [mul_zero_r]
           rfl)
        | (refine ⟨_, rfl, ?_, hw⟩
           rw [mul, if_neg (by rintro (h | h); exact u8_ne h8 h; exact u8_ne h11 h)])
    ·
      refine WL.pickF rfl rfl rfl (WL.nil (WX.then_normal (WC.cond_false rfl (WC.skip (WX.then_normal (WC.seq (WC.region (?_))))))))
      refine WL.move rfl rfl (?_)
      refine WL.call eg_29 rfl rfl (ready_nil _) ?_
      rintro v w2 ⟨⟨g, rfl, hR, hg⟩, k⟩
      have zs_k := k.size
      replace hw := hw.pure k
      refine WL.assign rfl rfl (WL.nil (WX.then_normal (WC.seq (?_))))
      refine WC.draw (Nob) [0, 1, 2, 3, 4, 5, 6, 7, 8, 9, 10, 11, 12, 13, 14, 15, 16, 17, 18] [] mixed rfl rfl (fun wd_1 kd_1 zd_1 => ?_)
      have zs_kd_1 := kd_1.size
      replace hw := hw.pure kd_1
      replace hR := hR.pure kd_1
      apply DQ.step (E' := [(0, _)])
      case ho => rfl
      case hs => exact ⟨rfl, trivial⟩
      case hk => rfl
      case h1 =>
        intro wq_2 kq_2
        refine WL.move rfl rfl (?_)
        refine WL.nil ?_
        exact WX.one ⟨rfl, by first | exact Chg.refl _ _ | assumption⟩
      apply DQ.step (E' := [(0, _)])
      case ho => rfl
      case hs => exact ⟨rfl, trivial⟩
      case hk => rfl
      case h1 =>
        intro wq_3 kq_3
        refine WL.move rfl rfl (?_)
        refine WL.nil ?_
        exact WX.one ⟨rfl, by first | exact Chg.refl _ _ | assumption⟩
      apply DQ.step (E' := [(1, _)])
      case ho => rfl
      case hs => exact ⟨rfl, trivial⟩
      case hk => rfl
      case h1 =>
        intro wq_4 kq_4
        refine WL.move rfl rfl (?_)
        refine WL.nil ?_
        exact WX.one ⟨rfl, by first | exact Chg.refl _ _ | assumption⟩
      apply DQ.step (E' := [(16, _)])
      case ho => rfl
      case hs => exact ⟨rfl, trivial⟩
      case hk => rfl
      case h1 =>
        intro wq_5 kq_5
        refine WL.nilCheck rfl rfl (?_)
        refine WL.nil ?_
        exact WX.one ⟨rfl, by first | exact Chg.refl _ _ | assumption⟩
      apply DQ.step (E' := [(18, _)])
      case ho => rfl
      case hs => exact ⟨rfl, trivial⟩
      case hk => rfl
      case h1 =>
        intro wq_6 kq_6
        refine WL.fieldAddr (fld_65_2) rfl rfl (?_)
        refine WL.nil ?_
        exact WX.one ⟨rfl, by first | exact Chg.refl _ _ | assumption⟩
      apply DQ.step (E' := [(19, _), (17, _)])
      case ho => rfl
      case hs => exact ⟨rfl, rfl, trivial⟩
      case hk => rfl
      case h1 =>
        intro wq_7 kq_7
        have zs_kq_7 := kq_7.size
        replace hw := hw.pure kq_7
        replace hR := hR.pure kq_7
        refine WL.indexArrO a.toNat Try.underlying63 Try.sizeOf3 rfl rfl ⟨rfl, a.toNat_lt⟩ rfl ?_
        refine WL.nil ?_
        exact WX.one ⟨rfl, by first | exact Chg.refl _ _ | assumption⟩
      apply DQ.step (E' := [(20, _)])
      case ho => rfl
      case hs => exact ⟨rfl, trivial⟩
      case hk => rfl
      case h1 =>
        intro wq_8 kq_8
        have zs_kq_8 := kq_8.size
        replace hw := hw.pure kq_8
        replace hR := hR.pure kq_8
        refine WL.loadB Try.isAgg3 hR rfl (FR_l a) rfl ?_
        refine WL.nil ?_
        exact WX.one ⟨rfl, by first | exact Chg.refl _ _ | assumption⟩
      apply DQ.step (E' := [(0, _)])
      case ho => rfl
      case hs => exact ⟨rfl, trivial⟩
      case hk => rfl
      case h1 =>
        intro wq_9 kq_9
        refine WL.move rfl rfl (?_)
        refine WL.nil ?_
        exact WX.one ⟨rfl, by first | exact Chg.refl _ _ | assumption⟩
      apply DQ.step (E' := [(2, _)])
      case ho => rfl
      case hs => exact ⟨rfl, trivial⟩
      case hk => rfl
      case h1 =>
        intro wq_10 kq_10
        refine WL.move rfl rfl (?_)
        refine WL.nil ?_
        exact WX.one ⟨rfl, by first | exact Chg.refl _ _ | assumption⟩
      apply DQ.step (E' := [(22, _)])
      case ho => rfl
      case hs => exact ⟨rfl, trivial⟩
      case hk => rfl
      case h1 =>
        intro wq_11 kq_11
        refine WL.nilCheck rfl rfl (?_)
        refine WL.nil ?_
        exact WX.one ⟨rfl, by first | exact Chg.refl _ _ | assumption⟩
      apply DQ.step (E' := [(24, _)])
      case ho => rfl
      case hs => exact ⟨rfl, trivial⟩
      case hk => rfl
      case h1 =>
        intro wq_12 kq_12
        refine WL.fieldAddr (fld_65_2) rfl rfl (?_)
        refine WL.nil ?_
        exact WX.one ⟨rfl, by first | exact Chg.refl _ _ | assumption⟩
      apply DQ.step (E' := [(25, _), (23, _)])
      case ho => rfl
      case hs => exact ⟨rfl, rfl, trivial⟩
      case hk => rfl
      case h1 =>
        intro wq_13 kq_13
        have zs_kq_13 := kq_13.size
        replace hw := hw.pure kq_13
        replace hR := hR.pure kq_13
        refine WL.indexArrO b.toNat Try.underlying63 Try.sizeOf3 rfl rfl ⟨rfl, b.toNat_lt⟩ rfl ?_
        refine WL.nil ?_
        exact WX.one ⟨rfl, by first | exact Chg.refl _ _ | assumption⟩
      apply DQ.step (E' := [(26, _)])
      case ho => rfl
      case hs => exact ⟨rfl, trivial⟩
      case hk => rfl
      case h1 =>
        intro wq_14 kq_14
        have zs_kq_14 := kq_14.size
        replace hw := hw.pure kq_14
        replace hR := hR.pure kq_14
        refine WL.loadB Try.isAgg3 hR rfl (FR_l b) rfl ?_
        refine WL.nil ?_
        exact WX.one ⟨rfl, by first | exact Chg.refl _ _ | assumption⟩
      apply DQ.step (E' := [(21, _), (27, _)])
      case ho => rfl
      case hs => exact ⟨rfl, rfl, trivial⟩
      case hk => rfl
      case h1 =>
        intro wq_15 kq_15
        refine WL.add64 rfl rfl (by first | omega | (constructor <;> omega)) rfl (?_)
        refine WL.nil ?_
        exact WX.one ⟨rfl, by first | exact Chg.refl _ _ | assumption⟩
      apply DQ.step (E' := [(15, _)])
      case ho => rfl
      case hs => exact ⟨rfl, trivial⟩
      case hk => rfl
      case h1 =>
        intro wq_16 kq_16
        refine WL.nilCheck rfl rfl (?_)
        refine WL.nil ?_
        exact WX.one ⟨rfl, by first | exact Chg.refl _ _ | assumption⟩
      apply DQ.step (E' := [(29, _)])
      case ho => rfl
      case hs => exact ⟨rfl, trivial⟩
      case hk => rfl
      case h1 =>
        intro wq_17 kq_17
        refine WL.fieldAddr (fld_65_1) rfl rfl (?_)
        refine WL.nil ?_
        exact WX.one ⟨rfl, by first | exact Chg.refl _ _ | assumption⟩
      apply DQ.step (E' := [(30, _), (28, _)])
      case ho => rfl
      case hs => exact ⟨rfl, rfl, trivial⟩
      case hk => rfl
      case h1 =>
        intro wq_18 kq_18
        have zs_kq_18 := kq_18.size
        replace hw := hw.pure kq_18
        replace hR := hR.pure kq_18
        refine WL.indexArrO (L a + L b) Try.underlying62 Try.sizeOf5 rfl rfl ⟨by omega, by omega⟩ rfl ?_
        refine WL.nil ?_
        exact WX.one ⟨rfl, by first | exact Chg.refl _ _ | assumption⟩
      apply DQ.step (E' := [(31, _)])
      case ho => rfl
      case hs => exact ⟨rfl, trivial⟩
      case hk => rfl
      case h1 =>
        intro wq_19 kq_19
        have zs_kq_19 := kq_19.size
        replace hw := hw.pure kq_19
        replace hR := hR.pure kq_19
        refine WL.loadB Try.isAgg5 hR rfl (FR_e (by omega)) rfl ?_
        refine WL.nil ?_
        exact WX.one ⟨rfl, by first | exact Chg.refl _ _ | assumption⟩
      apply DQ.step (E' := [(32, _)])
      case ho => rfl
      case hs => exact ⟨rfl, trivial⟩
      case hk => rfl
      case h1 =>
        intro wq_20 kq_20
        refine WL.assign rfl rfl (?_)
        refine WL.nil ?_
        exact WX.one ⟨rfl, by first | exact Chg.refl _ _ | assumption⟩
      refine DQ.done (fun _ => ?_)
      refine DL.done (fun we_21 ke_21 => ?_)
      have zs_ke_21 := ke_21.size
      replace hw := hw.pure ke_21
      replace hR := hR.pure ke_21
      refine WX.then_normal (WC.ret (?_))
      refine WX.ret1 (.inl rfl) Try.results15 rfl ?_
      first
        | (have ha := u8_zero h8
           subst ha
           refine ⟨_, rfl, ?_, hw⟩
           rw [mul_zero_l]
           rfl)
        | (have hb := u8_zero h11
           subst hb
           refine ⟨_, rfl, ?_, hw⟩
           rw [mul_zero_r]
           rfl)
        | (refine ⟨_, rfl, ?_, hw⟩
           rw [mul, if_neg (by rintro (h | h); exact u8_ne h8 h; exact u8_ne h11 h)])
theorem inv_calls {w : World} {g : Nat} (hF : Fld w g) (a : UInt8) : Calls Try.prog 30 [.pointer (some ⟨g, 0, none⟩), v8 a].toArray w (Ret fun v w' => v = .tuple #[v8 (inv a), vi (if a = 0 then 1 else 0)] ∧ Fld w' g ∧ Chg (fun x => x = g) w w') := by
  have hw := Chg.refl (fun x => x = g) w
  have hla := L_lt a
  refine Calls.of_WC Try.func30 rfl Try.ntmps30 (by simp) ?_
  refine WC.seq (WC.region (WL.assign rfl rfl (WL.assign rfl rfl (WL.nil (WX.then_normal (WC.seq (WC.seq (?_))))))))
  refine WC.region (WL.move rfl rfl (?_))
  refine WL.eql? rfl rfl rfl (fun h7 => ?_) (fun h7 => ?_)
  ·
    refine WL.nil (WX.then_normal (WC.cond_true rfl (WC.seq (WC.region (WL.assign rfl rfl (WL.assign rfl rfl (WL.nil (?_))))))))
    refine WX.then_normal (WC.ret (WX.then_ret (?_)))
    refine WX.ret2 (.inl rfl) Try.results30 rfl rfl ?_
    first
      | (have ha := u8_zero h7
         subst ha
         exact ⟨_, rfl, rfl, hF, hw⟩)
      | (refine ⟨_, rfl, ?_, .inr hR, hw⟩
         rw [inv, if_neg (u8_ne h7), if_neg (u8_ne h7)])
  ·
    refine WL.nil (WX.then_normal (WC.cond_false rfl (WC.skip (WX.then_normal (WC.seq (WC.region (WL.move rfl rfl (?_))))))))
    refine WL.call eg_29 rfl rfl (ready_calls hF) ?_
    rintro v w2 ⟨rfl, hR, k⟩
    have zs_k := k.size
    replace hw := hw.chg k (by first | (intro x h1 h2; exact h2) | (intro x h0 h1 h2; exact hS x h1 h2) | (intro x h0 h1 h2; have h3 : _ = _ := h2; subst h3; exact hSR h1.1) | (intro x h1 h2; have h3 : _ = _ := h2; subst h3; assumption) | (intro x h1 h2; have h3 : _ = _ := h2; exfalso; omega) | (intro b h1 h2 h3; have h4 : _ = _ := h3; (try dsimp only at h2); exfalso; omega) | (intro h1; have h2 : _ = _ := h1; exfalso; omega) | (intro h1; have h2 : _ ≤ _ := h1; exfalso; omega) | (intros; exfalso; (try dsimp only at *); omega) | (intro b h1 h2 h3; exfalso; have h4 := h3.2; (try dsimp only at *); omega) | (intro h1; exfalso; have h4 := h1.2; (try dsimp only at *); omega) | (intro x h1 h2; exfalso; have h4 := h2.2; (try dsimp only at *); omega) | (intro x h1 h2; exact ⟨_, rfl, h2⟩) | (intro x h1 h2; have h4 := h2.1; have h5 := h2.2; exfalso; omega) | (intro x h1 h2; exact h2.1) | (intro x h1 h2; rcases h2.1 with h3 | h3; exact h3; exfalso; omega) | (intro x h1 h2; rcases h2 with h3 | h3; exact h3; exfalso; omega))
    refine WL.assign rfl rfl (WL.nil (WX.then_normal (WC.seq (?_))))
    refine WC.draw (Nob) [0, 1, 2, 3, 4, 5, 6, 7, 8, 9, 10, 11, 12, 13] [] mixed rfl rfl (fun wd_1 kd_1 zd_1 => ?_)
    have zs_kd_1 := kd_1.size
    replace hw := hw.pure kd_1
    replace hR := hR.pure kd_1
    apply DQ.step (E' := [(0, _)])
    case ho => rfl
    case hs => exact ⟨rfl, trivial⟩
    case hk => rfl
    case h1 =>
      intro wq_2 kq_2
      refine WL.move rfl rfl (?_)
      refine WL.nil ?_
      exact WX.one ⟨rfl, by first | exact Chg.refl _ _ | assumption⟩
    apply DQ.step (E' := [(0, _)])
    case ho => rfl
    case hs => exact ⟨rfl, trivial⟩
    case hk => rfl
    case h1 =>
      intro wq_3 kq_3
      refine WL.move rfl rfl (?_)
      refine WL.nil ?_
      exact WX.one ⟨rfl, by first | exact Chg.refl _ _ | assumption⟩
    apply DQ.step (E' := [(1, _)])
    case ho => rfl
    case hs => exact ⟨rfl, trivial⟩
    case hk => rfl
    case h1 =>
      intro wq_4 kq_4
      refine WL.move rfl rfl (?_)
      refine WL.nil ?_
      exact WX.one ⟨rfl, by first | exact Chg.refl _ _ | assumption⟩
    apply DQ.step (E' := [(11, _)])
    case ho => rfl
    case hs => exact ⟨rfl, trivial⟩
    case hk => rfl
    case h1 =>
      intro wq_5 kq_5
      refine WL.nilCheck rfl rfl (?_)
      refine WL.nil ?_
      exact WX.one ⟨rfl, by first | exact Chg.refl _ _ | assumption⟩
    apply DQ.step (E' := [(13, _)])
    case ho => rfl
    case hs => exact ⟨rfl, trivial⟩
    case hk => rfl
    case h1 =>
      intro wq_6 kq_6
      refine WL.fieldAddr (fld_65_2) rfl rfl (?_)
      refine WL.nil ?_
      exact WX.one ⟨rfl, by first | exact Chg.refl _ _ | assumption⟩
    apply DQ.step (E' := [(14, _), (12, _)])
    case ho => rfl
    case hs => exact ⟨rfl, rfl, trivial⟩
    case hk => rfl
    case h1 =>
      intro wq_7 kq_7
      have zs_kq_7 := kq_7.size
      replace hw := hw.pure kq_7
      replace hR := hR.pure kq_7
      refine WL.indexArrO a.toNat Try.underlying63 Try.sizeOf3 rfl rfl ⟨rfl, a.toNat_lt⟩ rfl ?_
      refine WL.nil ?_
      exact WX.one ⟨rfl, by first | exact Chg.refl _ _ | assumption⟩
    apply DQ.step (E' := [(15, _)])
    case ho => rfl
    case hs => exact ⟨rfl, trivial⟩
    case hk => rfl
    case h1 =>
      intro wq_8 kq_8
      have zs_kq_8 := kq_8.size
      replace hw := hw.pure kq_8
      replace hR := hR.pure kq_8
      refine WL.loadB Try.isAgg3 hR rfl (FR_l a) rfl ?_
      refine WL.nil ?_
      exact WX.one ⟨rfl, by first | exact Chg.refl _ _ | assumption⟩
    apply DQ.step (E' := [(16, _)])
    case ho => rfl
    case hs => exact ⟨rfl, trivial⟩
    case hk => rfl
    case h1 =>
      intro wq_9 kq_9
      refine WL.sub64 rfl rfl (by first | omega | (constructor <;> omega)) rfl (?_)
      refine WL.nil ?_
      exact WX.one ⟨rfl, by first | exact Chg.refl _ _ | assumption⟩
    apply DQ.step (E' := [(10, _)])
    case ho => rfl
    case hs => exact ⟨rfl, trivial⟩
    case hk => rfl
    case h1 =>
      intro wq_10 kq_10
      refine WL.nilCheck rfl rfl (?_)
      refine WL.nil ?_
      exact WX.one ⟨rfl, by first | exact Chg.refl _ _ | assumption⟩
    apply DQ.step (E' := [(18, _)])
    case ho => rfl
    case hs => exact ⟨rfl, trivial⟩
    case hk => rfl
    case h1 =>
      intro wq_11 kq_11
      refine WL.fieldAddr (fld_65_1) rfl rfl (?_)
      refine WL.nil ?_
      exact WX.one ⟨rfl, by first | exact Chg.refl _ _ | assumption⟩
    apply DQ.step (E' := [(19, _), (17, _)])
    case ho => rfl
    case hs => exact ⟨rfl, rfl, trivial⟩
    case hk => rfl
    case h1 =>
      intro wq_12 kq_12
      have zs_kq_12 := kq_12.size
      replace hw := hw.pure kq_12
      replace hR := hR.pure kq_12
      refine WL.indexArrO (255 - L a) Try.underlying62 Try.sizeOf5 rfl rfl ⟨by omega, by omega⟩ rfl ?_
      refine WL.nil ?_
      exact WX.one ⟨rfl, by first | exact Chg.refl _ _ | assumption⟩
    apply DQ.step (E' := [(20, _)])
    case ho => rfl
    case hs => exact ⟨rfl, trivial⟩
    case hk => rfl
    case h1 =>
      intro wq_13 kq_13
      have zs_kq_13 := kq_13.size
      replace hw := hw.pure kq_13
      replace hR := hR.pure kq_13
      refine WL.loadB Try.isAgg5 hR rfl (FR_e (by omega)) rfl ?_
      refine WL.nil ?_
      exact WX.one ⟨rfl, by first | exact Chg.refl _ _ | assumption⟩
    apply DQ.step (E' := [(21, _)])
    case ho => rfl
    case hs => exact ⟨rfl, trivial⟩
    case hk => rfl
    case h1 =>
      intro wq_14 kq_14
      refine WL.assign rfl rfl (?_)
      refine WL.nil ?_
      exact WX.one ⟨rfl, by first | exact Chg.refl _ _ | assumption⟩
    apply DQ.step (E' := [])
    case ho => rfl
    case hs => exact trivial
    case hk => rfl
    case h1 =>
      intro wq_15 kq_15
      refine WL.assign rfl rfl (?_)
      refine WL.nil ?_
      exact WX.one ⟨rfl, by first | exact Chg.refl _ _ | assumption⟩
    refine DQ.done (fun _ => ?_)
    refine DL.done (fun we_16 ke_16 => ?_)
    have zs_ke_16 := ke_16.size
    replace hw := hw.pure ke_16
    replace hR := hR.pure ke_16
    refine WX.then_normal (WC.ret (?_))
    refine WX.ret2 (.inl rfl) Try.results30 rfl rfl ?_
    first
      | (have ha := u8_zero h7
         subst ha
         exact ⟨_, rfl, rfl, hF, hw⟩)
      | (refine ⟨_, rfl, ?_, .inr hR, hw⟩
         rw [inv, if_neg (u8_ne h7), if_neg (u8_ne h7)])
/-- powers, as the program reckons them -/
def powR (a : UInt8) (n : Int) : UInt8 × Int := if n < 0 then (0, 1) else if n = 0 then (1, 0) else if a = 0 then (0, 0) else (Go.HL.E ((L a * (n.toNat % 255)) % 255), 0)
theorem pow_calls {w : World} {g : Nat} (hF : Fld w g) (a : UInt8) (n : Int) : Calls Try.prog 54 [.pointer (some ⟨g, 0, none⟩), v8 a, vi n].toArray w (Ret fun v w' => v = .tuple #[v8 (powR a n).1, vi (powR a n).2] ∧ Fld w' g ∧ Chg (fun x => x = g) w w') := by
  have hw := Chg.refl (fun x => x = g) w
  have hla := L_lt a
  refine Calls.of_WC Try.func54 rfl Try.ntmps54 (by simp) ?_
  refine WC.seq (WC.region (WL.assign rfl rfl (WL.assign rfl rfl (WL.nil (WX.then_normal (WC.seq (WC.block (?_))))))))
  refine WC.seq (WC.region (WL.move rfl rfl (?_)))
  refine WL.lss? rfl rfl rfl (fun h10 => ?_) (fun h10 => ?_)
  ·
    refine WL.assign rfl rfl (WL.nil (WX.then_normal (WC.cond_true rfl (WC.seq (WC.region (WL.assign rfl rfl (WL.assign rfl rfl (?_))))))))
    refine WL.nil (WX.then_normal (WC.ret (WX.block_ret (WX.then_ret (?_)))))
    refine WX.ret2 (.inl rfl) Try.results54 rfl rfl ?_
    first
      | (refine ⟨_, rfl, ?_, hF, hw⟩
         rw [powR, if_pos (by omega)]
         rfl)
      | (refine ⟨_, rfl, ?_, hF, hw⟩
         rw [powR, if_neg (by omega), if_pos (by omega)]
         rfl)
      | (have ha := u8_zero h16
         refine ⟨_, rfl, ?_, hF, hw⟩
         rw [powR, if_neg (by omega), if_neg (by omega), if_pos ha]
         rfl)
      | (refine ⟨_, rfl, ?_, .inr hR, hw⟩
         rw [powR, if_neg (by omega), if_neg (by omega), if_neg (u8_ne h16), Int.toNat_natCast])
  ·
    refine WL.assign rfl rfl (WL.nil (WX.then_normal (WC.cond_false rfl (WC.seq (WC.region (WL.move rfl rfl (?_)))))))
    refine WL.eql? rfl rfl rfl (fun h13 => ?_) (fun h13 => ?_)
    ·
      refine WL.assign rfl rfl (WL.nil (WX.then_normal (WC.cond_true rfl (WC.seq (WC.region (WL.assign rfl rfl (WL.assign rfl rfl (?_))))))))
      refine WL.nil (WX.then_normal (WC.ret (WX.block_ret (WX.then_ret (?_)))))
      refine WX.ret2 (.inl rfl) Try.results54 rfl rfl ?_
      first
        | (refine ⟨_, rfl, ?_, hF, hw⟩
           rw [powR, if_pos (by omega)]
           rfl)
        | (refine ⟨_, rfl, ?_, hF, hw⟩
           rw [powR, if_neg (by omega), if_pos (by omega)]
           rfl)
        | (have ha := u8_zero h16
           refine ⟨_, rfl, ?_, hF, hw⟩
           rw [powR, if_neg (by omega), if_neg (by omega), if_pos ha]
           rfl)
        | (refine ⟨_, rfl, ?_, .inr hR, hw⟩
           rw [powR, if_neg (by omega), if_neg (by omega), if_neg (u8_ne h16), Int.toNat_natCast])
    ·
      refine WL.assign rfl rfl (WL.nil (WX.then_normal (WC.cond_false rfl (WC.seq (WC.region (WL.move rfl rfl (?_)))))))
      refine WL.eql? rfl rfl rfl (fun h16 => ?_) (fun h16 => ?_)
      ·
        refine WL.assign rfl rfl (WL.nil (WX.then_normal (WC.cond_true rfl (WC.seq (WC.region (WL.assign rfl rfl (WL.assign rfl rfl (?_))))))))
        refine WL.nil (WX.then_normal (WC.ret (WX.block_ret (WX.then_ret (?_)))))
        refine WX.ret2 (.inl rfl) Try.results54 rfl rfl ?_
        first
          | (refine ⟨_, rfl, ?_, hF, hw⟩
             rw [powR, if_pos (by omega)]
             rfl)
          | (refine ⟨_, rfl, ?_, hF, hw⟩
             rw [powR, if_neg (by omega), if_pos (by omega)]
             rfl)
          | (have ha := u8_zero h16
             refine ⟨_, rfl, ?_, hF, hw⟩
             rw [powR, if_neg (by omega), if_neg (by omega), if_pos ha]
             rfl)
          | (refine ⟨_, rfl, ?_, .inr hR, hw⟩
             rw [powR, if_neg (by omega), if_neg (by omega), if_neg (u8_ne h16), Int.toNat_natCast])
      ·
        refine WL.assign rfl rfl (WL.nil (WX.then_normal (WC.cond_false rfl (WC.skip (WX.block_normal (WX.then_normal (WC.seq (?_))))))))
        refine WC.region (WL.move rfl rfl (?_))
        refine WL.call eg_29 rfl rfl (ready_calls hF) ?_
        rintro v w2 ⟨rfl, hR, k⟩
        have zs_k := k.size
        replace hw := hw.chg k (by first | (intro x h1 h2; exact h2) | (intro x h0 h1 h2; exact hS x h1 h2) | (intro x h0 h1 h2; have h3 : _ = _ := h2; subst h3; exact hSR h1.1) | (intro x h1 h2; have h3 : _ = _ := h2; subst h3; assumption) | (intro x h1 h2; have h3 : _ = _ := h2; exfalso; omega) | (intro b h1 h2 h3; have h4 : _ = _ := h3; (try dsimp only at h2); exfalso; omega) | (intro h1; have h2 : _ = _ := h1; exfalso; omega) | (intro h1; have h2 : _ ≤ _ := h1; exfalso; omega) | (intros; exfalso; (try dsimp only at *); omega) | (intro b h1 h2 h3; exfalso; have h4 := h3.2; (try dsimp only at *); omega) | (intro h1; exfalso; have h4 := h1.2; (try dsimp only at *); omega) | (intro x h1 h2; exfalso; have h4 := h2.2; (try dsimp only at *); omega) | (intro x h1 h2; exact ⟨_, rfl, h2⟩) | (intro x h1 h2; have h4 := h2.1; have h5 := h2.2; exfalso; omega) | (intro x h1 h2; exact h2.1) | (intro x h1 h2; rcases h2.1 with h3 | h3; exact h3; exfalso; omega) | (intro x h1 h2; rcases h2 with h3 | h3; exact h3; exfalso; omega))
        obtain ⟨m, rfl⟩ : ∃ m : Nat, n = (m : Int) := ⟨n.toNat, by omega⟩
        have hm := Nat.mod_lt m (show 255 > 0 by decide)
        have hmul : L a * (m % 255) ≤ 64770 := by
          have := Nat.mul_le_mul (show L a ≤ 254 by omega) (show m % 255 ≤ 254 by omega)
          omega
        refine WL.assign rfl rfl (WL.nil (WX.then_normal (WC.seq (?_))))
        refine WC.draw (Nob) [0, 1, 2, 3, 4, 5, 6, 7, 8, 9, 10, 11, 12, 13, 14, 15, 16] [] mixed rfl rfl (fun wd_1 kd_1 zd_1 => ?_)
        have zs_kd_1 := kd_1.size
        replace hw := hw.pure kd_1
        replace hR := hR.pure kd_1
        apply DQ.step (E' := [(0, _)])
        case ho => rfl
        case hs => exact ⟨rfl, trivial⟩
        case hk => rfl
        case h1 =>
          intro wq_2 kq_2
          refine WL.move rfl rfl (?_)
          refine WL.nil ?_
          exact WX.one ⟨rfl, by first | exact Chg.refl _ _ | assumption⟩
        apply DQ.step (E' := [(0, _)])
        case ho => rfl
        case hs => exact ⟨rfl, trivial⟩
        case hk => rfl
        case h1 =>
          intro wq_3 kq_3
          refine WL.move rfl rfl (?_)
          refine WL.nil ?_
          exact WX.one ⟨rfl, by first | exact Chg.refl _ _ | assumption⟩
        apply DQ.step (E' := [(1, _)])
        case ho => rfl
        case hs => exact ⟨rfl, trivial⟩
        case hk => rfl
        case h1 =>
          intro wq_4 kq_4
          refine WL.move rfl rfl (?_)
          refine WL.nil ?_
          exact WX.one ⟨rfl, by first | exact Chg.refl _ _ | assumption⟩
        apply DQ.step (E' := [(20, _)])
        case ho => rfl
        case hs => exact ⟨rfl, trivial⟩
        case hk => rfl
        case h1 =>
          intro wq_5 kq_5
          refine WL.nilCheck rfl rfl (?_)
          refine WL.nil ?_
          exact WX.one ⟨rfl, by first | exact Chg.refl _ _ | assumption⟩
        apply DQ.step (E' := [(22, _)])
        case ho => rfl
        case hs => exact ⟨rfl, trivial⟩
        case hk => rfl
        case h1 =>
          intro wq_6 kq_6
          refine WL.fieldAddr (fld_65_2) rfl rfl (?_)
          refine WL.nil ?_
          exact WX.one ⟨rfl, by first | exact Chg.refl _ _ | assumption⟩
        apply DQ.step (E' := [(23, _), (21, _)])
        case ho => rfl
        case hs => exact ⟨rfl, rfl, trivial⟩
        case hk => rfl
        case h1 =>
          intro wq_7 kq_7
          have zs_kq_7 := kq_7.size
          replace hw := hw.pure kq_7
          replace hR := hR.pure kq_7
          refine WL.indexArrO a.toNat Try.underlying63 Try.sizeOf3 rfl rfl ⟨rfl, a.toNat_lt⟩ rfl ?_
          refine WL.nil ?_
          exact WX.one ⟨rfl, by first | exact Chg.refl _ _ | assumption⟩
        apply DQ.step (E' := [(24, _)])
        case ho => rfl
        case hs => exact ⟨rfl, trivial⟩
        case hk => rfl
        case h1 =>
          intro wq_8 kq_8
          have zs_kq_8 := kq_8.size
          replace hw := hw.pure kq_8
          replace hR := hR.pure kq_8
          refine WL.loadB Try.isAgg3 hR rfl (FR_l a) rfl ?_
          refine WL.nil ?_
          exact WX.one ⟨rfl, by first | exact Chg.refl _ _ | assumption⟩
        apply DQ.step (E' := [(2, _)])
        case ho => rfl
        case hs => exact ⟨rfl, trivial⟩
        case hk => rfl
        case h1 =>
          intro wq_9 kq_9
          refine WL.move rfl rfl (?_)
          refine WL.nil ?_
          exact WX.one ⟨rfl, by first | exact Chg.refl _ _ | assumption⟩
        apply DQ.step (E' := [(26, _)])
        case ho => rfl
        case hs => exact ⟨rfl, trivial⟩
        case hk => rfl
        case h1 =>
          intro wq_10 kq_10
          refine WL.rem64i rfl rfl (by omega) rfl ?_
          rw [show ((m : Int) % 255) = ((m % 255 : Nat) : Int) from by omega]
          refine WL.nil ?_
          exact WX.one ⟨rfl, by first | exact Chg.refl _ _ | assumption⟩
        apply DQ.step (E' := [(25, _), (27, _)])
        case ho => rfl
        case hs => exact ⟨rfl, rfl, trivial⟩
        case hk => rfl
        case h1 =>
          intro wq_11 kq_11
          refine WL.mul64 rfl rfl (by rw [← Int.natCast_mul]; omega) rfl ?_
          rw [← Int.natCast_mul]
          refine WL.nil ?_
          exact WX.one ⟨rfl, by first | exact Chg.refl _ _ | assumption⟩
        apply DQ.step (E' := [(28, _)])
        case ho => rfl
        case hs => exact ⟨rfl, trivial⟩
        case hk => rfl
        case h1 =>
          intro wq_12 kq_12
          refine WL.rem64i rfl rfl (by omega) rfl ?_
          rw [show (((L a * (m % 255) : Nat) : Int) % 255) = ((L a * (m % 255) % 255 : Nat) : Int) from by omega]
          refine WL.nil ?_
          exact WX.one ⟨rfl, by first | exact Chg.refl _ _ | assumption⟩
        apply DQ.step (E' := [(19, _)])
        case ho => rfl
        case hs => exact ⟨rfl, trivial⟩
        case hk => rfl
        case h1 =>
          intro wq_13 kq_13
          refine WL.nilCheck rfl rfl (?_)
          refine WL.nil ?_
          exact WX.one ⟨rfl, by first | exact Chg.refl _ _ | assumption⟩
        apply DQ.step (E' := [(30, _)])
        case ho => rfl
        case hs => exact ⟨rfl, trivial⟩
        case hk => rfl
        case h1 =>
          intro wq_14 kq_14
          refine WL.fieldAddr (fld_65_1) rfl rfl (?_)
          refine WL.nil ?_
          exact WX.one ⟨rfl, by first | exact Chg.refl _ _ | assumption⟩
        apply DQ.step (E' := [(31, _), (29, _)])
        case ho => rfl
        case hs => exact ⟨rfl, rfl, trivial⟩
        case hk => rfl
        case h1 =>
          intro wq_15 kq_15
          have zs_kq_15 := kq_15.size
          replace hw := hw.pure kq_15
          replace hR := hR.pure kq_15
          refine WL.indexArrO (L a * (m % 255) % 255) Try.underlying62 Try.sizeOf5 rfl rfl ⟨rfl, by omega⟩ rfl ?_
          refine WL.nil ?_
          exact WX.one ⟨rfl, by first | exact Chg.refl _ _ | assumption⟩
        apply DQ.step (E' := [(32, _)])
        case ho => rfl
        case hs => exact ⟨rfl, trivial⟩
        case hk => rfl
        case h1 =>
          intro wq_16 kq_16
          have zs_kq_16 := kq_16.size
          replace hw := hw.pure kq_16
          replace hR := hR.pure kq_16
          refine WL.loadB Try.isAgg5 hR rfl (FR_e (by omega)) rfl ?_
          refine WL.nil ?_
          exact WX.one ⟨rfl, by first | exact Chg.refl _ _ | assumption⟩
        apply DQ.step (E' := [(33, _)])
        case ho => rfl
        case hs => exact ⟨rfl, trivial⟩
        case hk => rfl
        case h1 =>
          intro wq_17 kq_17
          refine WL.assign rfl rfl (?_)
          refine WL.nil ?_
          exact WX.one ⟨rfl, by first | exact Chg.refl _ _ | assumption⟩
        apply DQ.step (E' := [])
        case ho => rfl
        case hs => exact trivial
        case hk => rfl
        case h1 =>
          intro wq_18 kq_18
          refine WL.assign rfl rfl (?_)
          refine WL.nil ?_
          exact WX.one ⟨rfl, by first | exact Chg.refl _ _ | assumption⟩
        refine DQ.done (fun _ => ?_)
        refine DL.done (fun we_19 ke_19 => ?_)
        have zs_ke_19 := ke_19.size
        replace hw := hw.pure ke_19
        replace hR := hR.pure ke_19
        refine WX.then_normal (WC.ret (?_))
        refine WX.ret2 (.inl rfl) Try.results54 rfl rfl ?_
        first
          | (refine ⟨_, rfl, ?_, hF, hw⟩
             rw [powR, if_pos (by omega)]
             rfl)
          | (refine ⟨_, rfl, ?_, hF, hw⟩
             rw [powR, if_neg (by omega), if_pos (by omega)]
             rfl)
          | (have ha := u8_zero h16
             refine ⟨_, rfl, ?_, hF, hw⟩
             rw [powR, if_neg (by omega), if_neg (by omega), if_pos ha]
             rfl)
          | (refine ⟨_, rfl, ?_, .inr hR, hw⟩
             rw [powR, if_neg (by omega), if_neg (by omega), if_neg (u8_ne h16), Int.toNat_natCast])
set_option maxRecDepth 100000 in
theorem two_products : mul 2 128 = 29 ∧ mul 3 7 = 9 := by decide +kernel
theorem eql_self (a : Int) : decide (a = a) = true := decide_eq_true rfl
theorem neq_self (a : Int) : decide (a ≠ a) = false := decide_eq_false (fun h => h rfl)
theorem known2_calls (w : World) : Calls Try.prog 11 [].toArray w (Ret fun v w' => v = .bool true ∧ Chg Nob w w') := by
  have hw := Chg.refl Nob w
  refine Calls.of_WC Try.func11 rfl Try.ntmps11 (by simp) ?_
  refine WC.seq (WC.region (WL.assign rfl rfl (WL.nil (WX.then_normal (WC.seq (WC.region (?_)))))))
  refine WL.call eg_13 rfl rfl (fresh_calls _) ?_
  rintro v w1 ⟨⟨g, rfl, hF, hg⟩, k⟩
  have zs_k := k.size
  replace hw := hw.pure k
  refine WL.call eg_15 rfl rfl (mul_calls hF 2 128) ?_
  rintro v w2 ⟨rfl, hF2, k⟩
  rw [two_products.1]
  have zs_k := k.size
  replace hw := hw.chg k (by first | (intro x h1 h2; exact h2) | (intro x h0 h1 h2; exact hS x h1 h2) | (intro x h0 h1 h2; have h3 : _ = _ := h2; subst h3; exact hSR h1.1) | (intro x h1 h2; have h3 : _ = _ := h2; subst h3; assumption) | (intro x h1 h2; have h3 : _ = _ := h2; exfalso; omega) | (intro b h1 h2 h3; have h4 : _ = _ := h3; (try dsimp only at h2); exfalso; omega) | (intro h1; have h2 : _ = _ := h1; exfalso; omega) | (intro h1; have h2 : _ ≤ _ := h1; exfalso; omega) | (intros; exfalso; (try dsimp only at *); omega) | (intro b h1 h2 h3; exfalso; have h4 := h3.2; (try dsimp only at *); omega) | (intro h1; exfalso; have h4 := h1.2; (try dsimp only at *); omega) | (intro x h1 h2; exfalso; have h4 := h2.2; (try dsimp only at *); omega) | (intro x h1 h2; exact ⟨_, rfl, h2⟩) | (intro x h1 h2; have h4 := h2.1; have h5 := h2.2; exfalso; omega) | (intro x h1 h2; exact h2.1) | (intro x h1 h2; rcases h2.1 with h3 | h3; exact h3; exfalso; omega) | (intro x h1 h2; rcases h2 with h3 | h3; exact h3; exfalso; omega))
  replace hF := hF2
  refine WL.eql rfl rfl rfl ?_
  rw [show decide (((29 : UInt8).toNat : Int) = 29) = true from rfl]
  refine WL.move rfl rfl (WL.want rfl rfl rfl (?_))
  refine WL.call eg_23 rfl rfl (nobody_calls _) ?_
  rintro v w1 ⟨rfl, k⟩
  have zs_k := k.size
  replace hw := hw.pure k
  replace hF := hF.pure k
  refine WL.want rfl rfl rfl (?_)
  refine WL.call eg_15 rfl rfl (mul_nil 3 7) ?_
  rintro v w2 ⟨rfl, k⟩
  rw [two_products.2]
  have zs_k := k.size
  replace hw := hw.pure k
  replace hF := hF.pure k
  refine WL.want rfl rfl rfl (WL.eql rfl rfl rfl (WL.pickT rfl rfl rfl (WL.assign rfl rfl (WL.nil (WX.then_normal (WC.ret (?_)))))))
  refine WX.ret1 (.inl rfl) Try.results11 rfl ?_
  exact ⟨_, rfl, rfl, hw⟩
end Go.Proofs.Ytjdbjdgobhjbkaa
