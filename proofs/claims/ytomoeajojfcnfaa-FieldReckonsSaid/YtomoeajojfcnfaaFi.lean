import Derived.Test.YtomoeajojfcnfaaFg
import Derived.Test.YtomoeajojfcnfaaRo
namespace Go.Proofs.Ytomoeajojfcnfaa
open Go.RowKit Go.HL

set_option maxHeartbeats 4000000 in
theorem fieldLaws_calls (w : World) (a b c : UInt8) : Calls Try.prog 4 [v8 a, v8 b, v8 c].toArray w (Ret fun v w' => v = .bool true ∧ Chg Nob w w') := by
  have hw := Chg.refl Nob w
  refine Calls.of_WC Try.func4 rfl Try.ntmps4 (by simp) ?_
  refine WC.seq (WC.region (WL.assign rfl rfl (WL.nil (WX.then_normal (WC.seq (WC.seq (WC.region (?_))))))))
  refine WL.call eg_7 rfl rfl (known2_calls _) ?_
  rintro v w0 ⟨rfl, k0⟩
  have zs_k0 := k0.size
  replace hw := hw.pure k0
  refine WL.not rfl rfl (WL.nil (WX.then_normal (WC.cond_false rfl (WC.skip (WX.then_normal (WC.seq (WC.region (?_))))))))
  refine WL.call eg_8 rfl rfl (fresh_calls _) ?_
  rintro v w1 ⟨⟨g, rfl, hF, hg⟩, k⟩
  have zw0 := hw.size
  have hgw : w.heap.size ≤ g := by omega
  have zs_k := k.size
  replace hw := hw.pure k
  refine WL.assign rfl rfl (WL.nil (WX.then_normal (WC.seq (WC.seq (WC.region (WL.move rfl rfl (WL.move rfl rfl (?_))))))))
  refine WL.move rfl rfl (WL.move rfl rfl (WL.move rfl rfl (?_)))
  refine WL.call eg_9 rfl rfl (mul_calls hF b c) ?_
  rintro v w1 ⟨rfl, hF2, k⟩
  have zs_k := k.size
  replace hw := hw.chg k (by first | (intro x h1 h2; exact h2) | (intro x h1 h2; have h3 : _ = _ := h2; exfalso; omega) | (intro b h1 h2 h3; have h4 : _ = _ := h3; (try dsimp only at h2); exfalso; omega) | (intro h1; have h2 : _ = _ := h1; exfalso; omega) | (intros; exfalso; (try dsimp only at *); omega) | (intro b h1 h2 h3; exfalso; have h4 := h3.2; (try dsimp only at *); omega) | (intro h1; exfalso; have h4 := h1.2; (try dsimp only at *); omega) | (intro x h1 h2; exfalso; have h4 := h2.2; (try dsimp only at *); omega) | (intro x h1 h2; exact h2.1))
  replace hF := hF2
  refine WL.call eg_9 rfl rfl (mul_calls hF a (mul b c)) ?_
  rintro v w1 ⟨rfl, hF2, k⟩
  have zs_k := k.size
  replace hw := hw.chg k (by first | (intro x h1 h2; exact h2) | (intro x h1 h2; have h3 : _ = _ := h2; exfalso; omega) | (intro b h1 h2 h3; have h4 : _ = _ := h3; (try dsimp only at h2); exfalso; omega) | (intro h1; have h2 : _ = _ := h1; exfalso; omega) | (intros; exfalso; (try dsimp only at *); omega) | (intro b h1 h2 h3; exfalso; have h4 := h3.2; (try dsimp only at *); omega) | (intro h1; exfalso; have h4 := h1.2; (try dsimp only at *); omega) | (intro x h1 h2; exfalso; have h4 := h2.2; (try dsimp only at *); omega) | (intro x h1 h2; exact h2.1))
  replace hF := hF2
  refine WL.move rfl rfl (WL.move rfl rfl (WL.move rfl rfl (WL.move rfl rfl (?_))))
  refine WL.call eg_9 rfl rfl (mul_calls hF a b) ?_
  rintro v w1 ⟨rfl, hF2, k⟩
  have zs_k := k.size
  replace hw := hw.chg k (by first | (intro x h1 h2; exact h2) | (intro x h1 h2; have h3 : _ = _ := h2; exfalso; omega) | (intro b h1 h2 h3; have h4 : _ = _ := h3; (try dsimp only at h2); exfalso; omega) | (intro h1; have h2 : _ = _ := h1; exfalso; omega) | (intros; exfalso; (try dsimp only at *); omega) | (intro b h1 h2 h3; exfalso; have h4 := h3.2; (try dsimp only at *); omega) | (intro h1; exfalso; have h4 := h1.2; (try dsimp only at *); omega) | (intro x h1 h2; exfalso; have h4 := h2.2; (try dsimp only at *); omega) | (intro x h1 h2; exact h2.1))
  replace hF := hF2
  refine WL.move rfl rfl (?_)
  refine WL.call eg_9 rfl rfl (mul_calls hF (mul a b) c) ?_
  rintro v w1 ⟨rfl, hF2, k⟩
  have zs_k := k.size
  replace hw := hw.chg k (by first | (intro x h1 h2; exact h2) | (intro x h1 h2; have h3 : _ = _ := h2; exfalso; omega) | (intro b h1 h2 h3; have h4 : _ = _ := h3; (try dsimp only at h2); exfalso; omega) | (intro h1; have h2 : _ = _ := h1; exfalso; omega) | (intros; exfalso; (try dsimp only at *); omega) | (intro b h1 h2 h3; exfalso; have h4 := h3.2; (try dsimp only at *); omega) | (intro h1; exfalso; have h4 := h1.2; (try dsimp only at *); omega) | (intro x h1 h2; exfalso; have h4 := h2.2; (try dsimp only at *); omega) | (intro x h1 h2; exact h2.1))
  replace hF := hF2
  refine WL.neq rfl rfl rfl ?_
  rw [mul_assoc, neq_self]
  refine WL.move rfl rfl (WL.want rfl rfl rfl (WL.move rfl rfl (WL.want rfl rfl rfl (WL.move rfl rfl (WL.want rfl rfl rfl (WL.move rfl rfl (WL.want rfl rfl rfl (?_))))))))
  refine WL.call eg_9 rfl rfl (mul_calls hF a b) ?_
  rintro v w1 ⟨rfl, hF2, k⟩
  have zs_k := k.size
  replace hw := hw.chg k (by first | (intro x h1 h2; exact h2) | (intro x h1 h2; have h3 : _ = _ := h2; exfalso; omega) | (intro b h1 h2 h3; have h4 : _ = _ := h3; (try dsimp only at h2); exfalso; omega) | (intro h1; have h2 : _ = _ := h1; exfalso; omega) | (intros; exfalso; (try dsimp only at *); omega) | (intro b h1 h2 h3; exfalso; have h4 := h3.2; (try dsimp only at *); omega) | (intro h1; exfalso; have h4 := h1.2; (try dsimp only at *); omega) | (intro x h1 h2; exfalso; have h4 := h2.2; (try dsimp only at *); omega) | (intro x h1 h2; exact h2.1))
  replace hF := hF2
  refine WL.want rfl rfl rfl (WL.move rfl rfl (WL.want rfl rfl rfl (WL.move rfl rfl (WL.want rfl rfl rfl (WL.move rfl rfl (WL.want rfl rfl rfl (?_)))))))
  refine WL.call eg_9 rfl rfl (mul_calls hF b a) ?_
  rintro v w1 ⟨rfl, hF2, k⟩
  have zs_k := k.size
  replace hw := hw.chg k (by first | (intro x h1 h2; exact h2) | (intro x h1 h2; have h3 : _ = _ := h2; exfalso; omega) | (intro b h1 h2 h3; have h4 : _ = _ := h3; (try dsimp only at h2); exfalso; omega) | (intro h1; have h2 : _ = _ := h1; exfalso; omega) | (intros; exfalso; (try dsimp only at *); omega) | (intro b h1 h2 h3; exfalso; have h4 := h3.2; (try dsimp only at *); omega) | (intro h1; exfalso; have h4 := h1.2; (try dsimp only at *); omega) | (intro x h1 h2; exfalso; have h4 := h2.2; (try dsimp only at *); omega) | (intro x h1 h2; exact h2.1))
  replace hF := hF2
  refine WL.want rfl rfl rfl (?_)
  refine WL.neq rfl rfl rfl ?_
  rw [mul_comm b a, neq_self]
  refine WL.pickF rfl rfl rfl (WL.move rfl rfl (WL.want rfl rfl rfl (WL.move rfl rfl (WL.want rfl rfl rfl (WL.move rfl rfl (WL.want rfl rfl rfl (WL.move rfl rfl (?_))))))))
  refine WL.want rfl rfl rfl (WL.move rfl rfl (WL.want rfl rfl rfl (WL.num rfl rfl (n_xor8 _ _ _ _) rfl (WL.want rfl rfl rfl (?_)))))
  refine WL.call eg_9 rfl rfl (mul_calls hF a (b ^^^ c)) ?_
  rintro v w1 ⟨rfl, hF2, k⟩
  have zs_k := k.size
  replace hw := hw.chg k (by first | (intro x h1 h2; exact h2) | (intro x h1 h2; have h3 : _ = _ := h2; exfalso; omega) | (intro b h1 h2 h3; have h4 : _ = _ := h3; (try dsimp only at h2); exfalso; omega) | (intro h1; have h2 : _ = _ := h1; exfalso; omega) | (intros; exfalso; (try dsimp only at *); omega) | (intro b h1 h2 h3; exfalso; have h4 := h3.2; (try dsimp only at *); omega) | (intro h1; exfalso; have h4 := h1.2; (try dsimp only at *); omega) | (intro x h1 h2; exfalso; have h4 := h2.2; (try dsimp only at *); omega) | (intro x h1 h2; exact h2.1))
  replace hF := hF2
  refine WL.want rfl rfl rfl (WL.move rfl rfl (WL.want rfl rfl rfl (WL.move rfl rfl (WL.want rfl rfl rfl (WL.move rfl rfl (WL.want rfl rfl rfl (?_)))))))
  refine WL.call eg_9 rfl rfl (mul_calls hF a b) ?_
  rintro v w1 ⟨rfl, hF2, k⟩
  have zs_k := k.size
  replace hw := hw.chg k (by first | (intro x h1 h2; exact h2) | (intro x h1 h2; have h3 : _ = _ := h2; exfalso; omega) | (intro b h1 h2 h3; have h4 : _ = _ := h3; (try dsimp only at h2); exfalso; omega) | (intro h1; have h2 : _ = _ := h1; exfalso; omega) | (intros; exfalso; (try dsimp only at *); omega) | (intro b h1 h2 h3; exfalso; have h4 := h3.2; (try dsimp only at *); omega) | (intro h1; exfalso; have h4 := h1.2; (try dsimp only at *); omega) | (intro x h1 h2; exfalso; have h4 := h2.2; (try dsimp only at *); omega) | (intro x h1 h2; exact h2.1))
  replace hF := hF2
  refine WL.want rfl rfl rfl (WL.move rfl rfl (WL.want rfl rfl rfl (WL.move rfl rfl (WL.want rfl rfl rfl (WL.move rfl rfl (WL.want rfl rfl rfl (?_)))))))
  refine WL.call eg_9 rfl rfl (mul_calls hF a c) ?_
  rintro v w1 ⟨rfl, hF2, k⟩
  have zs_k := k.size
  replace hw := hw.chg k (by first | (intro x h1 h2; exact h2) | (intro x h1 h2; have h3 : _ = _ := h2; exfalso; omega) | (intro b h1 h2 h3; have h4 : _ = _ := h3; (try dsimp only at h2); exfalso; omega) | (intro h1; have h2 : _ = _ := h1; exfalso; omega) | (intros; exfalso; (try dsimp only at *); omega) | (intro b h1 h2 h3; exfalso; have h4 := h3.2; (try dsimp only at *); omega) | (intro h1; exfalso; have h4 := h1.2; (try dsimp only at *); omega) | (intro x h1 h2; exfalso; have h4 := h2.2; (try dsimp only at *); omega) | (intro x h1 h2; exact h2.1))
  replace hF := hF2
  refine WL.want rfl rfl rfl (WL.num rfl rfl (n_xor8 _ _ _ _) rfl (WL.want rfl rfl rfl (?_)))
  refine WL.neq rfl rfl rfl ?_
  rw [mul_xor, neq_self]
  refine WL.pickF rfl rfl rfl (WL.move rfl rfl (WL.want rfl rfl rfl (WL.move rfl rfl (WL.want rfl rfl rfl (WL.move rfl rfl (WL.want rfl rfl rfl (?_)))))))
  refine WL.call eg_9 rfl rfl (mul_calls hF a 1) ?_
  rintro v w1 ⟨rfl, hF2, k⟩
  have zs_k := k.size
  replace hw := hw.chg k (by first | (intro x h1 h2; exact h2) | (intro x h1 h2; have h3 : _ = _ := h2; exfalso; omega) | (intro b h1 h2 h3; have h4 : _ = _ := h3; (try dsimp only at h2); exfalso; omega) | (intro h1; have h2 : _ = _ := h1; exfalso; omega) | (intros; exfalso; (try dsimp only at *); omega) | (intro b h1 h2 h3; exfalso; have h4 := h3.2; (try dsimp only at *); omega) | (intro h1; exfalso; have h4 := h1.2; (try dsimp only at *); omega) | (intro x h1 h2; exfalso; have h4 := h2.2; (try dsimp only at *); omega) | (intro x h1 h2; exact h2.1))
  replace hF := hF2
  refine WL.want rfl rfl rfl (WL.move rfl rfl (WL.want rfl rfl rfl (?_)))
  refine WL.neq rfl rfl rfl ?_
  rw [mul_one, neq_self]
  refine WL.pickF rfl rfl rfl (WL.move rfl rfl (WL.want rfl rfl rfl (WL.move rfl rfl (WL.want rfl rfl rfl (WL.move rfl rfl (WL.want rfl rfl rfl (?_)))))))
  refine WL.call eg_9 rfl rfl (mul_calls hF a 0) ?_
  rintro v w1 ⟨rfl, hF2, k⟩
  have zs_k := k.size
  replace hw := hw.chg k (by first | (intro x h1 h2; exact h2) | (intro x h1 h2; have h3 : _ = _ := h2; exfalso; omega) | (intro b h1 h2 h3; have h4 : _ = _ := h3; (try dsimp only at h2); exfalso; omega) | (intro h1; have h2 : _ = _ := h1; exfalso; omega) | (intros; exfalso; (try dsimp only at *); omega) | (intro b h1 h2 h3; exfalso; have h4 := h3.2; (try dsimp only at *); omega) | (intro h1; exfalso; have h4 := h1.2; (try dsimp only at *); omega) | (intro x h1 h2; exfalso; have h4 := h2.2; (try dsimp only at *); omega) | (intro x h1 h2; exact h2.1))
  replace hF := hF2
  refine WL.want rfl rfl rfl (?_)
  refine WL.neq rfl rfl rfl ?_
  rw [mul_zero_r, show decide (((0 : UInt8).toNat : Int) ≠ 0) = false from rfl]
  refine WL.pickF rfl rfl rfl (WL.nil (WX.then_normal (WC.cond_false rfl (WC.skip (WX.then_normal (WC.seq (WC.region (?_))))))))
  refine WL.move rfl rfl (WL.move rfl rfl (?_))
  refine WL.call eg_10 rfl rfl (inv_calls hF a) ?_
  rintro v w1 ⟨rfl, hF2, k⟩
  have zs_k := k.size
  replace hw := hw.chg k (by first | (intro x h1 h2; exact h2) | (intro x h1 h2; have h3 : _ = _ := h2; exfalso; omega) | (intro b h1 h2 h3; have h4 : _ = _ := h3; (try dsimp only at h2); exfalso; omega) | (intro h1; have h2 : _ = _ := h1; exfalso; omega) | (intros; exfalso; (try dsimp only at *); omega) | (intro b h1 h2 h3; exfalso; have h4 := h3.2; (try dsimp only at *); omega) | (intro h1; exfalso; have h4 := h1.2; (try dsimp only at *); omega) | (intro x h1 h2; exfalso; have h4 := h2.2; (try dsimp only at *); omega) | (intro x h1 h2; exact h2.1))
  replace hF := hF2
  refine WL.move rfl rfl (WL.extract rfl rfl rfl (WL.extract rfl rfl rfl (WL.assign rfl rfl (WL.assign rfl rfl (WL.nil (WX.then_normal (WC.seq (?_))))))))
  refine WC.seq (WC.region (WL.move rfl rfl (?_)))
  refine WL.eql? rfl rfl rfl (fun h77 => ?_) (fun h77 => ?_)
  ·
    refine WL.nil (WX.then_normal (WC.cond_true rfl (WC.seq (WC.region (WL.move rfl rfl (?_))))))
    have ha := u8_zero h77
    rw [if_pos ha]
    refine WL.eql rfl rfl rfl ?_
    rw [eql_self]
    refine WL.move rfl rfl (WL.want rfl rfl rfl (WL.move rfl rfl (WL.want rfl rfl rfl (?_))))
    rw [show inv a = 0 from by rw [inv, if_pos ha]]
    refine WL.eql rfl rfl rfl ?_
    rw [show decide (((0 : UInt8).toNat : Int) = 0) = true from rfl]
    refine WL.pickT rfl rfl rfl (WL.assign rfl rfl (WL.nil (WX.then_normal (WC.ret (WX.then_ret (?_))))))
    refine WX.ret1 (.inl rfl) Try.results4 rfl ?_
    exact ⟨_, rfl, rfl, hw⟩
  ·
    refine WL.nil (WX.then_normal (WC.cond_false rfl (WC.skip (WX.then_normal (WC.seq (WC.region (WL.move rfl rfl (?_))))))))
    have ha := u8_ne h77
    rw [if_neg ha]
    refine WL.eql rfl rfl rfl ?_
    rw [eql_self]
    refine WL.move rfl rfl (WL.want rfl rfl rfl (WL.move rfl rfl (WL.want rfl rfl rfl (WL.move rfl rfl (WL.want rfl rfl rfl (WL.move rfl rfl (WL.want rfl rfl rfl (?_))))))))
    refine WL.call eg_9 rfl rfl (mul_calls hF a (inv a)) ?_
    rintro v w1 ⟨rfl, hF2, k⟩
    rw [mul_inv ha]
    have zs_k := k.size
    replace hw := hw.chg k (by first | (intro x h1 h2; exact h2) | (intro x h1 h2; have h3 : _ = _ := h2; exfalso; omega) | (intro b h1 h2 h3; have h4 : _ = _ := h3; (try dsimp only at h2); exfalso; omega) | (intro h1; have h2 : _ = _ := h1; exfalso; omega) | (intros; exfalso; (try dsimp only at *); omega) | (intro b h1 h2 h3; exfalso; have h4 := h3.2; (try dsimp only at *); omega) | (intro h1; exfalso; have h4 := h1.2; (try dsimp only at *); omega) | (intro x h1 h2; exfalso; have h4 := h2.2; (try dsimp only at *); omega) | (intro x h1 h2; exact h2.1))
    replace hF := hF2
    refine WL.want rfl rfl rfl (?_)
    refine WL.eql rfl rfl rfl ?_
    rw [show decide (((1 : UInt8).toNat : Int) = 1) = true from rfl]
    refine WL.pickT rfl rfl rfl (WL.move rfl rfl (WL.want rfl rfl rfl (WL.move rfl rfl (WL.want rfl rfl rfl (?_)))))
    refine WL.eql? rfl rfl rfl (fun h95 => ?_) (fun h95 => ?_)
    ·
      refine WL.want rfl rfl rfl (WL.move rfl rfl (WL.pass rfl rfl rfl rfl (WL.pass rfl rfl rfl rfl (WL.pass rfl rfl rfl rfl (WL.pass rfl rfl rfl rfl (WL.pass rfl rfl rfl rfl (WL.want rfl rfl rfl (?_))))))))
      refine WL.pickT rfl rfl rfl (WL.pickT rfl rfl rfl (WL.assign rfl rfl (WL.nil (WX.then_normal (WC.ret (?_))))))
      refine WX.ret1 (.inl rfl) Try.results4 rfl ?_
      exact ⟨_, rfl, rfl, hw⟩
    ·
      refine WL.want rfl rfl rfl (WL.move rfl rfl (WL.want rfl rfl rfl (WL.move rfl rfl (WL.want rfl rfl rfl (WL.move rfl rfl (WL.want rfl rfl rfl (WL.move rfl rfl (?_))))))))
      refine WL.want rfl rfl rfl (?_)
      have hb := u8_ne h95
      refine WL.call eg_9 rfl rfl (mul_calls hF a b) ?_
      rintro v w1 ⟨rfl, hF2, k⟩
      have zs_k := k.size
      replace hw := hw.chg k (by first | (intro x h1 h2; exact h2) | (intro x h1 h2; have h3 : _ = _ := h2; exfalso; omega) | (intro b h1 h2 h3; have h4 : _ = _ := h3; (try dsimp only at h2); exfalso; omega) | (intro h1; have h2 : _ = _ := h1; exfalso; omega) | (intros; exfalso; (try dsimp only at *); omega) | (intro b h1 h2 h3; exfalso; have h4 := h3.2; (try dsimp only at *); omega) | (intro h1; exfalso; have h4 := h1.2; (try dsimp only at *); omega) | (intro x h1 h2; exfalso; have h4 := h2.2; (try dsimp only at *); omega) | (intro x h1 h2; exact h2.1))
      replace hF := hF2
      refine WL.want rfl rfl rfl (?_)
      refine WL.neq rfl rfl rfl ?_
      rw [show decide (((mul a b).toNat : Int) ≠ 0) = true from decide_eq_true (fun h => mul_ne ha hb (u8_zero h))]
      refine WL.want rfl rfl rfl (WL.pickF rfl rfl rfl (WL.pickT rfl rfl rfl (WL.assign rfl rfl (WL.nil (WX.then_normal (WC.ret (?_)))))))
      refine WX.ret1 (.inl rfl) Try.results4 rfl ?_
      exact ⟨_, rfl, rfl, hw⟩
/-! every element has one root -/
def SQL : List UInt8 := [0, 1, 4, 5, 16, 17, 20, 21, 64, 65, 68, 69, 80, 81, 84, 85, 29, 28, 25, 24, 13, 12, 9, 8, 93, 92, 89, 88, 77, 76, 73, 72, 116, 117, 112, 113, 100, 101, 96, 97, 52, 53, 48, 49, 36, 37, 32, 33, 105, 104, 109, 108, 121, 120, 125, 124, 41, 40, 45, 44, 57, 56, 61, 60, 205, 204, 201, 200, 221, 220, 217, 216, 141, 140, 137, 136, 157, 156, 153, 152, 208, 209, 212, 213, 192, 193, 196, 197, 144, 145, 148, 149, 128, 129, 132, 133, 185, 184, 189, 188, 169, 168, 173, 172, 249, 248, 253, 252, 233, 232, 237, 236, 164, 165, 160, 161, 180, 181, 176, 177, 228, 229, 224, 225, 244, 245, 240, 241, 19, 18, 23, 22, 3, 2, 7, 6, 83, 82, 87, 86, 67, 66, 71, 70, 14, 15, 10, 11, 30, 31, 26, 27, 78, 79, 74, 75, 94, 95, 90, 91, 103, 102, 99, 98, 119, 118, 115, 114, 39, 38, 35, 34, 55, 54, 51, 50, 122, 123, 126, 127, 106, 107, 110, 111, 58, 59, 62, 63, 42, 43, 46, 47, 222, 223, 218, 219, 206, 207, 202, 203, 158, 159, 154, 155, 142, 143, 138, 139, 195, 194, 199, 198, 211, 210, 215, 214, 131, 130, 135, 134, 147, 146, 151, 150, 170, 171, 174, 175, 186, 187, 190, 191, 234, 235, 238, 239, 250, 251, 254, 255, 183, 182, 179, 178, 167, 166, 163, 162, 247, 246, 243, 242, 231, 230, 227, 226]
set_option maxRecDepth 100000 in
theorem sq_at : ∀ i : Fin 256, mul (UInt8.ofNat i.1) (UInt8.ofNat i.1) = SQL.getD i.1 0 := by decide +kernel
set_option maxRecDepth 100000 in
theorem sq_len : SQL.length = 256 := by decide +kernel
set_option maxRecDepth 100000 in
theorem sq_one : ∀ a : Fin 256, SQL.count (UInt8.ofNat a.1) = 1 := by decide +kernel
theorem sq_next {a : UInt8} {i : Nat} (h : i < 256) : (SQL.take (i + 1)).count a = (SQL.take i).count a + if mul (UInt8.ofNat i) (UInt8.ofNat i) = a then 1 else 0 := by
  have h1 := sq_at ⟨i, h⟩
  simp only at h1
  rw [List.take_add_one, show SQL[i]? = some (SQL.getD i 0) from by rw [List.getD_eq_getElem?_getD, List.getElem?_eq_getElem (by rw [sq_len]; exact h)]; rfl, List.count_append, h1]
  simp [List.count_singleton]
set_option maxHeartbeats 2000000 in
theorem fieldSquares_calls (w : World) (a b : UInt8) : Calls Try.prog 3 [v8 a, v8 b].toArray w (Ret fun v w' => v = .bool true ∧ Chg Nob w w') := by
  have hw := Chg.refl Nob w
  refine Calls.of_WC Try.func3 rfl Try.ntmps3 (by simp) ?_
  refine WC.seq (WC.region (WL.assign rfl rfl (WL.nil (WX.then_normal (WC.seq (WC.seq (WC.region (?_))))))))
  refine WL.call eg_7 rfl rfl (known2_calls _) ?_
  rintro v w0 ⟨rfl, k0⟩
  have zs_k0 := k0.size
  replace hw := hw.pure k0
  refine WL.not rfl rfl (WL.nil (WX.then_normal (WC.cond_false rfl (WC.skip (WX.then_normal (WC.seq (WC.region (?_))))))))
  refine WL.call eg_8 rfl rfl (fresh_calls _) ?_
  rintro v w1 ⟨⟨g, rfl, hF, hg⟩, k⟩
  have zw0 := hw.size
  have hgw : w.heap.size ≤ g := by omega
  have zs_k := k.size
  replace hw := hw.pure k
  refine WL.assign rfl rfl (WL.nil (WX.then_normal (WC.seq (WC.seq (WC.region (WL.move rfl rfl (WL.move rfl rfl (?_))))))))
  refine WL.move rfl rfl (WL.num rfl rfl (n_xor8 _ _ _ _) rfl (WL.move rfl rfl (WL.move rfl rfl (WL.num rfl rfl (n_xor8 _ _ _ _) rfl (?_)))))
  refine WL.call eg_9 rfl rfl (mul_calls hF (a ^^^ b) (a ^^^ b)) ?_
  rintro v w1 ⟨rfl, hF2, k⟩
  have zs_k := k.size
  replace hw := hw.chg k (by first | (intro x h1 h2; exact h2) | (intro x h1 h2; have h3 : _ = _ := h2; exfalso; omega) | (intro b h1 h2 h3; have h4 : _ = _ := h3; (try dsimp only at h2); exfalso; omega) | (intro h1; have h2 : _ = _ := h1; exfalso; omega) | (intros; exfalso; (try dsimp only at *); omega) | (intro b h1 h2 h3; exfalso; have h4 := h3.2; (try dsimp only at *); omega) | (intro h1; exfalso; have h4 := h1.2; (try dsimp only at *); omega) | (intro x h1 h2; exfalso; have h4 := h2.2; (try dsimp only at *); omega) | (intro x h1 h2; exact h2.1))
  replace hF := hF2
  refine WL.move rfl rfl (WL.move rfl rfl (WL.move rfl rfl (?_)))
  refine WL.call eg_9 rfl rfl (mul_calls hF a a) ?_
  rintro v w1 ⟨rfl, hF2, k⟩
  have zs_k := k.size
  replace hw := hw.chg k (by first | (intro x h1 h2; exact h2) | (intro x h1 h2; have h3 : _ = _ := h2; exfalso; omega) | (intro b h1 h2 h3; have h4 : _ = _ := h3; (try dsimp only at h2); exfalso; omega) | (intro h1; have h2 : _ = _ := h1; exfalso; omega) | (intros; exfalso; (try dsimp only at *); omega) | (intro b h1 h2 h3; exfalso; have h4 := h3.2; (try dsimp only at *); omega) | (intro h1; exfalso; have h4 := h1.2; (try dsimp only at *); omega) | (intro x h1 h2; exfalso; have h4 := h2.2; (try dsimp only at *); omega) | (intro x h1 h2; exact h2.1))
  replace hF := hF2
  refine WL.move rfl rfl (WL.move rfl rfl (WL.move rfl rfl (?_)))
  refine WL.call eg_9 rfl rfl (mul_calls hF b b) ?_
  rintro v w1 ⟨rfl, hF2, k⟩
  have zs_k := k.size
  replace hw := hw.chg k (by first | (intro x h1 h2; exact h2) | (intro x h1 h2; have h3 : _ = _ := h2; exfalso; omega) | (intro b h1 h2 h3; have h4 : _ = _ := h3; (try dsimp only at h2); exfalso; omega) | (intro h1; have h2 : _ = _ := h1; exfalso; omega) | (intros; exfalso; (try dsimp only at *); omega) | (intro b h1 h2 h3; exfalso; have h4 := h3.2; (try dsimp only at *); omega) | (intro h1; exfalso; have h4 := h1.2; (try dsimp only at *); omega) | (intro x h1 h2; exfalso; have h4 := h2.2; (try dsimp only at *); omega) | (intro x h1 h2; exact h2.1))
  replace hF := hF2
  refine WL.num rfl rfl (n_xor8 _ _ _ _) rfl (?_)
  refine WL.neq rfl rfl rfl ?_
  rw [mul_self_xor, neq_self]
  refine WL.nil (WX.then_normal (WC.cond_false rfl (WC.skip (WX.then_normal (WC.seq (WC.region (WL.assign rfl rfl (?_))))))))
  refine WL.nil (WX.then_normal (WC.seq (WC.seq (WC.region (WL.assign rfl rfl (WL.nil (WX.then_normal (?_))))))))
  refine WC.block (?_)
  refine WC.loop (σ := Nat) (fun i => [(0, v8 a), (5, .pointer (some ⟨g, 0, none⟩)), (6, vi ((SQL.take i).count a : Nat)), (7, vi i)])
    (fun i w' => i ≤ 256 ∧ Fld w' g ∧ Chg Nob w w') (fun i => 256 - i) 0 ⟨rfl, rfl, rfl, rfl, trivial⟩ ⟨Nat.zero_le _, hF, hw⟩ ?_
  clear hF hw
  rintro i w2 ⟨hi, hF, hw⟩
  have hcn : (SQL.take i).count a ≤ 256 := Nat.le_trans List.count_le_length (by rw [List.length_take]; omega)
  obtain ⟨cn, ecn⟩ : ∃ cn, cn = (SQL.take i).count a := ⟨_, rfl⟩
  rw [← ecn] at hcn ⊢
  refine WC.seq (WC.seq (WC.region (WL.move rfl rfl (?_))))
  refine WL.lss? rfl rfl rfl (fun h30 => ?_) (fun h30 => ?_)
  ·
    refine WL.nil (WX.then_normal (WC.cond_true rfl (WC.skip (WX.then_normal (WC.seq (WC.block (WC.seq (?_))))))))
    refine WC.region (WL.move rfl rfl (WL.move rfl rfl (?_)))
    refine WL.c_i64_u8 Try.underlying3 Try.underlying5 rfl rfl ?_
    rw [b8X (show i < 256 by omega)]
    refine WL.move rfl rfl (?_)
    refine WL.c_i64_u8 Try.underlying3 Try.underlying5 rfl rfl ?_
    rw [b8X (show i < 256 by omega)]
    refine WL.call eg_9 rfl rfl (mul_calls hF (UInt8.ofNat i) (UInt8.ofNat i)) ?_
    rintro v w1 ⟨rfl, hF2, k⟩
    have zs_k := k.size
    replace hw := hw.chg k (by first | (intro x h1 h2; exact h2) | (intro x h1 h2; have h3 : _ = _ := h2; exfalso; omega) | (intro b h1 h2 h3; have h4 : _ = _ := h3; (try dsimp only at h2); exfalso; omega) | (intro h1; have h2 : _ = _ := h1; exfalso; omega) | (intros; exfalso; (try dsimp only at *); omega) | (intro b h1 h2 h3; exfalso; have h4 := h3.2; (try dsimp only at *); omega) | (intro h1; exfalso; have h4 := h1.2; (try dsimp only at *); omega) | (intro x h1 h2; exfalso; have h4 := h2.2; (try dsimp only at *); omega) | (intro x h1 h2; exact h2.1))
    replace hF := hF2
    refine WL.move rfl rfl (?_)
    refine WL.eql? rfl rfl rfl (fun h40 => ?_) (fun h40 => ?_)
    ·
      refine WL.nil (WX.then_normal (WC.cond_true rfl (WC.region (WL.move rfl rfl (WL.add64 rfl rfl (by first | omega | (constructor <;> omega)) rfl (WL.assign rfl rfl (WL.nil (?_))))))))
      refine WX.block_normal (WX.then_normal (WC.region (WL.move rfl rfl (WL.add64 rfl rfl (by first | omega | (constructor <;> omega)) rfl (WL.assign rfl rfl (WL.nil (?_)))))))
      have e1 := sq_next (a := a) (i := i) (by omega)
      first
        | (rw [if_pos (UInt8.toNat_inj.1 (by omega)), ← ecn] at e1
           refine WX.loop_next (i + 1) ⟨rfl, rfl, ?_, rfl, trivial⟩ ⟨by omega, hF, hw⟩ (by show _ - _ < _ - _; omega)
           rw [e1]
           rfl)
        | (rw [if_neg (fun e => h40 (by rw [e])), ← ecn] at e1
           refine WX.loop_next (i + 1) ⟨rfl, rfl, ?_, rfl, trivial⟩ ⟨by omega, hF, hw⟩ (by show _ - _ < _ - _; omega)
           rw [e1]
           rfl)
    ·
      refine WL.nil (WX.then_normal (WC.cond_false rfl (WC.skip (WX.block_normal (WX.then_normal (WC.region (WL.move rfl rfl (?_))))))))
      refine WL.add64 rfl rfl (by first | omega | (constructor <;> omega)) rfl (WL.assign rfl rfl (WL.nil (?_)))
      have e1 := sq_next (a := a) (i := i) (by omega)
      first
        | (rw [if_pos (UInt8.toNat_inj.1 (by omega)), ← ecn] at e1
           refine WX.loop_next (i + 1) ⟨rfl, rfl, ?_, rfl, trivial⟩ ⟨by omega, hF, hw⟩ (by show _ - _ < _ - _; omega)
           rw [e1]
           rfl)
        | (rw [if_neg (fun e => h40 (by rw [e])), ← ecn] at e1
           refine WX.loop_next (i + 1) ⟨rfl, rfl, ?_, rfl, trivial⟩ ⟨by omega, hF, hw⟩ (by show _ - _ < _ - _; omega)
           rw [e1]
           rfl)
  ·
    refine WL.nil (WX.then_normal (WC.cond_false rfl (WC.exit (WX.then_exit (WX.then_exit (WX.block_here (WX.then_normal (?_))))))))
    refine WC.seq (WC.region (WL.move rfl rfl (?_)))
    have h256 : i = 256 := by omega
    rw [h256, List.take_of_length_le (Nat.le_of_eq sq_len)] at ecn
    have h1 := sq_one ⟨a.toNat, a.toNat_lt⟩
    simp only [UInt8.ofNat_toNat] at h1
    rw [h1] at ecn
    rw [ecn]
    refine WL.eql rfl rfl rfl ?_
    rw [show decide (((1 : Nat) : Int) = 1) = true from rfl]
    refine WL.assign rfl rfl (WL.nil (WX.then_normal (WC.ret (?_))))
    refine WX.ret1 (.inl rfl) Try.results3 rfl ?_
    exact ⟨_, rfl, rfl, hw⟩
/-! powers -/
theorem powR_pos {a : UInt8} (ha : a ≠ 0) (m : Nat) : powR a (m : Int) = (G (L a * m), 0) := by
  rw [powR, if_neg (by omega)]
  by_cases hm : (m : Int) = 0
  · rw [if_pos hm, show m = 0 from by omega, Nat.mul_zero, G_zero]
  · rw [if_neg hm, if_neg ha, Int.toNat_natCast, G, Nat.mul_mod, Nat.mul_mod (L a) m, Nat.mod_mod]
theorem powR_zero (m : Nat) : powR 0 (m : Int) = (if m = 0 then 1 else 0, 0) := by
  rw [powR, if_neg (by omega)]
  by_cases hm : m = 0
  · rw [if_pos (by omega), if_pos hm]
  · rw [if_neg (by omega), if_pos rfl, if_neg hm]
theorem powR_ok (a : UInt8) (m : Nat) : (powR a (m : Int)).2 = 0 := by
  by_cases ha : a = 0
  · rw [ha, powR_zero]
  · rw [powR_pos ha]
theorem powR_add (a : UInt8) (m n : Nat) : (powR a ((m + n : Nat) : Int)).1 = mul (powR a m).1 (powR a n).1 := by
  by_cases ha : a = 0
  · subst ha
    rw [powR_zero, powR_zero, powR_zero]
    show (if m + n = 0 then (1 : UInt8) else 0) = mul (if m = 0 then 1 else 0) (if n = 0 then 1 else 0)
    by_cases hm : m = 0
    · rw [if_pos hm]
      by_cases hn : n = 0
      · rw [if_pos hn, if_pos (by omega), mul_one]
      · rw [if_neg hn, if_neg (by omega), mul_zero_r]
    · rw [if_neg hm, if_neg (by omega), mul_zero_l]
  · rw [powR_pos ha, powR_pos ha, powR_pos ha]
    show G (L a * (m + n)) = mul (G (L a * m)) (G (L a * n))
    rw [mul_G (G_ne _) (G_ne _), L_G, L_G, ← G_mod, ← G_mod (L a * m % 255 + L a * n % 255), ← Nat.add_mod, Nat.mul_add]
set_option maxRecDepth 100000 in
theorem L_two : L 2 = 1 := by decide +kernel
theorem powR_two (m : Nat) : powR 2 (m : Int) = (G m, 0) := by rw [powR_pos (by decide), L_two, Nat.one_mul]
theorem logR_G (m : Nat) : logR (G m) = (((m % 255 : Nat) : Int), 0) := by rw [logR, if_neg (G_ne m), L_G]
set_option maxHeartbeats 4000000 in
theorem fieldPowers_calls (w : World) (a : UInt8) (m0 n0 : Int) : Calls Try.prog 5 [v8 a, vi m0, vi n0].toArray w (Ret fun v w' => v = .bool true ∧ Chg Nob w w') := by
  have hw := Chg.refl Nob w
  refine Calls.of_WC Try.func5 rfl Try.ntmps5 (by simp) ?_
  refine WC.seq (WC.region (WL.assign rfl rfl (WL.nil (WX.then_normal (WC.seq (WC.seq (WC.region (?_))))))))
  refine WL.call eg_7 rfl rfl (known2_calls _) ?_
  rintro v w0 ⟨rfl, k0⟩
  have zs_k0 := k0.size
  replace hw := hw.pure k0
  refine WL.not rfl rfl (WL.nil (WX.then_normal (WC.cond_false rfl (WC.skip (WX.then_normal (WC.seq (WC.region (?_))))))))
  refine WL.call eg_8 rfl rfl (fresh_calls _) ?_
  rintro v w1 ⟨⟨g, rfl, hF, hg⟩, k⟩
  have zw0 := hw.size
  have hgw : w.heap.size ≤ g := by omega
  have zs_k := k.size
  replace hw := hw.pure k
  refine WL.assign rfl rfl (WL.nil (WX.then_normal (WC.seq (WC.region (WL.move rfl rfl (WL.c_i64_u64 Try.underlying3 Try.underlying31 rfl rfl (WL.num rfl rfl (n_rem64 _ _ _ 100000 (by decide)) rfl (?_))))))))
  have hm : (B64 m0 % 100000).toNat < 100000 := by rw [UInt64.toNat_mod]; exact Nat.mod_lt _ (by decide)
  obtain ⟨m, em⟩ : ∃ m, m = (B64 m0 % 100000).toNat := ⟨_, rfl⟩
  refine WL.c_u64_i64s Try.underlying31 Try.underlying3 rfl ⟨em.symm, by omega⟩ rfl ?_
  refine WL.move rfl rfl (WL.c_i64_u64 Try.underlying3 Try.underlying31 rfl rfl (WL.num rfl rfl (n_rem64 _ _ _ 100000 (by decide)) rfl (?_)))
  have hn : (B64 n0 % 100000).toNat < 100000 := by rw [UInt64.toNat_mod]; exact Nat.mod_lt _ (by decide)
  obtain ⟨n, en⟩ : ∃ n, n = (B64 n0 % 100000).toNat := ⟨_, rfl⟩
  refine WL.c_u64_i64s Try.underlying31 Try.underlying3 rfl ⟨en.symm, by omega⟩ rfl ?_
  refine WL.assign rfl rfl (WL.assign rfl rfl (WL.nil (WX.then_normal (WC.seq (WC.region (WL.move rfl rfl (WL.move rfl rfl (?_))))))))
  refine WL.move rfl rfl (?_)
  refine WL.call eg_11 rfl rfl (pow_calls hF a m) ?_
  rintro v w1 ⟨rfl, hF2, k⟩
  rw [powR_ok]
  have zs_k := k.size
  replace hw := hw.chg k (by first | (intro x h1 h2; exact h2) | (intro x h1 h2; have h3 : _ = _ := h2; exfalso; omega) | (intro b h1 h2 h3; have h4 : _ = _ := h3; (try dsimp only at h2); exfalso; omega) | (intro h1; have h2 : _ = _ := h1; exfalso; omega) | (intros; exfalso; (try dsimp only at *); omega) | (intro b h1 h2 h3; exfalso; have h4 := h3.2; (try dsimp only at *); omega) | (intro h1; exfalso; have h4 := h1.2; (try dsimp only at *); omega) | (intro x h1 h2; exfalso; have h4 := h2.2; (try dsimp only at *); omega) | (intro x h1 h2; exact h2.1))
  replace hF := hF2
  refine WL.move rfl rfl (WL.extract rfl rfl rfl (WL.extract rfl rfl rfl (WL.assign rfl rfl (WL.assign rfl rfl (WL.nil (WX.then_normal (WC.seq (?_))))))))
  refine WC.region (WL.move rfl rfl (WL.move rfl rfl (WL.move rfl rfl (?_))))
  refine WL.call eg_11 rfl rfl (pow_calls hF a n) ?_
  rintro v w1 ⟨rfl, hF2, k⟩
  rw [powR_ok]
  have zs_k := k.size
  replace hw := hw.chg k (by first | (intro x h1 h2; exact h2) | (intro x h1 h2; have h3 : _ = _ := h2; exfalso; omega) | (intro b h1 h2 h3; have h4 : _ = _ := h3; (try dsimp only at h2); exfalso; omega) | (intro h1; have h2 : _ = _ := h1; exfalso; omega) | (intros; exfalso; (try dsimp only at *); omega) | (intro b h1 h2 h3; exfalso; have h4 := h3.2; (try dsimp only at *); omega) | (intro h1; exfalso; have h4 := h1.2; (try dsimp only at *); omega) | (intro x h1 h2; exfalso; have h4 := h2.2; (try dsimp only at *); omega) | (intro x h1 h2; exact h2.1))
  replace hF := hF2
  refine WL.move rfl rfl (WL.extract rfl rfl rfl (WL.extract rfl rfl rfl (WL.assign rfl rfl (WL.assign rfl rfl (WL.nil (WX.then_normal (WC.seq (?_))))))))
  refine WC.region (WL.move rfl rfl (WL.move rfl rfl (WL.move rfl rfl (WL.move rfl rfl (?_)))))
  refine WL.add64 rfl rfl (by constructor <;> omega) rfl ?_
  rw [show (m : Int) + (n : Int) = ((m + n : Nat) : Int) from by omega]
  refine WL.call eg_11 rfl rfl (pow_calls hF a ((m + n : Nat) : Int)) ?_
  rintro v w1 ⟨rfl, hF2, k⟩
  rw [powR_ok, powR_add]
  have zs_k := k.size
  replace hw := hw.chg k (by first | (intro x h1 h2; exact h2) | (intro x h1 h2; have h3 : _ = _ := h2; exfalso; omega) | (intro b h1 h2 h3; have h4 : _ = _ := h3; (try dsimp only at h2); exfalso; omega) | (intro h1; have h2 : _ = _ := h1; exfalso; omega) | (intros; exfalso; (try dsimp only at *); omega) | (intro b h1 h2 h3; exfalso; have h4 := h3.2; (try dsimp only at *); omega) | (intro h1; exfalso; have h4 := h1.2; (try dsimp only at *); omega) | (intro x h1 h2; exfalso; have h4 := h2.2; (try dsimp only at *); omega) | (intro x h1 h2; exact h2.1))
  replace hF := hF2
  refine WL.move rfl rfl (WL.extract rfl rfl rfl (WL.extract rfl rfl rfl (WL.assign rfl rfl (WL.assign rfl rfl (WL.nil (WX.then_normal (WC.seq (?_))))))))
  refine WC.seq (WC.region (WL.move rfl rfl (?_)))
  refine WL.neq rfl rfl rfl ?_
  rw [neq_self]
  refine WL.move rfl rfl (WL.want rfl rfl rfl (WL.move rfl rfl (WL.want rfl rfl rfl (?_))))
  refine WL.neq rfl rfl rfl ?_
  rw [neq_self]
  refine WL.pickF rfl rfl rfl (WL.move rfl rfl (WL.want rfl rfl rfl (WL.move rfl rfl (WL.want rfl rfl rfl (?_)))))
  refine WL.neq rfl rfl rfl ?_
  rw [neq_self]
  refine WL.pickF rfl rfl rfl (WL.move rfl rfl (WL.want rfl rfl rfl (WL.move rfl rfl (WL.want rfl rfl rfl (WL.move rfl rfl (WL.want rfl rfl rfl (WL.move rfl rfl (?_))))))))
  refine WL.want rfl rfl rfl (WL.move rfl rfl (WL.want rfl rfl rfl (?_)))
  refine WL.call eg_9 rfl rfl (mul_calls hF _ _) ?_
  rintro v w1 ⟨rfl, hF2, k⟩
  have zs_k := k.size
  replace hw := hw.chg k (by first | (intro x h1 h2; exact h2) | (intro x h1 h2; have h3 : _ = _ := h2; exfalso; omega) | (intro b h1 h2 h3; have h4 : _ = _ := h3; (try dsimp only at h2); exfalso; omega) | (intro h1; have h2 : _ = _ := h1; exfalso; omega) | (intros; exfalso; (try dsimp only at *); omega) | (intro b h1 h2 h3; exfalso; have h4 := h3.2; (try dsimp only at *); omega) | (intro h1; exfalso; have h4 := h1.2; (try dsimp only at *); omega) | (intro x h1 h2; exfalso; have h4 := h2.2; (try dsimp only at *); omega) | (intro x h1 h2; exact h2.1))
  replace hF := hF2
  refine WL.want rfl rfl rfl (?_)
  refine WL.neq rfl rfl rfl ?_
  rw [neq_self]
  refine WL.pickF rfl rfl rfl (WL.nil (WX.then_normal (WC.cond_false rfl (WC.skip (WX.then_normal (WC.seq (WC.region (?_))))))))
  refine WL.move rfl rfl (WL.move rfl rfl (?_))
  refine WL.call eg_11 rfl rfl (pow_calls hF 2 m) ?_
  rintro v w1 ⟨rfl, hF2, k⟩
  rw [powR_two]
  have zs_k := k.size
  replace hw := hw.chg k (by first | (intro x h1 h2; exact h2) | (intro x h1 h2; have h3 : _ = _ := h2; exfalso; omega) | (intro b h1 h2 h3; have h4 : _ = _ := h3; (try dsimp only at h2); exfalso; omega) | (intro h1; have h2 : _ = _ := h1; exfalso; omega) | (intros; exfalso; (try dsimp only at *); omega) | (intro b h1 h2 h3; exfalso; have h4 := h3.2; (try dsimp only at *); omega) | (intro h1; exfalso; have h4 := h1.2; (try dsimp only at *); omega) | (intro x h1 h2; exfalso; have h4 := h2.2; (try dsimp only at *); omega) | (intro x h1 h2; exact h2.1))
  replace hF := hF2
  refine WL.move rfl rfl (WL.extract rfl rfl rfl (WL.extract rfl rfl rfl (WL.assign rfl rfl (WL.assign rfl rfl (WL.nil (WX.then_normal (WC.seq (?_))))))))
  refine WC.region (WL.move rfl rfl (WL.move rfl rfl (?_)))
  refine WL.call eg_12 rfl rfl (log_calls hF (G m)) ?_
  rintro v w1 ⟨rfl, hF2, k⟩
  rw [logR_G]
  have zs_k := k.size
  replace hw := hw.chg k (by first | (intro x h1 h2; exact h2) | (intro x h1 h2; have h3 : _ = _ := h2; exfalso; omega) | (intro b h1 h2 h3; have h4 : _ = _ := h3; (try dsimp only at h2); exfalso; omega) | (intro h1; have h2 : _ = _ := h1; exfalso; omega) | (intros; exfalso; (try dsimp only at *); omega) | (intro b h1 h2 h3; exfalso; have h4 := h3.2; (try dsimp only at *); omega) | (intro h1; exfalso; have h4 := h1.2; (try dsimp only at *); omega) | (intro x h1 h2; exfalso; have h4 := h2.2; (try dsimp only at *); omega) | (intro x h1 h2; exact h2.1))
  replace hF := hF2
  refine WL.move rfl rfl (WL.extract rfl rfl rfl (WL.extract rfl rfl rfl (WL.assign rfl rfl (WL.assign rfl rfl (WL.nil (WX.then_normal (WC.seq (?_))))))))
  refine WC.region (WL.move rfl rfl (WL.move rfl rfl (?_)))
  refine WL.call eg_11 rfl rfl (pow_calls hF 2 ((m % 255 : Nat) : Int)) ?_
  rintro v w1 ⟨rfl, hF2, k⟩
  rw [powR_two, G_mod]
  have zs_k := k.size
  replace hw := hw.chg k (by first | (intro x h1 h2; exact h2) | (intro x h1 h2; have h3 : _ = _ := h2; exfalso; omega) | (intro b h1 h2 h3; have h4 : _ = _ := h3; (try dsimp only at h2); exfalso; omega) | (intro h1; have h2 : _ = _ := h1; exfalso; omega) | (intros; exfalso; (try dsimp only at *); omega) | (intro b h1 h2 h3; exfalso; have h4 := h3.2; (try dsimp only at *); omega) | (intro h1; exfalso; have h4 := h1.2; (try dsimp only at *); omega) | (intro x h1 h2; exfalso; have h4 := h2.2; (try dsimp only at *); omega) | (intro x h1 h2; exact h2.1))
  replace hF := hF2
  refine WL.move rfl rfl (WL.extract rfl rfl rfl (WL.extract rfl rfl rfl (WL.assign rfl rfl (WL.assign rfl rfl (WL.nil (WX.then_normal (WC.seq (?_))))))))
  refine WC.region (WL.move rfl rfl (WL.move rfl rfl (WL.move rfl rfl (WL.sub64 rfl rfl (by first | omega | (constructor <;> omega)) rfl (?_)))))
  refine WL.call eg_11 rfl rfl (pow_calls hF a _) ?_
  rintro v w1 ⟨rfl, hF2, k⟩
  rw [show (powR a (-1 - (m : Int))).2 = 1 from by rw [powR, if_pos (by omega)]]
  have zs_k := k.size
  replace hw := hw.chg k (by first | (intro x h1 h2; exact h2) | (intro x h1 h2; have h3 : _ = _ := h2; exfalso; omega) | (intro b h1 h2 h3; have h4 : _ = _ := h3; (try dsimp only at h2); exfalso; omega) | (intro h1; have h2 : _ = _ := h1; exfalso; omega) | (intros; exfalso; (try dsimp only at *); omega) | (intro b h1 h2 h3; exfalso; have h4 := h3.2; (try dsimp only at *); omega) | (intro h1; exfalso; have h4 := h1.2; (try dsimp only at *); omega) | (intro x h1 h2; exfalso; have h4 := h2.2; (try dsimp only at *); omega) | (intro x h1 h2; exact h2.1))
  replace hF := hF2
  refine WL.move rfl rfl (WL.extract rfl rfl rfl (WL.extract rfl rfl rfl (WL.assign rfl rfl (WL.assign rfl rfl (WL.nil (WX.then_normal (WC.seq (?_))))))))
  refine WC.region (WL.move rfl rfl (?_))
  refine WL.eql rfl rfl rfl ?_
  rw [eql_self]
  refine WL.move rfl rfl (WL.want rfl rfl rfl (WL.move rfl rfl (WL.want rfl rfl rfl (?_))))
  refine WL.eql rfl rfl rfl ?_
  rw [eql_self]
  refine WL.pickT rfl rfl rfl (WL.move rfl rfl (WL.want rfl rfl rfl (WL.move rfl rfl (WL.want rfl rfl rfl (?_)))))
  refine WL.eql rfl rfl rfl ?_
  rw [eql_self]
  refine WL.pickT rfl rfl rfl (WL.move rfl rfl (WL.want rfl rfl rfl (WL.move rfl rfl (WL.want rfl rfl rfl (WL.move rfl rfl (WL.want rfl rfl rfl (WL.rem64i rfl rfl (by constructor <;> omega) rfl (?_))))))))
  refine WL.want rfl rfl rfl (?_)
  refine WL.eql rfl rfl rfl ?_
  rw [show decide (((m % 255 : Nat) : Int) = (m : Int) % 255) = true from decide_eq_true (by omega)]
  refine WL.pickT rfl rfl rfl (WL.move rfl rfl (WL.want rfl rfl rfl (WL.move rfl rfl (WL.want rfl rfl rfl (WL.move rfl rfl (WL.want rfl rfl rfl (?_)))))))
  refine WL.eql rfl rfl rfl ?_
  rw [eql_self]
  refine WL.pickT rfl rfl rfl (WL.move rfl rfl (WL.want rfl rfl rfl (WL.move rfl rfl (WL.want rfl rfl rfl (?_)))))
  refine WL.eql rfl rfl rfl ?_
  rw [eql_self]
  refine WL.pickT rfl rfl rfl (WL.assign rfl rfl (WL.nil (WX.then_normal (WC.ret (?_)))))
  refine WX.ret1 (.inl rfl) Try.results5 rfl ?_
  exact ⟨_, rfl, rfl, hw⟩
end Go.Proofs.Ytomoeajojfcnfaa
