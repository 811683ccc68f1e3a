import Derived.Test.YtfkaioldfmapjaaHz
namespace Go.Proofs.Ytfkaioldfmapjaa
open Go.RowKit Go.HL

/-! a count as bytes -/
def cnt (n : Nat) : List UInt8 := if 128 ≤ n then UInt8.ofNat (n % 128 + 128) :: cnt (n / 128) else [UInt8.ofNat n]
termination_by n
decreasing_by omega
theorem cnt_big {n : Nat} (h : 128 ≤ n) : cnt n = UInt8.ofNat (n % 128 + 128) :: cnt (n / 128) := by rw [cnt, if_pos h]
theorem cnt_small {n : Nat} (h : n < 128) : cnt n = [UInt8.ofNat n] := by rw [cnt, if_neg (by omega)]
theorem cnt_len (k : Nat) : ∀ n, n < 128 ^ (k + 1) → (cnt n).length ≤ k + 1 := by
  induction k with
  | zero => intro n h; rw [cnt_small (by simpa using h)]; simp
  | succ k ih =>
    intro n h
    by_cases hn : 128 ≤ n
    · rw [cnt_big hn]
      have := ih (n / 128) (by rw [Nat.div_lt_iff_lt_mul (by decide)]; rw [Nat.pow_succ] at h; exact h)
      simp only [List.length_cons]
      omega
    · rw [cnt_small (by omega)]; simp
theorem cnt_len64 (n : UInt64) : (cnt n.toNat).length ≤ 10 := cnt_len 9 _ (by have := n.toNat_lt; omega)
theorem or128 (x : UInt8) : x ||| 128 = UInt8.ofNat (x.toNat % 128 + 128) := by
  have h : ∀ y : Fin 256, (UInt8.ofNat y.1 ||| 128) = UInt8.ofNat ((UInt8.ofNat y.1).toNat % 128 + 128) := by decide +kernel
  have := h ⟨x.toNat, x.toNat_lt⟩
  simpa using this

theorem count_calls {S : Nat → Prop} {w : World} {ao : Option Addr} {c : Nat} {xs : List UInt8} (n : UInt64) (hr : Row S w 5 eb ao c xs) (hS : ∀ b, w.heap.size ≤ b → S b) (hb : xs.length ≤ 70368744177664) :
    Calls Try.prog 32 [.slice ao xs.length c, v64 n].toArray w (Ret fun v w' => ∃ ao' c', v = .slice ao' (xs ++ cnt n.toNat).length c' ∧ Row S w' 5 eb ao' c' (xs ++ cnt n.toNat) ∧ Grow S w ao w' ao') := by
  refine Calls.of_WC Try.func32 rfl Try.ntmps32 (by simp) ?_
  refine WC.seq (WC.region (WL.assign rfl rfl (WL.nil (WX.then_normal (WC.seq (WC.block (?_)))))))
  refine WC.loop (σ := List UInt8 × Option Addr × Nat × UInt64) (fun s => [(0, .slice s.2.1 s.1.length s.2.2.1), (1, v64 s.2.2.2)])
    (fun s w' => s.1 ++ cnt s.2.2.2.toNat = xs ++ cnt n.toNat ∧ Row S w' 5 eb s.2.1 s.2.2.1 s.1 ∧ Grow S w ao w' s.2.1) (fun s => s.2.2.2.toNat) (xs, ao, c, n) ⟨rfl, rfl, trivial⟩ ⟨rfl, hr, Grow.refl _ _ _⟩ ?_
  rintro ⟨ys, a1, c1, m⟩ w1 ⟨he, hr1, hg⟩
  dsimp only at he hr1 hg ⊢
  have hlen : ys.length ≤ 70368744177680 := by
    have h1 := congrArg List.length he
    have h2 := cnt_len64 n
    simp only [List.length_append] at h1
    omega
  have hsz := hg.chg.size
  refine WC.seq (WC.seq (WC.region (WL.move rfl rfl (?_))))
  refine WL.geq? rfl rfl rfl (fun h => ?_) (fun h => ?_)
  ·
    refine WL.nil (WX.then_normal (WC.cond_true rfl (WC.skip (WX.then_normal (WC.seq (WC.block (WC.region (?_))))))))
    refine WL.move rfl rfl (WL.move rfl rfl (WL.c_u64_u8 Try.underlying38 Try.underlying5 rfl rfl (WL.num rfl rfl (n_or8 _ _ _ 128) rfl (?_))))
    refine WL.build (e := eb) [m.toUInt8 ||| 128] Try.underlying24 Try.sizeOf5 Try.zeroValue5 rfl rfl rfl (by first | (simp [Value.cells]; done) | (simp [Value.cells] <;> rfl) | (simp [Value.cells, eb, ei, es, ebool, e32, e64]; done)) (by decide) rfl ?_
    intro a_hr2 w_hr2 hr2 l_hr2 z_hr2 k_hr2
    have zs_k_hr2 := k_hr2.size
    replace hg := hg.pure k_hr2
    replace hr1 := hr1.pure k_hr2
    refine WL.append (e := eb) info_5 rfl Try.underlying24 rfl rfl hr1 (hr2.rsl.src Try.underlying24) (by (try simp only [List.length_append, List.length_cons, List.length_nil] at *); omega) (by intro b hb; first | (apply hS; omega) | ((try dsimp only); omega)) rfl ?_
    intro a_hr3 c_hr3 w_hr3 hr3 g_hr3 n_hr3
    have z_hr3 := g_hr3.chg.size
    replace hg := hg.trans g_hr3
    have zs_g_hr3_chg := g_hr3.chg.size
    refine WL.assign rfl rfl (WL.nil (WX.block_normal (WX.then_normal (WC.region (WL.move rfl rfl (WL.num rfl rfl (n_shr64 _ _ _ _ 7 (by decide)) rfl (WL.assign rfl rfl (?_))))))))
    refine WL.nil (?_)
    have hm : (m >>> UInt64.ofNat 7).toNat = m.toNat / 128 := by simp [Nat.shiftRight_eq_div_pow]
    refine WX.loop_next (ys ++ [m.toUInt8 ||| 128], a_hr3, c_hr3, m >>> UInt64.ofNat 7) ⟨rfl, rfl, trivial⟩ ⟨?_, hr3, hg⟩ ?_
    ·
      rw [← he, hm, cnt_big (n := m.toNat) (by omega), or128]
      simp
    ·
      show (m >>> UInt64.ofNat 7).toNat < m.toNat
      rw [hm]; omega
  ·
    refine WL.nil (WX.then_normal (WC.cond_false rfl (WC.exit (WX.then_exit (WX.then_exit (WX.block_here (WX.then_normal (?_))))))))
    refine WC.seq (WC.region (WL.move rfl rfl (WL.move rfl rfl (WL.c_u64_u8 Try.underlying38 Try.underlying5 rfl rfl (?_)))))
    refine WL.build (e := eb) [m.toUInt8] Try.underlying24 Try.sizeOf5 Try.zeroValue5 rfl rfl rfl (by first | (simp [Value.cells]; done) | (simp [Value.cells] <;> rfl) | (simp [Value.cells, eb, ei, es, ebool, e32, e64]; done)) (by decide) rfl ?_
    intro a_hr2 w_hr2 hr2 l_hr2 z_hr2 k_hr2
    have zs_k_hr2 := k_hr2.size
    replace hg := hg.pure k_hr2
    replace hr1 := hr1.pure k_hr2
    refine WL.append (e := eb) info_5 rfl Try.underlying24 rfl rfl hr1 (hr2.rsl.src Try.underlying24) (by (try simp only [List.length_append, List.length_cons, List.length_nil] at *); omega) (by intro b hb; first | (apply hS; omega) | ((try dsimp only); omega)) rfl ?_
    intro a_hr3 c_hr3 w_hr3 hr3 g_hr3 n_hr3
    have z_hr3 := g_hr3.chg.size
    replace hg := hg.trans g_hr3
    have zs_g_hr3_chg := g_hr3.chg.size
    refine WL.assign rfl rfl (WL.nil (WX.then_normal (WC.ret (?_))))
    have hx : xs ++ cnt n.toNat = ys ++ [m.toUInt8] := by
      rw [← he, cnt_small (by omega)]; rfl
    rw [hx]
    exact WX.ret1 (.inl rfl) Try.results32 rfl ⟨_, rfl, _, _, rfl, hr3, hg⟩
end Go.Proofs.Ytfkaioldfmapjaa
