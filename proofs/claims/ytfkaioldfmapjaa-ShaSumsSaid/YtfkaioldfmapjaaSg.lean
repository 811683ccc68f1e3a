import Derived.Test.YtfkaioldfmapjaaSf
import Derived.Test.YtfkaioldfmapjaaRo
namespace Go.Proofs.Ytfkaioldfmapjaa
open Go.RowKit Go.HL

theorem flat2_at : ∀ {l : List UInt8} {i : Nat} {x : UInt8}, l[i]? = some x → (l.flatMap hex2)[2 * i]? = some (hexd (x >>> UInt8.ofNat 4)) ∧ (l.flatMap hex2)[2 * i + 1]? = some (hexd (x &&& 15))
  | [], i, x, h => by simp at h
  | y :: r, 0, x, h => by
    simp at h
    subst h
    exact ⟨rfl, rfl⟩
  | y :: r, i + 1, x, h => by
    have ih := flat2_at (l := r) (i := i) (x := x) (by simpa using h)
    have e : 2 * (i + 1) = 2 * i + 2 := by omega
    rw [e]
    exact ih
theorem div16 (x : UInt8) : x / 16 = x >>> UInt8.ofNat 4 ∧ x % 16 = x &&& 15 := by
  have h : ∀ n : Fin 256, (UInt8.ofNat n.1) / 16 = (UInt8.ofNat n.1) >>> UInt8.ofNat 4 ∧ (UInt8.ofNat n.1) % 16 = (UInt8.ofNat n.1) &&& 15 := by decide +kernel
  have := h ⟨x.toNat, x.toNat_lt⟩
  simpa using this
theorem neq_self (a : Int) : decide (a ≠ a) = false := decide_eq_false (fun h => h rfl)
theorem eql_self (a : Int) : decide (a = a) = true := decide_eq_true rfl
theorem digR_ok {l : List UInt8} (h : l.length = 32) : digR ⟨l.toArray⟩ = (⟨(l.flatMap hex2).toArray⟩, 0) := by
  rw [digR, if_pos (by simpa [ByteArray.size] using h)]
theorem digR_bad {s : ByteArray} (h : s.size ≠ 32) : digR s = (ByteArray.empty, 1) := by rw [digR, if_neg h]
set_option maxHeartbeats 1000000 in
theorem shaDigits_calls {w : World} {ao : Option Addr} {c : Nat} {b : List UInt8} (hr : RSl (· < w.heap.size) w eb ao c b) (n : Int) :
    Calls Try.prog 7 [.slice ao b.length c, vi n].toArray w (Ret fun v w' => v = .bool true ∧ Chg Nob w w') := by
  have hw := Chg.refl Nob w
  refine Calls.of_WC Try.func7 rfl Try.ntmps7 (by simp) ?_
  refine WC.seq (WC.region (WL.assign rfl rfl (WL.nil (WX.then_normal (WC.seq (WC.seq (WC.region (?_))))))))
  refine WL.call eg_19 rfl rfl (known4_calls _) ?_
  rintro v w0 ⟨rfl, k0⟩
  have zs_k0 := k0.size
  replace hr := hr.pure k0
  replace hw := hw.pure k0
  refine WL.not rfl rfl (WL.move rfl rfl (WL.want rfl rfl rfl (WL.move rfl rfl (WL.want rfl rfl rfl (WL.len Try.underlying24 rfl rfl (WL.want rfl rfl rfl (?_)))))))
  refine WL.gtr? rfl rfl rfl (fun h20 => ?_) (fun h20 => ?_)
  ·
    refine WL.pickF rfl rfl rfl (WL.nil (WX.then_normal (WC.cond_true rfl (WC.seq (WC.region (?_))))))
    refine WL.call eg_19 rfl rfl (known4_calls _) ?_
    rintro v w0 ⟨rfl, k0⟩
    have zs_k0 := k0.size
    replace hr := hr.pure k0
    replace hw := hw.pure k0
    refine WL.assign rfl rfl (WL.nil (WX.then_normal (WC.ret (WX.then_ret (?_)))))
    refine WX.ret1 (.inl rfl) Try.results7 rfl ?_
    exact ⟨_, rfl, rfl, hw⟩
  ·
    refine WL.pickF rfl rfl rfl (WL.nil (WX.then_normal (WC.cond_false rfl (WC.skip (WX.then_normal (WC.seq (WC.region (?_))))))))
    refine WL.move rfl rfl (?_)
    have hr2 := hr.old
    refine WL.call eg_20 rfl rfl (sum_calls' hr2 (by omega)) ?_
    rintro v w1 ⟨rfl, k1⟩
    have hX := sumB_len b
    obtain ⟨X, eX⟩ : ∃ X, X = sumB b := ⟨_, rfl⟩
    rw [← eX] at hX ⊢
    have zs_k1 := k1.size
    replace hr := hr.pure k1
    replace hw := hw.pure k1
    refine WL.assign rfl rfl (WL.nil (WX.then_normal (WC.seq (WC.region (WL.move rfl rfl (?_))))))
    refine WL.call eg_21 rfl rfl (digits_calls _ _) ?_
    rintro v w2 ⟨rfl, k2⟩
    rw [digR_ok hX]
    have zs_k2 := k2.size
    replace hr := hr.pure k2
    replace hw := hw.pure k2
    refine WL.move rfl rfl (WL.extract rfl rfl rfl (WL.extract rfl rfl rfl (WL.assign rfl rfl (WL.assign rfl rfl (WL.nil (WX.then_normal (WC.seq (?_))))))))
    refine WC.seq (WC.region (WL.move rfl rfl (?_)))
    refine WL.neq rfl rfl rfl ?_
    rw [neq_self]
    refine WL.move rfl rfl (WL.want rfl rfl rfl (WL.move rfl rfl (WL.want rfl rfl rfl (WL.lens Try.underlying9 rfl rfl (WL.want rfl rfl rfl (?_))))))
    refine WL.neq rfl rfl rfl ?_
    rw [show decide (((⟨(X.flatMap hex2).toArray⟩ : ByteArray).size : Int) ≠ 64) = false from decide_eq_false (by show ¬ (((X.flatMap hex2).toArray.size : Int) ≠ 64); rw [List.size_toArray, flat2_len]; omega)]
    refine WL.pickF rfl rfl rfl (WL.move rfl rfl (WL.want rfl rfl rfl (WL.move rfl rfl (WL.want rfl rfl rfl (WL.lens Try.underlying9 rfl rfl (WL.want rfl rfl rfl (?_)))))))
    refine WL.neq rfl rfl rfl ?_
    rw [show decide (((⟨X.toArray⟩ : ByteArray).size : Int) ≠ 32) = false from decide_eq_false (by show ¬ ((X.toArray.size : Int) ≠ 32); rw [List.size_toArray]; omega)]
    refine WL.pickF rfl rfl rfl (WL.nil (WX.then_normal (WC.cond_false rfl (WC.skip (WX.then_normal (WC.seq (WC.seq (?_))))))))
    refine WC.region (WL.assign rfl rfl (WL.nil (WX.then_normal (WC.block (?_)))))
    refine WC.loop (σ := Nat) (fun i => [(1, vi n), (5, .string ⟨X.toArray⟩), (6, .string ⟨(X.flatMap hex2).toArray⟩), (8, vi i)])
      (fun i w' => i ≤ 32 ∧ Chg Nob w w') (fun i => 32 - i) 0 ⟨rfl, rfl, rfl, rfl, trivial⟩ ⟨Nat.zero_le _, hw⟩ ?_
    clear hw hr
    rintro i w8 ⟨hi, hw⟩
    refine WC.seq (WC.seq (WC.region (WL.move rfl rfl (?_))))
    refine WL.lss? rfl rfl rfl (fun h43 => ?_) (fun h43 => ?_)
    ·
      refine WL.nil (WX.then_normal (WC.cond_true rfl (WC.skip (WX.then_normal (WC.seq (WC.block (WC.seq (?_))))))))
      obtain ⟨x, hx⟩ : ∃ x, X[i]? = some x := ⟨_, List.getElem?_eq_getElem (by omega)⟩
      have hf := flat2_at hx
      have hxb := hex_bound x
      have hd16 := div16 x
      refine WC.draw (Nob) [0, 1, 2, 3, 4, 5, 6, 7, 8, 9, 10] [] mixed rfl rfl (fun wd_1 kd_1 zd_1 => ?_)
      have zs_kd_1 := kd_1.size
      replace hw := hw.pure kd_1
      apply DQ.step (E' := [(6, _)])
      case ho => rfl
      case hs => exact ⟨rfl, trivial⟩
      case hk => rfl
      case h1 =>
        intro wq_2 kq_2
        refine WL.move rfl rfl (?_)
        refine WL.nil ?_
        exact WX.one ⟨rfl, by first | exact Chg.refl _ _ | assumption⟩
      apply DQ.step (E' := [(8, _)])
      case ho => rfl
      case hs => exact ⟨rfl, trivial⟩
      case hk => rfl
      case h1 =>
        intro wq_3 kq_3
        refine WL.move rfl rfl (?_)
        refine WL.nil ?_
        exact WX.one ⟨rfl, by first | exact Chg.refl _ _ | assumption⟩
      apply DQ.step (E' := [(47, _)])
      case ho => rfl
      case hs => exact ⟨rfl, trivial⟩
      case hk => rfl
      case h1 =>
        intro wq_4 kq_4
        refine WL.mul64 rfl rfl (by first | omega | (constructor <;> omega)) rfl (?_)
        refine WL.nil ?_
        exact WX.one ⟨rfl, by first | exact Chg.refl _ _ | assumption⟩
      apply DQ.step (E' := [(46, _), (48, _)])
      case ho => rfl
      case hs => exact ⟨rfl, rfl, trivial⟩
      case hk => rfl
      case h1 =>
        intro wq_5 kq_5
        have zs_kq_5 := kq_5.size
        replace hw := hw.pure kq_5
        refine WL.sindex Try.underlying9 rfl rfl _ rfl _ hf.1 rfl ?_
        refine WL.nil ?_
        exact WX.one ⟨rfl, by first | exact Chg.refl _ _ | assumption⟩
      apply DQ.step (E' := [(6, _)])
      case ho => rfl
      case hs => exact ⟨rfl, trivial⟩
      case hk => rfl
      case h1 =>
        intro wq_6 kq_6
        refine WL.move rfl rfl (?_)
        refine WL.nil ?_
        exact WX.one ⟨rfl, by first | exact Chg.refl _ _ | assumption⟩
      apply DQ.step (E' := [(8, _)])
      case ho => rfl
      case hs => exact ⟨rfl, trivial⟩
      case hk => rfl
      case h1 =>
        intro wq_7 kq_7
        refine WL.move rfl rfl (?_)
        refine WL.nil ?_
        exact WX.one ⟨rfl, by first | exact Chg.refl _ _ | assumption⟩
      apply DQ.step (E' := [(51, _)])
      case ho => rfl
      case hs => exact ⟨rfl, trivial⟩
      case hk => rfl
      case h1 =>
        intro wq_8 kq_8
        refine WL.mul64 rfl rfl (by first | omega | (constructor <;> omega)) rfl (?_)
        refine WL.nil ?_
        exact WX.one ⟨rfl, by first | exact Chg.refl _ _ | assumption⟩
      apply DQ.step (E' := [(52, _)])
      case ho => rfl
      case hs => exact ⟨rfl, trivial⟩
      case hk => rfl
      case h1 =>
        intro wq_9 kq_9
        refine WL.add64 rfl rfl (by first | omega | (constructor <;> omega)) rfl (?_)
        refine WL.nil ?_
        exact WX.one ⟨rfl, by first | exact Chg.refl _ _ | assumption⟩
      apply DQ.step (E' := [(50, _), (53, _)])
      case ho => rfl
      case hs => exact ⟨rfl, rfl, trivial⟩
      case hk => rfl
      case h1 =>
        intro wq_10 kq_10
        have zs_kq_10 := kq_10.size
        replace hw := hw.pure kq_10
        refine WL.sindex Try.underlying9 rfl rfl _ rfl _ hf.2 rfl ?_
        refine WL.nil ?_
        exact WX.one ⟨rfl, by first | exact Chg.refl _ _ | assumption⟩
      apply DQ.step (E' := [(49, _)])
      case ho => rfl
      case hs => exact ⟨rfl, trivial⟩
      case hk => rfl
      case h1 =>
        intro wq_11 kq_11
        refine WL.assign rfl rfl (?_)
        refine WL.nil ?_
        exact WX.one ⟨rfl, by first | exact Chg.refl _ _ | assumption⟩
      apply DQ.step (E' := [(54, _)])
      case ho => rfl
      case hs => exact ⟨rfl, trivial⟩
      case hk => rfl
      case h1 =>
        intro wq_12 kq_12
        refine WL.assign rfl rfl (?_)
        refine WL.nil ?_
        exact WX.one ⟨rfl, by first | exact Chg.refl _ _ | assumption⟩
      refine DQ.done (fun _ => ?_)
      refine DL.done (fun we_13 ke_13 => ?_)
      have zs_ke_13 := ke_13.size
      replace hw := hw.pure ke_13
      refine WX.then_normal (WC.seq (WC.region (WL.move rfl rfl (WL.move rfl rfl (?_)))))
      refine WL.sindex Try.underlying9 rfl rfl _ rfl _ hx rfl ?_
      refine WL.num rfl rfl (n_quo8 _ _ _ 16 (by decide)) rfl ?_
      rw [hd16.1]
      refine WL.sindex Try.underlying9 rfl rfl _ rfl _ (hexd_at hxb.1) rfl ?_
      refine WL.move rfl rfl (?_)
      refine WL.neq rfl rfl rfl ?_
      rw [neq_self]
      refine WL.move rfl rfl (WL.want rfl rfl rfl (WL.move rfl rfl (WL.want rfl rfl rfl (WL.move rfl rfl (WL.want rfl rfl rfl (?_))))))
      refine WL.sindex Try.underlying9 rfl rfl _ rfl _ hx rfl ?_
      refine WL.want rfl rfl rfl (?_)
      refine WL.num rfl rfl (n_rem8 _ _ _ 16 (by decide)) rfl ?_
      rw [hd16.2]
      refine WL.want rfl rfl rfl (?_)
      refine WL.sindex Try.underlying9 rfl rfl _ rfl _ (hexd_at hxb.2) rfl ?_
      refine WL.want rfl rfl rfl (WL.move rfl rfl (WL.want rfl rfl rfl (?_)))
      refine WL.neq rfl rfl rfl ?_
      rw [neq_self]
      refine WL.pickF rfl rfl rfl (WL.nil (WX.then_normal (WC.cond_false rfl (WC.skip (WX.block_normal (WX.then_normal (WC.region (?_))))))))
      refine WL.move rfl rfl (WL.add64 rfl rfl (by first | omega | (constructor <;> omega)) rfl (WL.assign rfl rfl (WL.nil (?_))))
      exact WX.loop_next (i + 1) ⟨rfl, rfl, rfl, rfl, trivial⟩ ⟨by omega, hw⟩ (by show _ - _ < _ - _; omega)
    ·
      refine WL.nil (WX.then_normal (WC.cond_false rfl (WC.exit (WX.then_exit (WX.then_exit (WX.block_here (WX.then_normal (?_))))))))
      refine WC.seq (WC.region (WL.move rfl rfl (WL.c_i64_u64 Try.underlying3 Try.underlying38 rfl rfl (WL.num rfl rfl (n_rem64 _ _ _ 32 (by decide)) rfl (?_)))))
      have hm : (B64 n % 32).toNat < 32 := by rw [UInt64.toNat_mod]; exact Nat.mod_lt _ (by decide)
      obtain ⟨m, hm2⟩ : ∃ m, m = (B64 n % 32).toNat := ⟨_, rfl⟩
      refine WL.c_u64_i64s Try.underlying38 Try.underlying3 rfl ⟨hm2.symm, by omega⟩ rfl ?_
      refine WL.assign rfl rfl (WL.nil (WX.then_normal (WC.seq (WC.region (WL.move rfl rfl (WL.move rfl rfl (?_)))))))
      refine WL.sslice (l := 0) (h := m) (k := .i64) Try.underlying9 rfl (.inr ⟨rfl, rfl⟩) (.inl rfl) (by constructor; omega; show m ≤ X.toArray.size; rw [List.size_toArray]; omega) rfl ?_
      refine WL.call eg_21 rfl rfl (digits_calls _ _) ?_
      rintro v w3 ⟨rfl, k3⟩
      rw [digR_bad (by rw [ByteArray.size_extract]; show ¬ (min m X.toArray.size - 0 = 32); rw [List.size_toArray]; omega)]
      have zs_k3 := k3.size
      replace hw := hw.pure k3
      refine WL.move rfl rfl (WL.extract rfl rfl rfl (WL.extract rfl rfl rfl (WL.assign rfl rfl (WL.assign rfl rfl (WL.nil (WX.then_normal (WC.seq (?_))))))))
      refine WC.region (WL.move rfl rfl (?_))
      refine WL.sadd rfl rfl (by show X.toArray.size + 1 ≤ _; rw [List.size_toArray]; omega) rfl ?_
      refine WL.call eg_21 rfl rfl (digits_calls _ _) ?_
      rintro v w3 ⟨rfl, k3⟩
      rw [digR_bad (by rw [ByteArray.size_append]; show ¬ (X.toArray.size + 1 = 32); rw [List.size_toArray]; omega)]
      have zs_k3 := k3.size
      replace hw := hw.pure k3
      refine WL.move rfl rfl (WL.extract rfl rfl rfl (WL.extract rfl rfl rfl (WL.assign rfl rfl (WL.assign rfl rfl (WL.nil (WX.then_normal (WC.seq (?_))))))))
      refine WC.region (WL.move rfl rfl (?_))
      refine WL.eql rfl rfl rfl ?_
      rw [eql_self]
      refine WL.move rfl rfl (WL.want rfl rfl rfl (WL.move rfl rfl (WL.want rfl rfl rfl (?_))))
      refine WL.eql rfl rfl rfl ?_
      rw [eql_self]
      refine WL.pickT rfl rfl rfl (WL.assign rfl rfl (WL.nil (WX.then_normal (WC.ret (?_)))))
      refine WX.ret1 (.inl rfl) Try.results7 rfl ?_
      exact ⟨_, rfl, rfl, hw⟩
end Go.Proofs.Ytfkaioldfmapjaa
