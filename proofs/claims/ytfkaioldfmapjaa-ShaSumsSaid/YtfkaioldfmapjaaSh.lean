import Derived.Test.YtfkaioldfmapjaaSg
import Derived.Test.YtfkaioldfmapjaaHo
namespace Go.Proofs.Ytfkaioldfmapjaa
open Go.RowKit Go.HL

theorem openR_seal (b : List UInt8) : openR (b ++ sumB b) = (b, 0) := by
  have e : (b ++ sumB b).length - 32 = b.length := by rw [List.length_append, sumB_len]; omega
  rw [openR, e, List.take_left, List.drop_left, if_pos ⟨by rw [List.length_append, sumB_len]; omega, rfl⟩]
theorem openR_head {Y b : List UInt8} (hl : Y.length = b.length + 32) (hd : Y.drop b.length = sumB b) (h : sumB (Y.take b.length) ≠ sumB b) : openR Y = ([], 2) := by
  have e : Y.length - 32 = b.length := by omega
  rw [openR, e, if_neg (fun k => h (by rw [k.2, hd]))]
theorem openR_tail {Y b : List UInt8} (hl : Y.length = b.length + 32) (ht : Y.take b.length = b) (hd : Y.drop b.length ≠ sumB b) : openR Y = ([], 2) := by
  have e : Y.length - 32 = b.length := by omega
  rw [openR, e, ht, if_neg (fun k => hd k.2.symm)]
theorem xor_ne {z x : UInt8} (h : x ≠ 0) : z ^^^ x ≠ z := by
  intro k
  apply h
  have h1 : z ^^^ (z ^^^ x) = z ^^^ z := by rw [k]
  rw [← UInt8.xor_assoc, UInt8.xor_self, UInt8.zero_xor] at h1
  exact h1
theorem xor_same {z x : UInt8} (h : x = 0) : z ^^^ x = z := by subst h; simp
theorem turned_same {Y : List UInt8} {m : Nat} {z : UInt8} (h : Y[m]? = some z) : Y.set m z = Y := by
  apply List.ext_getElem?
  intro i
  rw [List.getElem?_set]
  split
  · rename_i e
    subst e
    rw [h]
    have := (List.getElem?_eq_some_iff.1 h).1
    simp [this]
  · rfl
/-- where the turned byte is one of the first ones -/
theorem turned_head {b s : List UInt8} {m : Nat} {u : UInt8} (h : m < b.length) : ((b ++ s).set m u).drop b.length = s := by
  rw [List.set_append_left _ _ h, List.drop_append_of_le_length (by simp), List.drop_of_length_le (by simp)]
  rfl
theorem turned_tail {b s : List UInt8} {m : Nat} {u z : UInt8} (h : b.length ≤ m) (hz : (b ++ s)[m]? = some z) (hu : u ≠ z) : ((b ++ s).set m u).take b.length = b ∧ ((b ++ s).set m u).drop b.length ≠ s := by
  rw [List.set_append_right _ _ h, List.take_left, List.drop_left]
  refine ⟨rfl, fun k => hu ?_⟩
  rw [List.getElem?_append_right h] at hz
  have h1 := congrArg (fun l => l[m - b.length]?) k
  rw [hz, List.getElem?_set_self (List.getElem?_eq_some_iff.1 hz).1] at h1
  injection h1
set_option maxHeartbeats 2000000 in
theorem shaTells_calls {w : World} {ao : Option Addr} {c : Nat} {b : List UInt8} (hr : RSl (· < w.heap.size) w eb ao c b) (at' : Int) (x : UInt8) :
    Calls Try.prog 8 [.slice ao b.length c, vi at', v8 x].toArray w (Ret fun v w' => v = .bool true ∧ Chg Nob w w') := by
  have hw := Chg.refl Nob w
  refine Calls.of_WC Try.func8 rfl Try.ntmps8 (by simp) ?_
  refine WC.seq (WC.region (WL.assign rfl rfl (WL.nil (WX.then_normal (WC.seq (WC.seq (WC.region (?_))))))))
  refine WL.call eg_19 rfl rfl (known4_calls _) ?_
  rintro v w0 ⟨rfl, k0⟩
  have zs_k0 := k0.size
  replace hr := hr.pure k0
  replace hw := hw.pure k0
  refine WL.not rfl rfl (WL.move rfl rfl (WL.want rfl rfl rfl (WL.move rfl rfl (WL.want rfl rfl rfl (WL.len Try.underlying24 rfl rfl (WL.want rfl rfl rfl (?_)))))))
  refine WL.gtr? rfl rfl rfl (fun h15 => ?_) (fun h15 => ?_)
  ·
    refine WL.pickF rfl rfl rfl (WL.nil (WX.then_normal (WC.cond_true rfl (WC.seq (WC.region (?_))))))
    refine WL.call eg_19 rfl rfl (known4_calls _) ?_
    rintro v w0 ⟨rfl, k0⟩
    have zs_k0 := k0.size
    replace hr := hr.pure k0
    replace hw := hw.pure k0
    refine WL.assign rfl rfl (WL.nil (WX.then_normal (WC.ret (WX.then_ret (?_)))))
    refine WX.ret1 (.inl rfl) Try.results8 rfl ?_
    first
      | exact ⟨_, rfl, congrArg Value.bool (decide_eq_true rfl), hw⟩
      | exact ⟨_, rfl, rfl, hw⟩
  ·
    refine WL.pickF rfl rfl rfl (WL.nil (WX.then_normal (WC.cond_false rfl (WC.skip (WX.then_normal (WC.seq (WC.region (?_))))))))
    refine WL.move rfl rfl (?_)
    have hr2 := hr.old
    refine WL.call eg_22 rfl rfl (seal_calls hr2 (by omega)) ?_
    rintro v w1 ⟨⟨a1, c1, rfl, hq⟩, k1⟩
    have hX := sumB_len b
    have hS : (b ++ sumB b).length = b.length + 32 := by rw [List.length_append, hX]
    obtain ⟨X, eX⟩ : ∃ X, X = b ++ sumB b := ⟨_, rfl⟩
    rw [← eX] at hq hS ⊢
    have zs_k1 := k1.size
    replace hr := hr.pure k1
    replace hw := hw.pure k1
    replace hq : Row (w.heap.size ≤ ·) w1 5 eb a1 c1 X := hq.mono (fun b h => by have := hw.size; omega)
    refine WL.assign rfl rfl (WL.nil (WX.then_normal (WC.seq (WC.seq (WC.region (WL.move rfl rfl (WL.len Try.underlying24 rfl rfl (?_))))))))
    refine WL.move rfl rfl (WL.len Try.underlying24 rfl rfl (WL.add64 rfl rfl (by first | omega | (constructor <;> omega)) rfl (?_)))
    refine WL.neq rfl rfl rfl ?_
    rw [show decide ((X.length : Int) ≠ (b.length : Int) + 32) = false from decide_eq_false (by omega)]
    refine WL.nil (WX.then_normal (WC.cond_false rfl (WC.skip (WX.then_normal (WC.seq (WC.region (WL.move rfl rfl (?_))))))))
    refine WL.c_i64_u64 Try.underlying3 Try.underlying38 rfl rfl (WL.move rfl rfl (WL.len Try.underlying24 rfl rfl (WL.c_i64_u64 Try.underlying3 Try.underlying38 rfl rfl (?_))))
    refine WL.num rfl rfl (n_rem64 _ _ _ _ (by rw [B64_nat (by omega)]; omega)) rfl ?_
    have hm : (B64 at' % B64 (X.length : Int)).toNat < X.length := by rw [UInt64.toNat_mod, B64_nat (by omega)]; exact Nat.mod_lt _ (by omega)
    obtain ⟨m, hm2⟩ : ∃ m, m = (B64 at' % B64 (X.length : Int)).toNat := ⟨_, rfl⟩
    refine WL.c_u64_i64s Try.underlying38 Try.underlying3 rfl ⟨hm2.symm, by omega⟩ rfl ?_
    obtain ⟨z, hz⟩ : ∃ z, X[m]? = some z := ⟨_, List.getElem?_eq_getElem (by omega)⟩
    obtain ⟨g, rfl⟩ := hq.place0 (j := m) (by omega)
    have hgw := hq.at_ _ rfl
    dsimp only at hgw
    refine WL.assign rfl rfl (WL.nil (WX.then_normal (WC.seq (WC.region (WL.move rfl rfl (WL.move rfl rfl (WL.move rfl rfl (?_))))))))
    refine WL.move rfl rfl (?_)
    refine WL.indexT Try.underlying24 Try.sizeOf5 hq.rsl rfl rfl ⟨hz, rfl⟩ rfl ?_
    intro b_1 o_1 hc_1
    refine WL.load Try.isAgg5 rfl (hc_1 0 _ rfl) rfl (WL.move rfl rfl (WL.num rfl rfl (n_xor8 _ _ _ _) rfl (?_)))
    refine WL.indexC hq.rsl Try.underlying24 Try.sizeOf5 rfl rfl ⟨hz, rfl⟩ rfl ?_
    refine WL.storeRow (z := z ^^^ x) (m) Try.sizeOf5 hq rfl rfl rfl (by first | (simp; done) | (show 0 + _ * 1 = _; omega)) (by omega) rfl ?_
    intro w_2 zs_2 nr_2 k_2
    have zs_k_2 := k_2.size
    replace hr := hr.chg k_2 (by first | (intro x h1 h2; exact h2) | (intro x h1 h2; have h3 : _ = _ := h2; exfalso; omega) | (intro b h1 h2 h3; have h4 : _ = _ := h3; (try dsimp only at h2); exfalso; omega) | (intro h1; have h2 : _ = _ := h1; exfalso; omega) | (intros; exfalso; (try dsimp only at *); omega) | (intro b h1 h2 h3; exfalso; have h4 := h3.2; (try dsimp only at *); omega) | (intro h1; exfalso; have h4 := h1.2; (try dsimp only at *); omega) | (intro x h1 h2; exfalso; have h4 := h2.2; (try dsimp only at *); omega) | (intro x h1 h2; exact h2.1))
    replace hw := hw.chg k_2 (by first | (intro x h1 h2; exact h2) | (intro x h1 h2; have h3 : _ = _ := h2; exfalso; omega) | (intro b h1 h2 h3; have h4 : _ = _ := h3; (try dsimp only at h2); exfalso; omega) | (intro h1; have h2 : _ = _ := h1; exfalso; omega) | (intros; exfalso; (try dsimp only at *); omega) | (intro b h1 h2 h3; exfalso; have h4 := h3.2; (try dsimp only at *); omega) | (intro h1; exfalso; have h4 := h1.2; (try dsimp only at *); omega) | (intro x h1 h2; exfalso; have h4 := h2.2; (try dsimp only at *); omega) | (intro x h1 h2; exact h2.1))
    replace hq := nr_2
    obtain ⟨Y, eY⟩ : ∃ Y, Y = X.set m (z ^^^ x) := ⟨_, rfl⟩
    have hYl : Y.length = X.length := by rw [eY, List.length_set]
    rw [← eY] at hq
    rw [show Value.slice (some ⟨g, 0, none⟩) X.length c1 = Value.slice (some ⟨g, 0, none⟩) Y.length c1 from by rw [hYl]]
    refine WL.nil (WX.then_normal (WC.seq (WC.region (WL.move rfl rfl (?_)))))
    have hq2 := hq.rsl.old
    refine WL.call eg_23 rfl rfl (open_calls hq2 (by omega)) ?_
    rintro v w2 ⟨⟨a2, c2, rfl, ho⟩, k2⟩
    have zs_k2 := k2.size
    replace hr := hr.pure k2
    replace hw := hw.pure k2
    replace hq := hq.pure k2
    replace ho := ho.lt
    refine WL.move rfl rfl (WL.extract rfl rfl rfl (WL.extract rfl rfl rfl (WL.assign rfl rfl (WL.assign rfl rfl (WL.nil (WX.then_normal (WC.seq (?_))))))))
    refine WC.seq (WC.region (WL.move rfl rfl (?_)))
    refine WL.eql? rfl rfl rfl (fun h48 => ?_) (fun h48 => ?_)
    ·
      have hx0 : x = 0 := UInt8.toNat_inj.1 (by have h0 : (0 : UInt8).toNat = 0 := rfl; omega)
      have hR : openR Y = (b, 0) := by
        rw [eY, xor_same hx0, turned_same hz, eX]
        exact openR_seal b
      rw [hR] at ho ⊢
      refine WL.nil (WX.then_normal (WC.cond_true rfl (WC.seq (WC.region (WL.move rfl rfl (?_))))))
      refine WL.eql rfl rfl rfl ?_
      rw [eql_self]
      refine WL.move rfl rfl (WL.want rfl rfl rfl (WL.move rfl rfl (WL.want rfl rfl rfl (WL.toStr Try.underlying24 Try.underlying5 Try.underlying9 ho.rsl rfl rfl (WL.want rfl rfl rfl (WL.move rfl rfl (WL.want rfl rfl rfl (?_))))))))
      refine WL.toStr Try.underlying24 Try.underlying5 Try.underlying9 hr rfl rfl (WL.want rfl rfl rfl (WL.seql rfl rfl rfl (WL.pickT rfl rfl rfl (WL.assign rfl rfl (WL.nil (WX.then_normal (WC.ret (?_))))))))
      refine WX.then_ret (?_)
      refine WX.ret1 (.inl rfl) Try.results8 rfl ?_
      first
        | exact ⟨_, rfl, congrArg Value.bool (decide_eq_true rfl), hw⟩
        | exact ⟨_, rfl, rfl, hw⟩
    ·
      have hx0 : x ≠ 0 := fun h => h48 (by rw [h]; rfl)
      refine WL.nil (WX.then_normal (WC.cond_false rfl (WC.skip (WX.then_normal (WC.seq (WC.seq (WC.region (?_))))))))
      refine WL.move rfl rfl (WL.move rfl rfl (WL.len Try.underlying24 rfl rfl (?_)))
      refine WL.lss? rfl rfl rfl (fun h61 => ?_) (fun h61 => ?_)
      ·
        refine WL.move rfl rfl (WL.want rfl rfl rfl (WL.move rfl rfl (WL.want rfl rfl rfl (WL.move rfl rfl (WL.want rfl rfl rfl (WL.len Try.underlying24 rfl rfl (WL.want rfl rfl rfl (?_))))))))
        refine WL.slice (l := 0) (h := b.length) (k := .i64) Try.underlying24 Try.sizeOf5 hq.rsl rfl (.inr ⟨rfl, rfl⟩) (.inl rfl) (by constructor <;> omega) rfl ?_
        intro a_hc c_hc hc n_hc
        refine WL.want rfl rfl rfl (?_)
        have hc2 := hc.old
        refine WL.call eg_20 rfl rfl (sum_calls' hc2 (by simp; omega)) ?_
        rintro v w3 ⟨rfl, k3⟩
        rw [List.drop_zero]
        have zs_k3 := k3.size
        replace hr := hr.pure k3
        replace hw := hw.pure k3
        replace hq := hq.pure k3
        replace ho := ho.pure k3
        replace hc := hc.pure k3
        refine WL.want rfl rfl rfl (WL.move rfl rfl (WL.want rfl rfl rfl (?_)))
        have hr2 := hr.old
        refine WL.call eg_20 rfl rfl (sum_calls' hr2 (by omega)) ?_
        rintro v w3 ⟨rfl, k3⟩
        have zs_k3 := k3.size
        replace hr := hr.pure k3
        replace hw := hw.pure k3
        replace hq := hq.pure k3
        replace ho := ho.pure k3
        replace hc := hc.pure k3
        refine WL.want rfl rfl rfl (?_)
        refine WL.seql? rfl rfl rfl (fun h70 => ?_) (fun h70 => ?_)
        ·
          refine WL.pickT rfl rfl rfl (WL.nil (WX.then_normal (WC.cond_true rfl (WC.seq (WC.region (WL.assign rfl rfl (WL.nil (?_))))))))
          refine WX.then_normal (WC.ret (WX.then_ret (?_)))
          refine WX.ret1 (.inl rfl) Try.results8 rfl ?_
          first
            | exact ⟨_, rfl, congrArg Value.bool (decide_eq_true rfl), hw⟩
            | exact ⟨_, rfl, rfl, hw⟩
        ·
          refine WL.pickT rfl rfl rfl (WL.nil (WX.then_normal (WC.cond_false rfl (WC.skip (WX.then_normal (WC.seq (WC.region (?_))))))))
          refine WL.move rfl rfl (?_)
          have hR : openR Y = ([], 2) := by
            rw [eX] at hz eY hYl
            rw [List.length_append, hX] at hYl
            first
              | (have hm3 : m < b.length := by omega
                 refine openR_head hYl (by rw [eY]; exact turned_head hm3) (fun h => h70 ?_)
                 rw [h])
              | (obtain ⟨h1, h2⟩ := turned_tail (b := b) (s := sumB b) (m := m) (u := z ^^^ x) (z := z) (by omega) hz (xor_ne hx0)
                 rw [← eY] at h1 h2
                 exact openR_tail hYl h1 h2)
          rw [hR] at ho ⊢
          refine WL.eql rfl rfl rfl ?_
          rw [eql_self]
          refine WL.move rfl rfl (WL.want rfl rfl rfl (WL.move rfl rfl (WL.want rfl rfl rfl (WL.len Try.underlying24 rfl rfl (WL.want rfl rfl rfl (WL.eql rfl rfl rfl (WL.pickT rfl rfl rfl (?_))))))))
          refine WL.assign rfl rfl (WL.nil (WX.then_normal (WC.ret (?_))))
          refine WX.ret1 (.inl rfl) Try.results8 rfl ?_
          first
            | exact ⟨_, rfl, congrArg Value.bool (decide_eq_true rfl), hw⟩
            | exact ⟨_, rfl, rfl, hw⟩
      ·
        refine WL.move rfl rfl (WL.pass rfl rfl rfl rfl (WL.pass rfl rfl rfl rfl (WL.pass rfl rfl rfl rfl (WL.pass rfl rfl rfl rfl (WL.pass rfl rfl rfl rfl (WL.pass rfl rfl rfl rfl (WL.pass rfl rfl rfl rfl (?_))))))))
        refine WL.pass rfl rfl rfl rfl (WL.pickF rfl rfl rfl (WL.nil (WX.then_normal (WC.cond_false rfl (WC.skip (WX.then_normal (WC.seq (?_))))))))
        refine WC.region (WL.move rfl rfl (?_))
        have hR : openR Y = ([], 2) := by
          rw [eX] at hz eY hYl
          rw [List.length_append, hX] at hYl
          first
            | (have hm3 : m < b.length := by omega
               refine openR_head hYl (by rw [eY]; exact turned_head hm3) (fun h => h70 ?_)
               rw [h])
            | (obtain ⟨h1, h2⟩ := turned_tail (b := b) (s := sumB b) (m := m) (u := z ^^^ x) (z := z) (by omega) hz (xor_ne hx0)
               rw [← eY] at h1 h2
               exact openR_tail hYl h1 h2)
        rw [hR] at ho ⊢
        refine WL.eql rfl rfl rfl ?_
        rw [eql_self]
        refine WL.move rfl rfl (WL.want rfl rfl rfl (WL.move rfl rfl (WL.want rfl rfl rfl (WL.len Try.underlying24 rfl rfl (WL.want rfl rfl rfl (WL.eql rfl rfl rfl (WL.pickT rfl rfl rfl (?_))))))))
        refine WL.assign rfl rfl (WL.nil (WX.then_normal (WC.ret (?_))))
        refine WX.ret1 (.inl rfl) Try.results8 rfl ?_
        first
          | exact ⟨_, rfl, congrArg Value.bool (decide_eq_true rfl), hw⟩
          | exact ⟨_, rfl, rfl, hw⟩
end Go.Proofs.Ytfkaioldfmapjaa
