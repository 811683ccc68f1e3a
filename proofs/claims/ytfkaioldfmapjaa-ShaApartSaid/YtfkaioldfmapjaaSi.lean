import Derived.Test.YtfkaioldfmapjaaSh
namespace Go.Proofs.Ytfkaioldfmapjaa
open Go.RowKit Go.HL

set_option maxHeartbeats 2000000 in
theorem shaApart_calls {w : World} {ao : Option Addr} {c : Nat} {b : List UInt8} (hr : RSl (· < w.heap.size) w eb ao c b) :
    Calls Try.prog 9 [.slice ao b.length c].toArray w (Ret fun v w' => v = .bool true ∧ Chg Nob w w') := by
  have hw := Chg.refl Nob w
  refine Calls.of_WC Try.func9 rfl Try.ntmps9 (by simp) ?_
  refine WC.seq (WC.region (WL.assign rfl rfl (WL.nil (WX.then_normal (WC.seq (WC.seq (WC.region (?_))))))))
  refine WL.call eg_19 rfl rfl (known4_calls _) ?_
  rintro v w0 ⟨rfl, k0⟩
  have zs_k0 := k0.size
  replace hr := hr.pure k0
  replace hw := hw.pure k0
  refine WL.not rfl rfl (WL.move rfl rfl (WL.want rfl rfl rfl (WL.move rfl rfl (WL.want rfl rfl rfl (WL.len Try.underlying24 rfl rfl (WL.want rfl rfl rfl (?_)))))))
  refine WL.gtr? rfl rfl rfl (fun h17 => ?_) (fun h17 => ?_)
  ·
    refine WL.pickF rfl rfl rfl (WL.nil (WX.then_normal (WC.cond_true rfl (WC.seq (WC.region (?_))))))
    refine WL.call eg_19 rfl rfl (known4_calls _) ?_
    rintro v w0 ⟨rfl, k0⟩
    have zs_k0 := k0.size
    replace hr := hr.pure k0
    replace hw := hw.pure k0
    refine WL.assign rfl rfl (WL.nil (WX.then_normal (WC.ret (WX.then_ret (?_)))))
    refine WX.ret1 (.inl rfl) Try.results9 rfl ?_
    exact ⟨_, rfl, rfl, hw⟩
  ·
    refine WL.pickF rfl rfl rfl (WL.nil (WX.then_normal (WC.cond_false rfl (WC.skip (WX.then_normal (WC.seq (WC.region (?_))))))))
    refine WL.move rfl rfl (WL.len Try.underlying24 rfl rfl (WL.add64 rfl rfl (by first | omega | (constructor <;> omega)) rfl (?_)))
    have zw0 := hw.size
    refine WL.makeB (e := eb) (0 : UInt8) 0 (b.length + 80) Try.underlying24 info_5 rfl rfl rfl ⟨rfl, by omega, by omega⟩ (by constructor <;> omega) rfl ?_
    intro g w1 hB k1 z1 eg
    have zs_k1 := k1.size
    replace hr := hr.pure k1
    replace hw := hw.pure k1
    refine WL.move rfl rfl (?_)
    refine WL.appendB (e := eb) info_5 Try.underlying24 rfl rfl hB (by simp) (hr.src Try.underlying24) (by omega) rfl ?_
    intro w2 hB2 k2 z2
    have zs_k2 := k2.size
    replace hr := hr.chg k2 (by first | (intro x h1 h2; exact h2) | (intro x h1 h2; have h3 : _ = _ := h2; exfalso; omega) | (intro b h1 h2 h3; have h4 : _ = _ := h3; (try dsimp only at h2); exfalso; omega) | (intro h1; have h2 : _ = _ := h1; exfalso; omega) | (intros; exfalso; (try dsimp only at *); omega) | (intro b h1 h2 h3; exfalso; have h4 := h3.2; (try dsimp only at *); omega) | (intro h1; exfalso; have h4 := h1.2; (try dsimp only at *); omega) | (intro x h1 h2; exfalso; have h4 := h2.2; (try dsimp only at *); omega))
    replace hw := hw.chg k2 (by first | (intro x h1 h2; exact h2) | (intro x h1 h2; have h3 : _ = _ := h2; exfalso; omega) | (intro b h1 h2 h3; have h4 : _ = _ := h3; (try dsimp only at h2); exfalso; omega) | (intro h1; have h2 : _ = _ := h1; exfalso; omega) | (intros; exfalso; (try dsimp only at *); omega) | (intro b h1 h2 h3; exfalso; have h4 := h3.2; (try dsimp only at *); omega) | (intro h1; exfalso; have h4 := h1.2; (try dsimp only at *); omega) | (intro x h1 h2; exfalso; have h4 := h2.2; (try dsimp only at *); omega))
    have e2 : List.take 0 (List.replicate (b.length + 80) (0 : UInt8)) ++ b ++ List.drop (0 + b.length) (List.replicate (b.length + 80) 0) = b ++ List.replicate 80 0 := by
      rw [List.take_zero, List.nil_append, List.drop_replicate]
      congr 2
      omega
    rw [e2] at hB2
    have hI := RSl.ofBlk (c := b.length + 80) hB2 (by simp)
    have hin := hI.take b.length (by simp)
    rw [List.take_left] at hin
    rw [Nat.zero_add]
    have hgw : w.heap.size ≤ g ∧ g < w2.heap.size := by omega
    refine WL.assign rfl rfl (WL.nil (WX.then_normal (WC.seq (WC.region (WL.move rfl rfl (?_))))))
    have hi2 := hin.old
    refine WL.call eg_20 rfl rfl (sum_calls' hi2 (by omega)) ?_
    rintro v w3 ⟨rfl, k3⟩
    have zs_k3 := k3.size
    replace hr := hr.pure k3
    replace hw := hw.pure k3
    replace hI := hI.pure k3
    replace hin := hin.pure k3
    refine WL.assign rfl rfl (WL.nil (WX.then_normal (WC.seq (WC.region (WL.move rfl rfl (?_))))))
    have hi2 := hin.old
    refine WL.call eg_22 rfl rfl (seal_calls hi2 (by omega)) ?_
    rintro v w4 ⟨⟨a2, c2, rfl, hs⟩, k4⟩
    have zs_k4 := k4.size
    replace hr := hr.pure k4
    replace hw := hw.pure k4
    replace hI := hI.pure k4
    replace hin := hin.pure k4
    replace hs : Row (fun x => g < x) w4 5 eb a2 c2 (b ++ sumB b) := hs.mono (fun x hx => by omega)
    replace hs := hs.lt
    refine WL.assign rfl rfl (WL.nil (WX.then_normal (WC.seq (WC.region (WL.move rfl rfl (?_))))))
    have hi2 := hin.old
    obtain ⟨n4, hn4⟩ : ∃ n4, n4 = w4.heap.size := ⟨_, rfl⟩
    rw [← hn4] at hs
    refine WL.call eg_23 rfl rfl (open_calls hi2 (by omega)) ?_
    rintro v w5 ⟨⟨a3, c3, rfl, ho⟩, k5⟩
    have zs_k5 := k5.size
    replace hr := hr.pure k5
    replace hw := hw.pure k5
    replace hI := hI.pure k5
    replace hin := hin.pure k5
    replace hs := hs.pure k5
    replace ho : Row (fun x => n4 ≤ x) w5 5 eb a3 c3 (openR b).1 := ho.mono (fun x hx => by omega)
    have hgn : g < n4 := by omega
    refine WL.move rfl rfl (WL.extract rfl rfl rfl (WL.extract rfl rfl rfl (WL.assign rfl rfl (WL.assign rfl rfl (WL.nil (WX.then_normal (WC.seq (?_))))))))
    refine WC.seq (WC.region (WL.assign rfl rfl (WL.nil (WX.then_normal (WC.block (?_))))))
    refine WC.loop (σ := List UInt8 × Nat) (fun q => [(0, .slice ao b.length c), (3, .slice (some ⟨g, 0, none⟩) b.length (b.length + 80)), (4, .string ⟨(sumB b).toArray⟩), (5, .slice a2 q.1.length c2), (6, .slice a3 (openR b).1.length c3), (8, vi q.2)])
      (fun q w' => q.2 ≤ q.1.length ∧ q.1.length ≤ 4000 ∧ RSl (· < w.heap.size) w' eb ao c b ∧ RSl (· = g) w' eb (some ⟨g, 0, none⟩) (b.length + 80) (b ++ List.replicate 80 0) ∧ RSl (· = g) w' eb (some ⟨g, 0, none⟩) (b.length + 80) b ∧
        Row (fun x => g < x ∧ x < n4) w' 5 eb a2 c2 q.1 ∧ Row (fun x => n4 ≤ x) w' 5 eb a3 c3 (openR b).1 ∧ Chg Nob w w') (fun q => q.1.length - q.2) (b ++ sumB b, 0) ⟨rfl, rfl, rfl, rfl, rfl, rfl, trivial⟩
      ⟨Nat.zero_le _, by dsimp only; rw [List.length_append, sumB_len]; omega, hr, hI, hin, hs, ho, hw⟩ ?_
    clear hr hI hin hs ho hw hi2 hB
    rintro ⟨L, i⟩ w8 ⟨hi, hL, hr, hI, hin, hs, ho, hw⟩
    dsimp only at hi hL hr hI hin hs ho hw ⊢
    refine WC.seq (WC.seq (WC.region (WL.move rfl rfl (WL.move rfl rfl (WL.len Try.underlying24 rfl rfl (?_))))))
    refine WL.lss? rfl rfl rfl (fun h38 => ?_) (fun h38 => ?_)
    ·
      refine WL.nil (WX.then_normal (WC.cond_true rfl (WC.skip (WX.then_normal (WC.seq (WC.block (WC.region (?_))))))))
      refine WL.move rfl rfl (WL.move rfl rfl (WL.move rfl rfl (WL.move rfl rfl (?_))))
      obtain ⟨z, hz⟩ : ∃ z, L[i]? = some z := ⟨_, List.getElem?_eq_getElem (by omega)⟩
      obtain ⟨g2, rfl⟩ := hs.place0 (j := i) (by omega)
      have hg2 := hs.at_ _ rfl
      dsimp only at hg2
      refine WL.indexT Try.underlying24 Try.sizeOf5 hs.rsl rfl rfl ⟨hz, rfl⟩ rfl ?_
      intro b_1 o_1 hc_1
      refine WL.load Try.isAgg5 rfl (hc_1 0 _ rfl) rfl (WL.num rfl rfl (n_xor8 _ _ _ 255) rfl (?_))
      refine WL.indexC hs.rsl Try.underlying24 Try.sizeOf5 rfl rfl ⟨hz, rfl⟩ rfl ?_
      refine WL.storeRow (z := z ^^^ 255) (i) Try.sizeOf5 hs rfl rfl rfl (by first | (simp; done) | (show 0 + _ * 1 = _; omega)) (by omega) rfl ?_
      intro w_2 zs_2 nr_2 k_2
      have zs_k_2 := k_2.size
      replace hr := hr.chg k_2 (by first | (intro x h1 h2; exact h2) | (intro x h1 h2; have h3 : _ = _ := h2; exfalso; omega) | (intro b h1 h2 h3; have h4 : _ = _ := h3; (try dsimp only at h2); exfalso; omega) | (intro h1; have h2 : _ = _ := h1; exfalso; omega) | (intros; exfalso; (try dsimp only at *); omega) | (intro b h1 h2 h3; exfalso; have h4 := h3.2; (try dsimp only at *); omega) | (intro h1; exfalso; have h4 := h1.2; (try dsimp only at *); omega) | (intro x h1 h2; exfalso; have h4 := h2.2; (try dsimp only at *); omega))
      replace hI := hI.chg k_2 (by first | (intro x h1 h2; exact h2) | (intro x h1 h2; have h3 : _ = _ := h2; exfalso; omega) | (intro b h1 h2 h3; have h4 : _ = _ := h3; (try dsimp only at h2); exfalso; omega) | (intro h1; have h2 : _ = _ := h1; exfalso; omega) | (intros; exfalso; (try dsimp only at *); omega) | (intro b h1 h2 h3; exfalso; have h4 := h3.2; (try dsimp only at *); omega) | (intro h1; exfalso; have h4 := h1.2; (try dsimp only at *); omega) | (intro x h1 h2; exfalso; have h4 := h2.2; (try dsimp only at *); omega))
      replace hin := hin.chg k_2 (by first | (intro x h1 h2; exact h2) | (intro x h1 h2; have h3 : _ = _ := h2; exfalso; omega) | (intro b h1 h2 h3; have h4 : _ = _ := h3; (try dsimp only at h2); exfalso; omega) | (intro h1; have h2 : _ = _ := h1; exfalso; omega) | (intros; exfalso; (try dsimp only at *); omega) | (intro b h1 h2 h3; exfalso; have h4 := h3.2; (try dsimp only at *); omega) | (intro h1; exfalso; have h4 := h1.2; (try dsimp only at *); omega) | (intro x h1 h2; exfalso; have h4 := h2.2; (try dsimp only at *); omega))
      replace ho := ho.chg k_2 (by first | (intro x h1 h2; exact h2) | (intro x h1 h2; have h3 : _ = _ := h2; exfalso; omega) | (intro b h1 h2 h3; have h4 : _ = _ := h3; (try dsimp only at h2); exfalso; omega) | (intro h1; have h2 : _ = _ := h1; exfalso; omega) | (intros; exfalso; (try dsimp only at *); omega) | (intro b h1 h2 h3; exfalso; have h4 := h3.2; (try dsimp only at *); omega) | (intro h1; exfalso; have h4 := h1.2; (try dsimp only at *); omega) | (intro x h1 h2; exfalso; have h4 := h2.2; (try dsimp only at *); omega))
      replace hw := hw.chg k_2 (by first | (intro x h1 h2; exact h2) | (intro x h1 h2; have h3 : _ = _ := h2; exfalso; omega) | (intro b h1 h2 h3; have h4 : _ = _ := h3; (try dsimp only at h2); exfalso; omega) | (intro h1; have h2 : _ = _ := h1; exfalso; omega) | (intros; exfalso; (try dsimp only at *); omega) | (intro b h1 h2 h3; exfalso; have h4 := h3.2; (try dsimp only at *); omega) | (intro h1; exfalso; have h4 := h1.2; (try dsimp only at *); omega) | (intro x h1 h2; exfalso; have h4 := h2.2; (try dsimp only at *); omega))
      replace hs := nr_2
      refine WL.nil (WX.block_normal (WX.then_normal (WC.region (WL.move rfl rfl (WL.add64 rfl rfl (by first | omega | (constructor <;> omega)) rfl (WL.assign rfl rfl (WL.nil (?_))))))))
      first
        | (refine WX.loop_next (L.set i (z ^^^ 255), i + 1) ⟨rfl, rfl, rfl, ?_, rfl, rfl, trivial⟩ ⟨by dsimp only; rw [List.length_set]; omega, by dsimp only; rw [List.length_set]; omega, hr, hI, hin, hs, ho, hw⟩ (by show (L.set i (z ^^^ 255)).length - (i + 1) < L.length - i; rw [List.length_set]; omega)
           dsimp only
           rw [List.length_set]
           try rfl)
        | (refine WX.loop_next (L2.set i2 0, i2 + 1) ⟨rfl, rfl, rfl, ?_, rfl, trivial⟩ ⟨by dsimp only; rw [List.length_set]; omega, by dsimp only; rw [List.length_set]; omega, hr, hI, hin, ho, hw⟩ (by show (L2.set i2 0).length - (i2 + 1) < L2.length - i2; rw [List.length_set]; omega)
           dsimp only
           rw [List.length_set]
           try rfl)
        | exact WX.loop_next (j + 1) ⟨rfl, rfl, rfl, rfl, rfl, trivial⟩ ⟨by omega, by omega, hr, hf, hin, hw⟩ (by show _ - _ < _ - _; omega)
    ·
      refine WL.nil (WX.then_normal (WC.cond_false rfl (WC.exit (WX.then_exit (WX.then_exit (WX.block_here (WX.then_normal (?_))))))))
      refine WC.seq (WC.seq (WC.region (WL.assign rfl rfl (WL.nil (WX.then_normal (WC.block (?_)))))))
      obtain ⟨R, eR⟩ : ∃ R, R = (openR b).1 := ⟨_, rfl⟩
      have hR : R.length ≤ 4000 := by rw [eR, openR]; split <;> simp <;> omega
      rw [← eR] at ho ⊢
      refine WC.loop (σ := List UInt8 × Nat) (fun q => [(0, .slice ao b.length c), (3, .slice (some ⟨g, 0, none⟩) b.length (b.length + 80)), (4, .string ⟨(sumB b).toArray⟩), (6, .slice a3 q.1.length c3), (9, vi q.2)])
        (fun q w' => q.2 ≤ q.1.length ∧ q.1.length ≤ 4000 ∧ RSl (· < w.heap.size) w' eb ao c b ∧ RSl (· = g) w' eb (some ⟨g, 0, none⟩) (b.length + 80) (b ++ List.replicate 80 0) ∧ RSl (· = g) w' eb (some ⟨g, 0, none⟩) (b.length + 80) b ∧
          Row (fun x => n4 ≤ x) w' 5 eb a3 c3 q.1 ∧ Chg Nob w w') (fun q => q.1.length - q.2) (R, 0) ⟨rfl, rfl, rfl, rfl, rfl, trivial⟩
        ⟨Nat.zero_le _, hR, hr, hI, hin, ho, hw⟩ ?_
      clear hr hI hin hs ho hw
      rintro ⟨L2, i2⟩ w9 ⟨hi2', hL2, hr, hI, hin, ho, hw⟩
      dsimp only at hi2' hL2 hr hI hin ho hw ⊢
      refine WC.seq (WC.seq (WC.region (WL.move rfl rfl (WL.move rfl rfl (WL.len Try.underlying24 rfl rfl (?_))))))
      refine WL.lss? rfl rfl rfl (fun h52 => ?_) (fun h52 => ?_)
      ·
        refine WL.nil (WX.then_normal (WC.cond_true rfl (WC.skip (WX.then_normal (WC.seq (WC.block (WC.region (?_))))))))
        refine WL.move rfl rfl (WL.move rfl rfl (?_))
        obtain ⟨z2, hz2⟩ : ∃ z, L2[i2]? = some z := ⟨_, List.getElem?_eq_getElem (by omega)⟩
        obtain ⟨g3, rfl⟩ := ho.place0 (j := i2) (by omega)
        have hg3 := ho.at_ _ rfl
        dsimp only at hg3
        refine WL.indexC ho.rsl Try.underlying24 Try.sizeOf5 rfl rfl ⟨hz2, rfl⟩ rfl ?_
        refine WL.storeRow (z := 0) (i2) Try.sizeOf5 ho rfl rfl rfl (by first | (simp; done) | (show 0 + _ * 1 = _; omega)) (by omega) rfl ?_
        intro w_1 zs_1 nr_1 k_1
        have zs_k_1 := k_1.size
        replace hr := hr.chg k_1 (by first | (intro x h1 h2; exact h2) | (intro x h1 h2; have h3 : _ = _ := h2; exfalso; omega) | (intro b h1 h2 h3; have h4 : _ = _ := h3; (try dsimp only at h2); exfalso; omega) | (intro h1; have h2 : _ = _ := h1; exfalso; omega) | (intros; exfalso; (try dsimp only at *); omega) | (intro b h1 h2 h3; exfalso; have h4 := h3.2; (try dsimp only at *); omega) | (intro h1; exfalso; have h4 := h1.2; (try dsimp only at *); omega) | (intro x h1 h2; exfalso; have h4 := h2.2; (try dsimp only at *); omega))
        replace hI := hI.chg k_1 (by first | (intro x h1 h2; exact h2) | (intro x h1 h2; have h3 : _ = _ := h2; exfalso; omega) | (intro b h1 h2 h3; have h4 : _ = _ := h3; (try dsimp only at h2); exfalso; omega) | (intro h1; have h2 : _ = _ := h1; exfalso; omega) | (intros; exfalso; (try dsimp only at *); omega) | (intro b h1 h2 h3; exfalso; have h4 := h3.2; (try dsimp only at *); omega) | (intro h1; exfalso; have h4 := h1.2; (try dsimp only at *); omega) | (intro x h1 h2; exfalso; have h4 := h2.2; (try dsimp only at *); omega))
        replace hin := hin.chg k_1 (by first | (intro x h1 h2; exact h2) | (intro x h1 h2; have h3 : _ = _ := h2; exfalso; omega) | (intro b h1 h2 h3; have h4 : _ = _ := h3; (try dsimp only at h2); exfalso; omega) | (intro h1; have h2 : _ = _ := h1; exfalso; omega) | (intros; exfalso; (try dsimp only at *); omega) | (intro b h1 h2 h3; exfalso; have h4 := h3.2; (try dsimp only at *); omega) | (intro h1; exfalso; have h4 := h1.2; (try dsimp only at *); omega) | (intro x h1 h2; exfalso; have h4 := h2.2; (try dsimp only at *); omega))
        replace hw := hw.chg k_1 (by first | (intro x h1 h2; exact h2) | (intro x h1 h2; have h3 : _ = _ := h2; exfalso; omega) | (intro b h1 h2 h3; have h4 : _ = _ := h3; (try dsimp only at h2); exfalso; omega) | (intro h1; have h2 : _ = _ := h1; exfalso; omega) | (intros; exfalso; (try dsimp only at *); omega) | (intro b h1 h2 h3; exfalso; have h4 := h3.2; (try dsimp only at *); omega) | (intro h1; exfalso; have h4 := h1.2; (try dsimp only at *); omega) | (intro x h1 h2; exfalso; have h4 := h2.2; (try dsimp only at *); omega))
        replace ho := nr_1
        refine WL.nil (WX.block_normal (WX.then_normal (WC.region (WL.move rfl rfl (WL.add64 rfl rfl (by first | omega | (constructor <;> omega)) rfl (WL.assign rfl rfl (WL.nil (?_))))))))
        first
          | (refine WX.loop_next (L.set i (z ^^^ 255), i + 1) ⟨rfl, rfl, rfl, ?_, rfl, rfl, trivial⟩ ⟨by dsimp only; rw [List.length_set]; omega, by dsimp only; rw [List.length_set]; omega, hr, hI, hin, hs, ho, hw⟩ (by show (L.set i (z ^^^ 255)).length - (i + 1) < L.length - i; rw [List.length_set]; omega)
             dsimp only
             rw [List.length_set]
             try rfl)
          | (refine WX.loop_next (L2.set i2 0, i2 + 1) ⟨rfl, rfl, rfl, ?_, rfl, trivial⟩ ⟨by dsimp only; rw [List.length_set]; omega, by dsimp only; rw [List.length_set]; omega, hr, hI, hin, ho, hw⟩ (by show (L2.set i2 0).length - (i2 + 1) < L2.length - i2; rw [List.length_set]; omega)
             dsimp only
             rw [List.length_set]
             try rfl)
          | exact WX.loop_next (j + 1) ⟨rfl, rfl, rfl, rfl, rfl, trivial⟩ ⟨by omega, by omega, hr, hf, hin, hw⟩ (by show _ - _ < _ - _; omega)
      ·
        refine WL.nil (WX.then_normal (WC.cond_false rfl (WC.exit (WX.then_exit (WX.then_exit (WX.block_here (WX.then_normal (?_))))))))
        refine WC.seq (WC.region (WL.move rfl rfl (WL.move rfl rfl (?_))))
        refine WL.cap Try.underlying24 rfl rfl ?_
        refine WL.sliceTop (h := b.length + 80) Try.underlying24 Try.sizeOf5 hI rfl rfl (by simp) rfl ?_
        intro af hf
        rw [List.take_of_length_le (by simp)] at hf ⊢
        refine WL.assign rfl rfl (WL.nil (WX.then_normal (WC.seq (WC.seq (WC.region (WL.move rfl rfl (WL.len Try.underlying24 rfl rfl (?_))))))))
        refine WL.assign rfl rfl (WL.nil (WX.then_normal (WC.block (?_))))
        refine WC.loop (σ := Nat) (fun q => [(0, .slice ao b.length c), (3, .slice (some ⟨g, 0, none⟩) b.length (b.length + 80)), (4, .string ⟨(sumB b).toArray⟩), (10, .slice af (b ++ List.replicate 80 (0 : UInt8)).length (b.length + 80)), (11, vi q)])
          (fun q w' => b.length ≤ q ∧ q ≤ b.length + 80 ∧ RSl (· < w.heap.size) w' eb ao c b ∧ RSl (· = g) w' eb af (b.length + 80) (b ++ List.replicate 80 0) ∧ RSl (· = g) w' eb (some ⟨g, 0, none⟩) (b.length + 80) b ∧ Chg Nob w w') (fun q => b.length + 80 - q) b.length ⟨rfl, rfl, rfl, rfl, rfl, trivial⟩
          ⟨Nat.le_refl _, by omega, hr, hf, hin, hw⟩ ?_
        clear hr hI hin ho hw hf
        rintro j w7 ⟨hj1, hj2, hr, hf, hin, hw⟩
        have hfl : (b ++ List.replicate 80 (0 : UInt8)).length = b.length + 80 := by simp
        refine WC.seq (WC.seq (WC.region (WL.move rfl rfl (WL.move rfl rfl (WL.len Try.underlying24 rfl rfl (?_))))))
        refine WL.lss? rfl rfl rfl (fun h67 => ?_) (fun h67 => ?_)
        ·
          refine WL.nil (WX.then_normal (WC.cond_true rfl (WC.skip (WX.then_normal (WC.seq (WC.block (WC.seq (?_))))))))
          refine WC.region (WL.move rfl rfl (WL.move rfl rfl (?_)))
          have hz3 : (b ++ List.replicate 80 (0 : UInt8))[j]? = some 0 := by
            rw [List.getElem?_append_right hj1, List.getElem?_replicate]
            rw [if_pos (by omega)]
          refine WL.indexT Try.underlying24 Try.sizeOf5 hf rfl rfl ⟨hz3, rfl⟩ rfl ?_
          intro b_1 o_1 hc_1
          refine WL.load Try.isAgg5 rfl (hc_1 0 _ rfl) rfl (?_)
          refine WL.neq rfl rfl rfl ?_
          rw [show decide (((0 : UInt8).toNat : Int) ≠ 0) = false from rfl]
          refine WL.nil (WX.then_normal (WC.cond_false rfl (WC.skip (WX.block_normal (WX.then_normal (WC.region (WL.move rfl rfl (?_))))))))
          refine WL.add64 rfl rfl (by first | omega | (constructor <;> omega)) rfl (WL.assign rfl rfl (WL.nil (?_)))
          first
            | (refine WX.loop_next (L.set i (z ^^^ 255), i + 1) ⟨rfl, rfl, rfl, ?_, rfl, rfl, trivial⟩ ⟨by dsimp only; rw [List.length_set]; omega, by dsimp only; rw [List.length_set]; omega, hr, hI, hin, hs, ho, hw⟩ (by show (L.set i (z ^^^ 255)).length - (i + 1) < L.length - i; rw [List.length_set]; omega)
               dsimp only
               rw [List.length_set]
               try rfl)
            | (refine WX.loop_next (L2.set i2 0, i2 + 1) ⟨rfl, rfl, rfl, ?_, rfl, trivial⟩ ⟨by dsimp only; rw [List.length_set]; omega, by dsimp only; rw [List.length_set]; omega, hr, hI, hin, ho, hw⟩ (by show (L2.set i2 0).length - (i2 + 1) < L2.length - i2; rw [List.length_set]; omega)
               dsimp only
               rw [List.length_set]
               try rfl)
            | exact WX.loop_next (j + 1) ⟨rfl, rfl, rfl, rfl, rfl, trivial⟩ ⟨by omega, by omega, hr, hf, hin, hw⟩ (by show _ - _ < _ - _; omega)
        ·
          refine WL.nil (WX.then_normal (WC.cond_false rfl (WC.exit (WX.then_exit (WX.then_exit (WX.block_here (WX.then_normal (?_))))))))
          refine WC.seq (WC.region (WL.move rfl rfl (WL.toStr Try.underlying24 Try.underlying5 Try.underlying9 hin rfl rfl (WL.move rfl rfl (WL.toStr Try.underlying24 Try.underlying5 Try.underlying9 hr rfl rfl (?_))))))
          refine WL.seql rfl rfl rfl ?_
          rw [show ∀ s : ByteArray, decide (s = s) = true from fun s => decide_eq_true rfl]
          refine WL.move rfl rfl (WL.want rfl rfl rfl (WL.move rfl rfl (WL.want rfl rfl rfl (?_))))
          have hi3 := hin.old
          refine WL.call eg_20 rfl rfl (sum_calls' hi3 (by omega)) ?_
          rintro v w3 ⟨rfl, k3⟩
          have zs_k3 := k3.size
          replace hr := hr.pure k3
          replace hf := hf.pure k3
          replace hin := hin.pure k3
          replace hw := hw.pure k3
          refine WL.want rfl rfl rfl (WL.move rfl rfl (WL.want rfl rfl rfl (?_)))
          refine WL.seql rfl rfl rfl ?_
          rw [show ∀ s : ByteArray, decide (s = s) = true from fun s => decide_eq_true rfl]
          refine WL.pickT rfl rfl rfl (WL.move rfl rfl (WL.want rfl rfl rfl (WL.move rfl rfl (WL.want rfl rfl rfl (WL.lens Try.underlying9 rfl rfl (WL.want rfl rfl rfl (?_)))))))
          refine WL.eql rfl rfl rfl ?_
          rw [show decide (((⟨(sumB b).toArray⟩ : ByteArray).size : Int) = 32) = true from decide_eq_true (by show ((sumB b).toArray.size : Int) = 32; rw [List.size_toArray, sumB_len]; rfl)]
          refine WL.pickT rfl rfl rfl (WL.assign rfl rfl (WL.nil (WX.then_normal (WC.ret (?_)))))
          refine WX.ret1 (.inl rfl) Try.results9 rfl ?_
          exact ⟨_, rfl, rfl, hw⟩
end Go.Proofs.Ytfkaioldfmapjaa
