import Derived.Test.YtjdbjdgobhjbkaaQParityRebuilds9
namespace Go.Proofs.Ytjdbjdgobhjbkaa
open Go.RowKit Go.HL

theorem parityRebuilds_bad {w : World} {aa ab : Option Addr} {ca cb : Nat} {ra : List Rw} {bad : List Int} (ha : RS (· < w.heap.size) w aa ca ra) (hb : RSl (· < w.heap.size) w ei ab cb bad) (la : bounded ra) (lb : bad.length ≤ 140737488351232) (he : errB (xss ra) bad ≠ 0) :
    Calls Try.prog 7 [.slice aa ra.length ca, .slice ab bad.length cb].toArray w (Ret fun v w' => v = .bool true ∧ Chg Nob w w') := by
  have hw := Chg.refl Nob w
  refine Calls.of_WC Try.func7 rfl Try.ntmps7 (by simp) ?_
  refine WC.seq (WC.region (WL.assign rfl rfl (WL.nil (WX.then_normal (WC.seq (WC.seq (WC.region (?_))))))))
  refine WL.call eg_16 rfl rfl (known3_calls _) ?_
  rintro v w0 ⟨rfl, k0⟩
  have zs_k0 := k0.size
  replace ha := ha.pure k0
  replace hb := hb.pure k0
  replace hw := hw.pure k0
  refine WL.not rfl rfl (WL.move rfl rfl (WL.want rfl rfl rfl (WL.move rfl rfl (WL.want rfl rfl rfl (?_)))))
  refine WL.call eg_17 rfl rfl (small_calls ha la) ?_
  rintro v w0 ⟨⟨s1, rfl⟩, k0⟩
  have zs_k0 := k0.size
  replace ha := ha.pure k0
  replace hb := hb.pure k0
  replace hw := hw.pure k0
  rcases s1 with _ | _
  ·
    refine WL.want rfl rfl rfl (WL.not rfl rfl (WL.pickF rfl rfl rfl (WL.nil (WX.then_normal (WC.cond_true rfl (WC.seq (WC.region (?_))))))))
    refine WL.call eg_16 rfl rfl (known3_calls _) ?_
    rintro v w0 ⟨rfl, k0⟩
    have zs_k0 := k0.size
    replace ha := ha.pure k0
    replace hb := hb.pure k0
    replace hw := hw.pure k0
    refine WL.assign rfl rfl (WL.nil (WX.then_normal (WC.ret (WX.then_ret (?_)))))
    refine WX.ret1 (.inl rfl) Try.results7 rfl ?_
    exact ⟨_, rfl, rfl, hw⟩
  ·
    refine WL.want rfl rfl rfl (WL.not rfl rfl (WL.pickF rfl rfl rfl (WL.nil (WX.then_normal (WC.cond_false rfl (WC.skip (WX.then_normal (?_))))))))
    refine WC.seq (WC.region (WL.move rfl rfl (WL.move rfl rfl (?_))))
    refine WL.call eg_18 rfl rfl (docRebuild_bad ha hb la.1 lb he) ?_
    rintro v w1 ⟨rfl, k1⟩
    have zs_k1 := k1.size
    replace ha := ha.pure k1
    replace hb := hb.pure k1
    replace hw := hw.pure k1
    refine WL.move rfl rfl (WL.extract rfl rfl rfl (WL.extract rfl rfl rfl (WL.assign rfl rfl (WL.assign rfl rfl (WL.nil (WX.then_normal (WC.seq (?_))))))))
    refine WC.region (WL.move rfl rfl (WL.move rfl rfl (?_)))
    refine WL.call eg_19 rfl rfl (rebuild_bad ha hb la.1 lb he) ?_
    rintro v w1 ⟨rfl, k1⟩
    have zs_k1 := k1.size
    replace ha := ha.pure k1
    replace hb := hb.pure k1
    replace hw := hw.pure k1
    refine WL.move rfl rfl (WL.extract rfl rfl rfl (WL.extract rfl rfl rfl (WL.assign rfl rfl (WL.assign rfl rfl (WL.nil (WX.then_normal (WC.seq (?_))))))))
    refine WC.region (WL.move rfl rfl (WL.move rfl rfl (?_)))
    have hN : ∀ w0 : World, RS (fun _ => True) w0 none 0 [] := fun w0 => ⟨RSl.nil _ _ _ _ _, fun r hr => by cases hr⟩
    refine WL.call eg_20 rfl rfl (same_calls (us := ([] : List Rw)) (vs := ([] : List Rw)) (aa := none) (ab := none) (ca := 0) (cb := 0) (hN _) (hN _) (Nat.zero_le _)) ?_
    rintro v w1 ⟨rfl, k1⟩
    rw [show decide (xss [] = xss []) = true from decide_eq_true rfl]
    have zs_k1 := k1.size
    replace ha := ha.pure k1
    replace hb := hb.pure k1
    replace hw := hw.pure k1
    refine WL.move rfl rfl (WL.want rfl rfl rfl (WL.move rfl rfl (WL.want rfl rfl rfl (WL.move rfl rfl (WL.want rfl rfl rfl (?_))))))
    refine WL.eqlT rfl rfl rfl (by first | rfl | omega | decide) ?_
    refine WL.pickT rfl rfl rfl (WL.assign rfl rfl (WL.nil (WX.then_normal (WC.ret (?_)))))
    refine WX.ret1 (.inl rfl) Try.results7 rfl ?_
    exact ⟨_, rfl, rfl, hw⟩
theorem parityRebuilds_good {w : World} {aa ab : Option Addr} {ca cb : Nat} {ra : List Rw} {bad : List Int} (ha : RS (· < w.heap.size) w aa ca ra) (hb : RSl (· < w.heap.size) w ei ab cb bad) (la : bounded ra) (he : errB (xss ra) bad = 0) :
    Calls Try.prog 7 [.slice aa ra.length ca, .slice ab bad.length cb].toArray w (Ret fun v w' => v = .bool true ∧ Chg Nob w w') := by
  obtain ⟨hl416, hok, hb3, n, hn, hev⟩ := errB_zero he
  rw [xss_len] at hl416
  obtain ⟨k, hk⟩ : ∃ k, ra.length = k + 3 := ⟨ra.length - 3, by omega⟩
  have hw := Chg.refl Nob w
  refine Calls.of_WC Try.func7 rfl Try.ntmps7 (by simp) ?_
  refine WC.seq (WC.region (WL.assign rfl rfl (WL.nil (WX.then_normal (WC.seq (WC.seq (WC.region (?_))))))))
  refine WL.call eg_16 rfl rfl (known3_calls _) ?_
  rintro v w0 ⟨rfl, k0⟩
  have zs_k0 := k0.size
  replace ha := ha.pure k0
  replace hb := hb.pure k0
  replace hw := hw.pure k0
  refine WL.not rfl rfl (WL.move rfl rfl (WL.want rfl rfl rfl (WL.move rfl rfl (WL.want rfl rfl rfl (?_)))))
  refine WL.call eg_17 rfl rfl (small_calls ha la) ?_
  rintro v w0 ⟨⟨s1, rfl⟩, k0⟩
  have zs_k0 := k0.size
  replace ha := ha.pure k0
  replace hb := hb.pure k0
  replace hw := hw.pure k0
  rcases s1 with _ | _
  ·
    refine WL.want rfl rfl rfl (WL.not rfl rfl (WL.pickF rfl rfl rfl (WL.nil (WX.then_normal (WC.cond_true rfl (WC.seq (WC.region (?_))))))))
    refine WL.call eg_16 rfl rfl (known3_calls _) ?_
    rintro v w0 ⟨rfl, k0⟩
    have zs_k0 := k0.size
    replace ha := ha.pure k0
    replace hb := hb.pure k0
    replace hw := hw.pure k0
    refine WL.assign rfl rfl (WL.nil (WX.then_normal (WC.ret (WX.then_ret (?_)))))
    refine WX.ret1 (.inl rfl) Try.results7 rfl ?_
    exact ⟨_, rfl, rfl, hw⟩
  ·
    refine WL.want rfl rfl rfl (WL.not rfl rfl (WL.pickF rfl rfl rfl (WL.nil (WX.then_normal (WC.cond_false rfl (WC.skip (WX.then_normal (?_))))))))
    refine WC.seq (WC.region (WL.move rfl rfl (WL.move rfl rfl (?_))))
    refine WL.call eg_18 rfl rfl (docRebuild_good ha hb hk (by omega) he hb3 hn hev) ?_
    rintro v w1 ⟨⟨oo, co, ps, rfl, hp, hRB⟩, k1⟩
    have hpl : ps.length = k + 3 := by rw [← xss_len]; exact hRB.len
    replace hp := hp.old
    have zs_k1 := k1.size
    replace ha := ha.pure k1
    replace hb := hb.pure k1
    replace hw := hw.pure k1
    refine WL.move rfl rfl (WL.extract rfl rfl rfl (WL.extract rfl rfl rfl (WL.assign rfl rfl (WL.assign rfl rfl (WL.nil (WX.then_normal (WC.seq (?_))))))))
    refine WC.region (WL.move rfl rfl (WL.move rfl rfl (?_)))
    refine WL.call eg_19 rfl rfl (rebuild_good ha hb hk (by omega) he hb3 hn hev) ?_
    rintro v w2 ⟨⟨go, N, p2, rfl, hO, hgo, hRB2⟩, k2⟩
    have hx2 : xss p2 = xss ps := RB.uniq (by omega) hb3 hRB2 hRB
    have hl2 : p2.length = k + 3 := by rw [← xss_len]; exact hRB2.len
    have hp2 := (hO.toRS (S := fun _ => True) (fun _ _ _ => trivial)).old
    rw [show Value.slice (some ⟨go, 0, none⟩) (k + 3) (k + 3) = Value.slice (some ⟨go, 0, none⟩) p2.length p2.length from by rw [hl2]]
    have zs_k2 := k2.size
    replace ha := ha.pure k2
    replace hb := hb.pure k2
    replace hw := hw.pure k2
    replace hp := hp.pure k2
    refine WL.move rfl rfl (WL.extract rfl rfl rfl (WL.extract rfl rfl rfl (WL.assign rfl rfl (WL.assign rfl rfl (WL.nil (WX.then_normal (WC.seq (?_))))))))
    refine WC.region (WL.move rfl rfl (WL.move rfl rfl (?_)))
    refine WL.call eg_20 rfl rfl (same_calls hp hp2 (by omega)) ?_
    rintro v w1 ⟨rfl, k1⟩
    rw [hx2, show decide (xss ps = xss ps) = true from decide_eq_true rfl]
    have zs_k1 := k1.size
    replace ha := ha.pure k1
    replace hb := hb.pure k1
    replace hw := hw.pure k1
    replace hp := hp.pure k1
    replace hp2 := hp2.pure k1
    refine WL.move rfl rfl (WL.want rfl rfl rfl (WL.move rfl rfl (WL.want rfl rfl rfl (WL.move rfl rfl (WL.want rfl rfl rfl (?_))))))
    refine WL.eqlT rfl rfl rfl (by first | rfl | omega | decide) ?_
    refine WL.pickT rfl rfl rfl (WL.assign rfl rfl (WL.nil (WX.then_normal (WC.ret (?_)))))
    refine WX.ret1 (.inl rfl) Try.results7 rfl ?_
    exact ⟨_, rfl, rfl, hw⟩
theorem parityRebuilds_calls {w : World} {aa ab : Option Addr} {ca cb : Nat} {ra : List Rw} {bad : List Int} (ha : RS (· < w.heap.size) w aa ca ra) (hb : RSl (· < w.heap.size) w ei ab cb bad) (la : bounded ra) (lb : bad.length ≤ 140737488351232) :
    Calls Try.prog 7 [.slice aa ra.length ca, .slice ab bad.length cb].toArray w (Ret fun v w' => v = .bool true ∧ Chg Nob w w') := by
  by_cases h : errB (xss ra) bad = 0
  · exact parityRebuilds_good ha hb la h
  · exact parityRebuilds_bad ha hb la lb h
end Go.Proofs.Ytjdbjdgobhjbkaa
