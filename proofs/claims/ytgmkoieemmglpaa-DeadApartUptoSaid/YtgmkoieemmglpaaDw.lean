import Derived.Test.YtgmkoieemmglpaaDv
namespace Go.Proofs.Ytgmkoieemmglpaa
open Go.RowKit Go.HL

set_option maxHeartbeats 8000000 in
theorem DeadApart_calls {S : Nat → Prop} {w : World} {l : LnV} (h : LS S w l) (hs : Sm 0 l) (p : PtV) (k : Int) (hk : -9223372036854775808 ≤ k ∧ k ≤ 9223372036854775807) (hz : l.dead.length ≤ 1700000000000 ∧ ∀ x ∈ l.snaps, x.dead.length ≤ 1700000000000) :
    Calls Try.prog 6 [lval l, .agg (ept.f p).toArray, vi k].toArray w (Ret fun v w' => v = .bool true ∧ Chg Nob w w') := by
  have hw := Chg.refl Nob w
  have hsn := hs.snaps
  have hsd := hs.dead
  have hsa := hs.sma
  have hs2 : Sm 20 l := hs.up (by decide)
  have hs6 : Sm 60 l := hs.up (by decide)
  replace h := h.old
  refine Calls.of_WC Try.func6 rfl Try.ntmps6 (by simp) ?_
  refine WC.seq (WC.region (?_))
  refine WL.box rfl rfl ?_
  intro g_1 w_1 hge_1 hlt_1 hb_1 k_1
  have zs_k_1 := k_1.size
  replace h := h.pure k_1
  replace hw := hw.pure k_1
  refine WL.box rfl rfl ?_
  intro g_2 w_2 hge_2 hlt_2 hb_2 k_2
  have zs_k_2 := k_2.size
  replace h := h.pure k_2
  replace hw := hw.pure k_2
  replace hb_1 := hb_1.pure k_2
  refine WL.assign rfl rfl (WL.nil (WX.then_normal (WC.seq (WC.seq (WC.region (?_))))))
  refine WL.call eg_8 rfl rfl (known_calls _) ?_
  rintro v w1 ⟨rfl, k1⟩
  have zs_k1 := k1.size
  replace h := h.pure k1
  replace hw := hw.pure k1
  replace hb_1 := hb_1.pure k1
  replace hb_2 := hb_2.pure k1
  refine WL.not rfl rfl (WL.nil (WX.then_normal (WC.cond_false rfl (WC.skip (WX.then_normal (WC.seq (WC.region (?_))))))))
  refine WL.loadsB Try.isAgg25 Try.sizeOf25 hb_1 rfl (by first | (simp; done) | (simp; omega) | rfl) rfl (?_)
  have hb1 : Blk _ g_1 25 (lcells l) := hb_1
  have hb2 : Blk _ g_2 27 (ept.f p) := hb_2
  refine WL.call eg_10 rfl rfl (ofF_calls h hs2) ?_
  rintro v w1 ⟨⟨lf, rfl, hF, ha⟩, k1⟩
  have hsf : Sm 50 lf := ((ha ▸ hs2.sma : SmA 20 lf.abs).up (by decide)).sm
  have hzf := abs_zs ha hz
  have hsfs := hsf.snaps
  replace hF := hF.lt
  have zs_k1 := k1.size
  replace h := h.pure k1
  replace hw := hw.pure k1
  replace hb1 := hb1.pure k1
  replace hb2 := hb2.pure k1
  refine WL.alloc Try.zeroValue33 rfl ?_
  intro g7 w7 hge7 hlt7 hb7 k7
  have zs_k7 := k7.size
  replace h := h.pure k7
  replace hw := hw.pure k7
  replace hb1 := hb1.pure k7
  replace hb2 := hb2.pure k7
  replace hF := hF.pure k7
  refine WL.stores Try.sizeOf33 hb7 rfl rfl (by first | (simp; done) | (simp; omega) | rfl) (by first | exact Enc.one _ _ | (intro u hu; obtain ⟨x, _, rfl⟩ := List.mem_map.1 hu; rfl) | (simp [Value.oneCell']; done) | (simp [Value.oneCell', Value.cells]; done)) (by first | (simp; done) | (simp; omega) | (simp [Value.cells]; done) | (simp [Value.cells]; omega) | exact Nat.le_of_ble_eq_true rfl) rfl ?_
  intro w_3 hs_3 hn_3 k_3
  have zs_k_3 := k_3.size
  replace h := h.chg k_3 (by first | (intro x h1 h2; exact h2) | (intro x h1 h2; have h3 : _ = _ := h2; subst h3; assumption) | (intro x h1 h2; have h3 : _ = _ := h2; exfalso; omega) | (intro b h1 h2 h3; have h4 : _ = _ := h3; (try dsimp only at h2); exfalso; omega) | (intro h1; have h2 : _ = _ := h1; exfalso; omega) | (intros; exfalso; (try dsimp only at *); omega) | (intro h1; exfalso; have h4 := h1.2; (try dsimp only at *); omega) | (intro x h1 h2; exact h2.1))
  replace hw := hw.chg k_3 (by first | (intro x h1 h2; exact h2) | (intro x h1 h2; have h3 : _ = _ := h2; subst h3; assumption) | (intro x h1 h2; have h3 : _ = _ := h2; exfalso; omega) | (intro b h1 h2 h3; have h4 : _ = _ := h3; (try dsimp only at h2); exfalso; omega) | (intro h1; have h2 : _ = _ := h1; exfalso; omega) | (intros; exfalso; (try dsimp only at *); omega) | (intro h1; exfalso; have h4 := h1.2; (try dsimp only at *); omega) | (intro x h1 h2; exact h2.1))
  replace hb1 := hb1.chg k_3 (by first | (intro x h1 h2; exact h2) | (intro x h1 h2; have h3 : _ = _ := h2; subst h3; assumption) | (intro x h1 h2; have h3 : _ = _ := h2; exfalso; omega) | (intro b h1 h2 h3; have h4 : _ = _ := h3; (try dsimp only at h2); exfalso; omega) | (intro h1; have h2 : _ = _ := h1; exfalso; omega) | (intros; exfalso; (try dsimp only at *); omega) | (intro h1; exfalso; have h4 := h1.2; (try dsimp only at *); omega) | (intro x h1 h2; exact h2.1))
  replace hb2 := hb2.chg k_3 (by first | (intro x h1 h2; exact h2) | (intro x h1 h2; have h3 : _ = _ := h2; subst h3; assumption) | (intro x h1 h2; have h3 : _ = _ := h2; exfalso; omega) | (intro b h1 h2 h3; have h4 : _ = _ := h3; (try dsimp only at h2); exfalso; omega) | (intro h1; have h2 : _ = _ := h1; exfalso; omega) | (intros; exfalso; (try dsimp only at *); omega) | (intro h1; exfalso; have h4 := h1.2; (try dsimp only at *); omega) | (intro x h1 h2; exact h2.1))
  replace hF := hF.chg k_3 (by first | (intro x h1 h2; exact h2) | (intro x h1 h2; have h3 : _ = _ := h2; subst h3; assumption) | (intro x h1 h2; have h3 : _ = _ := h2; exfalso; omega) | (intro b h1 h2 h3; have h4 : _ = _ := h3; (try dsimp only at h2); exfalso; omega) | (intro h1; have h2 : _ = _ := h1; exfalso; omega) | (intros; exfalso; (try dsimp only at *); omega) | (intro h1; exfalso; have h4 := h1.2; (try dsimp only at *); omega) | (intro x h1 h2; exact h2.1))
  replace hb7 := hn_3
  refine WL.nil (WX.then_normal (WC.seq (WC.region (WL.loadsB Try.isAgg33 Try.sizeOf33 hb7 rfl (by first | (simp; done) | (simp; omega) | rfl) rfl (WL.loadsB Try.isAgg27 Try.sizeOf27 hb2 rfl (by first | (simp; done) | (simp; omega) | rfl) rfl (?_))))))
  have hb7' : Blk _ g7 33 (lcells lf) := hb7
  have lt7 := hb7'.lt
  have lt1 := hb1.lt
  obtain ⟨n1, hn1⟩ := szNow hw
  have hF1 : LF (· < n1) _ lf := hF.mono (fun b hb => by have := hb.2; omega)
  refine WL.call eg_13 rfl rfl (Kill_calls hF1.ls hsf p) ?_
  rintro v w3 ⟨⟨la, x1, e1, rfl, hR1, hOa⟩, k3⟩
  have zs_k3 := k3.size
  replace h := h.pure k3
  replace hw := hw.pure k3
  replace hb1 := hb1.pure k3
  replace hb2 := hb2.pure k3
  replace hb7' := hb7'.pure k3
  replace hF1 := hF1.pure k3
  have hLa := (LOi.lx hOa).lt
  obtain ⟨n2, hn2⟩ := szNow hw
  have zk3 := k3.size
  replace hLa := hLa.mono (S' := fun b => n1 ≤ b ∧ b < n2) (fun b hb => ⟨by have := hb.1; omega, by have := hb.2; omega⟩)
  refine WL.move rfl rfl (WL.extract rfl rfl rfl (WL.extract rfl rfl rfl (WL.extract rfl rfl rfl (?_))))
  refine WL.alloc Try.zeroValue33 rfl ?_
  intro g8 w8 hge8 hlt8 hb8 k8
  have zs_k8 := k8.size
  replace h := h.pure k8
  replace hw := hw.pure k8
  replace hb1 := hb1.pure k8
  replace hb2 := hb2.pure k8
  replace hb7' := hb7'.pure k8
  replace hF1 := hF1.pure k8
  replace hLa := hLa.pure k8
  refine WL.stores Try.sizeOf33 hb8 rfl rfl (by first | (simp; done) | (simp; omega) | rfl) (by first | exact Enc.one _ _ | (intro u hu; obtain ⟨x, _, rfl⟩ := List.mem_map.1 hu; rfl) | (simp [Value.oneCell']; done) | (simp [Value.oneCell', Value.cells]; done)) (by first | (simp; done) | (simp; omega) | (simp [Value.cells]; done) | (simp [Value.cells]; omega) | exact Nat.le_of_ble_eq_true rfl) rfl ?_
  intro w_4 hs_4 hn_4 k_4
  have zs_k_4 := k_4.size
  replace h := h.chg k_4 (by first | (intro x h1 h2; exact h2) | (intro x h1 h2; have h3 : _ = _ := h2; subst h3; assumption) | (intro x h1 h2; have h3 : _ = _ := h2; exfalso; omega) | (intro b h1 h2 h3; have h4 : _ = _ := h3; (try dsimp only at h2); exfalso; omega) | (intro h1; have h2 : _ = _ := h1; exfalso; omega) | (intros; exfalso; (try dsimp only at *); omega) | (intro h1; exfalso; have h4 := h1.2; (try dsimp only at *); omega) | (intro x h1 h2; exact h2.1))
  replace hw := hw.chg k_4 (by first | (intro x h1 h2; exact h2) | (intro x h1 h2; have h3 : _ = _ := h2; subst h3; assumption) | (intro x h1 h2; have h3 : _ = _ := h2; exfalso; omega) | (intro b h1 h2 h3; have h4 : _ = _ := h3; (try dsimp only at h2); exfalso; omega) | (intro h1; have h2 : _ = _ := h1; exfalso; omega) | (intros; exfalso; (try dsimp only at *); omega) | (intro h1; exfalso; have h4 := h1.2; (try dsimp only at *); omega) | (intro x h1 h2; exact h2.1))
  replace hb1 := hb1.chg k_4 (by first | (intro x h1 h2; exact h2) | (intro x h1 h2; have h3 : _ = _ := h2; subst h3; assumption) | (intro x h1 h2; have h3 : _ = _ := h2; exfalso; omega) | (intro b h1 h2 h3; have h4 : _ = _ := h3; (try dsimp only at h2); exfalso; omega) | (intro h1; have h2 : _ = _ := h1; exfalso; omega) | (intros; exfalso; (try dsimp only at *); omega) | (intro h1; exfalso; have h4 := h1.2; (try dsimp only at *); omega) | (intro x h1 h2; exact h2.1))
  replace hb2 := hb2.chg k_4 (by first | (intro x h1 h2; exact h2) | (intro x h1 h2; have h3 : _ = _ := h2; subst h3; assumption) | (intro x h1 h2; have h3 : _ = _ := h2; exfalso; omega) | (intro b h1 h2 h3; have h4 : _ = _ := h3; (try dsimp only at h2); exfalso; omega) | (intro h1; have h2 : _ = _ := h1; exfalso; omega) | (intros; exfalso; (try dsimp only at *); omega) | (intro h1; exfalso; have h4 := h1.2; (try dsimp only at *); omega) | (intro x h1 h2; exact h2.1))
  replace hb7' := hb7'.chg k_4 (by first | (intro x h1 h2; exact h2) | (intro x h1 h2; have h3 : _ = _ := h2; subst h3; assumption) | (intro x h1 h2; have h3 : _ = _ := h2; exfalso; omega) | (intro b h1 h2 h3; have h4 : _ = _ := h3; (try dsimp only at h2); exfalso; omega) | (intro h1; have h2 : _ = _ := h1; exfalso; omega) | (intros; exfalso; (try dsimp only at *); omega) | (intro h1; exfalso; have h4 := h1.2; (try dsimp only at *); omega) | (intro x h1 h2; exact h2.1))
  replace hF1 := hF1.chg k_4 (by first | (intro x h1 h2; exact h2) | (intro x h1 h2; have h3 : _ = _ := h2; subst h3; assumption) | (intro x h1 h2; have h3 : _ = _ := h2; exfalso; omega) | (intro b h1 h2 h3; have h4 : _ = _ := h3; (try dsimp only at h2); exfalso; omega) | (intro h1; have h2 : _ = _ := h1; exfalso; omega) | (intros; exfalso; (try dsimp only at *); omega) | (intro h1; exfalso; have h4 := h1.2; (try dsimp only at *); omega) | (intro x h1 h2; exact h2.1))
  replace hLa := hLa.chg k_4 (by first | (intro x h1 h2; exact h2) | (intro x h1 h2; have h3 : _ = _ := h2; subst h3; assumption) | (intro x h1 h2; have h3 : _ = _ := h2; exfalso; omega) | (intro b h1 h2 h3; have h4 : _ = _ := h3; (try dsimp only at h2); exfalso; omega) | (intro h1; have h2 : _ = _ := h1; exfalso; omega) | (intros; exfalso; (try dsimp only at *); omega) | (intro h1; exfalso; have h4 := h1.2; (try dsimp only at *); omega) | (intro x h1 h2; exact h2.1))
  replace hb8 := hn_4
  refine WL.assign rfl rfl (WL.assign rfl rfl (WL.nil (WX.then_normal (WC.seq (WC.region (WL.loadsB Try.isAgg33 Try.sizeOf33 hb7' rfl (by first | (simp; done) | (simp; omega) | rfl) rfl (?_)))))))
  have hb8' : Blk _ g8 33 (lcells la) := hb8
  refine WL.call eg_17 rfl rfl (Snapshot_calls hF1.ls hsf 1152921504606846976) ?_
  rintro v w3 ⟨⟨lb, e2, rfl, hR2, hOb⟩, k4⟩
  have zs_k4 := k4.size
  replace h := h.pure k4
  replace hw := hw.pure k4
  replace hb1 := hb1.pure k4
  replace hb2 := hb2.pure k4
  replace hb7' := hb7'.pure k4
  replace hF1 := hF1.pure k4
  replace hLa := hLa.pure k4
  replace hb8' := hb8'.pure k4
  have hLb := (LOi.lx hOb).lt
  obtain ⟨n3, hn3⟩ := szNow hw
  have zk4 := k4.size
  replace hLb := hLb.mono (S' := fun b => n2 ≤ b ∧ b < n3) (fun b hb => ⟨by have := hb.1; omega, by have := hb.2; omega⟩)
  refine WL.move rfl rfl (WL.extract rfl rfl rfl (WL.extract rfl rfl rfl (?_)))
  refine WL.alloc Try.zeroValue33 rfl ?_
  intro g11 w11 hge11 hlt11 hb11 k11
  have zs_k11 := k11.size
  replace h := h.pure k11
  replace hw := hw.pure k11
  replace hb1 := hb1.pure k11
  replace hb2 := hb2.pure k11
  replace hb7' := hb7'.pure k11
  replace hF1 := hF1.pure k11
  replace hLa := hLa.pure k11
  replace hb8' := hb8'.pure k11
  replace hLb := hLb.pure k11
  refine WL.stores Try.sizeOf33 hb11 rfl rfl (by first | (simp; done) | (simp; omega) | rfl) (by first | exact Enc.one _ _ | (intro u hu; obtain ⟨x, _, rfl⟩ := List.mem_map.1 hu; rfl) | (simp [Value.oneCell']; done) | (simp [Value.oneCell', Value.cells]; done)) (by first | (simp; done) | (simp; omega) | (simp [Value.cells]; done) | (simp [Value.cells]; omega) | exact Nat.le_of_ble_eq_true rfl) rfl ?_
  intro w_5 hs_5 hn_5 k_5
  have zs_k_5 := k_5.size
  replace h := h.chg k_5 (by first | (intro x h1 h2; exact h2) | (intro x h1 h2; have h3 : _ = _ := h2; subst h3; assumption) | (intro x h1 h2; have h3 : _ = _ := h2; exfalso; omega) | (intro b h1 h2 h3; have h4 : _ = _ := h3; (try dsimp only at h2); exfalso; omega) | (intro h1; have h2 : _ = _ := h1; exfalso; omega) | (intros; exfalso; (try dsimp only at *); omega) | (intro h1; exfalso; have h4 := h1.2; (try dsimp only at *); omega) | (intro x h1 h2; exact h2.1))
  replace hw := hw.chg k_5 (by first | (intro x h1 h2; exact h2) | (intro x h1 h2; have h3 : _ = _ := h2; subst h3; assumption) | (intro x h1 h2; have h3 : _ = _ := h2; exfalso; omega) | (intro b h1 h2 h3; have h4 : _ = _ := h3; (try dsimp only at h2); exfalso; omega) | (intro h1; have h2 : _ = _ := h1; exfalso; omega) | (intros; exfalso; (try dsimp only at *); omega) | (intro h1; exfalso; have h4 := h1.2; (try dsimp only at *); omega) | (intro x h1 h2; exact h2.1))
  replace hb1 := hb1.chg k_5 (by first | (intro x h1 h2; exact h2) | (intro x h1 h2; have h3 : _ = _ := h2; subst h3; assumption) | (intro x h1 h2; have h3 : _ = _ := h2; exfalso; omega) | (intro b h1 h2 h3; have h4 : _ = _ := h3; (try dsimp only at h2); exfalso; omega) | (intro h1; have h2 : _ = _ := h1; exfalso; omega) | (intros; exfalso; (try dsimp only at *); omega) | (intro h1; exfalso; have h4 := h1.2; (try dsimp only at *); omega) | (intro x h1 h2; exact h2.1))
  replace hb2 := hb2.chg k_5 (by first | (intro x h1 h2; exact h2) | (intro x h1 h2; have h3 : _ = _ := h2; subst h3; assumption) | (intro x h1 h2; have h3 : _ = _ := h2; exfalso; omega) | (intro b h1 h2 h3; have h4 : _ = _ := h3; (try dsimp only at h2); exfalso; omega) | (intro h1; have h2 : _ = _ := h1; exfalso; omega) | (intros; exfalso; (try dsimp only at *); omega) | (intro h1; exfalso; have h4 := h1.2; (try dsimp only at *); omega) | (intro x h1 h2; exact h2.1))
  replace hb7' := hb7'.chg k_5 (by first | (intro x h1 h2; exact h2) | (intro x h1 h2; have h3 : _ = _ := h2; subst h3; assumption) | (intro x h1 h2; have h3 : _ = _ := h2; exfalso; omega) | (intro b h1 h2 h3; have h4 : _ = _ := h3; (try dsimp only at h2); exfalso; omega) | (intro h1; have h2 : _ = _ := h1; exfalso; omega) | (intros; exfalso; (try dsimp only at *); omega) | (intro h1; exfalso; have h4 := h1.2; (try dsimp only at *); omega) | (intro x h1 h2; exact h2.1))
  replace hF1 := hF1.chg k_5 (by first | (intro x h1 h2; exact h2) | (intro x h1 h2; have h3 : _ = _ := h2; subst h3; assumption) | (intro x h1 h2; have h3 : _ = _ := h2; exfalso; omega) | (intro b h1 h2 h3; have h4 : _ = _ := h3; (try dsimp only at h2); exfalso; omega) | (intro h1; have h2 : _ = _ := h1; exfalso; omega) | (intros; exfalso; (try dsimp only at *); omega) | (intro h1; exfalso; have h4 := h1.2; (try dsimp only at *); omega) | (intro x h1 h2; exact h2.1))
  replace hLa := hLa.chg k_5 (by first | (intro x h1 h2; exact h2) | (intro x h1 h2; have h3 : _ = _ := h2; subst h3; assumption) | (intro x h1 h2; have h3 : _ = _ := h2; exfalso; omega) | (intro b h1 h2 h3; have h4 : _ = _ := h3; (try dsimp only at h2); exfalso; omega) | (intro h1; have h2 : _ = _ := h1; exfalso; omega) | (intros; exfalso; (try dsimp only at *); omega) | (intro h1; exfalso; have h4 := h1.2; (try dsimp only at *); omega) | (intro x h1 h2; exact h2.1))
  replace hb8' := hb8'.chg k_5 (by first | (intro x h1 h2; exact h2) | (intro x h1 h2; have h3 : _ = _ := h2; subst h3; assumption) | (intro x h1 h2; have h3 : _ = _ := h2; exfalso; omega) | (intro b h1 h2 h3; have h4 : _ = _ := h3; (try dsimp only at h2); exfalso; omega) | (intro h1; have h2 : _ = _ := h1; exfalso; omega) | (intros; exfalso; (try dsimp only at *); omega) | (intro h1; exfalso; have h4 := h1.2; (try dsimp only at *); omega) | (intro x h1 h2; exact h2.1))
  replace hLb := hLb.chg k_5 (by first | (intro x h1 h2; exact h2) | (intro x h1 h2; have h3 : _ = _ := h2; subst h3; assumption) | (intro x h1 h2; have h3 : _ = _ := h2; exfalso; omega) | (intro b h1 h2 h3; have h4 : _ = _ := h3; (try dsimp only at h2); exfalso; omega) | (intro h1; have h2 : _ = _ := h1; exfalso; omega) | (intros; exfalso; (try dsimp only at *); omega) | (intro h1; exfalso; have h4 := h1.2; (try dsimp only at *); omega) | (intro x h1 h2; exact h2.1))
  replace hb11 := hn_5
  refine WL.assign rfl rfl (WL.nil (WX.then_normal (WC.seq (WC.region (WL.loadsB Try.isAgg33 Try.sizeOf33 hb7' rfl (by first | (simp; done) | (simp; omega) | rfl) rfl (WL.move rfl rfl (?_)))))))
  have hb11' : Blk _ g11 33 (lcells lb) := hb11
  refine WL.call eg_19 rfl rfl (DestroyO_calls hF1.ls hsf k hk hzf) ?_
  rintro v w3 ⟨⟨lc, fao, fc, fr, e3, rfl, hR3, hOc, hFr⟩, k5⟩
  have zs_k5 := k5.size
  replace h := h.pure k5
  replace hw := hw.pure k5
  replace hb1 := hb1.pure k5
  replace hb2 := hb2.pure k5
  replace hb7' := hb7'.pure k5
  replace hF1 := hF1.pure k5
  replace hLa := hLa.pure k5
  replace hb8' := hb8'.pure k5
  replace hLb := hLb.pure k5
  replace hb11' := hb11'.pure k5
  have zk5 := k5.size
  obtain ⟨n4, hn4⟩ := szNow hw
  have hLc := (LW.lx hOc).lt.mono (S' := fun b => n3 ≤ b ∧ b < n4) (fun b hb => ⟨by have := hb.1; omega, by have := hb.2; omega⟩)
  have hWf := hFr.wt.lt.mono (S' := fun b => n3 ≤ b ∧ b < n4) (fun b hb => ⟨by have := hb.1; omega, by have := hb.2; omega⟩)
  refine WL.move rfl rfl (WL.extract rfl rfl rfl (WL.extract rfl rfl rfl (WL.extract rfl rfl rfl (?_))))
  refine WL.alloc Try.zeroValue33 rfl ?_
  intro g13 w13 hge13 hlt13 hb13 k13
  have zs_k13 := k13.size
  replace h := h.pure k13
  replace hw := hw.pure k13
  replace hb1 := hb1.pure k13
  replace hb2 := hb2.pure k13
  replace hb7' := hb7'.pure k13
  replace hF1 := hF1.pure k13
  replace hLa := hLa.pure k13
  replace hb8' := hb8'.pure k13
  replace hLb := hLb.pure k13
  replace hb11' := hb11'.pure k13
  replace hLc := hLc.pure k13
  replace hWf := hWf.pure k13
  refine WL.stores Try.sizeOf33 hb13 rfl rfl (by first | (simp; done) | (simp; omega) | rfl) (by first | exact Enc.one _ _ | (intro u hu; obtain ⟨x, _, rfl⟩ := List.mem_map.1 hu; rfl) | (simp [Value.oneCell']; done) | (simp [Value.oneCell', Value.cells]; done)) (by first | (simp; done) | (simp; omega) | (simp [Value.cells]; done) | (simp [Value.cells]; omega) | exact Nat.le_of_ble_eq_true rfl) rfl ?_
  intro w_6 hs_6 hn_6 k_6
  have zs_k_6 := k_6.size
  replace h := h.chg k_6 (by first | (intro x h1 h2; exact h2) | (intro x h1 h2; have h3 : _ = _ := h2; subst h3; assumption) | (intro x h1 h2; have h3 : _ = _ := h2; exfalso; omega) | (intro b h1 h2 h3; have h4 : _ = _ := h3; (try dsimp only at h2); exfalso; omega) | (intro h1; have h2 : _ = _ := h1; exfalso; omega) | (intros; exfalso; (try dsimp only at *); omega) | (intro h1; exfalso; have h4 := h1.2; (try dsimp only at *); omega) | (intro x h1 h2; exact h2.1))
  replace hw := hw.chg k_6 (by first | (intro x h1 h2; exact h2) | (intro x h1 h2; have h3 : _ = _ := h2; subst h3; assumption) | (intro x h1 h2; have h3 : _ = _ := h2; exfalso; omega) | (intro b h1 h2 h3; have h4 : _ = _ := h3; (try dsimp only at h2); exfalso; omega) | (intro h1; have h2 : _ = _ := h1; exfalso; omega) | (intros; exfalso; (try dsimp only at *); omega) | (intro h1; exfalso; have h4 := h1.2; (try dsimp only at *); omega) | (intro x h1 h2; exact h2.1))
  replace hb1 := hb1.chg k_6 (by first | (intro x h1 h2; exact h2) | (intro x h1 h2; have h3 : _ = _ := h2; subst h3; assumption) | (intro x h1 h2; have h3 : _ = _ := h2; exfalso; omega) | (intro b h1 h2 h3; have h4 : _ = _ := h3; (try dsimp only at h2); exfalso; omega) | (intro h1; have h2 : _ = _ := h1; exfalso; omega) | (intros; exfalso; (try dsimp only at *); omega) | (intro h1; exfalso; have h4 := h1.2; (try dsimp only at *); omega) | (intro x h1 h2; exact h2.1))
  replace hb2 := hb2.chg k_6 (by first | (intro x h1 h2; exact h2) | (intro x h1 h2; have h3 : _ = _ := h2; subst h3; assumption) | (intro x h1 h2; have h3 : _ = _ := h2; exfalso; omega) | (intro b h1 h2 h3; have h4 : _ = _ := h3; (try dsimp only at h2); exfalso; omega) | (intro h1; have h2 : _ = _ := h1; exfalso; omega) | (intros; exfalso; (try dsimp only at *); omega) | (intro h1; exfalso; have h4 := h1.2; (try dsimp only at *); omega) | (intro x h1 h2; exact h2.1))
  replace hb7' := hb7'.chg k_6 (by first | (intro x h1 h2; exact h2) | (intro x h1 h2; have h3 : _ = _ := h2; subst h3; assumption) | (intro x h1 h2; have h3 : _ = _ := h2; exfalso; omega) | (intro b h1 h2 h3; have h4 : _ = _ := h3; (try dsimp only at h2); exfalso; omega) | (intro h1; have h2 : _ = _ := h1; exfalso; omega) | (intros; exfalso; (try dsimp only at *); omega) | (intro h1; exfalso; have h4 := h1.2; (try dsimp only at *); omega) | (intro x h1 h2; exact h2.1))
  replace hF1 := hF1.chg k_6 (by first | (intro x h1 h2; exact h2) | (intro x h1 h2; have h3 : _ = _ := h2; subst h3; assumption) | (intro x h1 h2; have h3 : _ = _ := h2; exfalso; omega) | (intro b h1 h2 h3; have h4 : _ = _ := h3; (try dsimp only at h2); exfalso; omega) | (intro h1; have h2 : _ = _ := h1; exfalso; omega) | (intros; exfalso; (try dsimp only at *); omega) | (intro h1; exfalso; have h4 := h1.2; (try dsimp only at *); omega) | (intro x h1 h2; exact h2.1))
  replace hLa := hLa.chg k_6 (by first | (intro x h1 h2; exact h2) | (intro x h1 h2; have h3 : _ = _ := h2; subst h3; assumption) | (intro x h1 h2; have h3 : _ = _ := h2; exfalso; omega) | (intro b h1 h2 h3; have h4 : _ = _ := h3; (try dsimp only at h2); exfalso; omega) | (intro h1; have h2 : _ = _ := h1; exfalso; omega) | (intros; exfalso; (try dsimp only at *); omega) | (intro h1; exfalso; have h4 := h1.2; (try dsimp only at *); omega) | (intro x h1 h2; exact h2.1))
  replace hb8' := hb8'.chg k_6 (by first | (intro x h1 h2; exact h2) | (intro x h1 h2; have h3 : _ = _ := h2; subst h3; assumption) | (intro x h1 h2; have h3 : _ = _ := h2; exfalso; omega) | (intro b h1 h2 h3; have h4 : _ = _ := h3; (try dsimp only at h2); exfalso; omega) | (intro h1; have h2 : _ = _ := h1; exfalso; omega) | (intros; exfalso; (try dsimp only at *); omega) | (intro h1; exfalso; have h4 := h1.2; (try dsimp only at *); omega) | (intro x h1 h2; exact h2.1))
  replace hLb := hLb.chg k_6 (by first | (intro x h1 h2; exact h2) | (intro x h1 h2; have h3 : _ = _ := h2; subst h3; assumption) | (intro x h1 h2; have h3 : _ = _ := h2; exfalso; omega) | (intro b h1 h2 h3; have h4 : _ = _ := h3; (try dsimp only at h2); exfalso; omega) | (intro h1; have h2 : _ = _ := h1; exfalso; omega) | (intros; exfalso; (try dsimp only at *); omega) | (intro h1; exfalso; have h4 := h1.2; (try dsimp only at *); omega) | (intro x h1 h2; exact h2.1))
  replace hb11' := hb11'.chg k_6 (by first | (intro x h1 h2; exact h2) | (intro x h1 h2; have h3 : _ = _ := h2; subst h3; assumption) | (intro x h1 h2; have h3 : _ = _ := h2; exfalso; omega) | (intro b h1 h2 h3; have h4 : _ = _ := h3; (try dsimp only at h2); exfalso; omega) | (intro h1; have h2 : _ = _ := h1; exfalso; omega) | (intros; exfalso; (try dsimp only at *); omega) | (intro h1; exfalso; have h4 := h1.2; (try dsimp only at *); omega) | (intro x h1 h2; exact h2.1))
  replace hLc := hLc.chg k_6 (by first | (intro x h1 h2; exact h2) | (intro x h1 h2; have h3 : _ = _ := h2; subst h3; assumption) | (intro x h1 h2; have h3 : _ = _ := h2; exfalso; omega) | (intro b h1 h2 h3; have h4 : _ = _ := h3; (try dsimp only at h2); exfalso; omega) | (intro h1; have h2 : _ = _ := h1; exfalso; omega) | (intros; exfalso; (try dsimp only at *); omega) | (intro h1; exfalso; have h4 := h1.2; (try dsimp only at *); omega) | (intro x h1 h2; exact h2.1))
  replace hWf := hWf.chg k_6 (by first | (intro x h1 h2; exact h2) | (intro x h1 h2; have h3 : _ = _ := h2; subst h3; assumption) | (intro x h1 h2; have h3 : _ = _ := h2; exfalso; omega) | (intro b h1 h2 h3; have h4 : _ = _ := h3; (try dsimp only at h2); exfalso; omega) | (intro h1; have h2 : _ = _ := h1; exfalso; omega) | (intros; exfalso; (try dsimp only at *); omega) | (intro h1; exfalso; have h4 := h1.2; (try dsimp only at *); omega) | (intro x h1 h2; exact h2.1))
  replace hb13 := hn_6
  refine WL.assign rfl rfl (WL.assign rfl rfl (WL.nil (WX.then_normal (WC.seq (WC.region (?_))))))
  have hb13' : Blk _ g13 33 (lcells lc) := hb13
  refine WL.loadsB Try.isAgg33 Try.sizeOf33 hb8' rfl rfl rfl ?_
  refine WL.loadsB Try.isAgg33 Try.sizeOf33 hb11' rfl (by first | (simp; done) | (simp; omega) | rfl) rfl (WL.loadsB Try.isAgg33 Try.sizeOf33 hb13' rfl (by first | (simp; done) | (simp; omega) | rfl) rfl (?_))
  refine WL.build (e := eln) [la, lb, lc] Try.underlying63 Try.sizeOf33 Try.zeroValue33 rfl rfl rfl (by first | (simp [Value.cells]; done) | (simp [Value.cells] <;> rfl) | (simp [Value.cells, eb, ei, es, ebool, e32, e64]; done)) (by decide) rfl ?_
  intro a_hln w_hln hln l_hln z_hln k_hln
  have zs_k_hln := k_hln.size
  replace h := h.pure k_hln
  replace hw := hw.pure k_hln
  replace hb1 := hb1.pure k_hln
  replace hb2 := hb2.pure k_hln
  replace hb7' := hb7'.pure k_hln
  replace hF1 := hF1.pure k_hln
  replace hLa := hLa.pure k_hln
  replace hb8' := hb8'.pure k_hln
  replace hLb := hLb.pure k_hln
  replace hb11' := hb11'.pure k_hln
  replace hLc := hLc.pure k_hln
  replace hWf := hWf.pure k_hln
  replace hb13' := hb13'.pure k_hln
  refine WL.assign rfl rfl (WL.nil (WX.then_normal (WC.seq (WC.seq (WC.region (WL.assign rfl rfl (WL.nil (?_))))))))
  refine WX.then_normal (WC.block (?_))
  have hln3 : ∀ (i : Nat) (lx : LnV), [la, lb, lc][i]? = some lx → LX (SI n1 n2 n3 i) _ lx := fun i lx hi => by
    match i, hi with
    | 0, hi => injection hi with hi; rw [← hi]; exact hLa.mono (fun b hb => hb)
    | 1, hi => injection hi with hi; rw [← hi]; exact hLb.mono (fun b hb => hb)
    | 2, hi => injection hi with hi; rw [← hi]; exact hLc.mono (fun b hb => hb.1)
    | i + 3, hi => cases hi
  have hsaf : SmA 20 lf.abs := ha ▸ hs2.sma
  have hzaf := abs_zsA hzf
  have hslf : lf.abs.snaps.length ≤ 4398046510976 := by rw [ha, show l.abs.snaps.length = l.snaps.length from sabs_len _]; omega
  have hB : ∀ (i : Nat) (lx : LnV), [la, lb, lc][i]? = some lx → Sm 60 lx := fun i lx hi => by
    match i, hi with
    | 0, hi => injection hi with hi; rw [← hi]; exact ((hR1.sm hsaf).up (by decide)).sm
    | 1, hi => injection hi with hi; rw [← hi]; exact ((hR2.sm hsaf).up (by decide)).sm
    | 2, hi => injection hi with hi; rw [← hi]; exact ((hR3.sm hslf (Nat.le_refl _) hzaf).1.up (by decide)).sm
    | i + 3, hi => cases hi
  have hfrl := (hR3.sm hslf (Nat.le_refl _) hzaf).2
  have hA0 : AP w n1 n2 n3 g_1 g7 l lf [la, lb, lc] a_hln _ fao fr.length _ := ⟨hF1, hb7', hb1, h, hln.mono (fun b hb => by show n1 ≤ b; omega), hln3, hWf.mono (fun b hb => by show n1 ≤ b; have := hb.1; omega), ⟨⟨by omega, by omega, by have := hw.size; omega⟩, by omega, by omega⟩, rfl, hw⟩
  clear hln3
  clear hLa hLb hLc hWf hF1 hb7' hb1 h hln hw
  obtain ⟨ls, hls⟩ : ∃ ls, ls = [la, lb, lc] := ⟨_, rfl⟩
  rw [← hls] at hA0 hB
  have hl3 : ls.length = 3 := by rw [hls]; rfl
  have hlv : ∀ c, (Value.slice a_hln [la, lb, lc].length c) = .slice a_hln ls.length c := fun c => by rw [hls]
  refine WC.loop (σ := Nat) (fun i => [(3, gptr g_1), (7, gptr g7), (14, .slice fao fr.length fc), (16, .slice a_hln ls.length 3), (17, vi (i : Int))]) (fun i w' => i ≤ 3 ∧ AP w n1 n2 n3 g_1 g7 l lf ls a_hln 3 fao fr.length w') (fun i => 3 - i) 0 ⟨rfl, rfl, rfl, by rw [hls]; rfl, rfl, trivial⟩ ⟨Nat.zero_le _, hA0⟩ ?_
  clear hA0
  rintro i w1 ⟨hi, hA⟩
  refine WC.seq (WC.seq (WC.region (WL.move rfl rfl (WL.move rfl rfl (WL.len Try.underlying63 rfl rfl (?_))))))
  refine WL.lss? rfl rfl rfl (fun h57 => ?_) (fun h57 => ?_)
  ·
    refine WL.nil (WX.then_normal (WC.cond_true rfl (WC.skip (WX.then_normal (WC.seq (WC.block (WC.seq (?_))))))))
    refine WC.seq (WC.region (WL.assign rfl rfl (WL.nil (WX.then_normal (WC.block (?_))))))
    obtain ⟨lx, hl⟩ : ∃ lx, ls[i]? = some lx := ⟨_, List.getElem?_eq_getElem (by omega)⟩
    have hBd := (hB i lx hl).dead
    have hBs := (hB i lx hl).snaps
    refine WC.loop (σ := Nat) (fun k => [(3, gptr g_1), (7, gptr g7), (14, .slice fao fr.length fc), (16, .slice a_hln ls.length 3), (17, vi (i : Int)), (18, vi (k : Int))]) (fun k w' => k ≤ lx.dead.length ∧ AP w n1 n2 n3 g_1 g7 l lf ls a_hln 3 fao fr.length w') (fun k => lx.dead.length - k) 0 ⟨rfl, rfl, rfl, rfl, rfl, rfl, trivial⟩ ⟨Nat.zero_le _, hA⟩ ?_
    clear hA
    rintro kk w1 ⟨hkk, hA⟩
    refine WC.seq (WC.seq (WC.region (WL.move rfl rfl (WL.move rfl rfl (WL.move rfl rfl (?_))))))
    refine WL.indexT (e := eln) Try.underlying63 Try.sizeOf33 hA.lines.rsl rfl rfl ⟨hl, rfl⟩ rfl ?_
    intro bb oo hcc
    refine WL.fieldAddr (fld_33_2) rfl rfl (WL.load Try.isAgg23 rfl (hcc _ _ rfl) rfl (WL.len Try.underlying23 rfl rfl (?_)))
    refine WL.lss? rfl rfl rfl (fun h67 => ?_) (fun h67 => ?_)
    ·
      refine WL.nil (WX.then_normal (WC.cond_true rfl (WC.skip (WX.then_normal (WC.seq (WC.block (WC.region (?_))))))))
      refine WL.move rfl rfl (WL.move rfl rfl (?_))
      refine WL.indexT (e := eln) Try.underlying63 Try.sizeOf33 hA.lines.rsl rfl rfl ⟨hl, rfl⟩ rfl ?_
      intro bb2 oo2 hcc2
      refine WL.fieldAddr (fld_33_2) rfl rfl (WL.load Try.isAgg23 rfl (hcc2 _ _ rfl) rfl (WL.move rfl rfl (WL.bld rfl (bld_27_0 _) rfl (?_))))
      obtain ⟨gw, cur, fw, hao, hSg, hgw, hfr2, hsz⟩ := ((hA.ln i lx hl).dead).resolve_left (by omega)
      refine WL.index (j := kk) Try.underlying23 Try.sizeOf27 (by show some (Value.slice lx.dao _ _) = _; rw [hao]) rfl rfl (by omega) rfl ?_
      refine WL.storeW Try.sizeOf27 hgw hfr2 rfl rfl rfl (by simp [Value.oneCell']) (by omega) ?_
      intro w7 z7 k7 sh7
      have hA7 := hA.pt k7 sh7 (hSg.low hA.low.2) (by simp [kb, hgw])
      clear hA
      have hA := hA7
      refine WL.nil (WX.block_normal (WX.then_normal (WC.region (WL.move rfl rfl (WL.add64 rfl rfl (by first | omega | (constructor <;> omega)) rfl (WL.assign rfl rfl (WL.nil (?_))))))))
      first
        | exact WX.loop_next (kj + 1) ⟨rfl, rfl, rfl, rfl, rfl, rfl, rfl, trivial⟩ ⟨by omega, hA⟩ (by omega)
        | exact WX.loop_next (kk + 1) ⟨rfl, rfl, rfl, rfl, rfl, rfl, trivial⟩ ⟨by omega, hA⟩ (by omega)
        | exact WX.loop_next (ks + 1) ⟨rfl, rfl, rfl, rfl, rfl, rfl, trivial⟩ ⟨by omega, hA⟩ (by omega)
        | exact WX.loop_next (i + 1) ⟨rfl, rfl, rfl, rfl, rfl, trivial⟩ ⟨by omega, hA⟩ (by omega)
        | exact WX.loop_next (kf + 1) ⟨rfl, rfl, rfl, rfl, trivial⟩ ⟨by omega, hA⟩ (by omega)
        | exact WX.loop_next (ku + 1) ⟨rfl, rfl, rfl, rfl, trivial⟩ ⟨⟨by omega, by omega⟩, hF, hb7, hb1, h, hw, hq⟩ (by omega)
        | exact WX.loop_next (kv + 1) ⟨rfl, rfl, rfl, trivial⟩ ⟨by omega, hF, hb7, hb1, h, hw⟩ (by omega)
        | exact WX.loop_next (kt + 1) ⟨rfl, rfl, rfl, rfl, rfl, trivial⟩ ⟨⟨by omega, by omega⟩, hF, hb7, hb1, h, hw, hq2⟩ (by omega)
    ·
      refine WL.nil (WX.then_normal (WC.cond_false rfl (WC.exit (WX.then_exit (WX.then_exit (WX.block_here (WX.then_normal (?_))))))))
      refine WC.seq (WC.region (WL.assign rfl rfl (WL.nil (WX.then_normal (WC.block (?_))))))
      refine WC.loop (σ := Nat) (fun k => [(3, gptr g_1), (7, gptr g7), (14, .slice fao fr.length fc), (16, .slice a_hln ls.length 3), (17, vi (i : Int)), (19, vi (k : Int))]) (fun k w' => k ≤ lx.snaps.length ∧ AP w n1 n2 n3 g_1 g7 l lf ls a_hln 3 fao fr.length w') (fun k => lx.snaps.length - k) 0 ⟨rfl, rfl, rfl, rfl, rfl, rfl, trivial⟩ ⟨Nat.zero_le _, hA⟩ ?_
      clear hA
      rintro ks w1 ⟨hks, hA⟩
      refine WC.seq (WC.seq (WC.region (WL.move rfl rfl (WL.move rfl rfl (WL.move rfl rfl (?_))))))
      refine WL.indexT (e := eln) Try.underlying63 Try.sizeOf33 hA.lines.rsl rfl rfl ⟨hl, rfl⟩ rfl ?_
      intro bb oo hcc
      refine WL.fieldAddr (fld_33_1) rfl rfl (WL.load Try.isAgg31 rfl (hcc _ _ rfl) rfl (WL.len Try.underlying31 rfl rfl (?_)))
      refine WL.lss? rfl rfl rfl (fun h85 => ?_) (fun h85 => ?_)
      ·
        refine WL.nil (WX.then_normal (WC.cond_true rfl (WC.skip (WX.then_normal (WC.seq (WC.block (WC.seq (?_))))))))
        refine WC.seq (WC.region (WL.assign rfl rfl (WL.nil (WX.then_normal (WC.block (?_))))))
        obtain ⟨x, hx⟩ : ∃ x, lx.snaps[ks]? = some x := ⟨_, List.getElem?_eq_getElem (by omega)⟩
        have hxm := List.mem_of_getElem? hx
        have hBx := (hB i lx hl).inner x hxm
        refine WC.loop (σ := Nat) (fun k => [(3, gptr g_1), (7, gptr g7), (14, .slice fao fr.length fc), (16, .slice a_hln ls.length 3), (17, vi (i : Int)), (19, vi (ks : Int)), (20, vi (k : Int))]) (fun k w' => k ≤ x.dead.length ∧ AP w n1 n2 n3 g_1 g7 l lf ls a_hln 3 fao fr.length w') (fun k => x.dead.length - k) 0 ⟨rfl, rfl, rfl, rfl, rfl, rfl, rfl, trivial⟩ ⟨Nat.zero_le _, hA⟩ ?_
        clear hA
        rintro kj w1 ⟨hkj, hA⟩
        refine WC.seq (WC.seq (WC.region (WL.move rfl rfl (WL.move rfl rfl (WL.move rfl rfl (?_))))))
        refine WL.indexT (e := eln) Try.underlying63 Try.sizeOf33 hA.lines.rsl rfl rfl ⟨hl, rfl⟩ rfl ?_
        intro bb oo hcc
        refine WL.fieldAddr (fld_33_1) rfl rfl (WL.load Try.isAgg31 rfl (hcc _ _ rfl) rfl (WL.move rfl rfl (?_)))
        obtain ⟨sn, hRow, hm⟩ := (hA.ln i lx hl).snaps
        have hsl : sn.length = lx.snaps.length := by have := congrArg List.length hm; simpa using this
        obtain ⟨y, hy, hyx⟩ := hdr_at hm hx
        refine WL.indexT (e := esn) Try.underlying31 Try.sizeOf65 hRow.rsl (by show some (Value.slice lx.sao lx.snaps.length _) = _; rw [hsl]) rfl ⟨hy, rfl⟩ rfl ?_
        intro b5 o5 hc5
        have hc6 := hc5 1 _ rfl
        injection hyx with e1 e2
        injection e2 with e2 e3
        rw [e1, e2, e3] at hc6
        refine WL.fieldAddr (fld_65_1) rfl rfl (?_)
        refine WL.load Try.isAgg23 rfl hc6 rfl ?_
        refine WL.len Try.underlying23 rfl rfl (?_)
        refine WL.lss? rfl rfl rfl (fun h99 => ?_) (fun h99 => ?_)
        ·
          refine WL.nil (WX.then_normal (WC.cond_true rfl (WC.skip (WX.then_normal (WC.seq (WC.block (WC.region (?_))))))))
          refine WL.move rfl rfl (WL.move rfl rfl (?_))
          refine WL.indexT (e := eln) Try.underlying63 Try.sizeOf33 hA.lines.rsl rfl rfl ⟨hl, rfl⟩ rfl ?_
          intro bb3 oo3 hcc3
          refine WL.fieldAddr (fld_33_1) rfl rfl (WL.load Try.isAgg31 rfl (hcc3 _ _ rfl) rfl (WL.move rfl rfl (?_)))
          refine WL.indexT (e := esn) Try.underlying31 Try.sizeOf65 hRow.rsl (by show some (Value.slice lx.sao lx.snaps.length _) = _; rw [hsl]) rfl ⟨hy, rfl⟩ rfl ?_
          intro b8 o8 hc8
          have hc9 := hc8 1 _ rfl
          rw [e1, e2, e3] at hc9
          refine WL.fieldAddr (fld_65_1) rfl rfl (?_)
          refine WL.load Try.isAgg23 rfl hc9 rfl ?_
          refine WL.move rfl rfl (WL.bld rfl (bld_27_0 _) rfl (?_))
          obtain ⟨gw, cur, fw, hao, hSg, hgw, hfr2, hsz⟩ := ((hA.ln i lx hl).inner x hxm).resolve_left (by omega)
          refine WL.index (j := kj) Try.underlying23 Try.sizeOf27 (by show some (Value.slice x.ao _ _) = _; rw [hao]) rfl rfl (by omega) rfl ?_
          refine WL.storeW Try.sizeOf27 hgw hfr2 rfl rfl rfl (by simp [Value.oneCell']) (by omega) ?_
          intro w7 z7 k7 sh7
          have hA7 := hA.pt k7 sh7 (hSg.low hA.low.2) (by simp [kb, hgw])
          clear hA
          have hA := hA7
          refine WL.nil (WX.block_normal (WX.then_normal (WC.region (WL.move rfl rfl (WL.add64 rfl rfl (by first | omega | (constructor <;> omega)) rfl (WL.assign rfl rfl (WL.nil (?_))))))))
          first
            | exact WX.loop_next (kj + 1) ⟨rfl, rfl, rfl, rfl, rfl, rfl, rfl, trivial⟩ ⟨by omega, hA⟩ (by omega)
            | exact WX.loop_next (kk + 1) ⟨rfl, rfl, rfl, rfl, rfl, rfl, trivial⟩ ⟨by omega, hA⟩ (by omega)
            | exact WX.loop_next (ks + 1) ⟨rfl, rfl, rfl, rfl, rfl, rfl, trivial⟩ ⟨by omega, hA⟩ (by omega)
            | exact WX.loop_next (i + 1) ⟨rfl, rfl, rfl, rfl, rfl, trivial⟩ ⟨by omega, hA⟩ (by omega)
            | exact WX.loop_next (kf + 1) ⟨rfl, rfl, rfl, rfl, trivial⟩ ⟨by omega, hA⟩ (by omega)
            | exact WX.loop_next (ku + 1) ⟨rfl, rfl, rfl, rfl, trivial⟩ ⟨⟨by omega, by omega⟩, hF, hb7, hb1, h, hw, hq⟩ (by omega)
            | exact WX.loop_next (kv + 1) ⟨rfl, rfl, rfl, trivial⟩ ⟨by omega, hF, hb7, hb1, h, hw⟩ (by omega)
            | exact WX.loop_next (kt + 1) ⟨rfl, rfl, rfl, rfl, rfl, trivial⟩ ⟨⟨by omega, by omega⟩, hF, hb7, hb1, h, hw, hq2⟩ (by omega)
        ·
          refine WL.nil (WX.then_normal (WC.cond_false rfl (WC.exit (WX.then_exit (WX.then_exit (WX.block_here (WX.then_normal (?_))))))))
          refine WC.region (WL.move rfl rfl (WL.move rfl rfl (?_)))
          refine WL.indexT (e := eln) Try.underlying63 Try.sizeOf33 hA.lines.rsl rfl rfl ⟨hl, rfl⟩ rfl ?_
          intro bb oo hcc
          refine WL.fieldAddr (fld_33_1) rfl rfl (WL.load Try.isAgg31 rfl (hcc _ _ rfl) rfl (WL.move rfl rfl (?_)))
          obtain ⟨sn, hRow, hm⟩ := (hA.ln i lx hl).snaps
          have hsl : sn.length = lx.snaps.length := by have := congrArg List.length hm; simpa using this
          obtain ⟨y, hy, hyx⟩ := hdr_at hm hx
          obtain ⟨gw, hao⟩ := hRow.place0 (j := ks) (by omega)
          have hSg := hRow.kb.at_ _ hao
          rw [hao] at hRow
          refine WL.index (j := ks) Try.underlying31 Try.sizeOf65 (by show some (Value.slice lx.sao _ _) = _; rw [hao]) rfl rfl (by omega) rfl ?_
          refine WL.fieldAddr (fld_65_0) rfl rfl (?_)
          refine WL.storeFS (ys := sn.set ks { y with txg := -7 }) Try.sizeOf3 hRow rfl rfl rfl (by show 0 + ks * 2 + 0 + 1 ≤ sn.length * 2; omega) (List.length_set ..) (sn_tx hy (-7)) ?_
          intro w7 z7 hRow7 k7 sh7
          have hA7 := hA.tx k7 sh7 hl hSg.1 hSg.2 ⟨_, by rw [hao]; exact hRow7, (hdr_set hy _).trans hm⟩
          clear hA
          have hA := hA7
          refine WL.nil (WX.block_normal (WX.then_normal (WC.region (WL.move rfl rfl (WL.add64 rfl rfl (by first | omega | (constructor <;> omega)) rfl (WL.assign rfl rfl (WL.nil (?_))))))))
          first
            | exact WX.loop_next (kj + 1) ⟨rfl, rfl, rfl, rfl, rfl, rfl, rfl, trivial⟩ ⟨by omega, hA⟩ (by omega)
            | exact WX.loop_next (kk + 1) ⟨rfl, rfl, rfl, rfl, rfl, rfl, trivial⟩ ⟨by omega, hA⟩ (by omega)
            | exact WX.loop_next (ks + 1) ⟨rfl, rfl, rfl, rfl, rfl, rfl, trivial⟩ ⟨by omega, hA⟩ (by omega)
            | exact WX.loop_next (i + 1) ⟨rfl, rfl, rfl, rfl, rfl, trivial⟩ ⟨by omega, hA⟩ (by omega)
            | exact WX.loop_next (kf + 1) ⟨rfl, rfl, rfl, rfl, trivial⟩ ⟨by omega, hA⟩ (by omega)
            | exact WX.loop_next (ku + 1) ⟨rfl, rfl, rfl, rfl, trivial⟩ ⟨⟨by omega, by omega⟩, hF, hb7, hb1, h, hw, hq⟩ (by omega)
            | exact WX.loop_next (kv + 1) ⟨rfl, rfl, rfl, trivial⟩ ⟨by omega, hF, hb7, hb1, h, hw⟩ (by omega)
            | exact WX.loop_next (kt + 1) ⟨rfl, rfl, rfl, rfl, rfl, trivial⟩ ⟨⟨by omega, by omega⟩, hF, hb7, hb1, h, hw, hq2⟩ (by omega)
      ·
        refine WL.nil (WX.then_normal (WC.cond_false rfl (WC.exit (WX.then_exit (WX.then_exit (WX.block_here (WX.block_normal (?_))))))))
        refine WX.then_normal (WC.region (WL.move rfl rfl (WL.add64 rfl rfl (by first | omega | (constructor <;> omega)) rfl (WL.assign rfl rfl (WL.nil (?_))))))
        first
          | exact WX.loop_next (kj + 1) ⟨rfl, rfl, rfl, rfl, rfl, rfl, rfl, trivial⟩ ⟨by omega, hA⟩ (by omega)
          | exact WX.loop_next (kk + 1) ⟨rfl, rfl, rfl, rfl, rfl, rfl, trivial⟩ ⟨by omega, hA⟩ (by omega)
          | exact WX.loop_next (ks + 1) ⟨rfl, rfl, rfl, rfl, rfl, rfl, trivial⟩ ⟨by omega, hA⟩ (by omega)
          | exact WX.loop_next (i + 1) ⟨rfl, rfl, rfl, rfl, rfl, trivial⟩ ⟨by omega, hA⟩ (by omega)
          | exact WX.loop_next (kf + 1) ⟨rfl, rfl, rfl, rfl, trivial⟩ ⟨by omega, hA⟩ (by omega)
          | exact WX.loop_next (ku + 1) ⟨rfl, rfl, rfl, rfl, trivial⟩ ⟨⟨by omega, by omega⟩, hF, hb7, hb1, h, hw, hq⟩ (by omega)
          | exact WX.loop_next (kv + 1) ⟨rfl, rfl, rfl, trivial⟩ ⟨by omega, hF, hb7, hb1, h, hw⟩ (by omega)
          | exact WX.loop_next (kt + 1) ⟨rfl, rfl, rfl, rfl, rfl, trivial⟩ ⟨⟨by omega, by omega⟩, hF, hb7, hb1, h, hw, hq2⟩ (by omega)
  ·
    refine WL.nil (WX.then_normal (WC.cond_false rfl (WC.exit (WX.then_exit (WX.then_exit (WX.block_here (WX.then_normal (?_))))))))
    refine WC.seq (WC.seq (WC.region (WL.assign rfl rfl (WL.nil (WX.then_normal (WC.block (?_)))))))
    refine WC.loop (σ := Nat) (fun k => [(3, gptr g_1), (7, gptr g7), (14, .slice fao fr.length fc), (21, vi (k : Int))]) (fun k w' => k ≤ fr.length ∧ AP w n1 n2 n3 g_1 g7 l lf ls a_hln 3 fao fr.length w') (fun k => fr.length - k) 0 ⟨rfl, rfl, rfl, rfl, trivial⟩ ⟨Nat.zero_le _, hA⟩ ?_
    clear hA
    rintro kf w1 ⟨hkf, hA⟩
    refine WC.seq (WC.seq (WC.region (WL.move rfl rfl (WL.move rfl rfl (WL.len Try.underlying23 rfl rfl (?_))))))
    refine WL.lss? rfl rfl rfl (fun h125 => ?_) (fun h125 => ?_)
    ·
      refine WL.nil (WX.then_normal (WC.cond_true rfl (WC.skip (WX.then_normal (WC.seq (WC.block (WC.region (?_))))))))
      refine WL.move rfl rfl (WL.move rfl rfl (WL.bld rfl (bld_27_0 _) rfl (?_)))
      obtain ⟨gw, cur, fw, hao, hSg, hgw, hfr2, hsz⟩ := hA.free.resolve_left (by omega)
      refine WL.index (j := kf) Try.underlying23 Try.sizeOf27 (by show some (Value.slice fao _ _) = _; rw [hao]) rfl rfl (by omega) rfl ?_
      refine WL.storeW Try.sizeOf27 hgw hfr2 rfl rfl rfl (by simp [Value.oneCell']) (by omega) ?_
      intro w7 z7 k7 sh7
      have hA7 := hA.pt k7 sh7 hSg (by simp [kb, hgw])
      clear hA
      have hA := hA7
      refine WL.nil (WX.block_normal (WX.then_normal (WC.region (WL.move rfl rfl (WL.add64 rfl rfl (by first | omega | (constructor <;> omega)) rfl (WL.assign rfl rfl (WL.nil (?_))))))))
      first
        | exact WX.loop_next (kj + 1) ⟨rfl, rfl, rfl, rfl, rfl, rfl, rfl, trivial⟩ ⟨by omega, hA⟩ (by omega)
        | exact WX.loop_next (kk + 1) ⟨rfl, rfl, rfl, rfl, rfl, rfl, trivial⟩ ⟨by omega, hA⟩ (by omega)
        | exact WX.loop_next (ks + 1) ⟨rfl, rfl, rfl, rfl, rfl, rfl, trivial⟩ ⟨by omega, hA⟩ (by omega)
        | exact WX.loop_next (i + 1) ⟨rfl, rfl, rfl, rfl, rfl, trivial⟩ ⟨by omega, hA⟩ (by omega)
        | exact WX.loop_next (kf + 1) ⟨rfl, rfl, rfl, rfl, trivial⟩ ⟨by omega, hA⟩ (by omega)
        | exact WX.loop_next (ku + 1) ⟨rfl, rfl, rfl, rfl, trivial⟩ ⟨⟨by omega, by omega⟩, hF, hb7, hb1, h, hw, hq⟩ (by omega)
        | exact WX.loop_next (kv + 1) ⟨rfl, rfl, rfl, trivial⟩ ⟨by omega, hF, hb7, hb1, h, hw⟩ (by omega)
        | exact WX.loop_next (kt + 1) ⟨rfl, rfl, rfl, rfl, rfl, trivial⟩ ⟨⟨by omega, by omega⟩, hF, hb7, hb1, h, hw, hq2⟩ (by omega)
    ·
      refine WL.nil (WX.then_normal (WC.cond_false rfl (WC.exit (WX.then_exit (WX.then_exit (WX.block_here (WX.then_normal (?_))))))))
      refine WC.seq (WC.region (?_))
      have hF := hA.fin
      have hb7 := hA.b7
      have hb1 := hA.b1
      have h := hA.arg
      have hw := hA.hw
      clear hA
      refine WL.fieldAddr fld_33_2 rfl rfl ?_
      refine WL.loadB Try.isAgg23 hb7 rfl rfl rfl (WL.fieldAddr (fld_33_2) rfl rfl (WL.loadB Try.isAgg23 hb7 rfl rfl rfl (?_)))
      first
        | (refine WL.cap Try.underlying23 rfl rfl ?_
           skip)
      have hfu := hF.dead.full
      have hcp := hF.dead.cap
      refine WL.sliceTop (e := ept) (h := lf.dcap) Try.underlying23 Try.sizeOf27 hfu rfl rfl (by rw [hcp]; simp) rfl ?_
      intro ao2 hq
      rw [List.take_of_length_le (by rw [hcp]; simp)] at hq ⊢
      refine WL.assign rfl rfl (WL.nil (WX.then_normal (WC.seq (WC.seq (WC.region (WL.fieldAddr (fld_33_2) rfl rfl (WL.loadB Try.isAgg23 hb7 rfl rfl rfl (?_))))))))
      refine WL.len Try.underlying23 rfl rfl (WL.assign rfl rfl (WL.nil (WX.then_normal (WC.block (?_)))))
      have hl2 : (lf.dead ++ [zp, zp]).length = lf.dead.length + 2 := by simp
      refine WC.loop (σ := Nat) (fun k => [(3, gptr g_1), (7, gptr g7), (22, .slice ao2 (lf.dead ++ [zp, zp]).length lf.dcap), (23, vi (k : Int))]) (fun k w' => (lf.dead.length ≤ k ∧ k ≤ lf.dead.length + 2) ∧ LF (· < n1) w' lf ∧ Blk w' g7 33 (lcells lf) ∧ Blk w' g_1 25 (lcells l) ∧ LS (· < w.heap.size) w' l ∧ Chg Nob w w' ∧ RSl (· < n1) w' ept ao2 lf.dcap (lf.dead ++ [zp, zp])) (fun k => lf.dead.length + 2 - k) lf.dead.length ⟨rfl, rfl, rfl, rfl, trivial⟩ ⟨⟨Nat.le_refl _, by omega⟩, hF, hb7, hb1, h, hw, hq⟩ ?_
      clear hF hb7 hb1 h hw hq hfu
      rintro ku w1 ⟨⟨hku, hku2⟩, hF, hb7, hb1, h, hw, hq⟩
      refine WC.seq (WC.seq (WC.region (WL.move rfl rfl (WL.move rfl rfl (WL.len Try.underlying23 rfl rfl (?_))))))
      refine WL.lss? rfl rfl rfl (fun h144 => ?_) (fun h144 => ?_)
      ·
        refine WL.nil (WX.then_normal (WC.cond_true rfl (WC.skip (WX.then_normal (WC.seq (WC.block (WC.seq (?_))))))))
        refine WC.region (WL.move rfl rfl (WL.move rfl rfl (?_)))
        have hzq : (lf.dead ++ [zp, zp])[ku]? = some zp := by
          rw [List.getElem?_append_right hku]
          rcases Nat.lt_or_ge ku (lf.dead.length + 1) with h3 | h3
          ·
            rw [show ku - lf.dead.length = 0 from by omega]; rfl
          ·
            rw [show ku - lf.dead.length = 1 from by omega]; rfl
        refine WL.indexT (e := ept) Try.underlying23 Try.sizeOf27 hq rfl rfl ⟨hzq, rfl⟩ rfl ?_
        intro bb oo hcc
        refine WL.loads _ Try.isAgg27 Try.sizeOf27 rfl hcc rfl rfl (WL.bld rfl (bld_27_z) rfl (?_))
        refine WL.aneq (p := zp = zp) eqg_ptr (eq_ptr zp zp) rfl rfl rfl ?_
        rw [show decide (¬ (zp = zp)) = false from decide_eq_false (fun h => h rfl)]
        refine WL.nil (WX.then_normal (WC.cond_false rfl (WC.skip (WX.block_normal (WX.then_normal (WC.region (WL.move rfl rfl (?_))))))))
        refine WL.add64 rfl rfl (by first | omega | (constructor <;> omega)) rfl (WL.assign rfl rfl (WL.nil (?_)))
        first
          | exact WX.loop_next (kj + 1) ⟨rfl, rfl, rfl, rfl, rfl, rfl, rfl, trivial⟩ ⟨by omega, hA⟩ (by omega)
          | exact WX.loop_next (kk + 1) ⟨rfl, rfl, rfl, rfl, rfl, rfl, trivial⟩ ⟨by omega, hA⟩ (by omega)
          | exact WX.loop_next (ks + 1) ⟨rfl, rfl, rfl, rfl, rfl, rfl, trivial⟩ ⟨by omega, hA⟩ (by omega)
          | exact WX.loop_next (i + 1) ⟨rfl, rfl, rfl, rfl, rfl, trivial⟩ ⟨by omega, hA⟩ (by omega)
          | exact WX.loop_next (kf + 1) ⟨rfl, rfl, rfl, rfl, trivial⟩ ⟨by omega, hA⟩ (by omega)
          | exact WX.loop_next (ku + 1) ⟨rfl, rfl, rfl, rfl, trivial⟩ ⟨⟨by omega, by omega⟩, hF, hb7, hb1, h, hw, hq⟩ (by omega)
          | exact WX.loop_next (kv + 1) ⟨rfl, rfl, rfl, trivial⟩ ⟨by omega, hF, hb7, hb1, h, hw⟩ (by omega)
          | exact WX.loop_next (kt + 1) ⟨rfl, rfl, rfl, rfl, rfl, trivial⟩ ⟨⟨by omega, by omega⟩, hF, hb7, hb1, h, hw, hq2⟩ (by omega)
      ·
        refine WL.nil (WX.then_normal (WC.cond_false rfl (WC.exit (WX.then_exit (WX.then_exit (WX.block_here (WX.then_normal (?_))))))))
        refine WC.seq (WC.seq (WC.region (WL.assign rfl rfl (WL.nil (WX.then_normal (WC.block (?_)))))))
        refine WC.loop (σ := Nat) (fun k => [(3, gptr g_1), (7, gptr g7), (24, vi (k : Int))]) (fun k w' => k ≤ lf.snaps.length ∧ LF (· < n1) w' lf ∧ Blk w' g7 33 (lcells lf) ∧ Blk w' g_1 25 (lcells l) ∧ LS (· < w.heap.size) w' l ∧ Chg Nob w w') (fun k => lf.snaps.length - k) 0 ⟨rfl, rfl, rfl, trivial⟩ ⟨Nat.zero_le _, hF, hb7, hb1, h, hw⟩ ?_
        clear hF hb7 hb1 h hw hq
        rintro kv w1 ⟨hkv, hF, hb7, hb1, h, hw⟩
        refine WC.seq (WC.seq (WC.region (WL.move rfl rfl (WL.fieldAddr (fld_33_1) rfl rfl (WL.loadB Try.isAgg31 hb7 rfl rfl rfl (WL.len Try.underlying31 rfl rfl (?_)))))))
        refine WL.lss? rfl rfl rfl (fun h157 => ?_) (fun h157 => ?_)
        ·
          refine WL.nil (WX.then_normal (WC.cond_true rfl (WC.skip (WX.then_normal (WC.seq (WC.block (WC.seq (?_))))))))
          obtain ⟨x, hx⟩ : ∃ x, lf.snaps[kv]? = some x := ⟨_, List.getElem?_eq_getElem (by omega)⟩
          have hxm := List.mem_of_getElem? hx
          obtain ⟨sb, so, hsb⟩ := hF.snaps.rsl.place hx
          have hxc := (hF.inner x hxm).cap
          have hxd := hsf.inner x hxm
          obtain ⟨gx, hgx, -, -⟩ := (hF.inner x hxm).blk
          refine WC.draw (Nob) [0, 1, 2, 3, 4, 5, 6, 7, 8, 9, 10, 11, 12, 13, 14] [] mixed rfl rfl (fun wd_7 kd_7 zd_7 => ?_)
          have zs_kd_7 := kd_7.size
          replace hF := hF.pure kd_7
          replace hb7 := hb7.pure kd_7
          replace hb1 := hb1.pure kd_7
          replace h := h.pure kd_7
          replace hw := hw.pure kd_7
          apply DQ.step (E' := [(7, _)])
          case ho => rfl
          case hs => exact ⟨rfl, trivial⟩
          case hk => rfl
          case h1 =>
            intro wq_8 kq_8
            refine WL.fieldAddr (fld_33_1) rfl rfl (?_)
            refine WL.nil ?_
            exact WX.one ⟨rfl, by first | exact Chg.refl _ _ | assumption⟩
          apply DQ.step (E' := [(160, _)])
          case ho => rfl
          case hs => exact ⟨rfl, trivial⟩
          case hk => rfl
          case h1 =>
            intro wq_9 kq_9
            have zs_kq_9 := kq_9.size
            replace hF := hF.pure kq_9
            replace hb7 := hb7.pure kq_9
            replace hb1 := hb1.pure kq_9
            replace h := h.pure kq_9
            replace hw := hw.pure kq_9
            refine WL.loadB Try.isAgg31 hb7 rfl rfl rfl (?_)
            refine WL.nil ?_
            exact WX.one ⟨rfl, by first | exact Chg.refl _ _ | assumption⟩
          apply DQ.step (E' := [(24, _)])
          case ho => rfl
          case hs => exact ⟨rfl, trivial⟩
          case hk => rfl
          case h1 =>
            intro wq_10 kq_10
            refine WL.move rfl rfl (?_)
            refine WL.nil ?_
            exact WX.one ⟨rfl, by first | exact Chg.refl _ _ | assumption⟩
          apply DQ.step (E' := [(161, _), (162, _)])
          case ho => rfl
          case hs => exact ⟨rfl, rfl, trivial⟩
          case hk => rfl
          case h1 =>
            intro wq_11 kq_11
            have zs_kq_11 := kq_11.size
            replace hF := hF.pure kq_11
            replace hb7 := hb7.pure kq_11
            replace hb1 := hb1.pure kq_11
            replace h := h.pure kq_11
            replace hw := hw.pure kq_11
            have hR := hF.snaps.rsl
            rw [hsb] at hR
            refine WL.indexC (e := esn) hR Try.underlying31 Try.sizeOf65 (by show some (Value.slice lf.sao _ _) = _; rw [hsb]) rfl ⟨hx, rfl⟩ rfl ?_
            refine WL.nil ?_
            exact WX.one ⟨rfl, by first | exact Chg.refl _ _ | assumption⟩
          apply DQ.step (E' := [(163, _)])
          case ho => rfl
          case hs => exact ⟨rfl, trivial⟩
          case hk => rfl
          case h1 =>
            intro wq_12 kq_12
            refine WL.fieldAddr (fld_65_1) rfl rfl (?_)
            refine WL.nil ?_
            exact WX.one ⟨rfl, by first | exact Chg.refl _ _ | assumption⟩
          apply DQ.step (E' := [(164, _)])
          case ho => rfl
          case hs => exact ⟨rfl, trivial⟩
          case hk => rfl
          case h1 =>
            intro wq_13 kq_13
            have zs_kq_13 := kq_13.size
            replace hF := hF.pure kq_13
            replace hb7 := hb7.pure kq_13
            replace hb1 := hb1.pure kq_13
            replace h := h.pure kq_13
            replace hw := hw.pure kq_13
            have hR := hF.snaps.rsl
            rw [hsb] at hR
            refine WL.load Try.isAgg23 rfl (hR.cellsAt hx 1 _ rfl) rfl ?_
            refine WL.nil ?_
            exact WX.one ⟨rfl, by first | exact Chg.refl _ _ | assumption⟩
          apply DQ.step (E' := [(7, _)])
          case ho => rfl
          case hs => exact ⟨rfl, trivial⟩
          case hk => rfl
          case h1 =>
            intro wq_14 kq_14
            refine WL.fieldAddr (fld_33_1) rfl rfl (?_)
            refine WL.nil ?_
            exact WX.one ⟨rfl, by first | exact Chg.refl _ _ | assumption⟩
          apply DQ.step (E' := [(166, _)])
          case ho => rfl
          case hs => exact ⟨rfl, trivial⟩
          case hk => rfl
          case h1 =>
            intro wq_15 kq_15
            have zs_kq_15 := kq_15.size
            replace hF := hF.pure kq_15
            replace hb7 := hb7.pure kq_15
            replace hb1 := hb1.pure kq_15
            replace h := h.pure kq_15
            replace hw := hw.pure kq_15
            refine WL.loadB Try.isAgg31 hb7 rfl rfl rfl (?_)
            refine WL.nil ?_
            exact WX.one ⟨rfl, by first | exact Chg.refl _ _ | assumption⟩
          apply DQ.step (E' := [(24, _)])
          case ho => rfl
          case hs => exact ⟨rfl, trivial⟩
          case hk => rfl
          case h1 =>
            intro wq_16 kq_16
            refine WL.move rfl rfl (?_)
            refine WL.nil ?_
            exact WX.one ⟨rfl, by first | exact Chg.refl _ _ | assumption⟩
          apply DQ.step (E' := [(167, _), (168, _)])
          case ho => rfl
          case hs => exact ⟨rfl, rfl, trivial⟩
          case hk => rfl
          case h1 =>
            intro wq_17 kq_17
            have zs_kq_17 := kq_17.size
            replace hF := hF.pure kq_17
            replace hb7 := hb7.pure kq_17
            replace hb1 := hb1.pure kq_17
            replace h := h.pure kq_17
            replace hw := hw.pure kq_17
            have hR := hF.snaps.rsl
            rw [hsb] at hR
            refine WL.indexC (e := esn) hR Try.underlying31 Try.sizeOf65 (by show some (Value.slice lf.sao _ _) = _; rw [hsb]) rfl ⟨hx, rfl⟩ rfl ?_
            refine WL.nil ?_
            exact WX.one ⟨rfl, by first | exact Chg.refl _ _ | assumption⟩
          apply DQ.step (E' := [(169, _)])
          case ho => rfl
          case hs => exact ⟨rfl, trivial⟩
          case hk => rfl
          case h1 =>
            intro wq_18 kq_18
            refine WL.fieldAddr (fld_65_1) rfl rfl (?_)
            refine WL.nil ?_
            exact WX.one ⟨rfl, by first | exact Chg.refl _ _ | assumption⟩
          apply DQ.step (E' := [(170, _)])
          case ho => rfl
          case hs => exact ⟨rfl, trivial⟩
          case hk => rfl
          case h1 =>
            intro wq_19 kq_19
            have zs_kq_19 := kq_19.size
            replace hF := hF.pure kq_19
            replace hb7 := hb7.pure kq_19
            replace hb1 := hb1.pure kq_19
            replace h := h.pure kq_19
            replace hw := hw.pure kq_19
            have hR := hF.snaps.rsl
            rw [hsb] at hR
            refine WL.load Try.isAgg23 rfl (hR.cellsAt hx 1 _ rfl) rfl ?_
            refine WL.nil ?_
            exact WX.one ⟨rfl, by first | exact Chg.refl _ _ | assumption⟩
          apply DQ.step (E' := [(171, _)])
          case ho => rfl
          case hs => exact ⟨rfl, trivial⟩
          case hk => rfl
          case h1 =>
            intro wq_20 kq_20
            have zs_kq_20 := kq_20.size
            replace hF := hF.pure kq_20
            replace hb7 := hb7.pure kq_20
            replace hb1 := hb1.pure kq_20
            replace h := h.pure kq_20
            replace hw := hw.pure kq_20
            first
              | (refine WL.cap Try.underlying23 rfl rfl ?_
                 skip)
            refine WL.nil ?_
            exact WX.one ⟨rfl, by first | exact Chg.refl _ _ | assumption⟩
          apply DQ.step (E' := [(165, _), (172, _)])
          case ho => rfl
          case hs => exact ⟨rfl, rfl, trivial⟩
          case hk => rfl
          case h1 =>
            intro wq_21 kq_21
            have zs_kq_21 := kq_21.size
            replace hF := hF.pure kq_21
            replace hb7 := hb7.pure kq_21
            replace hb1 := hb1.pure kq_21
            replace h := h.pure kq_21
            replace hw := hw.pure kq_21
            refine WL.sliceN (l := 0) (h := x.cap) (k := .i64) Try.underlying23 Try.sizeOf27 rfl (.inr ⟨rfl, rfl⟩) (.inl ⟨rfl, Nat.le_refl _⟩) (Nat.zero_le _) rfl ?_
            refine WL.nil ?_
            exact WX.one ⟨rfl, by first | exact Chg.refl _ _ | assumption⟩
          apply DQ.step (E' := [(173, _)])
          case ho => rfl
          case hs => exact ⟨rfl, trivial⟩
          case hk => rfl
          case h1 =>
            intro wq_22 kq_22
            refine WL.assign rfl rfl (?_)
            refine WL.nil ?_
            exact WX.one ⟨rfl, by first | exact Chg.refl _ _ | assumption⟩
          refine DQ.done (fun _ => ?_)
          refine DL.done (fun we_23 ke_23 => ?_)
          have zs_ke_23 := ke_23.size
          replace hF := hF.pure ke_23
          replace hb7 := hb7.pure ke_23
          replace hb1 := hb1.pure ke_23
          replace h := h.pure ke_23
          replace hw := hw.pure ke_23
          refine WX.then_normal (WC.seq (WC.region (WL.fieldAddr (fld_33_1) rfl rfl (WL.loadB Try.isAgg31 hb7 rfl rfl rfl (WL.move rfl rfl (?_))))))
          refine WL.indexT (e := esn) Try.underlying31 Try.sizeOf65 hF.snaps.rsl rfl rfl ⟨hx, rfl⟩ rfl ?_
          intro bb oo hcc
          refine WL.fieldAddr (fld_65_1) rfl rfl (WL.load Try.isAgg23 rfl (hcc _ _ rfl) rfl (WL.len Try.underlying23 rfl rfl (WL.assign rfl rfl (WL.nil (WX.then_normal (WC.block (?_)))))))
          have hl2 : (x.dead ++ [zp, zp]).length = x.dead.length + 2 := by simp
          have hcut : cutAt x.ao x.cap 0 4 = x.ao := by rw [hgx]; unfold cutAt; split <;> simp [Addr.add_lit]
          have hq2 := (hF.inner x hxm).full
          refine WC.loop (σ := Nat) (fun k => [(3, gptr g_1), (7, gptr g7), (24, vi (kv : Int)), (25, .slice x.ao (x.dead ++ [zp, zp]).length x.cap), (26, vi (k : Int))]) (fun k w' => (x.dead.length ≤ k ∧ k ≤ x.dead.length + 2) ∧ LF (· < n1) w' lf ∧ Blk w' g7 33 (lcells lf) ∧ Blk w' g_1 25 (lcells l) ∧ LS (· < w.heap.size) w' l ∧ Chg Nob w w' ∧ RSl (· < n1) w' ept x.ao x.cap (x.dead ++ [zp, zp])) (fun k => x.dead.length + 2 - k) x.dead.length ⟨rfl, rfl, rfl, by show some (Value.slice (cutAt x.ao x.cap 0 4) (x.cap - 0) (x.cap - 0)) = _; rw [hcut, hl2, Nat.sub_zero, ← hxc], rfl, trivial⟩ ⟨⟨Nat.le_refl _, by omega⟩, hF, hb7, hb1, h, hw, hq2⟩ ?_
          clear hF hb7 hb1 h hw hq2
          rintro kt w1 ⟨⟨hkt, hkt2⟩, hF, hb7, hb1, h, hw, hq2⟩
          refine WC.seq (WC.seq (WC.region (WL.move rfl rfl (WL.move rfl rfl (WL.len Try.underlying23 rfl rfl (?_))))))
          refine WL.lss? rfl rfl rfl (fun h184 => ?_) (fun h184 => ?_)
          ·
            refine WL.nil (WX.then_normal (WC.cond_true rfl (WC.skip (WX.then_normal (WC.seq (WC.block (WC.seq (?_))))))))
            refine WC.region (WL.move rfl rfl (WL.move rfl rfl (?_)))
            have hzq : (x.dead ++ [zp, zp])[kt]? = some zp := by
              rw [List.getElem?_append_right hkt]
              rcases Nat.lt_or_ge kt (x.dead.length + 1) with h3 | h3
              ·
                rw [show kt - x.dead.length = 0 from by omega]; rfl
              ·
                rw [show kt - x.dead.length = 1 from by omega]; rfl
            refine WL.indexT (e := ept) Try.underlying23 Try.sizeOf27 hq2 rfl rfl ⟨hzq, rfl⟩ rfl ?_
            intro bb oo hcc
            refine WL.loads _ Try.isAgg27 Try.sizeOf27 rfl hcc rfl rfl (WL.bld rfl (bld_27_z) rfl (?_))
            refine WL.aneq (p := zp = zp) eqg_ptr (eq_ptr zp zp) rfl rfl rfl ?_
            rw [show decide (¬ (zp = zp)) = false from decide_eq_false (fun h => h rfl)]
            refine WL.nil (WX.then_normal (WC.cond_false rfl (WC.skip (WX.block_normal (WX.then_normal (WC.region (WL.move rfl rfl (?_))))))))
            refine WL.add64 rfl rfl (by first | omega | (constructor <;> omega)) rfl (WL.assign rfl rfl (WL.nil (?_)))
            first
              | exact WX.loop_next (kj + 1) ⟨rfl, rfl, rfl, rfl, rfl, rfl, rfl, trivial⟩ ⟨by omega, hA⟩ (by omega)
              | exact WX.loop_next (kk + 1) ⟨rfl, rfl, rfl, rfl, rfl, rfl, trivial⟩ ⟨by omega, hA⟩ (by omega)
              | exact WX.loop_next (ks + 1) ⟨rfl, rfl, rfl, rfl, rfl, rfl, trivial⟩ ⟨by omega, hA⟩ (by omega)
              | exact WX.loop_next (i + 1) ⟨rfl, rfl, rfl, rfl, rfl, trivial⟩ ⟨by omega, hA⟩ (by omega)
              | exact WX.loop_next (kf + 1) ⟨rfl, rfl, rfl, rfl, trivial⟩ ⟨by omega, hA⟩ (by omega)
              | exact WX.loop_next (ku + 1) ⟨rfl, rfl, rfl, rfl, trivial⟩ ⟨⟨by omega, by omega⟩, hF, hb7, hb1, h, hw, hq⟩ (by omega)
              | exact WX.loop_next (kv + 1) ⟨rfl, rfl, rfl, trivial⟩ ⟨by omega, hF, hb7, hb1, h, hw⟩ (by omega)
              | exact WX.loop_next (kt + 1) ⟨rfl, rfl, rfl, rfl, rfl, trivial⟩ ⟨⟨by omega, by omega⟩, hF, hb7, hb1, h, hw, hq2⟩ (by omega)
          ·
            refine WL.nil (WX.then_normal (WC.cond_false rfl (WC.exit (WX.then_exit (WX.then_exit (WX.block_here (WX.block_normal (?_))))))))
            refine WX.then_normal (WC.region (WL.move rfl rfl (WL.add64 rfl rfl (by first | omega | (constructor <;> omega)) rfl (WL.assign rfl rfl (WL.nil (?_))))))
            first
              | exact WX.loop_next (kj + 1) ⟨rfl, rfl, rfl, rfl, rfl, rfl, rfl, trivial⟩ ⟨by omega, hA⟩ (by omega)
              | exact WX.loop_next (kk + 1) ⟨rfl, rfl, rfl, rfl, rfl, rfl, trivial⟩ ⟨by omega, hA⟩ (by omega)
              | exact WX.loop_next (ks + 1) ⟨rfl, rfl, rfl, rfl, rfl, rfl, trivial⟩ ⟨by omega, hA⟩ (by omega)
              | exact WX.loop_next (i + 1) ⟨rfl, rfl, rfl, rfl, rfl, trivial⟩ ⟨by omega, hA⟩ (by omega)
              | exact WX.loop_next (kf + 1) ⟨rfl, rfl, rfl, rfl, trivial⟩ ⟨by omega, hA⟩ (by omega)
              | exact WX.loop_next (ku + 1) ⟨rfl, rfl, rfl, rfl, trivial⟩ ⟨⟨by omega, by omega⟩, hF, hb7, hb1, h, hw, hq⟩ (by omega)
              | exact WX.loop_next (kv + 1) ⟨rfl, rfl, rfl, trivial⟩ ⟨by omega, hF, hb7, hb1, h, hw⟩ (by omega)
              | exact WX.loop_next (kt + 1) ⟨rfl, rfl, rfl, rfl, rfl, trivial⟩ ⟨⟨by omega, by omega⟩, hF, hb7, hb1, h, hw, hq2⟩ (by omega)
        ·
          refine WL.nil (WX.then_normal (WC.cond_false rfl (WC.exit (WX.then_exit (WX.then_exit (WX.block_here (WX.then_normal (?_))))))))
          refine WC.seq (?_)
          refine WC.drawP (Nob) [0, 2] [(1, []), (3, [4])] mixed rfl rfl (fun wd_7 kd_7 zd_7 => ?_)
          have zs_kd_7 := kd_7.size
          replace hF := hF.pure kd_7
          replace hb7 := hb7.pure kd_7
          replace hb1 := hb1.pure kd_7
          replace h := h.pure kd_7
          replace hw := hw.pure kd_7
          apply DPQ.step (E' := [(7, _)])
          case ho => rfl
          case hs => exact ⟨rfl, trivial⟩
          case hk => rfl
          case h1 =>
            intro wq_8 kq_8
            have zs_kq_8 := kq_8.size
            replace hF := hF.pure kq_8
            replace hb7 := hb7.pure kq_8
            replace hb1 := hb1.pure kq_8
            replace h := h.pure kq_8
            replace hw := hw.pure kq_8
            refine WL.loadsB Try.isAgg33 Try.sizeOf33 hb7 rfl (by first | (simp; done) | (simp; omega) | rfl) rfl (?_)
            refine WL.nil ?_
            exact WX.one ⟨rfl, by first | exact Chg.refl _ _ | assumption⟩
          apply DPQ.step (E' := [(3, _)])
          case ho => rfl
          case hs => exact ⟨rfl, trivial⟩
          case hk => rfl
          case h1 =>
            intro wq_9 kq_9
            have zs_kq_9 := kq_9.size
            replace hF := hF.pure kq_9
            replace hb7 := hb7.pure kq_9
            replace hb1 := hb1.pure kq_9
            replace h := h.pure kq_9
            replace hw := hw.pure kq_9
            refine WL.loadsB Try.isAgg25 Try.sizeOf25 hb1 rfl (by first | (simp; done) | (simp; omega) | rfl) rfl (?_)
            refine WL.nil ?_
            exact WX.one ⟨rfl, by first | exact Chg.refl _ _ | assumption⟩
          refine DPQ.done ?_
          refine DPR.step [(193, _)] rfl ⟨rfl, trivial⟩ rfl (fun wq_10 kq_10 => ?_)
          have zs_kq_10 := kq_10.size
          replace hF := hF.pure kq_10
          replace hb7 := hb7.pure kq_10
          replace hb1 := hb1.pure kq_10
          replace h := h.pure kq_10
          replace hw := hw.pure kq_10
          have hd_10 := Chg.refl (Nob) wq_10
          refine WL.call eg_15 rfl rfl (back_calls hF.ls (hsf.up (by decide))) ?_
          rintro v w9 ⟨⟨l5, rfl, hL5, ha5⟩, k9⟩
          have zs_k9 := k9.size
          replace hF := hF.pure k9
          replace hb7 := hb7.pure k9
          replace hb1 := hb1.pure k9
          replace h := h.pure k9
          replace hw := hw.pure k9
          replace hd_10 := hd_10.pure k9
          refine WL.nil ?_
          refine WX.one ⟨hd_10, ?_⟩
          refine DPQ.done ?_
          refine DPR.step [(194, _), (195, _)] rfl ⟨rfl, rfl, trivial⟩ rfl (fun wq_11 kq_11 => ?_)
          have zs_kq_11 := kq_11.size
          replace hF := hF.pure kq_11
          replace hb7 := hb7.pure kq_11
          replace hb1 := hb1.pure kq_11
          replace h := h.pure kq_11
          replace hw := hw.pure kq_11
          replace hL5 := hL5.pure kq_11
          have hd_11 := Chg.refl (Nob) wq_11
          refine WL.call eg_14 rfl rfl (sameline_calls hL5 h (((ha5.trans ha) ▸ hs6.sma : SmA 60 l5.abs).sm)) ?_
          rintro v w10 ⟨⟨b, rfl, hb⟩, k10⟩
          have zs_k10 := k10.size
          replace hF := hF.pure k10
          replace hb7 := hb7.pure k10
          replace hb1 := hb1.pure k10
          replace h := h.pure k10
          replace hw := hw.pure k10
          replace hL5 := hL5.pure k10
          replace hd_11 := hd_11.pure k10
          obtain rfl := hb.2 (ha5.trans ha)
          refine WL.nil ?_
          refine WX.one ⟨hd_11, ?_⟩
          apply DPQ.step (E' := [(196, _)])
          case ho => rfl
          case hs => exact ⟨rfl, trivial⟩
          case hk => rfl
          case h1 =>
            intro wq_12 kq_12
            refine WL.assign rfl rfl (?_)
            refine WL.nil ?_
            exact WX.one ⟨rfl, by first | exact Chg.refl _ _ | assumption⟩
          refine DPQ.done ?_
          refine DPR.done (fun we_13 ke_13 => ?_)
          have zs_ke_13 := ke_13.size
          replace hF := hF.pure ke_13
          replace hb7 := hb7.pure ke_13
          replace hb1 := hb1.pure ke_13
          replace h := h.pure ke_13
          replace hw := hw.pure ke_13
          replace hL5 := hL5.pure ke_13
          refine WX.then_normal (WC.ret (?_))
          refine WX.ret1 (.inl rfl) Try.results6 rfl ?_
          exact ⟨_, rfl, rfl, hw⟩
end Go.Proofs.Ytgmkoieemmglpaa
