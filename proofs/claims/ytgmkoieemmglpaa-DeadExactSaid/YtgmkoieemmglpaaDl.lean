import Derived.Test.YtgmkoieemmglpaaDg
namespace Go.Proofs.Ytgmkoieemmglpaa
open Go.RowKit Go.HL

/-! what is known at once -/
def p0 : PtV := ⟨5, 0, 1, ⟨#[]⟩⟩
def p3 : PtV := ⟨0, 0, 3, ⟨#[]⟩⟩
def L0 : LA := ⟨0, [], []⟩
def L1 : LA := ⟨0, [(2, [])], []⟩
def L2 : LA := ⟨0, [(2, [])], [p0]⟩
theorem right0 : L0.Right := ⟨Int.le_refl _, (fun p hp => by cases hp), (fun i x hx => by simp [L0] at hx)⟩
theorem snap1 (L : LA) (hb : L.base = 0) (hs : L.snaps = [(2, [])]) (hd : ∀ p ∈ L.dead, p.b ≤ 2) : L.Right := by
  refine ⟨by omega, fun p hp => ?_, fun i x hx => ?_⟩
  · rw [hs]
    show p.b ≤ L.ahead 1
    rw [LA.ahead, if_neg (by decide), hs]
    exact hd p hp
  · rw [hs] at hx
    match i, hx with
    | 0, hx =>
      injection hx with hx
      subst hx
      refine ⟨?_, fun p hp => by cases hp⟩
      rw [LA.ahead, if_pos rfl, hb]
      decide
    | i + 1, hx => simp at hx
theorem right1 : L1.Right := snap1 L1 rfl rfl (fun p hp => by cases hp)
theorem right2 : L2.Right := snap1 L2 rfl rfl (fun p hp => by simp [L2] at hp; rw [hp]; decide)
theorem known_snap {L : LA} {e : Int} (h : SnapR L0 2 L e) : L = L1 ∧ e = 0 := by
  rcases h with ⟨h, _⟩ | ⟨_, h, _⟩ | ⟨_, _, h, e⟩
  · exact absurd right0 h
  · exact absurd h (by decide)
  · exact ⟨h, e⟩
theorem known_kill {L : LA} {b : Bool} {e : Int} (h : KillR L1 p0 L b e) : L = L2 ∧ b = false ∧ e = 0 := by
  rcases h with ⟨h, _⟩ | ⟨_, h, _⟩ | ⟨_, _, h, e⟩
  · exact absurd right1 h
  · exact absurd h (by decide)
  · exact ⟨h, e⟩
theorem known_young {L : LA} {b : Bool} {e : Int} (h : KillR L1 p3 L b e) : b = true ∧ e = 0 := by
  rcases h with ⟨h, _⟩ | ⟨_, _, _, h⟩ | ⟨_, h, _⟩
  · exact absurd right1 h
  · exact h
  · exact absurd h (by decide)
theorem known_dest {L : LA} {fr : List PtV} {e : Int} (h : DestR L2 0 L fr e) : fr = [p0] ∧ e = 0 := by
  rcases h with ⟨h, _⟩ | ⟨_, h, _⟩ | ⟨_, _, _, h, e⟩
  · exact absurd right2 h
  · exact absurd h (by decide)
  · refine ⟨h.trans ?_, e⟩
    show [p0].filter (fun p => decide (L2.ahead 0 < p.b)) = [p0]
    rfl
theorem small_abs {l : LnV} {L : LA} (h : l.abs = L) (hs : L.snaps.length ≤ 10) (hd : L.dead.length ≤ 10) (hi : ∀ y ∈ L.snaps, y.2.length ≤ 10) : Sm 0 l ∧ l.dead.length ≤ 1700000000000 ∧ ∀ x ∈ l.snaps, x.dead.length ≤ 1700000000000 := by
  have h1 : l.snaps.length = L.snaps.length := by rw [← h]; exact (sabs_len _).symm
  have h2 : l.dead.length = L.dead.length := by rw [← h]; rfl
  have h3 : ∀ x ∈ l.snaps, x.dead.length ≤ 10 := fun x hx => by
    have : (x.txg, x.dead) ∈ L.snaps := by rw [← h]; exact List.mem_map.2 ⟨x, hx, rfl⟩
    exact hi _ this
  exact ⟨⟨by omega, by omega, fun x hx => by have := h3 x hx; omega⟩, by omega, fun x hx => by have := h3 x hx; omega⟩
theorem Sm.up {k m : Nat} {l : LnV} (h : Sm k l) (hk : k ≤ m) : Sm m l := ⟨by have := h.snaps; omega, by have := h.dead; omega, fun x hx => by have := h.inner x hx; omega⟩
set_option maxHeartbeats 4000000 in
theorem known_calls (w : World) : Calls Try.prog 8 [].toArray w (Ret fun v w' => v = .bool true ∧ Chg Nob w w') := by
  have hw := Chg.refl Nob w
  refine Calls.of_WC Try.func8 rfl Try.ntmps8 (by simp) ?_
  refine WC.seq (WC.region (WL.assign rfl rfl (WL.nil (WX.then_normal (WC.seq (WC.region (WL.bld rfl (bld_33_z) rfl (?_))))))))
  have hz : LS (fun _ => False) _ (⟨0, none, 0, [], none, 0, []⟩ : LnV) := ⟨RSl.nil _ w _ _ _, RSl.nil _ w _ _ _, fun x hx => by cases hx⟩
  refine WL.call eg_17 rfl rfl (Snapshot_calls hz ⟨Nat.zero_le _, Nat.zero_le _, fun x hx => by cases hx⟩ 2) ?_
  rintro v w1 ⟨⟨l1, e1, rfl, hR1, hO1⟩, k1⟩
  obtain ⟨ha1, rfl⟩ := known_snap hR1
  obtain ⟨hs1, -⟩ := small_abs ha1 (by decide) (by decide) (by decide)
  have zs_k1 := k1.size
  replace hw := hw.pure k1
  have h1 := hO1.ls.old
  refine WL.move rfl rfl (WL.extract rfl rfl rfl (WL.extract rfl rfl rfl (?_)))
  refine WL.alloc Try.zeroValue33 rfl ?_
  intro g_1 w_1 hge_1 hlt_1 hb_1 k_1
  have zs_k_1 := k_1.size
  replace hw := hw.pure k_1
  replace h1 := h1.pure k_1
  refine WL.stores Try.sizeOf33 hb_1 rfl rfl (by first | (simp; done) | (simp; omega) | rfl) (by first | exact Enc.one _ _ | (intro u hu; obtain ⟨x, _, rfl⟩ := List.mem_map.1 hu; rfl) | (simp [Value.oneCell']; done) | (simp [Value.oneCell', Value.cells]; done)) (by first | (simp; done) | (simp; omega) | (simp [Value.cells]; done) | (simp [Value.cells]; omega) | exact Nat.le_of_ble_eq_true rfl) rfl ?_
  intro w_2 hs_2 hn_2 k_2
  have zs_k_2 := k_2.size
  replace hw := hw.chg k_2 (by first | (intro x h1 h2; have h3 : _ = _ := h2; exfalso; omega) | (intro b h1 h2 h3; have h4 : _ = _ := h3; (try dsimp only at h2); exfalso; omega) | (intro h1; have h2 : _ = _ := h1; exfalso; omega))
  replace h1 := h1.chg k_2 (by first | (intro x h1 h2; have h3 : _ = _ := h2; exfalso; omega) | (intro b h1 h2 h3; have h4 : _ = _ := h3; (try dsimp only at h2); exfalso; omega) | (intro h1; have h2 : _ = _ := h1; exfalso; omega))
  replace hb_1 := hn_2
  refine WL.assign rfl rfl (WL.nil (WX.then_normal (WC.seq (WC.region (WL.bld rfl (bld_27_0_2 _ _) rfl (?_))))))
  refine WL.alloc Try.zeroValue27 rfl ?_
  intro g_3 w_3 hge_3 hlt_3 hb_3 k_3
  have zs_k_3 := k_3.size
  replace hw := hw.pure k_3
  replace h1 := h1.pure k_3
  replace hb_1 := hb_1.pure k_3
  refine WL.stores Try.sizeOf27 hb_3 rfl rfl (by first | (simp; done) | (simp; omega) | rfl) (by first | exact Enc.one _ _ | (intro u hu; obtain ⟨x, _, rfl⟩ := List.mem_map.1 hu; rfl) | (simp [Value.oneCell']; done) | (simp [Value.oneCell', Value.cells]; done)) (by first | (simp; done) | (simp; omega) | (simp [Value.cells]; done) | (simp [Value.cells]; omega) | exact Nat.le_of_ble_eq_true rfl) rfl ?_
  intro w_4 hs_4 hn_4 k_4
  have zs_k_4 := k_4.size
  replace hw := hw.chg k_4 (by first | (intro x h1 h2; have h3 : _ = _ := h2; exfalso; omega) | (intro b h1 h2 h3; have h4 : _ = _ := h3; (try dsimp only at h2); exfalso; omega) | (intro h1; have h2 : _ = _ := h1; exfalso; omega))
  replace h1 := h1.chg k_4 (by first | (intro x h1 h2; have h3 : _ = _ := h2; exfalso; omega) | (intro b h1 h2 h3; have h4 : _ = _ := h3; (try dsimp only at h2); exfalso; omega) | (intro h1; have h2 : _ = _ := h1; exfalso; omega))
  replace hb_1 := hb_1.chg k_4 (by first | (intro x h1 h2; have h3 : _ = _ := h2; exfalso; omega) | (intro b h1 h2 h3; have h4 : _ = _ := h3; (try dsimp only at h2); exfalso; omega) | (intro h1; have h2 : _ = _ := h1; exfalso; omega))
  replace hb_3 := hn_4
  refine WL.nil (WX.then_normal (WC.seq (WC.region (WL.loadsB Try.isAgg33 Try.sizeOf33 hb_1 rfl (by first | (simp; done) | (simp; omega) | rfl) rfl (WL.loadsB Try.isAgg27 Try.sizeOf27 hb_3 rfl (by first | (simp; done) | (simp; omega) | rfl) rfl (?_))))))
  refine WL.call eg_13 rfl rfl (Kill_calls h1 (hs1.up (by decide)) p0) ?_
  rintro v w2 ⟨⟨l2, b2, e2, rfl, hR2, hO2⟩, k2⟩
  rw [ha1] at hR2
  obtain ⟨ha2, rfl, rfl⟩ := known_kill hR2
  obtain ⟨hs2, hz2⟩ := small_abs ha2 (by decide) (by decide) (by decide)
  have zs_k2 := k2.size
  replace hw := hw.pure k2
  replace h1 := h1.pure k2
  replace hb_1 := hb_1.pure k2
  replace hb_3 := hb_3.pure k2
  have h2 := hO2.ls.old
  refine WL.move rfl rfl (WL.extract rfl rfl rfl (?_))
  refine WL.extract rfl rfl rfl ?_
  refine WL.extract rfl rfl rfl (?_)
  refine WL.alloc Try.zeroValue33 rfl ?_
  intro g_5 w_5 hge_5 hlt_5 hb_5 k_5
  have zs_k_5 := k_5.size
  replace hw := hw.pure k_5
  replace h1 := h1.pure k_5
  replace hb_1 := hb_1.pure k_5
  replace hb_3 := hb_3.pure k_5
  replace h2 := h2.pure k_5
  refine WL.stores Try.sizeOf33 hb_5 rfl rfl (by first | (simp; done) | (simp; omega) | rfl) (by first | exact Enc.one _ _ | (intro u hu; obtain ⟨x, _, rfl⟩ := List.mem_map.1 hu; rfl) | (simp [Value.oneCell']; done) | (simp [Value.oneCell', Value.cells]; done)) (by first | (simp; done) | (simp; omega) | (simp [Value.cells]; done) | (simp [Value.cells]; omega) | exact Nat.le_of_ble_eq_true rfl) rfl ?_
  intro w_6 hs_6 hn_6 k_6
  have zs_k_6 := k_6.size
  replace hw := hw.chg k_6 (by first | (intro x h1 h2; have h3 : _ = _ := h2; exfalso; omega) | (intro b h1 h2 h3; have h4 : _ = _ := h3; (try dsimp only at h2); exfalso; omega) | (intro h1; have h2 : _ = _ := h1; exfalso; omega))
  replace h1 := h1.chg k_6 (by first | (intro x h1 h2; have h3 : _ = _ := h2; exfalso; omega) | (intro b h1 h2 h3; have h4 : _ = _ := h3; (try dsimp only at h2); exfalso; omega) | (intro h1; have h2 : _ = _ := h1; exfalso; omega))
  replace hb_1 := hb_1.chg k_6 (by first | (intro x h1 h2; have h3 : _ = _ := h2; exfalso; omega) | (intro b h1 h2 h3; have h4 : _ = _ := h3; (try dsimp only at h2); exfalso; omega) | (intro h1; have h2 : _ = _ := h1; exfalso; omega))
  replace hb_3 := hb_3.chg k_6 (by first | (intro x h1 h2; have h3 : _ = _ := h2; exfalso; omega) | (intro b h1 h2 h3; have h4 : _ = _ := h3; (try dsimp only at h2); exfalso; omega) | (intro h1; have h2 : _ = _ := h1; exfalso; omega))
  replace h2 := h2.chg k_6 (by first | (intro x h1 h2; have h3 : _ = _ := h2; exfalso; omega) | (intro b h1 h2 h3; have h4 : _ = _ := h3; (try dsimp only at h2); exfalso; omega) | (intro h1; have h2 : _ = _ := h1; exfalso; omega))
  replace hb_5 := hn_6
  refine WL.assign rfl rfl (WL.assign rfl rfl (WL.nil (WX.then_normal (WC.seq (WC.region (WL.loadsB Try.isAgg33 Try.sizeOf33 hb_5 rfl (by first | (simp; done) | (simp; omega) | rfl) rfl (?_)))))))
  refine WL.call eg_19 rfl rfl (Destroy_calls h2 (hs2.up (by decide)) 0 (by decide) hz2) ?_
  rintro v w3 ⟨⟨l3, fao, fc, fr, e3, rfl, hR3, -, hfr⟩, k3⟩
  rw [ha2] at hR3
  obtain ⟨rfl, rfl⟩ := known_dest hR3
  have zs_k3 := k3.size
  replace hw := hw.pure k3
  replace h1 := h1.pure k3
  replace hb_1 := hb_1.pure k3
  replace hb_3 := hb_3.pure k3
  replace h2 := h2.pure k3
  replace hb_5 := hb_5.pure k3
  replace hfr := hfr.old
  refine WL.move rfl rfl (WL.extract rfl rfl rfl (WL.extract rfl rfl rfl (WL.extract rfl rfl rfl (?_))))
  refine WL.alloc Try.zeroValue33 rfl ?_
  intro g_7 w_7 hge_7 hlt_7 hb_7 k_7
  have zs_k_7 := k_7.size
  replace hw := hw.pure k_7
  replace h1 := h1.pure k_7
  replace hb_1 := hb_1.pure k_7
  replace hb_3 := hb_3.pure k_7
  replace h2 := h2.pure k_7
  replace hb_5 := hb_5.pure k_7
  replace hfr := hfr.pure k_7
  refine WL.stores Try.sizeOf33 hb_7 rfl rfl (by first | (simp; done) | (simp; omega) | rfl) (by first | exact Enc.one _ _ | (intro u hu; obtain ⟨x, _, rfl⟩ := List.mem_map.1 hu; rfl) | (simp [Value.oneCell']; done) | (simp [Value.oneCell', Value.cells]; done)) (by first | (simp; done) | (simp; omega) | (simp [Value.cells]; done) | (simp [Value.cells]; omega) | exact Nat.le_of_ble_eq_true rfl) rfl ?_
  intro w_8 hs_8 hn_8 k_8
  have zs_k_8 := k_8.size
  replace hw := hw.chg k_8 (by first | (intro x h1 h2; have h3 : _ = _ := h2; exfalso; omega) | (intro b h1 h2 h3; have h4 : _ = _ := h3; (try dsimp only at h2); exfalso; omega) | (intro h1; have h2 : _ = _ := h1; exfalso; omega))
  replace h1 := h1.chg k_8 (by first | (intro x h1 h2; have h3 : _ = _ := h2; exfalso; omega) | (intro b h1 h2 h3; have h4 : _ = _ := h3; (try dsimp only at h2); exfalso; omega) | (intro h1; have h2 : _ = _ := h1; exfalso; omega))
  replace hb_1 := hb_1.chg k_8 (by first | (intro x h1 h2; have h3 : _ = _ := h2; exfalso; omega) | (intro b h1 h2 h3; have h4 : _ = _ := h3; (try dsimp only at h2); exfalso; omega) | (intro h1; have h2 : _ = _ := h1; exfalso; omega))
  replace hb_3 := hb_3.chg k_8 (by first | (intro x h1 h2; have h3 : _ = _ := h2; exfalso; omega) | (intro b h1 h2 h3; have h4 : _ = _ := h3; (try dsimp only at h2); exfalso; omega) | (intro h1; have h2 : _ = _ := h1; exfalso; omega))
  replace h2 := h2.chg k_8 (by first | (intro x h1 h2; have h3 : _ = _ := h2; exfalso; omega) | (intro b h1 h2 h3; have h4 : _ = _ := h3; (try dsimp only at h2); exfalso; omega) | (intro h1; have h2 : _ = _ := h1; exfalso; omega))
  replace hb_5 := hb_5.chg k_8 (by first | (intro x h1 h2; have h3 : _ = _ := h2; exfalso; omega) | (intro b h1 h2 h3; have h4 : _ = _ := h3; (try dsimp only at h2); exfalso; omega) | (intro h1; have h2 : _ = _ := h1; exfalso; omega))
  replace hfr := hfr.chg k_8 (by first | (intro x h1 h2; have h3 : _ = _ := h2; exfalso; omega) | (intro b h1 h2 h3; have h4 : _ = _ := h3; (try dsimp only at h2); exfalso; omega) | (intro h1; have h2 : _ = _ := h1; exfalso; omega))
  replace hb_7 := hn_8
  refine WL.assign rfl rfl (WL.assign rfl rfl (WL.nil (WX.then_normal (WC.seq (WC.region (WL.loadsB Try.isAgg33 Try.sizeOf33 hb_1 rfl (by first | (simp; done) | (simp; omega) | rfl) rfl (WL.bld rfl (bld_27_2 _) rfl (?_))))))))
  refine WL.call eg_13 rfl rfl (Kill_calls h1 (hs1.up (by decide)) p3) ?_
  rintro v w4 ⟨⟨l4, b4, e4, rfl, hR4, -⟩, k4⟩
  rw [ha1] at hR4
  obtain ⟨rfl, rfl⟩ := known_young hR4
  have zs_k4 := k4.size
  replace hw := hw.pure k4
  replace h1 := h1.pure k4
  replace hb_1 := hb_1.pure k4
  replace hb_3 := hb_3.pure k4
  replace h2 := h2.pure k4
  replace hb_5 := hb_5.pure k4
  replace hfr := hfr.pure k4
  replace hb_7 := hb_7.pure k4
  refine WL.move rfl rfl (WL.extract rfl rfl rfl (?_))
  refine WL.extract rfl rfl rfl ?_
  refine WL.extract rfl rfl rfl (?_)
  refine WL.alloc Try.zeroValue33 rfl ?_
  intro g_9 w_9 hge_9 hlt_9 hb_9 k_9
  have zs_k_9 := k_9.size
  replace hw := hw.pure k_9
  replace h1 := h1.pure k_9
  replace hb_1 := hb_1.pure k_9
  replace hb_3 := hb_3.pure k_9
  replace h2 := h2.pure k_9
  replace hb_5 := hb_5.pure k_9
  replace hfr := hfr.pure k_9
  replace hb_7 := hb_7.pure k_9
  refine WL.stores Try.sizeOf33 hb_9 rfl rfl (by first | (simp; done) | (simp; omega) | rfl) (by first | exact Enc.one _ _ | (intro u hu; obtain ⟨x, _, rfl⟩ := List.mem_map.1 hu; rfl) | (simp [Value.oneCell']; done) | (simp [Value.oneCell', Value.cells]; done)) (by first | (simp; done) | (simp; omega) | (simp [Value.cells]; done) | (simp [Value.cells]; omega) | exact Nat.le_of_ble_eq_true rfl) rfl ?_
  intro w_10 hs_10 hn_10 k_10
  have zs_k_10 := k_10.size
  replace hw := hw.chg k_10 (by first | (intro x h1 h2; have h3 : _ = _ := h2; exfalso; omega) | (intro b h1 h2 h3; have h4 : _ = _ := h3; (try dsimp only at h2); exfalso; omega) | (intro h1; have h2 : _ = _ := h1; exfalso; omega))
  replace h1 := h1.chg k_10 (by first | (intro x h1 h2; have h3 : _ = _ := h2; exfalso; omega) | (intro b h1 h2 h3; have h4 : _ = _ := h3; (try dsimp only at h2); exfalso; omega) | (intro h1; have h2 : _ = _ := h1; exfalso; omega))
  replace hb_1 := hb_1.chg k_10 (by first | (intro x h1 h2; have h3 : _ = _ := h2; exfalso; omega) | (intro b h1 h2 h3; have h4 : _ = _ := h3; (try dsimp only at h2); exfalso; omega) | (intro h1; have h2 : _ = _ := h1; exfalso; omega))
  replace hb_3 := hb_3.chg k_10 (by first | (intro x h1 h2; have h3 : _ = _ := h2; exfalso; omega) | (intro b h1 h2 h3; have h4 : _ = _ := h3; (try dsimp only at h2); exfalso; omega) | (intro h1; have h2 : _ = _ := h1; exfalso; omega))
  replace h2 := h2.chg k_10 (by first | (intro x h1 h2; have h3 : _ = _ := h2; exfalso; omega) | (intro b h1 h2 h3; have h4 : _ = _ := h3; (try dsimp only at h2); exfalso; omega) | (intro h1; have h2 : _ = _ := h1; exfalso; omega))
  replace hb_5 := hb_5.chg k_10 (by first | (intro x h1 h2; have h3 : _ = _ := h2; exfalso; omega) | (intro b h1 h2 h3; have h4 : _ = _ := h3; (try dsimp only at h2); exfalso; omega) | (intro h1; have h2 : _ = _ := h1; exfalso; omega))
  replace hfr := hfr.chg k_10 (by first | (intro x h1 h2; have h3 : _ = _ := h2; exfalso; omega) | (intro b h1 h2 h3; have h4 : _ = _ := h3; (try dsimp only at h2); exfalso; omega) | (intro h1; have h2 : _ = _ := h1; exfalso; omega))
  replace hb_7 := hb_7.chg k_10 (by first | (intro x h1 h2; have h3 : _ = _ := h2; exfalso; omega) | (intro b h1 h2 h3; have h4 : _ = _ := h3; (try dsimp only at h2); exfalso; omega) | (intro h1; have h2 : _ = _ := h1; exfalso; omega))
  replace hb_9 := hn_10
  refine WL.assign rfl rfl (WL.assign rfl rfl (WL.nil (WX.then_normal (WC.seq (WC.region (WL.move rfl rfl (?_)))))))
  refine WL.eqlT rfl rfl rfl (by first | rfl | omega | decide) ?_
  refine WL.move rfl rfl (WL.want rfl rfl rfl (WL.move rfl rfl (WL.want rfl rfl rfl (?_))))
  refine WL.eqlT rfl rfl rfl (by first | rfl | omega | decide) ?_
  refine WL.pickT rfl rfl rfl (WL.move rfl rfl (WL.want rfl rfl rfl (WL.move rfl rfl (WL.want rfl rfl rfl (?_)))))
  refine WL.eqlT rfl rfl rfl (by first | rfl | omega | decide) ?_
  refine WL.pickT rfl rfl rfl (WL.move rfl rfl (WL.want rfl rfl rfl (WL.move rfl rfl (WL.want rfl rfl rfl (?_)))))
  refine WL.eqlT rfl rfl rfl (by first | rfl | omega | decide) ?_
  refine WL.pickT rfl rfl rfl (WL.move rfl rfl (WL.want rfl rfl rfl (WL.move rfl rfl (WL.want rfl rfl rfl (WL.not rfl rfl (WL.pickT rfl rfl rfl (WL.move rfl rfl (?_))))))))
  refine WL.want rfl rfl rfl (WL.move rfl rfl (WL.pickT rfl rfl rfl (WL.move rfl rfl (WL.want rfl rfl rfl (WL.move rfl rfl (WL.want rfl rfl rfl (WL.loadsB Try.isAgg27 Try.sizeOf27 hb_3 rfl (by first | (simp; done) | (simp; omega) | rfl) rfl (?_))))))))
  refine WL.want rfl rfl rfl (?_)
  refine WL.build (e := ept) [p0] Try.underlying23 Try.sizeOf27 Try.zeroValue27 rfl rfl rfl (by first | (simp [Value.cells]; done) | (simp [Value.cells] <;> rfl) | (simp [Value.cells, eb, ei, es, ebool, e32, e64]; done)) (by decide) rfl ?_
  intro a_hq w_hq hq l_hq z_hq k_hq
  have zs_k_hq := k_hq.size
  replace hw := hw.pure k_hq
  replace h1 := h1.pure k_hq
  replace hb_1 := hb_1.pure k_hq
  replace hb_3 := hb_3.pure k_hq
  replace h2 := h2.pure k_hq
  replace hb_5 := hb_5.pure k_hq
  replace hfr := hfr.pure k_hq
  replace hb_7 := hb_7.pure k_hq
  replace hb_9 := hb_9.pure k_hq
  refine WL.want rfl rfl rfl (?_)
  refine WL.call eg_20 rfl rfl (same_calls hfr hq.rsl (by decide)) ?_
  rintro v w5 ⟨rfl, k5⟩
  rw [show decide (([p0] : List PtV) = [p0]) = true from decide_eq_true rfl]
  have zs_k5 := k5.size
  replace hw := hw.pure k5
  replace h1 := h1.pure k5
  replace hb_1 := hb_1.pure k5
  replace hb_3 := hb_3.pure k5
  replace h2 := h2.pure k5
  replace hb_5 := hb_5.pure k5
  replace hfr := hfr.pure k5
  replace hb_7 := hb_7.pure k5
  replace hb_9 := hb_9.pure k5
  replace hq := hq.pure k5
  refine WL.pickT rfl rfl rfl (WL.assign rfl rfl (WL.nil (WX.then_normal (WC.ret (?_)))))
  refine WX.ret1 (.inl rfl) Try.results8 rfl ?_
  exact ⟨_, rfl, rfl, hw⟩
end Go.Proofs.Ytgmkoieemmglpaa
