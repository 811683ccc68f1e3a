import Derived.Test.YtgmkoieemmglpaaDq
import Derived.Test.YtgmkoieemmglpaaHl
import Derived.Test.YtgmkoieemmglpaaHn
namespace Go.Proofs.Ytgmkoieemmglpaa
open Go.RowKit Go.HL

/-! snapshots destroyed in any order -/
set_option maxHeartbeats 4000000 in
theorem DeadOrders_calls {w : World} {a0 a1 : Option Addr} {c0 c1 : Nat} {l0 l1 : List Int} (h0 : RSl (· < w.heap.size) w ei a0 c0 l0) (h1 : RSl (· < w.heap.size) w ei a1 c1 l1) (hl0 : l0.length ≤ 9223372036854775807) (hl1 : l1.length ≤ 9223372036854775807) :
    Calls Try.prog 7 [.slice a0 l0.length c0, .slice a1 l1.length c1].toArray w (Ret fun v w' => v = .bool true ∧ Chg Nob w w') := by
  have hw := Chg.refl Nob w
  refine Calls.of_WC Try.func7 rfl Try.ntmps7 (by simp) ?_
  refine WC.seq (WC.region (WL.assign rfl rfl (WL.nil (WX.then_normal (WC.seq (WC.seq (WC.region (?_))))))))
  refine WL.call eg_8 rfl rfl (known_calls _) ?_
  rintro v w1 ⟨rfl, k1⟩
  have zs_k1 := k1.size
  replace h0 := h0.pure k1
  replace h1 := h1.pure k1
  replace hw := hw.pure k1
  refine WL.not rfl rfl (WL.nil (WX.then_normal (WC.cond_false rfl (WC.skip (WX.then_normal (WC.seq (WC.region (?_))))))))
  refine WL.bld rfl (bld_33_z) rfl (?_)
  refine WL.alloc Try.zeroValue33 rfl ?_
  intro g5 w5 hge5 hlt5 hb5 k5
  have zs_k5 := k5.size
  replace h0 := h0.pure k5
  replace h1 := h1.pure k5
  replace hw := hw.pure k5
  refine WL.stores Try.sizeOf33 hb5 rfl rfl (by first | (simp; done) | (simp; omega) | rfl) (by first | exact Enc.one _ _ | (intro u hu; obtain ⟨x, _, rfl⟩ := List.mem_map.1 hu; rfl) | (simp [Value.oneCell']; done) | (simp [Value.oneCell', Value.cells]; done)) (by first | (simp; done) | (simp; omega) | (simp [Value.cells]; done) | (simp [Value.cells]; omega) | exact Nat.le_of_ble_eq_true rfl) rfl ?_
  intro w_1 hs_1 hn_1 k_1
  have zs_k_1 := k_1.size
  replace h0 := h0.chg k_1 (by first | (intro x h1 h2; exact h2) | (intro x h1 h2; have h3 : _ = _ := h2; subst h3; assumption) | (intro x h1 h2; have h3 : _ = _ := h2; exfalso; omega) | (intro b h1 h2 h3; have h4 : _ = _ := h3; (try dsimp only at h2); exfalso; omega) | (intro h1; have h2 : _ = _ := h1; exfalso; omega) | (intro h1; have h2 : _ ≤ _ := h1; exfalso; omega) | (intros; exfalso; (try dsimp only at *); omega) | (intro h1; exfalso; have h4 := h1.2; (try dsimp only at *); omega) | (intro x h1 h2; exact h2.1))
  replace h1 := h1.chg k_1 (by first | (intro x h1 h2; exact h2) | (intro x h1 h2; have h3 : _ = _ := h2; subst h3; assumption) | (intro x h1 h2; have h3 : _ = _ := h2; exfalso; omega) | (intro b h1 h2 h3; have h4 : _ = _ := h3; (try dsimp only at h2); exfalso; omega) | (intro h1; have h2 : _ = _ := h1; exfalso; omega) | (intro h1; have h2 : _ ≤ _ := h1; exfalso; omega) | (intros; exfalso; (try dsimp only at *); omega) | (intro h1; exfalso; have h4 := h1.2; (try dsimp only at *); omega) | (intro x h1 h2; exact h2.1))
  replace hw := hw.chg k_1 (by first | (intro x h1 h2; exact h2) | (intro x h1 h2; have h3 : _ = _ := h2; subst h3; assumption) | (intro x h1 h2; have h3 : _ = _ := h2; exfalso; omega) | (intro b h1 h2 h3; have h4 : _ = _ := h3; (try dsimp only at h2); exfalso; omega) | (intro h1; have h2 : _ = _ := h1; exfalso; omega) | (intro h1; have h2 : _ ≤ _ := h1; exfalso; omega) | (intros; exfalso; (try dsimp only at *); omega) | (intro h1; exfalso; have h4 := h1.2; (try dsimp only at *); omega) | (intro x h1 h2; exact h2.1))
  replace hb5 := hn_1
  refine WL.nil (WX.then_normal (WC.seq (WC.region (WL.assign rfl rfl (WL.nil (WX.then_normal (WC.seq (?_))))))))
  refine WC.region (WL.assign rfl rfl (WL.assign rfl rfl (WL.nil (WX.then_normal (WC.seq (WC.seq (WC.region (?_))))))))
  refine WL.assign rfl rfl (WL.nil (WX.then_normal (WC.block (?_))))
  have hb5' : Blk _ g5 33 (lcells ⟨0, none, 0, [], none, 0, []⟩) := hb5
  have hz : ∀ u, LS (fun b => b ≠ g5) u (⟨0, none, 0, [], none, 0, []⟩ : LnV) := fun u => ⟨RSl.nil _ _ _ _ _, RSl.nil _ _ _ _ _, (fun x hx => by cases hx)⟩
  refine WC.loop (σ := Nat × LnV × Int) (fun q => [(0, .slice a0 l0.length c0), (1, .slice a1 l1.length c1), (5, gptr g5), (6, vi q.2.2), (7, vi (q.1 : Int)), (8, vi ((allP q.2.1.abs).length : Int)), (9, vi (q.1 : Int))]) (fun q w' => (q.1 ≤ 30 ∧ q.1 ≤ l0.length) ∧ (q.2.1.abs.ahead q.2.1.snaps.length ≤ q.2.2 ∧ 0 ≤ q.2.2 ∧ q.2.2 ≤ 2 * (q.1 : Int)) ∧ OI q.2.1.abs q.1 ∧ ((allP q.2.1.abs).length ≤ q.1 ∧ q.2.1.snaps.length ≤ q.1) ∧ Blk w' g5 33 (lcells q.2.1) ∧ LS (fun b => b ≠ g5) w' q.2.1 ∧ RSl (· < w.heap.size) w' ei a0 c0 l0 ∧ RSl (· < w.heap.size) w' ei a1 c1 l1 ∧ Chg Nob w w') (fun q => l0.length - q.1) (0, ⟨0, none, 0, [], none, 0, []⟩, 0) ⟨rfl, rfl, rfl, rfl, rfl, rfl, rfl, trivial⟩ ⟨⟨Nat.zero_le _, Nat.zero_le _⟩, ⟨Int.le_refl _, Int.le_refl _, Int.le_refl _⟩, OI.zero, ⟨Nat.zero_le _, Nat.zero_le _⟩, hb5', hz _, h0, h1, hw⟩ ?_
  clear hb5 hb5' hz h0 h1 hw
  rintro ⟨i, l, t⟩ w1 ⟨⟨hi1, hi2⟩, ⟨hah, ht0, ht1⟩, hOI, ⟨hal, hsl⟩, hb5, hL, h0, h1, hw⟩
  simp only at hi1 hi2 hah ht0 ht1 hOI hal hsl hb5 hL
  dsimp only
  have lg5 := hb5.lt
  have zw := hw.size
  refine WC.seq (WC.seq (WC.region (WL.move rfl rfl (WL.move rfl rfl (WL.len Try.underlying55 rfl rfl (?_))))))
  refine WL.lss? rfl rfl rfl (fun h27 => ?_) (fun h27 => ?_)
  ·
    refine WL.move rfl rfl (WL.want rfl rfl rfl (WL.move rfl rfl (WL.want rfl rfl rfl (?_))))
    refine WL.lss? rfl rfl rfl (fun h30 => ?_) (fun h30 => ?_)
    ·
      refine WL.pickT rfl rfl rfl (WL.nil (WX.then_normal (WC.cond_true rfl (WC.skip (WX.then_normal (WC.seq (WC.block (?_))))))))
      refine WC.seq (WC.region (WL.move rfl rfl (WL.add64 rfl rfl (by first | omega | (constructor <;> omega)) rfl (WL.assign rfl rfl (WL.nil (WX.then_normal (WC.seq (?_))))))))
      refine WC.region (WL.move rfl rfl (WL.move rfl rfl (WL.bld rfl (bld_27_0_2 _ _) rfl (?_))))
      replace hL := hL.lt
      refine WL.alloc Try.zeroValue27 rfl ?_
      intro g10 w10 hge10 hlt10 hb10 k10
      have zs_k10 := k10.size
      replace hb5 := hb5.pure k10
      replace hL := hL.pure k10
      replace h0 := h0.pure k10
      replace h1 := h1.pure k10
      replace hw := hw.pure k10
      refine WL.stores Try.sizeOf27 hb10 rfl rfl (by first | (simp; done) | (simp; omega) | rfl) (by first | exact Enc.one _ _ | (intro u hu; obtain ⟨x, _, rfl⟩ := List.mem_map.1 hu; rfl) | (simp [Value.oneCell']; done) | (simp [Value.oneCell', Value.cells]; done)) (by first | (simp; done) | (simp; omega) | (simp [Value.cells]; done) | (simp [Value.cells]; omega) | exact Nat.le_of_ble_eq_true rfl) rfl ?_
      intro w_2 hs_2 hn_2 k_2
      have zs_k_2 := k_2.size
      replace hb5 := hb5.chg k_2 (by first | (intro x h1 h2; exact h2) | (intro x h1 h2; have h3 : _ = _ := h2; subst h3; assumption) | (intro x h1 h2; have h3 : _ = _ := h2; exfalso; omega) | (intro b h1 h2 h3; have h4 : _ = _ := h3; (try dsimp only at h2); exfalso; omega) | (intro h1; have h2 : _ = _ := h1; exfalso; omega) | (intro h1; have h2 : _ ≤ _ := h1; exfalso; omega) | (intros; exfalso; (try dsimp only at *); omega) | (intro h1; exfalso; have h4 := h1.2; (try dsimp only at *); omega) | (intro x h1 h2; exact h2.1))
      replace hL := hL.chg k_2 (by first | (intro x h1 h2; exact h2) | (intro x h1 h2; have h3 : _ = _ := h2; subst h3; assumption) | (intro x h1 h2; have h3 : _ = _ := h2; exfalso; omega) | (intro b h1 h2 h3; have h4 : _ = _ := h3; (try dsimp only at h2); exfalso; omega) | (intro h1; have h2 : _ = _ := h1; exfalso; omega) | (intro h1; have h2 : _ ≤ _ := h1; exfalso; omega) | (intros; exfalso; (try dsimp only at *); omega) | (intro h1; exfalso; have h4 := h1.2; (try dsimp only at *); omega) | (intro x h1 h2; exact h2.1))
      replace h0 := h0.chg k_2 (by first | (intro x h1 h2; exact h2) | (intro x h1 h2; have h3 : _ = _ := h2; subst h3; assumption) | (intro x h1 h2; have h3 : _ = _ := h2; exfalso; omega) | (intro b h1 h2 h3; have h4 : _ = _ := h3; (try dsimp only at h2); exfalso; omega) | (intro h1; have h2 : _ = _ := h1; exfalso; omega) | (intro h1; have h2 : _ ≤ _ := h1; exfalso; omega) | (intros; exfalso; (try dsimp only at *); omega) | (intro h1; exfalso; have h4 := h1.2; (try dsimp only at *); omega) | (intro x h1 h2; exact h2.1))
      replace h1 := h1.chg k_2 (by first | (intro x h1 h2; exact h2) | (intro x h1 h2; have h3 : _ = _ := h2; subst h3; assumption) | (intro x h1 h2; have h3 : _ = _ := h2; exfalso; omega) | (intro b h1 h2 h3; have h4 : _ = _ := h3; (try dsimp only at h2); exfalso; omega) | (intro h1; have h2 : _ = _ := h1; exfalso; omega) | (intro h1; have h2 : _ ≤ _ := h1; exfalso; omega) | (intros; exfalso; (try dsimp only at *); omega) | (intro h1; exfalso; have h4 := h1.2; (try dsimp only at *); omega) | (intro x h1 h2; exact h2.1))
      replace hw := hw.chg k_2 (by first | (intro x h1 h2; exact h2) | (intro x h1 h2; have h3 : _ = _ := h2; subst h3; assumption) | (intro x h1 h2; have h3 : _ = _ := h2; exfalso; omega) | (intro b h1 h2 h3; have h4 : _ = _ := h3; (try dsimp only at h2); exfalso; omega) | (intro h1; have h2 : _ = _ := h1; exfalso; omega) | (intro h1; have h2 : _ ≤ _ := h1; exfalso; omega) | (intros; exfalso; (try dsimp only at *); omega) | (intro h1; exfalso; have h4 := h1.2; (try dsimp only at *); omega) | (intro x h1 h2; exact h2.1))
      replace hb10 := hn_2
      refine WL.nil (WX.then_normal (WC.seq (WC.region (WL.move rfl rfl (WL.add64 rfl rfl (by first | omega | (constructor <;> omega)) rfl (WL.assign rfl rfl (WL.nil (?_))))))))
      refine WX.then_normal (WC.seq (WC.region (WL.assign rfl rfl (WL.nil (WX.then_normal (WC.seq (WC.region (?_))))))))
      refine WL.assign rfl rfl (WL.nil (WX.then_normal (WC.seq (WC.seq (WC.region (WL.move rfl rfl (WL.move rfl rfl (?_))))))))
      obtain ⟨x, hx⟩ : ∃ x, l0[i]? = some x := ⟨_, List.getElem?_eq_getElem (by omega)⟩
      refine WL.indexT Try.underlying55 Try.sizeOf3 h0 rfl rfl ⟨hx, rfl⟩ rfl ?_
      intro b_3 o_3 hc_3
      refine WL.load Try.isAgg3 rfl (hc_3 0 _ rfl) rfl (?_)
      refine WL.remk rfl rfl (by decide) rfl ?_
      refine WL.eql? rfl rfl rfl (fun h46 => ?_) (fun h46 => ?_)
      ·
        refine WL.nil (WX.then_normal (WC.cond_true rfl (WC.seq (WC.region (WL.move rfl rfl (WL.add64 rfl rfl (by first | omega | (constructor <;> omega)) rfl (WL.assign rfl rfl (?_))))))))
        refine WL.nil (WX.then_normal (WC.region (WL.loadsB Try.isAgg33 Try.sizeOf33 hb5 rfl (by first | (simp; done) | (simp; omega) | rfl) rfl (WL.move rfl rfl (?_)))))
        obtain ⟨hsm, -⟩ := all_sm hal hsl (by omega)
        refine WL.call eg_17 rfl rfl (Snapshot_calls hL (hsm.up (by decide)) (t + 1 + 1)) ?_
        rintro v w2 ⟨⟨l1, e1, rfl, hR1, hO1⟩, k2⟩
        have hah' : l.abs.ahead l.abs.snaps.length ≤ t := by rw [show l.abs.snaps.length = l.snaps.length from sabs_len _]; exact hah
        obtain ⟨ha1, rfl⟩ := hR1.go hOI.right (by omega)
        have hOIs := hOI.snap (t := t + 1 + 1) (by omega)
        have hals := snap_all l.abs (t + 1 + 1)
        have hahs := snap_ahead l.abs (t + 1 + 1)
        rw [← ha1] at hOIs hals hahs
        have hls : l1.snaps.length = l.snaps.length + 1 := by
          have e1 := congrArg (fun L : LA => L.snaps.length) ha1
          simp only [List.length_append, List.length_cons, List.length_nil] at e1
          rw [show l1.abs.snaps.length = l1.snaps.length from sabs_len _, show l.abs.snaps.length = l.snaps.length from sabs_len _] at e1
          exact e1
        rw [show l.abs.snaps.length = l.snaps.length from sabs_len _, ← hls] at hahs
        have zs_k2 := k2.size
        replace hb5 := hb5.pure k2
        replace h0 := h0.pure k2
        replace h1 := h1.pure k2
        replace hw := hw.pure k2
        replace hb10 := hb10.pure k2
        have hLs := (hO1.mono (S' := fun b => b ≠ g5) (fun b hb => by omega)).ls
        refine WL.move rfl rfl (WL.extract rfl rfl rfl (WL.extract rfl rfl rfl (?_)))
        refine WL.stores Try.sizeOf33 hb5 rfl rfl (by first | (simp; done) | (simp; omega) | rfl) (by first | exact Enc.one _ _ | (intro u hu; obtain ⟨x, _, rfl⟩ := List.mem_map.1 hu; rfl) | (simp [Value.oneCell']; done) | (simp [Value.oneCell', Value.cells]; done)) (by first | (simp; done) | (simp; omega) | (simp [Value.cells]; done) | (simp [Value.cells]; omega) | exact Nat.le_of_ble_eq_true rfl) rfl ?_
        intro w_4 hs_4 hn_4 k_4
        have zs_k_4 := k_4.size
        replace h0 := h0.chg k_4 (by first | (intro x h1 h2; exact h2) | (intro x h1 h2; have h3 : _ = _ := h2; subst h3; assumption) | (intro x h1 h2; have h3 : _ = _ := h2; exfalso; omega) | (intro b h1 h2 h3; have h4 : _ = _ := h3; (try dsimp only at h2); exfalso; omega) | (intro h1; have h2 : _ = _ := h1; exfalso; omega) | (intro h1; have h2 : _ ≤ _ := h1; exfalso; omega) | (intros; exfalso; (try dsimp only at *); omega) | (intro h1; exfalso; have h4 := h1.2; (try dsimp only at *); omega) | (intro x h1 h2; exact h2.1))
        replace h1 := h1.chg k_4 (by first | (intro x h1 h2; exact h2) | (intro x h1 h2; have h3 : _ = _ := h2; subst h3; assumption) | (intro x h1 h2; have h3 : _ = _ := h2; exfalso; omega) | (intro b h1 h2 h3; have h4 : _ = _ := h3; (try dsimp only at h2); exfalso; omega) | (intro h1; have h2 : _ = _ := h1; exfalso; omega) | (intro h1; have h2 : _ ≤ _ := h1; exfalso; omega) | (intros; exfalso; (try dsimp only at *); omega) | (intro h1; exfalso; have h4 := h1.2; (try dsimp only at *); omega) | (intro x h1 h2; exact h2.1))
        replace hw := hw.chg k_4 (by first | (intro x h1 h2; exact h2) | (intro x h1 h2; have h3 : _ = _ := h2; subst h3; assumption) | (intro x h1 h2; have h3 : _ = _ := h2; exfalso; omega) | (intro b h1 h2 h3; have h4 : _ = _ := h3; (try dsimp only at h2); exfalso; omega) | (intro h1; have h2 : _ = _ := h1; exfalso; omega) | (intro h1; have h2 : _ ≤ _ := h1; exfalso; omega) | (intros; exfalso; (try dsimp only at *); omega) | (intro h1; exfalso; have h4 := h1.2; (try dsimp only at *); omega) | (intro x h1 h2; exact h2.1))
        replace hb10 := hb10.chg k_4 (by first | (intro x h1 h2; exact h2) | (intro x h1 h2; have h3 : _ = _ := h2; subst h3; assumption) | (intro x h1 h2; have h3 : _ = _ := h2; exfalso; omega) | (intro b h1 h2 h3; have h4 : _ = _ := h3; (try dsimp only at h2); exfalso; omega) | (intro h1; have h2 : _ = _ := h1; exfalso; omega) | (intro h1; have h2 : _ ≤ _ := h1; exfalso; omega) | (intros; exfalso; (try dsimp only at *); omega) | (intro h1; exfalso; have h4 := h1.2; (try dsimp only at *); omega) | (intro x h1 h2; exact h2.1))
        replace hLs := hLs.chg k_4 (by first | (intro x h1 h2; exact h2) | (intro x h1 h2; have h3 : _ = _ := h2; subst h3; assumption) | (intro x h1 h2; have h3 : _ = _ := h2; exfalso; omega) | (intro b h1 h2 h3; have h4 : _ = _ := h3; (try dsimp only at h2); exfalso; omega) | (intro h1; have h2 : _ = _ := h1; exfalso; omega) | (intro h1; have h2 : _ ≤ _ := h1; exfalso; omega) | (intros; exfalso; (try dsimp only at *); omega) | (intro h1; exfalso; have h4 := h1.2; (try dsimp only at *); omega) | (intro x h1 h2; exact h2.1))
        replace hb5 := hn_4
        refine WL.assign rfl rfl (WL.nil (WX.then_normal (WC.seq (WC.seq (WC.region (?_))))))
        first
          | (have hev : x.tmod 2 = 0 := h46
             have hL1 := hLs
             have hOI1 := hOIs
             have hb51 : Blk _ g5 33 (lcells l1) := hb5
             have hlate : x.tmod 2 = 0 ∧ t + 1 ≤ l1.abs.ahead l1.snaps.length ∨ x.tmod 2 ≠ 0 ∧ l1.abs.ahead l1.snaps.length < t + 1 := .inl ⟨hev, by omega⟩
             have hal1 : (allP l1.abs).length ≤ i := by rw [hals]; exact hal
             have hsl1 : l1.snaps.length ≤ i + 1 := by omega
             have hahl : l1.abs.ahead l1.snaps.length ≤ t + 1 + 1 := by omega
             rw [← hals])
          | (have hev : x.tmod 2 ≠ 0 := h46
             obtain ⟨l1, hll⟩ : ∃ l1, l1 = l := ⟨_, rfl⟩
             subst hll
             have hL1 := hL.mono (S' := fun b => b ≠ g5) (fun b hb => hb.1)
             have hOI1 := hOI
             have hb51 : Blk _ g5 33 (lcells l1) := hb5
             have hlate : x.tmod 2 = 0 ∧ t + 1 ≤ l1.abs.ahead l1.snaps.length ∨ x.tmod 2 ≠ 0 ∧ l1.abs.ahead l1.snaps.length < t + 1 := .inr ⟨hev, by omega⟩
             have hal1 := hal
             have hsl1 : l1.snaps.length ≤ i + 1 := by omega
             have hahl : l1.abs.ahead l1.snaps.length ≤ t + 1 := by omega)
        refine WL.move rfl rfl ?_
        refine WL.neqF rfl rfl rfl (by first | rfl | omega | decide) ?_
        refine WL.nil (WX.then_normal (WC.cond_false rfl (WC.skip (WX.then_normal (WC.seq (WC.region (WL.move rfl rfl (?_))))))))
        refine WL.move rfl rfl (?_)
        refine WL.indexT Try.underlying55 Try.sizeOf3 h0 rfl rfl ⟨hx, rfl⟩ rfl ?_
        intro b_5 o_5 hc_5
        refine WL.load Try.isAgg3 rfl (hc_5 0 _ rfl) rfl (?_)
        refine WL.remk rfl rfl (by decide) rfl ?_
        refine WL.eql? rfl rfl rfl (fun h62 => ?_) (fun h62 => ?_)
        ·
          refine WL.nil (WX.then_normal (WC.cond_true rfl (WC.seq (WC.region (WL.loadsB Try.isAgg33 Try.sizeOf33 hb51 rfl (by first | (simp; done) | (simp; omega) | rfl) rfl (WL.loadsB Try.isAgg27 Try.sizeOf27 hb10 rfl (by first | (simp; done) | (simp; omega) | rfl) rfl (?_)))))))
          obtain ⟨hsm1, -⟩ := all_sm (n := i + 1) (by omega) hsl1 (by omega)
          refine WL.call eg_13 rfl rfl (Kill_calls hL1 (hsm1.up (by decide)) ⟨(i : Int), 0, t + 1, ⟨#[]⟩⟩) ?_
          rintro v w3 ⟨⟨l2, b2, e2, rfl, hR2, hO2⟩, k3⟩
          have hls1 : l1.abs.snaps.length = l1.snaps.length := sabs_len _
          have hls2 : l2.abs.snaps.length = l2.snaps.length := sabs_len _
          obtain ⟨hb2, rfl, hcs⟩ : b2 = decide (x.tmod 2 ≠ 0) ∧ e2 = 0 ∧ (b2 = false ∧ OI l2.abs (i + 1) ∧ (allP l2.abs).length = (allP l1.abs).length + 1 ∧ l2.snaps.length = l1.snaps.length ∧ l2.abs.ahead l2.snaps.length = l1.abs.ahead l1.snaps.length ∨ b2 = true ∧ l2.abs = l1.abs) := by
            rcases hlate with ⟨h2, h3⟩ | ⟨h2, h3⟩
            ·
              rw [← hls1] at h3
              obtain ⟨h4, h5, h6⟩ := hR2.keep hOI1.right h3
              have h7 : l2.snaps.length = l1.snaps.length := by rw [← hls1, ← hls2, h4]
              refine ⟨by rw [h5]; symm; exact decide_eq_false (fun h => h h2), h6, .inl ⟨h5, ?_, ?_, h7, ?_⟩⟩
              ·
                rw [h4]; exact hOI1.kill h3 (by show 1 ≤ t + 1; omega) rfl
              ·
                rw [h4, kill_all]; simp
              ·
                rw [h7, h4]; rfl
            ·
              rw [← hls1] at h3
              obtain ⟨h4, h5, h6⟩ := hR2.free hOI1.right h3
              exact ⟨by rw [h5]; symm; exact decide_eq_true h2, h6, .inr ⟨h5, h4⟩⟩
          have zs_k3 := k3.size
          replace h0 := h0.pure k3
          replace h1 := h1.pure k3
          replace hw := hw.pure k3
          replace hb10 := hb10.pure k3
          replace hb51 := hb51.pure k3
          have hL2 := (hO2.mono (S' := fun b => b ≠ g5) (fun b hb => by omega)).ls
          refine WL.move rfl rfl (WL.extract rfl rfl rfl (WL.extract rfl rfl rfl (WL.extract rfl rfl rfl (?_))))
          refine WL.stores Try.sizeOf33 hb51 rfl rfl (by first | (simp; done) | (simp; omega) | rfl) (by first | exact Enc.one _ _ | (intro u hu; obtain ⟨x, _, rfl⟩ := List.mem_map.1 hu; rfl) | (simp [Value.oneCell']; done) | (simp [Value.oneCell', Value.cells]; done)) (by first | (simp; done) | (simp; omega) | (simp [Value.cells]; done) | (simp [Value.cells]; omega) | exact Nat.le_of_ble_eq_true rfl) rfl ?_
          intro w_6 hs_6 hn_6 k_6
          have zs_k_6 := k_6.size
          replace h0 := h0.chg k_6 (by first | (intro x h1 h2; exact h2) | (intro x h1 h2; have h3 : _ = _ := h2; subst h3; assumption) | (intro x h1 h2; have h3 : _ = _ := h2; exfalso; omega) | (intro b h1 h2 h3; have h4 : _ = _ := h3; (try dsimp only at h2); exfalso; omega) | (intro h1; have h2 : _ = _ := h1; exfalso; omega) | (intro h1; have h2 : _ ≤ _ := h1; exfalso; omega) | (intros; exfalso; (try dsimp only at *); omega) | (intro h1; exfalso; have h4 := h1.2; (try dsimp only at *); omega) | (intro x h1 h2; exact h2.1))
          replace h1 := h1.chg k_6 (by first | (intro x h1 h2; exact h2) | (intro x h1 h2; have h3 : _ = _ := h2; subst h3; assumption) | (intro x h1 h2; have h3 : _ = _ := h2; exfalso; omega) | (intro b h1 h2 h3; have h4 : _ = _ := h3; (try dsimp only at h2); exfalso; omega) | (intro h1; have h2 : _ = _ := h1; exfalso; omega) | (intro h1; have h2 : _ ≤ _ := h1; exfalso; omega) | (intros; exfalso; (try dsimp only at *); omega) | (intro h1; exfalso; have h4 := h1.2; (try dsimp only at *); omega) | (intro x h1 h2; exact h2.1))
          replace hw := hw.chg k_6 (by first | (intro x h1 h2; exact h2) | (intro x h1 h2; have h3 : _ = _ := h2; subst h3; assumption) | (intro x h1 h2; have h3 : _ = _ := h2; exfalso; omega) | (intro b h1 h2 h3; have h4 : _ = _ := h3; (try dsimp only at h2); exfalso; omega) | (intro h1; have h2 : _ = _ := h1; exfalso; omega) | (intro h1; have h2 : _ ≤ _ := h1; exfalso; omega) | (intros; exfalso; (try dsimp only at *); omega) | (intro h1; exfalso; have h4 := h1.2; (try dsimp only at *); omega) | (intro x h1 h2; exact h2.1))
          replace hb10 := hb10.chg k_6 (by first | (intro x h1 h2; exact h2) | (intro x h1 h2; have h3 : _ = _ := h2; subst h3; assumption) | (intro x h1 h2; have h3 : _ = _ := h2; exfalso; omega) | (intro b h1 h2 h3; have h4 : _ = _ := h3; (try dsimp only at h2); exfalso; omega) | (intro h1; have h2 : _ = _ := h1; exfalso; omega) | (intro h1; have h2 : _ ≤ _ := h1; exfalso; omega) | (intros; exfalso; (try dsimp only at *); omega) | (intro h1; exfalso; have h4 := h1.2; (try dsimp only at *); omega) | (intro x h1 h2; exact h2.1))
          replace hL2 := hL2.chg k_6 (by first | (intro x h1 h2; exact h2) | (intro x h1 h2; have h3 : _ = _ := h2; subst h3; assumption) | (intro x h1 h2; have h3 : _ = _ := h2; exfalso; omega) | (intro b h1 h2 h3; have h4 : _ = _ := h3; (try dsimp only at h2); exfalso; omega) | (intro h1; have h2 : _ = _ := h1; exfalso; omega) | (intro h1; have h2 : _ ≤ _ := h1; exfalso; omega) | (intros; exfalso; (try dsimp only at *); omega) | (intro h1; exfalso; have h4 := h1.2; (try dsimp only at *); omega) | (intro x h1 h2; exact h2.1))
          replace hb51 := hn_6
          refine WL.assign rfl rfl (WL.assign rfl rfl (WL.nil (WX.then_normal (WC.seq (WC.region (WL.move rfl rfl (WL.add64 rfl rfl (by first | omega | (constructor <;> omega)) rfl (?_))))))))
          refine WL.assign rfl rfl (WL.nil (WX.then_normal (WC.seq (WC.seq (WC.region (WL.move rfl rfl (?_)))))))
          refine WL.neqF rfl rfl rfl (by first | rfl | omega | decide) ?_
          refine WL.move rfl rfl (WL.want rfl rfl rfl (WL.move rfl rfl (WL.want rfl rfl rfl (WL.move rfl rfl (WL.want rfl rfl rfl (WL.move rfl rfl (WL.want rfl rfl rfl (?_))))))))
          refine WL.indexT Try.underlying55 Try.sizeOf3 h0 rfl rfl ⟨hx, rfl⟩ rfl ?_
          intro b_7 o_7 hc_7
          refine WL.want rfl rfl rfl (WL.load Try.isAgg3 rfl (hc_7 0 _ rfl) rfl (WL.want rfl rfl rfl (?_)))
          refine WL.remk rfl rfl (by decide) rfl ?_
          refine WL.want rfl rfl rfl (WL.neq rfl rfl rfl (WL.want rfl rfl rfl (?_)))
          refine WL.bneqF Try.underlying4 rfl rfl hb2 rfl ?_
          refine WL.pickF rfl rfl rfl (WL.nil (WX.then_normal (WC.cond_false rfl (WC.skip (WX.then_normal (WC.seq (WC.region (?_))))))))
          refine WL.move rfl rfl (WL.nil (WX.then_normal (?_)))
          first | refine WC.cond_dec rfl (fun hc84 => ?_) (fun hc84 => ?_) | refine WC.cond_split rfl (fun hc84 => ?_) (fun hc84 => ?_)
          ·
            refine WC.region (WL.move rfl rfl (WL.sub64 rfl rfl (by first | omega | (constructor <;> omega)) rfl (WL.assign rfl rfl (WL.nil (WX.block_normal (WX.then_normal (WC.region (?_))))))))
            refine WL.move rfl rfl (WL.add64 rfl rfl (by first | omega | (constructor <;> omega)) rfl (WL.assign rfl rfl (WL.nil (?_))))
            first
              | (have hset : ∀ q : PtV, q.a ≠ p.a → 0 ≤ q.a → (fd2.set p.a.toNat true)[q.a.toNat]? = fd2[q.a.toNat]? := fun q h1 h2 => List.getElem?_set_ne (by omega)
                 exact WX.loop_next (j + 1, kd - 1, fd2.set p.a.toNat true) ⟨rfl, rfl, rfl, rfl, rfl, rfl, rfl, rfl, rfl, trivial⟩ ⟨⟨by show j + 1 ≤ _; omega, by show kd - 1 = _ - ((j + 1 : Nat) : Int); omega⟩, ⟨by show (fd2.set _ _).length = i; rw [List.length_set]; exact hfl, fun q hq => by
                   show (fd2.set p.a.toNat true)[q.a.toNat]? = _
                   rw [hset q (hfx q hq p (List.mem_of_getElem? hp)) (hOI4.born q hq).2.1]
                   exact hfp q hq, fun m q hm hq => by
                   have hm : j + 1 ≤ m := hm
                   show (fd2.set p.a.toNat true)[q.a.toNat]? = _
                   rw [hset q (fun e => nodup_ne hfn hp hq (by omega) e.symm) (hfa q (List.mem_of_getElem? hq)).1]
                   exact hff m q (by omega) hq⟩, hb5, hb16, hL4, hF4, hFd, h1, hw⟩ (by show fr.length - (j + 1) < fr.length - j; omega))
              | (have hjf : j = fr.length := by omega
                 have hkd2 : kd = ((allP l4.abs).length : Int) := by omega
                 subst hkd2
                 exact WX.loop_next (u + 1, l4, fd2) ⟨rfl, rfl, rfl, rfl, rfl, rfl, trivial⟩ ⟨by show u + 1 + l4.snaps.length ≤ 30; omega, hOI4, by show (allP l4.abs).length ≤ 30; omega, ⟨hfl, hfp⟩, hb5, hL4, hFd, h1, hw⟩ (by show l4.snaps.length < l2.snaps.length; omega))
              | (have hbt : b2 = true := hc84
                 have hab : l2.abs = l1.abs := by
                   rcases hcs with ⟨h3, _⟩ | ⟨_, h3⟩
                   ·
                     rw [hbt] at h3; cases h3
                   ·
                     exact h3
                 have hl2 : l2.snaps.length = l1.snaps.length := abs_len hab
                 have hOI2 : OI l2.abs (i + 1) := by rw [hab]; exact hOI1.up
                 have hah2 : l2.abs.ahead l2.snaps.length = l1.abs.ahead l1.snaps.length := by rw [hab, hl2]
                 have hal2 : (allP l2.abs).length = (allP l1.abs).length := by rw [hab]
                 rw [show ((allP l1.abs).length : Int) + 1 - 1 = ((allP l2.abs).length : Int) from by omega]
                 first
                   | exact WX.loop_next (i + 1, l2, t + 1 + 1) ⟨rfl, rfl, rfl, rfl, rfl, rfl, rfl, trivial⟩ ⟨⟨by show i + 1 ≤ _; omega, by show i + 1 ≤ _; omega⟩, ⟨by show l2.abs.ahead l2.snaps.length ≤ t + 1 + 1; omega, by show 0 ≤ t + 1 + 1; omega, by show t + 1 + 1 ≤ 2 * ((i + 1 : Nat) : Int); omega⟩, hOI2, ⟨by show (allP l2.abs).length ≤ i + 1; omega, by show l2.snaps.length ≤ i + 1; omega⟩, hb51, hL2, h0, h1, hw⟩ (by show l0.length - (i + 1) < l0.length - i; omega)
                   | exact WX.loop_next (i + 1, l2, t + 1) ⟨rfl, rfl, rfl, rfl, rfl, rfl, rfl, trivial⟩ ⟨⟨by show i + 1 ≤ _; omega, by show i + 1 ≤ _; omega⟩, ⟨by show l2.abs.ahead l2.snaps.length ≤ t + 1; omega, by show 0 ≤ t + 1; omega, by show t + 1 ≤ 2 * ((i + 1 : Nat) : Int); omega⟩, hOI2, ⟨by show (allP l2.abs).length ≤ i + 1; omega, by show l2.snaps.length ≤ i + 1; omega⟩, hb51, hL2, h0, h1, hw⟩ (by show l0.length - (i + 1) < l0.length - i; omega))
              | (have hbt : b2 = false := hc84
                 obtain ⟨hOI2, hal2, hl2, hah2⟩ : OI l2.abs (i + 1) ∧ (allP l2.abs).length = (allP l1.abs).length + 1 ∧ l2.snaps.length = l1.snaps.length ∧ l2.abs.ahead l2.snaps.length = l1.abs.ahead l1.snaps.length := by
                   rcases hcs with ⟨_, h3⟩ | ⟨h3, _⟩
                   ·
                     exact h3
                   ·
                     rw [hbt] at h3; cases h3
                 rw [show ((allP l1.abs).length : Int) + 1 = ((allP l2.abs).length : Int) from by omega]
                 first
                   | exact WX.loop_next (i + 1, l2, t + 1 + 1) ⟨rfl, rfl, rfl, rfl, rfl, rfl, rfl, trivial⟩ ⟨⟨by show i + 1 ≤ _; omega, by show i + 1 ≤ _; omega⟩, ⟨by show l2.abs.ahead l2.snaps.length ≤ t + 1 + 1; omega, by show 0 ≤ t + 1 + 1; omega, by show t + 1 + 1 ≤ 2 * ((i + 1 : Nat) : Int); omega⟩, hOI2, ⟨by show (allP l2.abs).length ≤ i + 1; omega, by show l2.snaps.length ≤ i + 1; omega⟩, hb51, hL2, h0, h1, hw⟩ (by show l0.length - (i + 1) < l0.length - i; omega)
                   | exact WX.loop_next (i + 1, l2, t + 1) ⟨rfl, rfl, rfl, rfl, rfl, rfl, rfl, trivial⟩ ⟨⟨by show i + 1 ≤ _; omega, by show i + 1 ≤ _; omega⟩, ⟨by show l2.abs.ahead l2.snaps.length ≤ t + 1; omega, by show 0 ≤ t + 1; omega, by show t + 1 ≤ 2 * ((i + 1 : Nat) : Int); omega⟩, hOI2, ⟨by show (allP l2.abs).length ≤ i + 1; omega, by show l2.snaps.length ≤ i + 1; omega⟩, hb51, hL2, h0, h1, hw⟩ (by show l0.length - (i + 1) < l0.length - i; omega))
              | exact WX.loop_next (i + 1, l1, t + 1 + 1) ⟨rfl, rfl, rfl, rfl, rfl, rfl, rfl, trivial⟩ ⟨⟨by show i + 1 ≤ _; omega, by show i + 1 ≤ _; omega⟩, ⟨by show l1.abs.ahead l1.snaps.length ≤ t + 1 + 1; omega, by show 0 ≤ t + 1 + 1; omega, by show t + 1 + 1 ≤ 2 * ((i + 1 : Nat) : Int); omega⟩, hOI1.up, ⟨by show (allP l1.abs).length ≤ i + 1; omega, by show l1.snaps.length ≤ i + 1; omega⟩, hb51, hL1, h0, h1, hw⟩ (by show l0.length - (i + 1) < l0.length - i; omega)
              | exact WX.loop_next (i + 1, l1, t + 1) ⟨rfl, rfl, rfl, rfl, rfl, rfl, rfl, trivial⟩ ⟨⟨by show i + 1 ≤ _; omega, by show i + 1 ≤ _; omega⟩, ⟨by show l1.abs.ahead l1.snaps.length ≤ t + 1; omega, by show 0 ≤ t + 1; omega, by show t + 1 ≤ 2 * ((i + 1 : Nat) : Int); omega⟩, hOI1.up, ⟨by show (allP l1.abs).length ≤ i + 1; omega, by show l1.snaps.length ≤ i + 1; omega⟩, hb51, hL1, h0, h1, hw⟩ (by show l0.length - (i + 1) < l0.length - i; omega)
          ·
            refine WC.skip (WX.block_normal (WX.then_normal (WC.region (WL.move rfl rfl (WL.add64 rfl rfl (by first | omega | (constructor <;> omega)) rfl (WL.assign rfl rfl (WL.nil (?_))))))))
            first
              | (have hset : ∀ q : PtV, q.a ≠ p.a → 0 ≤ q.a → (fd2.set p.a.toNat true)[q.a.toNat]? = fd2[q.a.toNat]? := fun q h1 h2 => List.getElem?_set_ne (by omega)
                 exact WX.loop_next (j + 1, kd - 1, fd2.set p.a.toNat true) ⟨rfl, rfl, rfl, rfl, rfl, rfl, rfl, rfl, rfl, trivial⟩ ⟨⟨by show j + 1 ≤ _; omega, by show kd - 1 = _ - ((j + 1 : Nat) : Int); omega⟩, ⟨by show (fd2.set _ _).length = i; rw [List.length_set]; exact hfl, fun q hq => by
                   show (fd2.set p.a.toNat true)[q.a.toNat]? = _
                   rw [hset q (hfx q hq p (List.mem_of_getElem? hp)) (hOI4.born q hq).2.1]
                   exact hfp q hq, fun m q hm hq => by
                   have hm : j + 1 ≤ m := hm
                   show (fd2.set p.a.toNat true)[q.a.toNat]? = _
                   rw [hset q (fun e => nodup_ne hfn hp hq (by omega) e.symm) (hfa q (List.mem_of_getElem? hq)).1]
                   exact hff m q (by omega) hq⟩, hb5, hb16, hL4, hF4, hFd, h1, hw⟩ (by show fr.length - (j + 1) < fr.length - j; omega))
              | (have hjf : j = fr.length := by omega
                 have hkd2 : kd = ((allP l4.abs).length : Int) := by omega
                 subst hkd2
                 exact WX.loop_next (u + 1, l4, fd2) ⟨rfl, rfl, rfl, rfl, rfl, rfl, trivial⟩ ⟨by show u + 1 + l4.snaps.length ≤ 30; omega, hOI4, by show (allP l4.abs).length ≤ 30; omega, ⟨hfl, hfp⟩, hb5, hL4, hFd, h1, hw⟩ (by show l4.snaps.length < l2.snaps.length; omega))
              | (have hbt : b2 = true := hc84
                 have hab : l2.abs = l1.abs := by
                   rcases hcs with ⟨h3, _⟩ | ⟨_, h3⟩
                   ·
                     rw [hbt] at h3; cases h3
                   ·
                     exact h3
                 have hl2 : l2.snaps.length = l1.snaps.length := abs_len hab
                 have hOI2 : OI l2.abs (i + 1) := by rw [hab]; exact hOI1.up
                 have hah2 : l2.abs.ahead l2.snaps.length = l1.abs.ahead l1.snaps.length := by rw [hab, hl2]
                 have hal2 : (allP l2.abs).length = (allP l1.abs).length := by rw [hab]
                 rw [show ((allP l1.abs).length : Int) + 1 - 1 = ((allP l2.abs).length : Int) from by omega]
                 first
                   | exact WX.loop_next (i + 1, l2, t + 1 + 1) ⟨rfl, rfl, rfl, rfl, rfl, rfl, rfl, trivial⟩ ⟨⟨by show i + 1 ≤ _; omega, by show i + 1 ≤ _; omega⟩, ⟨by show l2.abs.ahead l2.snaps.length ≤ t + 1 + 1; omega, by show 0 ≤ t + 1 + 1; omega, by show t + 1 + 1 ≤ 2 * ((i + 1 : Nat) : Int); omega⟩, hOI2, ⟨by show (allP l2.abs).length ≤ i + 1; omega, by show l2.snaps.length ≤ i + 1; omega⟩, hb51, hL2, h0, h1, hw⟩ (by show l0.length - (i + 1) < l0.length - i; omega)
                   | exact WX.loop_next (i + 1, l2, t + 1) ⟨rfl, rfl, rfl, rfl, rfl, rfl, rfl, trivial⟩ ⟨⟨by show i + 1 ≤ _; omega, by show i + 1 ≤ _; omega⟩, ⟨by show l2.abs.ahead l2.snaps.length ≤ t + 1; omega, by show 0 ≤ t + 1; omega, by show t + 1 ≤ 2 * ((i + 1 : Nat) : Int); omega⟩, hOI2, ⟨by show (allP l2.abs).length ≤ i + 1; omega, by show l2.snaps.length ≤ i + 1; omega⟩, hb51, hL2, h0, h1, hw⟩ (by show l0.length - (i + 1) < l0.length - i; omega))
              | (have hbt : b2 = false := hc84
                 obtain ⟨hOI2, hal2, hl2, hah2⟩ : OI l2.abs (i + 1) ∧ (allP l2.abs).length = (allP l1.abs).length + 1 ∧ l2.snaps.length = l1.snaps.length ∧ l2.abs.ahead l2.snaps.length = l1.abs.ahead l1.snaps.length := by
                   rcases hcs with ⟨_, h3⟩ | ⟨h3, _⟩
                   ·
                     exact h3
                   ·
                     rw [hbt] at h3; cases h3
                 rw [show ((allP l1.abs).length : Int) + 1 = ((allP l2.abs).length : Int) from by omega]
                 first
                   | exact WX.loop_next (i + 1, l2, t + 1 + 1) ⟨rfl, rfl, rfl, rfl, rfl, rfl, rfl, trivial⟩ ⟨⟨by show i + 1 ≤ _; omega, by show i + 1 ≤ _; omega⟩, ⟨by show l2.abs.ahead l2.snaps.length ≤ t + 1 + 1; omega, by show 0 ≤ t + 1 + 1; omega, by show t + 1 + 1 ≤ 2 * ((i + 1 : Nat) : Int); omega⟩, hOI2, ⟨by show (allP l2.abs).length ≤ i + 1; omega, by show l2.snaps.length ≤ i + 1; omega⟩, hb51, hL2, h0, h1, hw⟩ (by show l0.length - (i + 1) < l0.length - i; omega)
                   | exact WX.loop_next (i + 1, l2, t + 1) ⟨rfl, rfl, rfl, rfl, rfl, rfl, rfl, trivial⟩ ⟨⟨by show i + 1 ≤ _; omega, by show i + 1 ≤ _; omega⟩, ⟨by show l2.abs.ahead l2.snaps.length ≤ t + 1; omega, by show 0 ≤ t + 1; omega, by show t + 1 ≤ 2 * ((i + 1 : Nat) : Int); omega⟩, hOI2, ⟨by show (allP l2.abs).length ≤ i + 1; omega, by show l2.snaps.length ≤ i + 1; omega⟩, hb51, hL2, h0, h1, hw⟩ (by show l0.length - (i + 1) < l0.length - i; omega))
              | exact WX.loop_next (i + 1, l1, t + 1 + 1) ⟨rfl, rfl, rfl, rfl, rfl, rfl, rfl, trivial⟩ ⟨⟨by show i + 1 ≤ _; omega, by show i + 1 ≤ _; omega⟩, ⟨by show l1.abs.ahead l1.snaps.length ≤ t + 1 + 1; omega, by show 0 ≤ t + 1 + 1; omega, by show t + 1 + 1 ≤ 2 * ((i + 1 : Nat) : Int); omega⟩, hOI1.up, ⟨by show (allP l1.abs).length ≤ i + 1; omega, by show l1.snaps.length ≤ i + 1; omega⟩, hb51, hL1, h0, h1, hw⟩ (by show l0.length - (i + 1) < l0.length - i; omega)
              | exact WX.loop_next (i + 1, l1, t + 1) ⟨rfl, rfl, rfl, rfl, rfl, rfl, rfl, trivial⟩ ⟨⟨by show i + 1 ≤ _; omega, by show i + 1 ≤ _; omega⟩, ⟨by show l1.abs.ahead l1.snaps.length ≤ t + 1; omega, by show 0 ≤ t + 1; omega, by show t + 1 ≤ 2 * ((i + 1 : Nat) : Int); omega⟩, hOI1.up, ⟨by show (allP l1.abs).length ≤ i + 1; omega, by show l1.snaps.length ≤ i + 1; omega⟩, hb51, hL1, h0, h1, hw⟩ (by show l0.length - (i + 1) < l0.length - i; omega)
        ·
          refine WL.nil (WX.then_normal (WC.cond_false rfl (WC.skip (WX.block_normal (WX.then_normal (WC.region (WL.move rfl rfl (?_))))))))
          refine WL.add64 rfl rfl (by first | omega | (constructor <;> omega)) rfl (WL.assign rfl rfl (WL.nil (?_)))
          first
            | (have hset : ∀ q : PtV, q.a ≠ p.a → 0 ≤ q.a → (fd2.set p.a.toNat true)[q.a.toNat]? = fd2[q.a.toNat]? := fun q h1 h2 => List.getElem?_set_ne (by omega)
               exact WX.loop_next (j + 1, kd - 1, fd2.set p.a.toNat true) ⟨rfl, rfl, rfl, rfl, rfl, rfl, rfl, rfl, rfl, trivial⟩ ⟨⟨by show j + 1 ≤ _; omega, by show kd - 1 = _ - ((j + 1 : Nat) : Int); omega⟩, ⟨by show (fd2.set _ _).length = i; rw [List.length_set]; exact hfl, fun q hq => by
                 show (fd2.set p.a.toNat true)[q.a.toNat]? = _
                 rw [hset q (hfx q hq p (List.mem_of_getElem? hp)) (hOI4.born q hq).2.1]
                 exact hfp q hq, fun m q hm hq => by
                 have hm : j + 1 ≤ m := hm
                 show (fd2.set p.a.toNat true)[q.a.toNat]? = _
                 rw [hset q (fun e => nodup_ne hfn hp hq (by omega) e.symm) (hfa q (List.mem_of_getElem? hq)).1]
                 exact hff m q (by omega) hq⟩, hb5, hb16, hL4, hF4, hFd, h1, hw⟩ (by show fr.length - (j + 1) < fr.length - j; omega))
            | (have hjf : j = fr.length := by omega
               have hkd2 : kd = ((allP l4.abs).length : Int) := by omega
               subst hkd2
               exact WX.loop_next (u + 1, l4, fd2) ⟨rfl, rfl, rfl, rfl, rfl, rfl, trivial⟩ ⟨by show u + 1 + l4.snaps.length ≤ 30; omega, hOI4, by show (allP l4.abs).length ≤ 30; omega, ⟨hfl, hfp⟩, hb5, hL4, hFd, h1, hw⟩ (by show l4.snaps.length < l2.snaps.length; omega))
            | (have hbt : b2 = true := hc84
               have hab : l2.abs = l1.abs := by
                 rcases hcs with ⟨h3, _⟩ | ⟨_, h3⟩
                 ·
                   rw [hbt] at h3; cases h3
                 ·
                   exact h3
               have hl2 : l2.snaps.length = l1.snaps.length := abs_len hab
               have hOI2 : OI l2.abs (i + 1) := by rw [hab]; exact hOI1.up
               have hah2 : l2.abs.ahead l2.snaps.length = l1.abs.ahead l1.snaps.length := by rw [hab, hl2]
               have hal2 : (allP l2.abs).length = (allP l1.abs).length := by rw [hab]
               rw [show ((allP l1.abs).length : Int) + 1 - 1 = ((allP l2.abs).length : Int) from by omega]
               first
                 | exact WX.loop_next (i + 1, l2, t + 1 + 1) ⟨rfl, rfl, rfl, rfl, rfl, rfl, rfl, trivial⟩ ⟨⟨by show i + 1 ≤ _; omega, by show i + 1 ≤ _; omega⟩, ⟨by show l2.abs.ahead l2.snaps.length ≤ t + 1 + 1; omega, by show 0 ≤ t + 1 + 1; omega, by show t + 1 + 1 ≤ 2 * ((i + 1 : Nat) : Int); omega⟩, hOI2, ⟨by show (allP l2.abs).length ≤ i + 1; omega, by show l2.snaps.length ≤ i + 1; omega⟩, hb51, hL2, h0, h1, hw⟩ (by show l0.length - (i + 1) < l0.length - i; omega)
                 | exact WX.loop_next (i + 1, l2, t + 1) ⟨rfl, rfl, rfl, rfl, rfl, rfl, rfl, trivial⟩ ⟨⟨by show i + 1 ≤ _; omega, by show i + 1 ≤ _; omega⟩, ⟨by show l2.abs.ahead l2.snaps.length ≤ t + 1; omega, by show 0 ≤ t + 1; omega, by show t + 1 ≤ 2 * ((i + 1 : Nat) : Int); omega⟩, hOI2, ⟨by show (allP l2.abs).length ≤ i + 1; omega, by show l2.snaps.length ≤ i + 1; omega⟩, hb51, hL2, h0, h1, hw⟩ (by show l0.length - (i + 1) < l0.length - i; omega))
            | (have hbt : b2 = false := hc84
               obtain ⟨hOI2, hal2, hl2, hah2⟩ : OI l2.abs (i + 1) ∧ (allP l2.abs).length = (allP l1.abs).length + 1 ∧ l2.snaps.length = l1.snaps.length ∧ l2.abs.ahead l2.snaps.length = l1.abs.ahead l1.snaps.length := by
                 rcases hcs with ⟨_, h3⟩ | ⟨h3, _⟩
                 ·
                   exact h3
                 ·
                   rw [hbt] at h3; cases h3
               rw [show ((allP l1.abs).length : Int) + 1 = ((allP l2.abs).length : Int) from by omega]
               first
                 | exact WX.loop_next (i + 1, l2, t + 1 + 1) ⟨rfl, rfl, rfl, rfl, rfl, rfl, rfl, trivial⟩ ⟨⟨by show i + 1 ≤ _; omega, by show i + 1 ≤ _; omega⟩, ⟨by show l2.abs.ahead l2.snaps.length ≤ t + 1 + 1; omega, by show 0 ≤ t + 1 + 1; omega, by show t + 1 + 1 ≤ 2 * ((i + 1 : Nat) : Int); omega⟩, hOI2, ⟨by show (allP l2.abs).length ≤ i + 1; omega, by show l2.snaps.length ≤ i + 1; omega⟩, hb51, hL2, h0, h1, hw⟩ (by show l0.length - (i + 1) < l0.length - i; omega)
                 | exact WX.loop_next (i + 1, l2, t + 1) ⟨rfl, rfl, rfl, rfl, rfl, rfl, rfl, trivial⟩ ⟨⟨by show i + 1 ≤ _; omega, by show i + 1 ≤ _; omega⟩, ⟨by show l2.abs.ahead l2.snaps.length ≤ t + 1; omega, by show 0 ≤ t + 1; omega, by show t + 1 ≤ 2 * ((i + 1 : Nat) : Int); omega⟩, hOI2, ⟨by show (allP l2.abs).length ≤ i + 1; omega, by show l2.snaps.length ≤ i + 1; omega⟩, hb51, hL2, h0, h1, hw⟩ (by show l0.length - (i + 1) < l0.length - i; omega))
            | exact WX.loop_next (i + 1, l1, t + 1 + 1) ⟨rfl, rfl, rfl, rfl, rfl, rfl, rfl, trivial⟩ ⟨⟨by show i + 1 ≤ _; omega, by show i + 1 ≤ _; omega⟩, ⟨by show l1.abs.ahead l1.snaps.length ≤ t + 1 + 1; omega, by show 0 ≤ t + 1 + 1; omega, by show t + 1 + 1 ≤ 2 * ((i + 1 : Nat) : Int); omega⟩, hOI1.up, ⟨by show (allP l1.abs).length ≤ i + 1; omega, by show l1.snaps.length ≤ i + 1; omega⟩, hb51, hL1, h0, h1, hw⟩ (by show l0.length - (i + 1) < l0.length - i; omega)
            | exact WX.loop_next (i + 1, l1, t + 1) ⟨rfl, rfl, rfl, rfl, rfl, rfl, rfl, trivial⟩ ⟨⟨by show i + 1 ≤ _; omega, by show i + 1 ≤ _; omega⟩, ⟨by show l1.abs.ahead l1.snaps.length ≤ t + 1; omega, by show 0 ≤ t + 1; omega, by show t + 1 ≤ 2 * ((i + 1 : Nat) : Int); omega⟩, hOI1.up, ⟨by show (allP l1.abs).length ≤ i + 1; omega, by show l1.snaps.length ≤ i + 1; omega⟩, hb51, hL1, h0, h1, hw⟩ (by show l0.length - (i + 1) < l0.length - i; omega)
      ·
        refine WL.nil (WX.then_normal (WC.cond_false rfl (WC.skip (WX.then_normal (WC.seq (WC.seq (WC.region (?_))))))))
        first
          | (have hev : x.tmod 2 = 0 := h46
             have hL1 := hLs
             have hOI1 := hOIs
             have hb51 : Blk _ g5 33 (lcells l1) := hb5
             have hlate : x.tmod 2 = 0 ∧ t + 1 ≤ l1.abs.ahead l1.snaps.length ∨ x.tmod 2 ≠ 0 ∧ l1.abs.ahead l1.snaps.length < t + 1 := .inl ⟨hev, by omega⟩
             have hal1 : (allP l1.abs).length ≤ i := by rw [hals]; exact hal
             have hsl1 : l1.snaps.length ≤ i + 1 := by omega
             have hahl : l1.abs.ahead l1.snaps.length ≤ t + 1 + 1 := by omega
             rw [← hals])
          | (have hev : x.tmod 2 ≠ 0 := h46
             obtain ⟨l1, hll⟩ : ∃ l1, l1 = l := ⟨_, rfl⟩
             subst hll
             have hL1 := hL.mono (S' := fun b => b ≠ g5) (fun b hb => hb.1)
             have hOI1 := hOI
             have hb51 : Blk _ g5 33 (lcells l1) := hb5
             have hlate : x.tmod 2 = 0 ∧ t + 1 ≤ l1.abs.ahead l1.snaps.length ∨ x.tmod 2 ≠ 0 ∧ l1.abs.ahead l1.snaps.length < t + 1 := .inr ⟨hev, by omega⟩
             have hal1 := hal
             have hsl1 : l1.snaps.length ≤ i + 1 := by omega
             have hahl : l1.abs.ahead l1.snaps.length ≤ t + 1 := by omega)
        refine WL.move rfl rfl ?_
        refine WL.neqF rfl rfl rfl (by first | rfl | omega | decide) ?_
        refine WL.nil (WX.then_normal (WC.cond_false rfl (WC.skip (WX.then_normal (WC.seq (WC.region (WL.move rfl rfl (?_))))))))
        refine WL.move rfl rfl (?_)
        refine WL.indexT Try.underlying55 Try.sizeOf3 h0 rfl rfl ⟨hx, rfl⟩ rfl ?_
        intro b_4 o_4 hc_4
        refine WL.load Try.isAgg3 rfl (hc_4 0 _ rfl) rfl (?_)
        refine WL.remk rfl rfl (by decide) rfl ?_
        refine WL.eql? rfl rfl rfl (fun h62 => ?_) (fun h62 => ?_)
        ·
          refine WL.nil (WX.then_normal (WC.cond_true rfl (WC.seq (WC.region (WL.loadsB Try.isAgg33 Try.sizeOf33 hb51 rfl (by first | (simp; done) | (simp; omega) | rfl) rfl (WL.loadsB Try.isAgg27 Try.sizeOf27 hb10 rfl (by first | (simp; done) | (simp; omega) | rfl) rfl (?_)))))))
          obtain ⟨hsm1, -⟩ := all_sm (n := i + 1) (by omega) hsl1 (by omega)
          refine WL.call eg_13 rfl rfl (Kill_calls hL1 (hsm1.up (by decide)) ⟨(i : Int), 0, t + 1, ⟨#[]⟩⟩) ?_
          rintro v w3 ⟨⟨l2, b2, e2, rfl, hR2, hO2⟩, k3⟩
          have hls1 : l1.abs.snaps.length = l1.snaps.length := sabs_len _
          have hls2 : l2.abs.snaps.length = l2.snaps.length := sabs_len _
          obtain ⟨hb2, rfl, hcs⟩ : b2 = decide (x.tmod 2 ≠ 0) ∧ e2 = 0 ∧ (b2 = false ∧ OI l2.abs (i + 1) ∧ (allP l2.abs).length = (allP l1.abs).length + 1 ∧ l2.snaps.length = l1.snaps.length ∧ l2.abs.ahead l2.snaps.length = l1.abs.ahead l1.snaps.length ∨ b2 = true ∧ l2.abs = l1.abs) := by
            rcases hlate with ⟨h2, h3⟩ | ⟨h2, h3⟩
            ·
              rw [← hls1] at h3
              obtain ⟨h4, h5, h6⟩ := hR2.keep hOI1.right h3
              have h7 : l2.snaps.length = l1.snaps.length := by rw [← hls1, ← hls2, h4]
              refine ⟨by rw [h5]; symm; exact decide_eq_false (fun h => h h2), h6, .inl ⟨h5, ?_, ?_, h7, ?_⟩⟩
              ·
                rw [h4]; exact hOI1.kill h3 (by show 1 ≤ t + 1; omega) rfl
              ·
                rw [h4, kill_all]; simp
              ·
                rw [h7, h4]; rfl
            ·
              rw [← hls1] at h3
              obtain ⟨h4, h5, h6⟩ := hR2.free hOI1.right h3
              exact ⟨by rw [h5]; symm; exact decide_eq_true h2, h6, .inr ⟨h5, h4⟩⟩
          have zs_k3 := k3.size
          replace h0 := h0.pure k3
          replace h1 := h1.pure k3
          replace hw := hw.pure k3
          replace hb10 := hb10.pure k3
          replace hb51 := hb51.pure k3
          have hL2 := (hO2.mono (S' := fun b => b ≠ g5) (fun b hb => by omega)).ls
          refine WL.move rfl rfl (WL.extract rfl rfl rfl (WL.extract rfl rfl rfl (WL.extract rfl rfl rfl (?_))))
          refine WL.stores Try.sizeOf33 hb51 rfl rfl (by first | (simp; done) | (simp; omega) | rfl) (by first | exact Enc.one _ _ | (intro u hu; obtain ⟨x, _, rfl⟩ := List.mem_map.1 hu; rfl) | (simp [Value.oneCell']; done) | (simp [Value.oneCell', Value.cells]; done)) (by first | (simp; done) | (simp; omega) | (simp [Value.cells]; done) | (simp [Value.cells]; omega) | exact Nat.le_of_ble_eq_true rfl) rfl ?_
          intro w_5 hs_5 hn_5 k_5
          have zs_k_5 := k_5.size
          replace h0 := h0.chg k_5 (by first | (intro x h1 h2; exact h2) | (intro x h1 h2; have h3 : _ = _ := h2; subst h3; assumption) | (intro x h1 h2; have h3 : _ = _ := h2; exfalso; omega) | (intro b h1 h2 h3; have h4 : _ = _ := h3; (try dsimp only at h2); exfalso; omega) | (intro h1; have h2 : _ = _ := h1; exfalso; omega) | (intro h1; have h2 : _ ≤ _ := h1; exfalso; omega) | (intros; exfalso; (try dsimp only at *); omega) | (intro h1; exfalso; have h4 := h1.2; (try dsimp only at *); omega) | (intro x h1 h2; exact h2.1))
          replace h1 := h1.chg k_5 (by first | (intro x h1 h2; exact h2) | (intro x h1 h2; have h3 : _ = _ := h2; subst h3; assumption) | (intro x h1 h2; have h3 : _ = _ := h2; exfalso; omega) | (intro b h1 h2 h3; have h4 : _ = _ := h3; (try dsimp only at h2); exfalso; omega) | (intro h1; have h2 : _ = _ := h1; exfalso; omega) | (intro h1; have h2 : _ ≤ _ := h1; exfalso; omega) | (intros; exfalso; (try dsimp only at *); omega) | (intro h1; exfalso; have h4 := h1.2; (try dsimp only at *); omega) | (intro x h1 h2; exact h2.1))
          replace hw := hw.chg k_5 (by first | (intro x h1 h2; exact h2) | (intro x h1 h2; have h3 : _ = _ := h2; subst h3; assumption) | (intro x h1 h2; have h3 : _ = _ := h2; exfalso; omega) | (intro b h1 h2 h3; have h4 : _ = _ := h3; (try dsimp only at h2); exfalso; omega) | (intro h1; have h2 : _ = _ := h1; exfalso; omega) | (intro h1; have h2 : _ ≤ _ := h1; exfalso; omega) | (intros; exfalso; (try dsimp only at *); omega) | (intro h1; exfalso; have h4 := h1.2; (try dsimp only at *); omega) | (intro x h1 h2; exact h2.1))
          replace hb10 := hb10.chg k_5 (by first | (intro x h1 h2; exact h2) | (intro x h1 h2; have h3 : _ = _ := h2; subst h3; assumption) | (intro x h1 h2; have h3 : _ = _ := h2; exfalso; omega) | (intro b h1 h2 h3; have h4 : _ = _ := h3; (try dsimp only at h2); exfalso; omega) | (intro h1; have h2 : _ = _ := h1; exfalso; omega) | (intro h1; have h2 : _ ≤ _ := h1; exfalso; omega) | (intros; exfalso; (try dsimp only at *); omega) | (intro h1; exfalso; have h4 := h1.2; (try dsimp only at *); omega) | (intro x h1 h2; exact h2.1))
          replace hL2 := hL2.chg k_5 (by first | (intro x h1 h2; exact h2) | (intro x h1 h2; have h3 : _ = _ := h2; subst h3; assumption) | (intro x h1 h2; have h3 : _ = _ := h2; exfalso; omega) | (intro b h1 h2 h3; have h4 : _ = _ := h3; (try dsimp only at h2); exfalso; omega) | (intro h1; have h2 : _ = _ := h1; exfalso; omega) | (intro h1; have h2 : _ ≤ _ := h1; exfalso; omega) | (intros; exfalso; (try dsimp only at *); omega) | (intro h1; exfalso; have h4 := h1.2; (try dsimp only at *); omega) | (intro x h1 h2; exact h2.1))
          replace hb51 := hn_5
          refine WL.assign rfl rfl (WL.assign rfl rfl (WL.nil (WX.then_normal (WC.seq (WC.region (WL.move rfl rfl (WL.add64 rfl rfl (by first | omega | (constructor <;> omega)) rfl (?_))))))))
          refine WL.assign rfl rfl (WL.nil (WX.then_normal (WC.seq (WC.seq (WC.region (WL.move rfl rfl (?_)))))))
          refine WL.neqF rfl rfl rfl (by first | rfl | omega | decide) ?_
          refine WL.move rfl rfl (WL.want rfl rfl rfl (WL.move rfl rfl (WL.want rfl rfl rfl (WL.move rfl rfl (WL.want rfl rfl rfl (WL.move rfl rfl (WL.want rfl rfl rfl (?_))))))))
          refine WL.indexT Try.underlying55 Try.sizeOf3 h0 rfl rfl ⟨hx, rfl⟩ rfl ?_
          intro b_6 o_6 hc_6
          refine WL.want rfl rfl rfl (WL.load Try.isAgg3 rfl (hc_6 0 _ rfl) rfl (WL.want rfl rfl rfl (?_)))
          refine WL.remk rfl rfl (by decide) rfl ?_
          refine WL.want rfl rfl rfl (WL.neq rfl rfl rfl (WL.want rfl rfl rfl (?_)))
          refine WL.bneqF Try.underlying4 rfl rfl hb2 rfl ?_
          refine WL.pickF rfl rfl rfl (WL.nil (WX.then_normal (WC.cond_false rfl (WC.skip (WX.then_normal (WC.seq (WC.region (?_))))))))
          refine WL.move rfl rfl (WL.nil (WX.then_normal (?_)))
          first | refine WC.cond_dec rfl (fun hc84 => ?_) (fun hc84 => ?_) | refine WC.cond_split rfl (fun hc84 => ?_) (fun hc84 => ?_)
          ·
            refine WC.region (WL.move rfl rfl (WL.sub64 rfl rfl (by first | omega | (constructor <;> omega)) rfl (WL.assign rfl rfl (WL.nil (WX.block_normal (WX.then_normal (WC.region (?_))))))))
            refine WL.move rfl rfl (WL.add64 rfl rfl (by first | omega | (constructor <;> omega)) rfl (WL.assign rfl rfl (WL.nil (?_))))
            first
              | (have hset : ∀ q : PtV, q.a ≠ p.a → 0 ≤ q.a → (fd2.set p.a.toNat true)[q.a.toNat]? = fd2[q.a.toNat]? := fun q h1 h2 => List.getElem?_set_ne (by omega)
                 exact WX.loop_next (j + 1, kd - 1, fd2.set p.a.toNat true) ⟨rfl, rfl, rfl, rfl, rfl, rfl, rfl, rfl, rfl, trivial⟩ ⟨⟨by show j + 1 ≤ _; omega, by show kd - 1 = _ - ((j + 1 : Nat) : Int); omega⟩, ⟨by show (fd2.set _ _).length = i; rw [List.length_set]; exact hfl, fun q hq => by
                   show (fd2.set p.a.toNat true)[q.a.toNat]? = _
                   rw [hset q (hfx q hq p (List.mem_of_getElem? hp)) (hOI4.born q hq).2.1]
                   exact hfp q hq, fun m q hm hq => by
                   have hm : j + 1 ≤ m := hm
                   show (fd2.set p.a.toNat true)[q.a.toNat]? = _
                   rw [hset q (fun e => nodup_ne hfn hp hq (by omega) e.symm) (hfa q (List.mem_of_getElem? hq)).1]
                   exact hff m q (by omega) hq⟩, hb5, hb16, hL4, hF4, hFd, h1, hw⟩ (by show fr.length - (j + 1) < fr.length - j; omega))
              | (have hjf : j = fr.length := by omega
                 have hkd2 : kd = ((allP l4.abs).length : Int) := by omega
                 subst hkd2
                 exact WX.loop_next (u + 1, l4, fd2) ⟨rfl, rfl, rfl, rfl, rfl, rfl, trivial⟩ ⟨by show u + 1 + l4.snaps.length ≤ 30; omega, hOI4, by show (allP l4.abs).length ≤ 30; omega, ⟨hfl, hfp⟩, hb5, hL4, hFd, h1, hw⟩ (by show l4.snaps.length < l2.snaps.length; omega))
              | (have hbt : b2 = true := hc84
                 have hab : l2.abs = l1.abs := by
                   rcases hcs with ⟨h3, _⟩ | ⟨_, h3⟩
                   ·
                     rw [hbt] at h3; cases h3
                   ·
                     exact h3
                 have hl2 : l2.snaps.length = l1.snaps.length := abs_len hab
                 have hOI2 : OI l2.abs (i + 1) := by rw [hab]; exact hOI1.up
                 have hah2 : l2.abs.ahead l2.snaps.length = l1.abs.ahead l1.snaps.length := by rw [hab, hl2]
                 have hal2 : (allP l2.abs).length = (allP l1.abs).length := by rw [hab]
                 rw [show ((allP l1.abs).length : Int) + 1 - 1 = ((allP l2.abs).length : Int) from by omega]
                 first
                   | exact WX.loop_next (i + 1, l2, t + 1 + 1) ⟨rfl, rfl, rfl, rfl, rfl, rfl, rfl, trivial⟩ ⟨⟨by show i + 1 ≤ _; omega, by show i + 1 ≤ _; omega⟩, ⟨by show l2.abs.ahead l2.snaps.length ≤ t + 1 + 1; omega, by show 0 ≤ t + 1 + 1; omega, by show t + 1 + 1 ≤ 2 * ((i + 1 : Nat) : Int); omega⟩, hOI2, ⟨by show (allP l2.abs).length ≤ i + 1; omega, by show l2.snaps.length ≤ i + 1; omega⟩, hb51, hL2, h0, h1, hw⟩ (by show l0.length - (i + 1) < l0.length - i; omega)
                   | exact WX.loop_next (i + 1, l2, t + 1) ⟨rfl, rfl, rfl, rfl, rfl, rfl, rfl, trivial⟩ ⟨⟨by show i + 1 ≤ _; omega, by show i + 1 ≤ _; omega⟩, ⟨by show l2.abs.ahead l2.snaps.length ≤ t + 1; omega, by show 0 ≤ t + 1; omega, by show t + 1 ≤ 2 * ((i + 1 : Nat) : Int); omega⟩, hOI2, ⟨by show (allP l2.abs).length ≤ i + 1; omega, by show l2.snaps.length ≤ i + 1; omega⟩, hb51, hL2, h0, h1, hw⟩ (by show l0.length - (i + 1) < l0.length - i; omega))
              | (have hbt : b2 = false := hc84
                 obtain ⟨hOI2, hal2, hl2, hah2⟩ : OI l2.abs (i + 1) ∧ (allP l2.abs).length = (allP l1.abs).length + 1 ∧ l2.snaps.length = l1.snaps.length ∧ l2.abs.ahead l2.snaps.length = l1.abs.ahead l1.snaps.length := by
                   rcases hcs with ⟨_, h3⟩ | ⟨h3, _⟩
                   ·
                     exact h3
                   ·
                     rw [hbt] at h3; cases h3
                 rw [show ((allP l1.abs).length : Int) + 1 = ((allP l2.abs).length : Int) from by omega]
                 first
                   | exact WX.loop_next (i + 1, l2, t + 1 + 1) ⟨rfl, rfl, rfl, rfl, rfl, rfl, rfl, trivial⟩ ⟨⟨by show i + 1 ≤ _; omega, by show i + 1 ≤ _; omega⟩, ⟨by show l2.abs.ahead l2.snaps.length ≤ t + 1 + 1; omega, by show 0 ≤ t + 1 + 1; omega, by show t + 1 + 1 ≤ 2 * ((i + 1 : Nat) : Int); omega⟩, hOI2, ⟨by show (allP l2.abs).length ≤ i + 1; omega, by show l2.snaps.length ≤ i + 1; omega⟩, hb51, hL2, h0, h1, hw⟩ (by show l0.length - (i + 1) < l0.length - i; omega)
                   | exact WX.loop_next (i + 1, l2, t + 1) ⟨rfl, rfl, rfl, rfl, rfl, rfl, rfl, trivial⟩ ⟨⟨by show i + 1 ≤ _; omega, by show i + 1 ≤ _; omega⟩, ⟨by show l2.abs.ahead l2.snaps.length ≤ t + 1; omega, by show 0 ≤ t + 1; omega, by show t + 1 ≤ 2 * ((i + 1 : Nat) : Int); omega⟩, hOI2, ⟨by show (allP l2.abs).length ≤ i + 1; omega, by show l2.snaps.length ≤ i + 1; omega⟩, hb51, hL2, h0, h1, hw⟩ (by show l0.length - (i + 1) < l0.length - i; omega))
              | exact WX.loop_next (i + 1, l1, t + 1 + 1) ⟨rfl, rfl, rfl, rfl, rfl, rfl, rfl, trivial⟩ ⟨⟨by show i + 1 ≤ _; omega, by show i + 1 ≤ _; omega⟩, ⟨by show l1.abs.ahead l1.snaps.length ≤ t + 1 + 1; omega, by show 0 ≤ t + 1 + 1; omega, by show t + 1 + 1 ≤ 2 * ((i + 1 : Nat) : Int); omega⟩, hOI1.up, ⟨by show (allP l1.abs).length ≤ i + 1; omega, by show l1.snaps.length ≤ i + 1; omega⟩, hb51, hL1, h0, h1, hw⟩ (by show l0.length - (i + 1) < l0.length - i; omega)
              | exact WX.loop_next (i + 1, l1, t + 1) ⟨rfl, rfl, rfl, rfl, rfl, rfl, rfl, trivial⟩ ⟨⟨by show i + 1 ≤ _; omega, by show i + 1 ≤ _; omega⟩, ⟨by show l1.abs.ahead l1.snaps.length ≤ t + 1; omega, by show 0 ≤ t + 1; omega, by show t + 1 ≤ 2 * ((i + 1 : Nat) : Int); omega⟩, hOI1.up, ⟨by show (allP l1.abs).length ≤ i + 1; omega, by show l1.snaps.length ≤ i + 1; omega⟩, hb51, hL1, h0, h1, hw⟩ (by show l0.length - (i + 1) < l0.length - i; omega)
          ·
            refine WC.skip (WX.block_normal (WX.then_normal (WC.region (WL.move rfl rfl (WL.add64 rfl rfl (by first | omega | (constructor <;> omega)) rfl (WL.assign rfl rfl (WL.nil (?_))))))))
            first
              | (have hset : ∀ q : PtV, q.a ≠ p.a → 0 ≤ q.a → (fd2.set p.a.toNat true)[q.a.toNat]? = fd2[q.a.toNat]? := fun q h1 h2 => List.getElem?_set_ne (by omega)
                 exact WX.loop_next (j + 1, kd - 1, fd2.set p.a.toNat true) ⟨rfl, rfl, rfl, rfl, rfl, rfl, rfl, rfl, rfl, trivial⟩ ⟨⟨by show j + 1 ≤ _; omega, by show kd - 1 = _ - ((j + 1 : Nat) : Int); omega⟩, ⟨by show (fd2.set _ _).length = i; rw [List.length_set]; exact hfl, fun q hq => by
                   show (fd2.set p.a.toNat true)[q.a.toNat]? = _
                   rw [hset q (hfx q hq p (List.mem_of_getElem? hp)) (hOI4.born q hq).2.1]
                   exact hfp q hq, fun m q hm hq => by
                   have hm : j + 1 ≤ m := hm
                   show (fd2.set p.a.toNat true)[q.a.toNat]? = _
                   rw [hset q (fun e => nodup_ne hfn hp hq (by omega) e.symm) (hfa q (List.mem_of_getElem? hq)).1]
                   exact hff m q (by omega) hq⟩, hb5, hb16, hL4, hF4, hFd, h1, hw⟩ (by show fr.length - (j + 1) < fr.length - j; omega))
              | (have hjf : j = fr.length := by omega
                 have hkd2 : kd = ((allP l4.abs).length : Int) := by omega
                 subst hkd2
                 exact WX.loop_next (u + 1, l4, fd2) ⟨rfl, rfl, rfl, rfl, rfl, rfl, trivial⟩ ⟨by show u + 1 + l4.snaps.length ≤ 30; omega, hOI4, by show (allP l4.abs).length ≤ 30; omega, ⟨hfl, hfp⟩, hb5, hL4, hFd, h1, hw⟩ (by show l4.snaps.length < l2.snaps.length; omega))
              | (have hbt : b2 = true := hc84
                 have hab : l2.abs = l1.abs := by
                   rcases hcs with ⟨h3, _⟩ | ⟨_, h3⟩
                   ·
                     rw [hbt] at h3; cases h3
                   ·
                     exact h3
                 have hl2 : l2.snaps.length = l1.snaps.length := abs_len hab
                 have hOI2 : OI l2.abs (i + 1) := by rw [hab]; exact hOI1.up
                 have hah2 : l2.abs.ahead l2.snaps.length = l1.abs.ahead l1.snaps.length := by rw [hab, hl2]
                 have hal2 : (allP l2.abs).length = (allP l1.abs).length := by rw [hab]
                 rw [show ((allP l1.abs).length : Int) + 1 - 1 = ((allP l2.abs).length : Int) from by omega]
                 first
                   | exact WX.loop_next (i + 1, l2, t + 1 + 1) ⟨rfl, rfl, rfl, rfl, rfl, rfl, rfl, trivial⟩ ⟨⟨by show i + 1 ≤ _; omega, by show i + 1 ≤ _; omega⟩, ⟨by show l2.abs.ahead l2.snaps.length ≤ t + 1 + 1; omega, by show 0 ≤ t + 1 + 1; omega, by show t + 1 + 1 ≤ 2 * ((i + 1 : Nat) : Int); omega⟩, hOI2, ⟨by show (allP l2.abs).length ≤ i + 1; omega, by show l2.snaps.length ≤ i + 1; omega⟩, hb51, hL2, h0, h1, hw⟩ (by show l0.length - (i + 1) < l0.length - i; omega)
                   | exact WX.loop_next (i + 1, l2, t + 1) ⟨rfl, rfl, rfl, rfl, rfl, rfl, rfl, trivial⟩ ⟨⟨by show i + 1 ≤ _; omega, by show i + 1 ≤ _; omega⟩, ⟨by show l2.abs.ahead l2.snaps.length ≤ t + 1; omega, by show 0 ≤ t + 1; omega, by show t + 1 ≤ 2 * ((i + 1 : Nat) : Int); omega⟩, hOI2, ⟨by show (allP l2.abs).length ≤ i + 1; omega, by show l2.snaps.length ≤ i + 1; omega⟩, hb51, hL2, h0, h1, hw⟩ (by show l0.length - (i + 1) < l0.length - i; omega))
              | (have hbt : b2 = false := hc84
                 obtain ⟨hOI2, hal2, hl2, hah2⟩ : OI l2.abs (i + 1) ∧ (allP l2.abs).length = (allP l1.abs).length + 1 ∧ l2.snaps.length = l1.snaps.length ∧ l2.abs.ahead l2.snaps.length = l1.abs.ahead l1.snaps.length := by
                   rcases hcs with ⟨_, h3⟩ | ⟨h3, _⟩
                   ·
                     exact h3
                   ·
                     rw [hbt] at h3; cases h3
                 rw [show ((allP l1.abs).length : Int) + 1 = ((allP l2.abs).length : Int) from by omega]
                 first
                   | exact WX.loop_next (i + 1, l2, t + 1 + 1) ⟨rfl, rfl, rfl, rfl, rfl, rfl, rfl, trivial⟩ ⟨⟨by show i + 1 ≤ _; omega, by show i + 1 ≤ _; omega⟩, ⟨by show l2.abs.ahead l2.snaps.length ≤ t + 1 + 1; omega, by show 0 ≤ t + 1 + 1; omega, by show t + 1 + 1 ≤ 2 * ((i + 1 : Nat) : Int); omega⟩, hOI2, ⟨by show (allP l2.abs).length ≤ i + 1; omega, by show l2.snaps.length ≤ i + 1; omega⟩, hb51, hL2, h0, h1, hw⟩ (by show l0.length - (i + 1) < l0.length - i; omega)
                   | exact WX.loop_next (i + 1, l2, t + 1) ⟨rfl, rfl, rfl, rfl, rfl, rfl, rfl, trivial⟩ ⟨⟨by show i + 1 ≤ _; omega, by show i + 1 ≤ _; omega⟩, ⟨by show l2.abs.ahead l2.snaps.length ≤ t + 1; omega, by show 0 ≤ t + 1; omega, by show t + 1 ≤ 2 * ((i + 1 : Nat) : Int); omega⟩, hOI2, ⟨by show (allP l2.abs).length ≤ i + 1; omega, by show l2.snaps.length ≤ i + 1; omega⟩, hb51, hL2, h0, h1, hw⟩ (by show l0.length - (i + 1) < l0.length - i; omega))
              | exact WX.loop_next (i + 1, l1, t + 1 + 1) ⟨rfl, rfl, rfl, rfl, rfl, rfl, rfl, trivial⟩ ⟨⟨by show i + 1 ≤ _; omega, by show i + 1 ≤ _; omega⟩, ⟨by show l1.abs.ahead l1.snaps.length ≤ t + 1 + 1; omega, by show 0 ≤ t + 1 + 1; omega, by show t + 1 + 1 ≤ 2 * ((i + 1 : Nat) : Int); omega⟩, hOI1.up, ⟨by show (allP l1.abs).length ≤ i + 1; omega, by show l1.snaps.length ≤ i + 1; omega⟩, hb51, hL1, h0, h1, hw⟩ (by show l0.length - (i + 1) < l0.length - i; omega)
              | exact WX.loop_next (i + 1, l1, t + 1) ⟨rfl, rfl, rfl, rfl, rfl, rfl, rfl, trivial⟩ ⟨⟨by show i + 1 ≤ _; omega, by show i + 1 ≤ _; omega⟩, ⟨by show l1.abs.ahead l1.snaps.length ≤ t + 1; omega, by show 0 ≤ t + 1; omega, by show t + 1 ≤ 2 * ((i + 1 : Nat) : Int); omega⟩, hOI1.up, ⟨by show (allP l1.abs).length ≤ i + 1; omega, by show l1.snaps.length ≤ i + 1; omega⟩, hb51, hL1, h0, h1, hw⟩ (by show l0.length - (i + 1) < l0.length - i; omega)
        ·
          refine WL.nil (WX.then_normal (WC.cond_false rfl (WC.skip (WX.block_normal (WX.then_normal (WC.region (WL.move rfl rfl (?_))))))))
          refine WL.add64 rfl rfl (by first | omega | (constructor <;> omega)) rfl (WL.assign rfl rfl (WL.nil (?_)))
          first
            | (have hset : ∀ q : PtV, q.a ≠ p.a → 0 ≤ q.a → (fd2.set p.a.toNat true)[q.a.toNat]? = fd2[q.a.toNat]? := fun q h1 h2 => List.getElem?_set_ne (by omega)
               exact WX.loop_next (j + 1, kd - 1, fd2.set p.a.toNat true) ⟨rfl, rfl, rfl, rfl, rfl, rfl, rfl, rfl, rfl, trivial⟩ ⟨⟨by show j + 1 ≤ _; omega, by show kd - 1 = _ - ((j + 1 : Nat) : Int); omega⟩, ⟨by show (fd2.set _ _).length = i; rw [List.length_set]; exact hfl, fun q hq => by
                 show (fd2.set p.a.toNat true)[q.a.toNat]? = _
                 rw [hset q (hfx q hq p (List.mem_of_getElem? hp)) (hOI4.born q hq).2.1]
                 exact hfp q hq, fun m q hm hq => by
                 have hm : j + 1 ≤ m := hm
                 show (fd2.set p.a.toNat true)[q.a.toNat]? = _
                 rw [hset q (fun e => nodup_ne hfn hp hq (by omega) e.symm) (hfa q (List.mem_of_getElem? hq)).1]
                 exact hff m q (by omega) hq⟩, hb5, hb16, hL4, hF4, hFd, h1, hw⟩ (by show fr.length - (j + 1) < fr.length - j; omega))
            | (have hjf : j = fr.length := by omega
               have hkd2 : kd = ((allP l4.abs).length : Int) := by omega
               subst hkd2
               exact WX.loop_next (u + 1, l4, fd2) ⟨rfl, rfl, rfl, rfl, rfl, rfl, trivial⟩ ⟨by show u + 1 + l4.snaps.length ≤ 30; omega, hOI4, by show (allP l4.abs).length ≤ 30; omega, ⟨hfl, hfp⟩, hb5, hL4, hFd, h1, hw⟩ (by show l4.snaps.length < l2.snaps.length; omega))
            | (have hbt : b2 = true := hc84
               have hab : l2.abs = l1.abs := by
                 rcases hcs with ⟨h3, _⟩ | ⟨_, h3⟩
                 ·
                   rw [hbt] at h3; cases h3
                 ·
                   exact h3
               have hl2 : l2.snaps.length = l1.snaps.length := abs_len hab
               have hOI2 : OI l2.abs (i + 1) := by rw [hab]; exact hOI1.up
               have hah2 : l2.abs.ahead l2.snaps.length = l1.abs.ahead l1.snaps.length := by rw [hab, hl2]
               have hal2 : (allP l2.abs).length = (allP l1.abs).length := by rw [hab]
               rw [show ((allP l1.abs).length : Int) + 1 - 1 = ((allP l2.abs).length : Int) from by omega]
               first
                 | exact WX.loop_next (i + 1, l2, t + 1 + 1) ⟨rfl, rfl, rfl, rfl, rfl, rfl, rfl, trivial⟩ ⟨⟨by show i + 1 ≤ _; omega, by show i + 1 ≤ _; omega⟩, ⟨by show l2.abs.ahead l2.snaps.length ≤ t + 1 + 1; omega, by show 0 ≤ t + 1 + 1; omega, by show t + 1 + 1 ≤ 2 * ((i + 1 : Nat) : Int); omega⟩, hOI2, ⟨by show (allP l2.abs).length ≤ i + 1; omega, by show l2.snaps.length ≤ i + 1; omega⟩, hb51, hL2, h0, h1, hw⟩ (by show l0.length - (i + 1) < l0.length - i; omega)
                 | exact WX.loop_next (i + 1, l2, t + 1) ⟨rfl, rfl, rfl, rfl, rfl, rfl, rfl, trivial⟩ ⟨⟨by show i + 1 ≤ _; omega, by show i + 1 ≤ _; omega⟩, ⟨by show l2.abs.ahead l2.snaps.length ≤ t + 1; omega, by show 0 ≤ t + 1; omega, by show t + 1 ≤ 2 * ((i + 1 : Nat) : Int); omega⟩, hOI2, ⟨by show (allP l2.abs).length ≤ i + 1; omega, by show l2.snaps.length ≤ i + 1; omega⟩, hb51, hL2, h0, h1, hw⟩ (by show l0.length - (i + 1) < l0.length - i; omega))
            | (have hbt : b2 = false := hc84
               obtain ⟨hOI2, hal2, hl2, hah2⟩ : OI l2.abs (i + 1) ∧ (allP l2.abs).length = (allP l1.abs).length + 1 ∧ l2.snaps.length = l1.snaps.length ∧ l2.abs.ahead l2.snaps.length = l1.abs.ahead l1.snaps.length := by
                 rcases hcs with ⟨_, h3⟩ | ⟨h3, _⟩
                 ·
                   exact h3
                 ·
                   rw [hbt] at h3; cases h3
               rw [show ((allP l1.abs).length : Int) + 1 = ((allP l2.abs).length : Int) from by omega]
               first
                 | exact WX.loop_next (i + 1, l2, t + 1 + 1) ⟨rfl, rfl, rfl, rfl, rfl, rfl, rfl, trivial⟩ ⟨⟨by show i + 1 ≤ _; omega, by show i + 1 ≤ _; omega⟩, ⟨by show l2.abs.ahead l2.snaps.length ≤ t + 1 + 1; omega, by show 0 ≤ t + 1 + 1; omega, by show t + 1 + 1 ≤ 2 * ((i + 1 : Nat) : Int); omega⟩, hOI2, ⟨by show (allP l2.abs).length ≤ i + 1; omega, by show l2.snaps.length ≤ i + 1; omega⟩, hb51, hL2, h0, h1, hw⟩ (by show l0.length - (i + 1) < l0.length - i; omega)
                 | exact WX.loop_next (i + 1, l2, t + 1) ⟨rfl, rfl, rfl, rfl, rfl, rfl, rfl, trivial⟩ ⟨⟨by show i + 1 ≤ _; omega, by show i + 1 ≤ _; omega⟩, ⟨by show l2.abs.ahead l2.snaps.length ≤ t + 1; omega, by show 0 ≤ t + 1; omega, by show t + 1 ≤ 2 * ((i + 1 : Nat) : Int); omega⟩, hOI2, ⟨by show (allP l2.abs).length ≤ i + 1; omega, by show l2.snaps.length ≤ i + 1; omega⟩, hb51, hL2, h0, h1, hw⟩ (by show l0.length - (i + 1) < l0.length - i; omega))
            | exact WX.loop_next (i + 1, l1, t + 1 + 1) ⟨rfl, rfl, rfl, rfl, rfl, rfl, rfl, trivial⟩ ⟨⟨by show i + 1 ≤ _; omega, by show i + 1 ≤ _; omega⟩, ⟨by show l1.abs.ahead l1.snaps.length ≤ t + 1 + 1; omega, by show 0 ≤ t + 1 + 1; omega, by show t + 1 + 1 ≤ 2 * ((i + 1 : Nat) : Int); omega⟩, hOI1.up, ⟨by show (allP l1.abs).length ≤ i + 1; omega, by show l1.snaps.length ≤ i + 1; omega⟩, hb51, hL1, h0, h1, hw⟩ (by show l0.length - (i + 1) < l0.length - i; omega)
            | exact WX.loop_next (i + 1, l1, t + 1) ⟨rfl, rfl, rfl, rfl, rfl, rfl, rfl, trivial⟩ ⟨⟨by show i + 1 ≤ _; omega, by show i + 1 ≤ _; omega⟩, ⟨by show l1.abs.ahead l1.snaps.length ≤ t + 1; omega, by show 0 ≤ t + 1; omega, by show t + 1 ≤ 2 * ((i + 1 : Nat) : Int); omega⟩, hOI1.up, ⟨by show (allP l1.abs).length ≤ i + 1; omega, by show l1.snaps.length ≤ i + 1; omega⟩, hb51, hL1, h0, h1, hw⟩ (by show l0.length - (i + 1) < l0.length - i; omega)
    ·
      refine WL.pickT rfl rfl rfl (WL.nil (WX.then_normal (WC.cond_false rfl (WC.exit (WX.then_exit (WX.then_exit (WX.block_here (?_))))))))
      refine WX.then_normal (WC.seq (WC.region (WL.move rfl rfl (?_))))
      replace hL := hL.lt
      refine WL.make (e := ebool) false i i Try.underlying57 info_4 rfl rfl rfl ⟨rfl, rfl, Nat.le_refl _⟩ (by constructor <;> omega) rfl ?_
      intro gf wf hfd kf zf egf
      rw [List.length_replicate]
      have zs_kf := kf.size
      replace hb5 := hb5.pure kf
      replace hL := hL.pure kf
      replace h0 := h0.pure kf
      replace h1 := h1.pure kf
      replace hw := hw.pure kf
      refine WL.assign rfl rfl (WL.nil (WX.then_normal (WC.seq (WC.seq (WC.region (WL.assign rfl rfl (WL.nil (?_))))))))
      refine WX.then_normal (WC.block (?_))
      have hFd0 : Row (fun b => b = gf) _ 4 ebool (some ⟨gf, 0, none⟩) i (List.replicate i false) := ⟨fun a ea => by injection ea with ea; rw [← ea], hfd.own⟩
      refine WC.loop (σ := Nat × LnV × List Bool) (fun q => [(1, .slice a1 l1.length c1), (5, gptr g5), (7, vi (i : Int)), (8, vi ((allP q.2.1.abs).length : Int)), (13, .slice (some ⟨gf, 0, none⟩) i i), (14, vi (q.1 : Int))]) (fun q w' => q.1 + q.2.1.snaps.length ≤ 30 ∧ OI q.2.1.abs i ∧ (allP q.2.1.abs).length ≤ 30 ∧ (q.2.2.length = i ∧ ∀ p ∈ allP q.2.1.abs, q.2.2[p.a.toNat]? = some false) ∧ Blk w' g5 33 (lcells q.2.1) ∧ LS (fun b => b ≠ g5 ∧ b ≠ gf) w' q.2.1 ∧ Row (fun b => b = gf) w' 4 ebool (some ⟨gf, 0, none⟩) i q.2.2 ∧ RSl (· < w.heap.size) w' ei a1 c1 l1 ∧ Chg Nob w w') (fun q => q.2.1.snaps.length) (0, l, List.replicate i false) ⟨rfl, rfl, rfl, rfl, rfl, rfl, trivial⟩ ⟨by show 0 + l.snaps.length ≤ 30; omega, hOI, by show (allP l.abs).length ≤ 30; omega, ⟨List.length_replicate, fun p hp => by have := hOI.born p hp; show (List.replicate i false)[p.a.toNat]? = _; rw [List.getElem?_replicate, if_pos (by omega)]⟩, hb5, hL.mono (fun b hb => ⟨hb.1, by have := hb.2; omega⟩), hFd0, h1, hw⟩ ?_
      have hgfw : w.heap.size ≤ gf := by omega
      have hg5f : g5 ≠ gf := by omega
      clear hb5 hL hfd hFd0 h1 hw h0
      rintro ⟨u, l2, fd⟩ w1 ⟨hu, hOI, hal, ⟨hfl, hff⟩, hb5, hL, hFd, h1, hw⟩
      simp only at hu hOI hal hfl hff hb5 hL hFd
      dsimp only
      have lg5 := hb5.lt
      have lgf : gf < _ := hFd.own.lt _ rfl
      have zw := hw.size
      refine WC.seq (WC.seq (WC.region (WL.fieldAddr (fld_33_1) rfl rfl (WL.loadB Try.isAgg31 hb5 rfl rfl rfl (WL.len Try.underlying31 rfl rfl (?_))))))
      refine WL.gtr? rfl rfl rfl (fun h92 => ?_) (fun h92 => ?_)
      ·
        refine WL.nil (WX.then_normal (WC.cond_true rfl (WC.skip (WX.then_normal (WC.seq (WC.block (WC.seq (?_))))))))
        refine WC.region (WL.assign rfl rfl (WL.nil (WX.then_normal (WC.seq (WC.seq (WC.region (WL.move rfl rfl (?_))))))))
        refine WL.move rfl rfl (WL.len Try.underlying55 rfl rfl (?_))
        refine WL.lss? rfl rfl rfl (fun h98 => ?_) (fun h98 => ?_)
        ·
          refine WL.nil (WX.then_normal (WC.cond_true rfl (?_)))
          obtain ⟨y, hy⟩ : ∃ y, l1[u]? = some y := ⟨_, List.getElem?_eq_getElem (by omega)⟩
          obtain ⟨kk, hkk⟩ : ∃ kk, kk = (B64 y % B64 (l2.snaps.length : Int)).toNat := ⟨_, rfl⟩
          have hBl : (B64 (l2.snaps.length : Int)).toNat = l2.snaps.length := B64_nat (by omega)
          have hkl : kk < l2.snaps.length := by rw [hkk, UInt64.toNat_mod, hBl]; exact Nat.mod_lt _ (by omega)
          obtain ⟨ob, oo, ho⟩ := h1.place hy
          refine WC.draw (Nob) [0, 1, 2, 3, 4, 5, 6, 7, 8, 9, 10, 11] [] mixed rfl rfl (fun wd_2 kd_2 zd_2 => ?_)
          have zs_kd_2 := kd_2.size
          replace hb5 := hb5.pure kd_2
          replace hL := hL.pure kd_2
          replace hFd := hFd.pure kd_2
          replace h1 := h1.pure kd_2
          replace hw := hw.pure kd_2
          apply DQ.step (E' := [(1, _)])
          case ho => rfl
          case hs => exact ⟨rfl, trivial⟩
          case hk => rfl
          case h1 =>
            intro wq_3 kq_3
            refine WL.move rfl rfl (?_)
            refine WL.nil ?_
            exact WX.one ⟨rfl, by first | exact Chg.refl _ _ | assumption⟩
          apply DQ.step (E' := [(14, _)])
          case ho => rfl
          case hs => exact ⟨rfl, trivial⟩
          case hk => rfl
          case h1 =>
            intro wq_4 kq_4
            refine WL.move rfl rfl (?_)
            refine WL.nil ?_
            exact WX.one ⟨rfl, by first | exact Chg.refl _ _ | assumption⟩
          apply DQ.step (E' := [(99, _), (100, _)])
          case ho => rfl
          case hs => exact ⟨rfl, rfl, trivial⟩
          case hk => rfl
          case h1 =>
            intro wq_5 kq_5
            have zs_kq_5 := kq_5.size
            replace hb5 := hb5.pure kq_5
            replace hL := hL.pure kq_5
            replace hFd := hFd.pure kq_5
            replace h1 := h1.pure kq_5
            replace hw := hw.pure kq_5
            have h1q := h1
            rw [ho] at h1q
            refine WL.indexC (e := ei) h1q Try.underlying55 Try.sizeOf3 (by show some (Value.slice a1 l1.length c1) = _; rw [ho]) rfl ⟨hy, rfl⟩ rfl ?_
            refine WL.nil ?_
            exact WX.one ⟨rfl, by first | exact Chg.refl _ _ | assumption⟩
          apply DQ.step (E' := [(101, _)])
          case ho => rfl
          case hs => exact ⟨rfl, trivial⟩
          case hk => rfl
          case h1 =>
            intro wq_6 kq_6
            have zs_kq_6 := kq_6.size
            replace hb5 := hb5.pure kq_6
            replace hL := hL.pure kq_6
            replace hFd := hFd.pure kq_6
            replace h1 := h1.pure kq_6
            replace hw := hw.pure kq_6
            have h1q := h1
            rw [ho] at h1q
            refine WL.load Try.isAgg3 rfl (h1q.cellsAt hy 0 _ rfl) rfl ?_
            refine WL.nil ?_
            exact WX.one ⟨rfl, by first | exact Chg.refl _ _ | assumption⟩
          apply DQ.step (E' := [(102, _)])
          case ho => rfl
          case hs => exact ⟨rfl, trivial⟩
          case hk => rfl
          case h1 =>
            intro wq_7 kq_7
            have zs_kq_7 := kq_7.size
            replace hb5 := hb5.pure kq_7
            replace hL := hL.pure kq_7
            replace hFd := hFd.pure kq_7
            replace h1 := h1.pure kq_7
            replace hw := hw.pure kq_7
            refine WL.c_i64_u64 Try.underlying3 Try.underlying54 rfl rfl (?_)
            refine WL.nil ?_
            exact WX.one ⟨rfl, by first | exact Chg.refl _ _ | assumption⟩
          apply DQ.step (E' := [(5, _)])
          case ho => rfl
          case hs => exact ⟨rfl, trivial⟩
          case hk => rfl
          case h1 =>
            intro wq_8 kq_8
            refine WL.fieldAddr (fld_33_1) rfl rfl (?_)
            refine WL.nil ?_
            exact WX.one ⟨rfl, by first | exact Chg.refl _ _ | assumption⟩
          apply DQ.step (E' := [(104, _)])
          case ho => rfl
          case hs => exact ⟨rfl, trivial⟩
          case hk => rfl
          case h1 =>
            intro wq_9 kq_9
            have zs_kq_9 := kq_9.size
            replace hb5 := hb5.pure kq_9
            replace hL := hL.pure kq_9
            replace hFd := hFd.pure kq_9
            replace h1 := h1.pure kq_9
            replace hw := hw.pure kq_9
            refine WL.loadB Try.isAgg31 hb5 rfl rfl rfl (?_)
            refine WL.nil ?_
            exact WX.one ⟨rfl, by first | exact Chg.refl _ _ | assumption⟩
          apply DQ.step (E' := [(105, _)])
          case ho => rfl
          case hs => exact ⟨rfl, trivial⟩
          case hk => rfl
          case h1 =>
            intro wq_10 kq_10
            have zs_kq_10 := kq_10.size
            replace hb5 := hb5.pure kq_10
            replace hL := hL.pure kq_10
            replace hFd := hFd.pure kq_10
            replace h1 := h1.pure kq_10
            replace hw := hw.pure kq_10
            refine WL.len Try.underlying31 rfl rfl (?_)
            refine WL.nil ?_
            exact WX.one ⟨rfl, by first | exact Chg.refl _ _ | assumption⟩
          apply DQ.step (E' := [(106, _)])
          case ho => rfl
          case hs => exact ⟨rfl, trivial⟩
          case hk => rfl
          case h1 =>
            intro wq_11 kq_11
            have zs_kq_11 := kq_11.size
            replace hb5 := hb5.pure kq_11
            replace hL := hL.pure kq_11
            replace hFd := hFd.pure kq_11
            replace h1 := h1.pure kq_11
            replace hw := hw.pure kq_11
            refine WL.c_i64_u64 Try.underlying3 Try.underlying54 rfl rfl (?_)
            refine WL.nil ?_
            exact WX.one ⟨rfl, by first | exact Chg.refl _ _ | assumption⟩
          apply DQ.step (E' := [(103, _), (107, _)])
          case ho => rfl
          case hs => exact ⟨rfl, rfl, trivial⟩
          case hk => rfl
          case h1 =>
            intro wq_12 kq_12
            refine WL.num rfl rfl (n_rem64 _ _ _ _ (by rw [hBl]; omega)) rfl ?_
            refine WL.nil ?_
            exact WX.one ⟨rfl, by first | exact Chg.refl _ _ | assumption⟩
          apply DQ.step (E' := [(108, _)])
          case ho => rfl
          case hs => exact ⟨rfl, trivial⟩
          case hk => rfl
          case h1 =>
            intro wq_13 kq_13
            have zs_kq_13 := kq_13.size
            replace hb5 := hb5.pure kq_13
            replace hL := hL.pure kq_13
            replace hFd := hFd.pure kq_13
            replace h1 := h1.pure kq_13
            replace hw := hw.pure kq_13
            refine WL.c_u64_i64s (n := kk) Try.underlying54 Try.underlying3 rfl ⟨hkk.symm, by omega⟩ rfl ?_
            refine WL.nil ?_
            exact WX.one ⟨rfl, by first | exact Chg.refl _ _ | assumption⟩
          apply DQ.step (E' := [(109, _)])
          case ho => rfl
          case hs => exact ⟨rfl, trivial⟩
          case hk => rfl
          case h1 =>
            intro wq_14 kq_14
            refine WL.assign rfl rfl (?_)
            refine WL.nil ?_
            exact WX.one ⟨rfl, by first | exact Chg.refl _ _ | assumption⟩
          refine DQ.done (fun _ => ?_)
          refine DL.done (fun we_15 ke_15 => ?_)
          have zs_ke_15 := ke_15.size
          replace hb5 := hb5.pure ke_15
          replace hL := hL.pure ke_15
          replace hFd := hFd.pure ke_15
          replace h1 := h1.pure ke_15
          replace hw := hw.pure ke_15
          refine WX.then_normal (WC.seq (WC.region (WL.loadsB Try.isAgg33 Try.sizeOf33 hb5 rfl (by first | (simp; done) | (simp; omega) | rfl) rfl (WL.move rfl rfl (?_)))))
          have hls2 : l2.abs.snaps.length = l2.snaps.length := sabs_len _
          obtain ⟨hsm, hzz⟩ := all_sm (n := 30) hal (by omega) (by omega)
          first
            | refine WL.call eg_19 rfl rfl (Destroy_calls hL (hsm.up (by decide)) (kk : Int) (by constructor <;> omega) hzz) ?_
            | refine WL.call eg_19 rfl rfl (Destroy_calls hL (hsm.up (by decide)) 0 (by decide) hzz) ?_
          rintro v w7 ⟨⟨l4, fao, fc, fr, e4, rfl, hR4, hL4, hF4⟩, k7⟩
          obtain ⟨k3, hk3, ha4, hf4, rfl⟩ : ∃ k3, k3 < l2.abs.snaps.length ∧ l4.abs = destroyA l2.abs k3 ∧ fr = freeA l2.abs k3 ∧ e4 = 0 := by
            first
              | (have h := hR4.go hOI.right (by rw [hls2]; constructor <;> omega)
                 rw [Int.toNat_natCast] at h
                 exact ⟨kk, by rw [hls2]; exact hkl, h⟩)
              | exact ⟨0, by rw [hls2]; omega, hR4.go hOI.right (by rw [hls2]; constructor <;> omega)⟩
          obtain ⟨hOI4, hfa, hfn, hfx, hcnt⟩ := hOI.destroy hk3
          have hl4 := destroy_sl hk3
          rw [← ha4] at hOI4 hfx hcnt hl4
          rw [← hf4] at hfa hfn hfx hcnt
          rw [hls2, show l4.abs.snaps.length = l4.snaps.length from sabs_len _] at hl4
          have zs_k7 := k7.size
          replace hb5 := hb5.pure k7
          replace hFd := hFd.pure k7
          replace h1 := h1.pure k7
          replace hw := hw.pure k7
          replace hL4 := hL4.mono (S' := fun b => b ≠ g5 ∧ b ≠ gf) (fun b hb => by omega)
          replace hF4 := hF4.mono (S' := fun b => b ≠ g5 ∧ b ≠ gf) (fun b hb => by omega)
          refine WL.move rfl rfl (WL.extract rfl rfl rfl (WL.extract rfl rfl rfl (WL.extract rfl rfl rfl (?_))))
          replace hL4 := hL4.lt
          replace hF4 := hF4.lt
          refine WL.alloc Try.zeroValue33 rfl ?_
          intro g16 w16 hge16 hlt16 hb16 k16
          have zs_k16 := k16.size
          replace hb5 := hb5.pure k16
          replace hFd := hFd.pure k16
          replace h1 := h1.pure k16
          replace hw := hw.pure k16
          replace hL4 := hL4.pure k16
          replace hF4 := hF4.pure k16
          refine WL.stores Try.sizeOf33 hb16 rfl rfl (by first | (simp; done) | (simp; omega) | rfl) (by first | exact Enc.one _ _ | (intro u hu; obtain ⟨x, _, rfl⟩ := List.mem_map.1 hu; rfl) | (simp [Value.oneCell']; done) | (simp [Value.oneCell', Value.cells]; done)) (by first | (simp; done) | (simp; omega) | (simp [Value.cells]; done) | (simp [Value.cells]; omega) | exact Nat.le_of_ble_eq_true rfl) rfl ?_
          intro w_16 hs_16 hn_16 k_16
          have zs_k_16 := k_16.size
          replace hb5 := hb5.chg k_16 (by first | (intro x h1 h2; exact h2) | (intro x h1 h2; have h3 : _ = _ := h2; subst h3; assumption) | (intro x h1 h2; have h3 : _ = _ := h2; exfalso; omega) | (intro b h1 h2 h3; have h4 : _ = _ := h3; (try dsimp only at h2); exfalso; omega) | (intro h1; have h2 : _ = _ := h1; exfalso; omega) | (intro h1; have h2 : _ ≤ _ := h1; exfalso; omega) | (intros; exfalso; (try dsimp only at *); omega) | (intro h1; exfalso; have h4 := h1.2; (try dsimp only at *); omega) | (intro x h1 h2; exact h2.1))
          replace hFd := hFd.chg k_16 (by first | (intro x h1 h2; exact h2) | (intro x h1 h2; have h3 : _ = _ := h2; subst h3; assumption) | (intro x h1 h2; have h3 : _ = _ := h2; exfalso; omega) | (intro b h1 h2 h3; have h4 : _ = _ := h3; (try dsimp only at h2); exfalso; omega) | (intro h1; have h2 : _ = _ := h1; exfalso; omega) | (intro h1; have h2 : _ ≤ _ := h1; exfalso; omega) | (intros; exfalso; (try dsimp only at *); omega) | (intro h1; exfalso; have h4 := h1.2; (try dsimp only at *); omega) | (intro x h1 h2; exact h2.1))
          replace h1 := h1.chg k_16 (by first | (intro x h1 h2; exact h2) | (intro x h1 h2; have h3 : _ = _ := h2; subst h3; assumption) | (intro x h1 h2; have h3 : _ = _ := h2; exfalso; omega) | (intro b h1 h2 h3; have h4 : _ = _ := h3; (try dsimp only at h2); exfalso; omega) | (intro h1; have h2 : _ = _ := h1; exfalso; omega) | (intro h1; have h2 : _ ≤ _ := h1; exfalso; omega) | (intros; exfalso; (try dsimp only at *); omega) | (intro h1; exfalso; have h4 := h1.2; (try dsimp only at *); omega) | (intro x h1 h2; exact h2.1))
          replace hw := hw.chg k_16 (by first | (intro x h1 h2; exact h2) | (intro x h1 h2; have h3 : _ = _ := h2; subst h3; assumption) | (intro x h1 h2; have h3 : _ = _ := h2; exfalso; omega) | (intro b h1 h2 h3; have h4 : _ = _ := h3; (try dsimp only at h2); exfalso; omega) | (intro h1; have h2 : _ = _ := h1; exfalso; omega) | (intro h1; have h2 : _ ≤ _ := h1; exfalso; omega) | (intros; exfalso; (try dsimp only at *); omega) | (intro h1; exfalso; have h4 := h1.2; (try dsimp only at *); omega) | (intro x h1 h2; exact h2.1))
          replace hL4 := hL4.chg k_16 (by first | (intro x h1 h2; exact h2) | (intro x h1 h2; have h3 : _ = _ := h2; subst h3; assumption) | (intro x h1 h2; have h3 : _ = _ := h2; exfalso; omega) | (intro b h1 h2 h3; have h4 : _ = _ := h3; (try dsimp only at h2); exfalso; omega) | (intro h1; have h2 : _ = _ := h1; exfalso; omega) | (intro h1; have h2 : _ ≤ _ := h1; exfalso; omega) | (intros; exfalso; (try dsimp only at *); omega) | (intro h1; exfalso; have h4 := h1.2; (try dsimp only at *); omega) | (intro x h1 h2; exact h2.1))
          replace hF4 := hF4.chg k_16 (by first | (intro x h1 h2; exact h2) | (intro x h1 h2; have h3 : _ = _ := h2; subst h3; assumption) | (intro x h1 h2; have h3 : _ = _ := h2; exfalso; omega) | (intro b h1 h2 h3; have h4 : _ = _ := h3; (try dsimp only at h2); exfalso; omega) | (intro h1; have h2 : _ = _ := h1; exfalso; omega) | (intro h1; have h2 : _ ≤ _ := h1; exfalso; omega) | (intros; exfalso; (try dsimp only at *); omega) | (intro h1; exfalso; have h4 := h1.2; (try dsimp only at *); omega) | (intro x h1 h2; exact h2.1))
          replace hb16 := hn_16
          refine WL.assign rfl rfl (WL.assign rfl rfl (WL.nil (WX.then_normal (WC.seq (WC.seq (WC.region (WL.move rfl rfl (?_))))))))
          refine WL.neqF rfl rfl rfl (by first | rfl | omega | decide) ?_
          refine WL.move rfl rfl (WL.want rfl rfl rfl (WL.fieldAddr (fld_33_1) rfl rfl (WL.want rfl rfl rfl (WL.loadB Try.isAgg31 hb16 rfl rfl rfl (WL.want rfl rfl rfl (WL.len Try.underlying31 rfl rfl (WL.want rfl rfl rfl (?_))))))))
          refine WL.fieldAddr (fld_33_1) rfl rfl (WL.want rfl rfl rfl (WL.loadB Try.isAgg31 hb5 rfl rfl rfl (WL.want rfl rfl rfl (WL.len Try.underlying31 rfl rfl (WL.want rfl rfl rfl (WL.sub64 rfl rfl (by first | omega | (constructor <;> omega)) rfl (WL.want rfl rfl rfl (?_))))))))
          refine WL.neqF rfl rfl rfl (by first | rfl | omega | decide) ?_
          refine WL.pickF rfl rfl rfl (WL.nil (WX.then_normal (WC.cond_false rfl (WC.skip (WX.then_normal (WC.seq (WC.seq (?_))))))))
          refine WC.region (WL.assign rfl rfl (WL.nil (WX.then_normal (WC.block (?_)))))
          have hb16' : Blk _ g16 33 (lcells l4) := hb16
          have lg16 := hb16.lt
          refine WC.loop (σ := Nat × Int × List Bool) (fun q => [(1, .slice a1 l1.length c1), (5, gptr g5), (7, vi (i : Int)), (8, vi q.2.1), (13, .slice (some ⟨gf, 0, none⟩) i i), (14, vi (u : Int)), (16, gptr g16), (17, .slice fao fr.length fc), (19, vi (q.1 : Int))]) (fun q w' => (q.1 ≤ fr.length ∧ q.2.1 = ((allP l2.abs).length : Int) - (q.1 : Int)) ∧ (q.2.2.length = i ∧ (∀ p ∈ allP l4.abs, q.2.2[p.a.toNat]? = some false) ∧ ∀ m p, q.1 ≤ m → fr[m]? = some p → q.2.2[p.a.toNat]? = some false) ∧ Blk w' g5 33 (lcells l2) ∧ Blk w' g16 33 (lcells l4) ∧ LS (fun b => b ≠ g5 ∧ b ≠ gf) w' l4 ∧ RSl (fun b => b ≠ g5 ∧ b ≠ gf) w' ept fao fc fr ∧ Row (fun b => b = gf) w' 4 ebool (some ⟨gf, 0, none⟩) i q.2.2 ∧ RSl (· < w.heap.size) w' ei _ c1 l1 ∧ Chg Nob w w') (fun q => fr.length - q.1) (0, ((allP l2.abs).length : Int), fd) ⟨rfl, rfl, rfl, rfl, rfl, rfl, rfl, rfl, rfl, trivial⟩ ⟨⟨Nat.zero_le _, by show ((allP l2.abs).length : Int) = _ - ((0 : Nat) : Int); omega⟩, ⟨hfl, ?_, ?_⟩, hb5, hb16', hL4.mono (fun b hb => hb.1), hF4.mono (fun b hb => hb.1), hFd, h1, hw⟩ ?_
          ·
            intro p hp
            exact hff p ((allP_destroy l2.abs hk3).mem_iff.1 (List.mem_append_left _ (by rw [← ha4]; exact hp)))
          ·
            intro m p _ hp
            exact hff p ((allP_destroy l2.abs hk3).mem_iff.1 (List.mem_append_right _ (by rw [← hf4]; exact List.mem_of_getElem? hp)))
          clear hff
          have hg16f : g16 ≠ gf := by omega
          clear hb5 hb16 hb16' hL4 hF4 hFd h1 hw hfl
          rintro ⟨j, kd, fd2⟩ w2 ⟨⟨hj, hkd⟩, ⟨hfl, hfp, hff⟩, hb5, hb16, hL4, hF4, hFd, h1, hw⟩
          simp only at hj hkd hfl hfp hff hFd
          dsimp only
          have lg5 := hb5.lt
          have lgf : gf < _ := hFd.own.lt _ rfl
          have lg16 := hb16.lt
          refine WC.seq (WC.seq (WC.region (WL.move rfl rfl (WL.move rfl rfl (WL.len Try.underlying23 rfl rfl (?_))))))
          refine WL.lss? rfl rfl rfl (fun h132 => ?_) (fun h132 => ?_)
          ·
            refine WL.nil (WX.then_normal (WC.cond_true rfl (WC.skip (WX.then_normal (WC.seq (WC.block (WC.seq (?_))))))))
            refine WC.region (WL.move rfl rfl (WL.move rfl rfl (?_)))
            obtain ⟨p, hp⟩ : ∃ p, fr[j]? = some p := ⟨_, List.getElem?_eq_getElem (by omega)⟩
            have hpa := hfa p (List.mem_of_getElem? hp)
            have hfp0 := hff j p (Nat.le_refl _) hp
            refine WL.indexT (e := ept) Try.underlying23 Try.sizeOf27 hF4 rfl rfl ⟨hp, rfl⟩ rfl ?_
            intro bb oo hcc
            refine WL.fieldAddr (fld_27_0) rfl rfl (WL.load Try.isAgg3 rfl (hcc _ _ rfl) rfl (WL.assign rfl rfl (WL.nil (WX.then_normal (WC.seq (WC.seq (WC.region (?_))))))))
            refine WL.move rfl rfl (?_)
            refine WL.lssF rfl rfl rfl (by first | rfl | omega | decide) ?_
            refine WL.move rfl rfl (WL.want rfl rfl rfl (WL.move rfl rfl (WL.want rfl rfl rfl (WL.move rfl rfl (WL.want rfl rfl rfl (?_))))))
            refine WL.geqF rfl rfl rfl (by first | rfl | omega | decide) ?_
            refine WL.pickF rfl rfl rfl (WL.move rfl rfl (WL.want rfl rfl rfl (WL.move rfl rfl (WL.want rfl rfl rfl (WL.move rfl rfl (WL.want rfl rfl rfl (?_)))))))
            refine WL.indexT (e := ebool) Try.underlying57 Try.sizeOf4 hFd.rsl (by show some (Value.slice _ i i) = _; rw [hfl]) rfl ⟨hfp0, by omega⟩ rfl ?_
            intro bb2 oo2 hcc2
            refine WL.want rfl rfl rfl (?_)
            refine WL.load Try.isAgg4 rfl (hcc2 0 _ rfl) rfl ?_
            refine WL.pickF rfl rfl rfl (WL.nil (WX.then_normal (WC.cond_false rfl (WC.skip (WX.then_normal (WC.seq (WC.region (?_))))))))
            refine WL.move rfl rfl (WL.move rfl rfl (?_))
            refine WL.index (j := p.a.toNat) Try.underlying57 Try.sizeOf4 rfl rfl (by omega) (by omega) rfl ?_
            refine WL.storeRow (z := true) (p.a.toNat) Try.sizeOf4 hFd rfl rfl rfl (by first | (simp; done) | (show 0 + _ * 1 = _; omega)) (by omega) rfl ?_
            intro w_17 zs_17 nr_17 k_17
            have zs_k_17 := k_17.size
            replace hb5 := hb5.chg k_17 (by first | (intro x h1 h2; exact h2) | (intro x h1 h2; have h3 : _ = _ := h2; subst h3; assumption) | (intro x h1 h2; have h3 : _ = _ := h2; exfalso; omega) | (intro b h1 h2 h3; have h4 : _ = _ := h3; (try dsimp only at h2); exfalso; omega) | (intro h1; have h2 : _ = _ := h1; exfalso; omega) | (intro h1; have h2 : _ ≤ _ := h1; exfalso; omega) | (intros; exfalso; (try dsimp only at *); omega) | (intro h1; exfalso; have h4 := h1.2; (try dsimp only at *); omega) | (intro x h1 h2; exact h2.1))
            replace hb16 := hb16.chg k_17 (by first | (intro x h1 h2; exact h2) | (intro x h1 h2; have h3 : _ = _ := h2; subst h3; assumption) | (intro x h1 h2; have h3 : _ = _ := h2; exfalso; omega) | (intro b h1 h2 h3; have h4 : _ = _ := h3; (try dsimp only at h2); exfalso; omega) | (intro h1; have h2 : _ = _ := h1; exfalso; omega) | (intro h1; have h2 : _ ≤ _ := h1; exfalso; omega) | (intros; exfalso; (try dsimp only at *); omega) | (intro h1; exfalso; have h4 := h1.2; (try dsimp only at *); omega) | (intro x h1 h2; exact h2.1))
            replace hL4 := hL4.chg k_17 (by first | (intro x h1 h2; exact h2) | (intro x h1 h2; have h3 : _ = _ := h2; subst h3; assumption) | (intro x h1 h2; have h3 : _ = _ := h2; exfalso; omega) | (intro b h1 h2 h3; have h4 : _ = _ := h3; (try dsimp only at h2); exfalso; omega) | (intro h1; have h2 : _ = _ := h1; exfalso; omega) | (intro h1; have h2 : _ ≤ _ := h1; exfalso; omega) | (intros; exfalso; (try dsimp only at *); omega) | (intro h1; exfalso; have h4 := h1.2; (try dsimp only at *); omega) | (intro x h1 h2; exact h2.1))
            replace hF4 := hF4.chg k_17 (by first | (intro x h1 h2; exact h2) | (intro x h1 h2; have h3 : _ = _ := h2; subst h3; assumption) | (intro x h1 h2; have h3 : _ = _ := h2; exfalso; omega) | (intro b h1 h2 h3; have h4 : _ = _ := h3; (try dsimp only at h2); exfalso; omega) | (intro h1; have h2 : _ = _ := h1; exfalso; omega) | (intro h1; have h2 : _ ≤ _ := h1; exfalso; omega) | (intros; exfalso; (try dsimp only at *); omega) | (intro h1; exfalso; have h4 := h1.2; (try dsimp only at *); omega) | (intro x h1 h2; exact h2.1))
            replace h1 := h1.chg k_17 (by first | (intro x h1 h2; exact h2) | (intro x h1 h2; have h3 : _ = _ := h2; subst h3; assumption) | (intro x h1 h2; have h3 : _ = _ := h2; exfalso; omega) | (intro b h1 h2 h3; have h4 : _ = _ := h3; (try dsimp only at h2); exfalso; omega) | (intro h1; have h2 : _ = _ := h1; exfalso; omega) | (intro h1; have h2 : _ ≤ _ := h1; exfalso; omega) | (intros; exfalso; (try dsimp only at *); omega) | (intro h1; exfalso; have h4 := h1.2; (try dsimp only at *); omega) | (intro x h1 h2; exact h2.1))
            replace hw := hw.chg k_17 (by first | (intro x h1 h2; exact h2) | (intro x h1 h2; have h3 : _ = _ := h2; subst h3; assumption) | (intro x h1 h2; have h3 : _ = _ := h2; exfalso; omega) | (intro b h1 h2 h3; have h4 : _ = _ := h3; (try dsimp only at h2); exfalso; omega) | (intro h1; have h2 : _ = _ := h1; exfalso; omega) | (intro h1; have h2 : _ ≤ _ := h1; exfalso; omega) | (intros; exfalso; (try dsimp only at *); omega) | (intro h1; exfalso; have h4 := h1.2; (try dsimp only at *); omega) | (intro x h1 h2; exact h2.1))
            replace hFd := nr_17
            refine WL.nil (WX.then_normal (WC.region (WL.move rfl rfl (WL.sub64 rfl rfl (by first | omega | (constructor <;> omega)) rfl (WL.assign rfl rfl (WL.nil (WX.block_normal (?_))))))))
            refine WX.then_normal (WC.region (WL.move rfl rfl (WL.add64 rfl rfl (by first | omega | (constructor <;> omega)) rfl (WL.assign rfl rfl (WL.nil (?_))))))
            first
              | (have hset : ∀ q : PtV, q.a ≠ p.a → 0 ≤ q.a → (fd2.set p.a.toNat true)[q.a.toNat]? = fd2[q.a.toNat]? := fun q h1 h2 => List.getElem?_set_ne (by omega)
                 exact WX.loop_next (j + 1, kd - 1, fd2.set p.a.toNat true) ⟨rfl, rfl, rfl, rfl, rfl, rfl, rfl, rfl, rfl, trivial⟩ ⟨⟨by show j + 1 ≤ _; omega, by show kd - 1 = _ - ((j + 1 : Nat) : Int); omega⟩, ⟨by show (fd2.set _ _).length = i; rw [List.length_set]; exact hfl, fun q hq => by
                   show (fd2.set p.a.toNat true)[q.a.toNat]? = _
                   rw [hset q (hfx q hq p (List.mem_of_getElem? hp)) (hOI4.born q hq).2.1]
                   exact hfp q hq, fun m q hm hq => by
                   have hm : j + 1 ≤ m := hm
                   show (fd2.set p.a.toNat true)[q.a.toNat]? = _
                   rw [hset q (fun e => nodup_ne hfn hp hq (by omega) e.symm) (hfa q (List.mem_of_getElem? hq)).1]
                   exact hff m q (by omega) hq⟩, hb5, hb16, hL4, hF4, hFd, h1, hw⟩ (by show fr.length - (j + 1) < fr.length - j; omega))
              | (have hjf : j = fr.length := by omega
                 have hkd2 : kd = ((allP l4.abs).length : Int) := by omega
                 subst hkd2
                 exact WX.loop_next (u + 1, l4, fd2) ⟨rfl, rfl, rfl, rfl, rfl, rfl, trivial⟩ ⟨by show u + 1 + l4.snaps.length ≤ 30; omega, hOI4, by show (allP l4.abs).length ≤ 30; omega, ⟨hfl, hfp⟩, hb5, hL4, hFd, h1, hw⟩ (by show l4.snaps.length < l2.snaps.length; omega))
              | (have hbt : b2 = true := hc84
                 have hab : l2.abs = l1.abs := by
                   rcases hcs with ⟨h3, _⟩ | ⟨_, h3⟩
                   ·
                     rw [hbt] at h3; cases h3
                   ·
                     exact h3
                 have hl2 : l2.snaps.length = l1.snaps.length := abs_len hab
                 have hOI2 : OI l2.abs (i + 1) := by rw [hab]; exact hOI1.up
                 have hah2 : l2.abs.ahead l2.snaps.length = l1.abs.ahead l1.snaps.length := by rw [hab, hl2]
                 have hal2 : (allP l2.abs).length = (allP l1.abs).length := by rw [hab]
                 rw [show ((allP l1.abs).length : Int) + 1 - 1 = ((allP l2.abs).length : Int) from by omega]
                 first
                   | exact WX.loop_next (i + 1, l2, t + 1 + 1) ⟨rfl, rfl, rfl, rfl, rfl, rfl, rfl, trivial⟩ ⟨⟨by show i + 1 ≤ _; omega, by show i + 1 ≤ _; omega⟩, ⟨by show l2.abs.ahead l2.snaps.length ≤ t + 1 + 1; omega, by show 0 ≤ t + 1 + 1; omega, by show t + 1 + 1 ≤ 2 * ((i + 1 : Nat) : Int); omega⟩, hOI2, ⟨by show (allP l2.abs).length ≤ i + 1; omega, by show l2.snaps.length ≤ i + 1; omega⟩, hb51, hL2, h0, h1, hw⟩ (by show l0.length - (i + 1) < l0.length - i; omega)
                   | exact WX.loop_next (i + 1, l2, t + 1) ⟨rfl, rfl, rfl, rfl, rfl, rfl, rfl, trivial⟩ ⟨⟨by show i + 1 ≤ _; omega, by show i + 1 ≤ _; omega⟩, ⟨by show l2.abs.ahead l2.snaps.length ≤ t + 1; omega, by show 0 ≤ t + 1; omega, by show t + 1 ≤ 2 * ((i + 1 : Nat) : Int); omega⟩, hOI2, ⟨by show (allP l2.abs).length ≤ i + 1; omega, by show l2.snaps.length ≤ i + 1; omega⟩, hb51, hL2, h0, h1, hw⟩ (by show l0.length - (i + 1) < l0.length - i; omega))
              | (have hbt : b2 = false := hc84
                 obtain ⟨hOI2, hal2, hl2, hah2⟩ : OI l2.abs (i + 1) ∧ (allP l2.abs).length = (allP l1.abs).length + 1 ∧ l2.snaps.length = l1.snaps.length ∧ l2.abs.ahead l2.snaps.length = l1.abs.ahead l1.snaps.length := by
                   rcases hcs with ⟨_, h3⟩ | ⟨h3, _⟩
                   ·
                     exact h3
                   ·
                     rw [hbt] at h3; cases h3
                 rw [show ((allP l1.abs).length : Int) + 1 = ((allP l2.abs).length : Int) from by omega]
                 first
                   | exact WX.loop_next (i + 1, l2, t + 1 + 1) ⟨rfl, rfl, rfl, rfl, rfl, rfl, rfl, trivial⟩ ⟨⟨by show i + 1 ≤ _; omega, by show i + 1 ≤ _; omega⟩, ⟨by show l2.abs.ahead l2.snaps.length ≤ t + 1 + 1; omega, by show 0 ≤ t + 1 + 1; omega, by show t + 1 + 1 ≤ 2 * ((i + 1 : Nat) : Int); omega⟩, hOI2, ⟨by show (allP l2.abs).length ≤ i + 1; omega, by show l2.snaps.length ≤ i + 1; omega⟩, hb51, hL2, h0, h1, hw⟩ (by show l0.length - (i + 1) < l0.length - i; omega)
                   | exact WX.loop_next (i + 1, l2, t + 1) ⟨rfl, rfl, rfl, rfl, rfl, rfl, rfl, trivial⟩ ⟨⟨by show i + 1 ≤ _; omega, by show i + 1 ≤ _; omega⟩, ⟨by show l2.abs.ahead l2.snaps.length ≤ t + 1; omega, by show 0 ≤ t + 1; omega, by show t + 1 ≤ 2 * ((i + 1 : Nat) : Int); omega⟩, hOI2, ⟨by show (allP l2.abs).length ≤ i + 1; omega, by show l2.snaps.length ≤ i + 1; omega⟩, hb51, hL2, h0, h1, hw⟩ (by show l0.length - (i + 1) < l0.length - i; omega))
              | exact WX.loop_next (i + 1, l1, t + 1 + 1) ⟨rfl, rfl, rfl, rfl, rfl, rfl, rfl, trivial⟩ ⟨⟨by show i + 1 ≤ _; omega, by show i + 1 ≤ _; omega⟩, ⟨by show l1.abs.ahead l1.snaps.length ≤ t + 1 + 1; omega, by show 0 ≤ t + 1 + 1; omega, by show t + 1 + 1 ≤ 2 * ((i + 1 : Nat) : Int); omega⟩, hOI1.up, ⟨by show (allP l1.abs).length ≤ i + 1; omega, by show l1.snaps.length ≤ i + 1; omega⟩, hb51, hL1, h0, h1, hw⟩ (by show l0.length - (i + 1) < l0.length - i; omega)
              | exact WX.loop_next (i + 1, l1, t + 1) ⟨rfl, rfl, rfl, rfl, rfl, rfl, rfl, trivial⟩ ⟨⟨by show i + 1 ≤ _; omega, by show i + 1 ≤ _; omega⟩, ⟨by show l1.abs.ahead l1.snaps.length ≤ t + 1; omega, by show 0 ≤ t + 1; omega, by show t + 1 ≤ 2 * ((i + 1 : Nat) : Int); omega⟩, hOI1.up, ⟨by show (allP l1.abs).length ≤ i + 1; omega, by show l1.snaps.length ≤ i + 1; omega⟩, hb51, hL1, h0, h1, hw⟩ (by show l0.length - (i + 1) < l0.length - i; omega)
          ·
            refine WL.nil (WX.then_normal (WC.cond_false rfl (WC.exit (WX.then_exit (WX.then_exit (WX.block_here (WX.then_normal (?_))))))))
            refine WC.region (WL.loadsB Try.isAgg33 Try.sizeOf33 hb16 rfl (by first | (simp; done) | (simp; omega) | rfl) rfl (?_))
            refine WL.stores Try.sizeOf33 hb5 rfl rfl (by first | (simp; done) | (simp; omega) | rfl) (by first | exact Enc.one _ _ | (intro u hu; obtain ⟨x, _, rfl⟩ := List.mem_map.1 hu; rfl) | (simp [Value.oneCell']; done) | (simp [Value.oneCell', Value.cells]; done)) (by first | (simp; done) | (simp; omega) | (simp [Value.cells]; done) | (simp [Value.cells]; omega) | exact Nat.le_of_ble_eq_true rfl) rfl ?_
            intro w_17 hs_17 hn_17 k_17
            have zs_k_17 := k_17.size
            replace hb16 := hb16.chg k_17 (by first | (intro x h1 h2; exact h2) | (intro x h1 h2; have h3 : _ = _ := h2; subst h3; assumption) | (intro x h1 h2; have h3 : _ = _ := h2; exfalso; omega) | (intro b h1 h2 h3; have h4 : _ = _ := h3; (try dsimp only at h2); exfalso; omega) | (intro h1; have h2 : _ = _ := h1; exfalso; omega) | (intro h1; have h2 : _ ≤ _ := h1; exfalso; omega) | (intros; exfalso; (try dsimp only at *); omega) | (intro h1; exfalso; have h4 := h1.2; (try dsimp only at *); omega) | (intro x h1 h2; exact h2.1))
            replace hL4 := hL4.chg k_17 (by first | (intro x h1 h2; exact h2) | (intro x h1 h2; have h3 : _ = _ := h2; subst h3; assumption) | (intro x h1 h2; have h3 : _ = _ := h2; exfalso; omega) | (intro b h1 h2 h3; have h4 : _ = _ := h3; (try dsimp only at h2); exfalso; omega) | (intro h1; have h2 : _ = _ := h1; exfalso; omega) | (intro h1; have h2 : _ ≤ _ := h1; exfalso; omega) | (intros; exfalso; (try dsimp only at *); omega) | (intro h1; exfalso; have h4 := h1.2; (try dsimp only at *); omega) | (intro x h1 h2; exact h2.1))
            replace hF4 := hF4.chg k_17 (by first | (intro x h1 h2; exact h2) | (intro x h1 h2; have h3 : _ = _ := h2; subst h3; assumption) | (intro x h1 h2; have h3 : _ = _ := h2; exfalso; omega) | (intro b h1 h2 h3; have h4 : _ = _ := h3; (try dsimp only at h2); exfalso; omega) | (intro h1; have h2 : _ = _ := h1; exfalso; omega) | (intro h1; have h2 : _ ≤ _ := h1; exfalso; omega) | (intros; exfalso; (try dsimp only at *); omega) | (intro h1; exfalso; have h4 := h1.2; (try dsimp only at *); omega) | (intro x h1 h2; exact h2.1))
            replace hFd := hFd.chg k_17 (by first | (intro x h1 h2; exact h2) | (intro x h1 h2; have h3 : _ = _ := h2; subst h3; assumption) | (intro x h1 h2; have h3 : _ = _ := h2; exfalso; omega) | (intro b h1 h2 h3; have h4 : _ = _ := h3; (try dsimp only at h2); exfalso; omega) | (intro h1; have h2 : _ = _ := h1; exfalso; omega) | (intro h1; have h2 : _ ≤ _ := h1; exfalso; omega) | (intros; exfalso; (try dsimp only at *); omega) | (intro h1; exfalso; have h4 := h1.2; (try dsimp only at *); omega) | (intro x h1 h2; exact h2.1))
            replace h1 := h1.chg k_17 (by first | (intro x h1 h2; exact h2) | (intro x h1 h2; have h3 : _ = _ := h2; subst h3; assumption) | (intro x h1 h2; have h3 : _ = _ := h2; exfalso; omega) | (intro b h1 h2 h3; have h4 : _ = _ := h3; (try dsimp only at h2); exfalso; omega) | (intro h1; have h2 : _ = _ := h1; exfalso; omega) | (intro h1; have h2 : _ ≤ _ := h1; exfalso; omega) | (intros; exfalso; (try dsimp only at *); omega) | (intro h1; exfalso; have h4 := h1.2; (try dsimp only at *); omega) | (intro x h1 h2; exact h2.1))
            replace hw := hw.chg k_17 (by first | (intro x h1 h2; exact h2) | (intro x h1 h2; have h3 : _ = _ := h2; subst h3; assumption) | (intro x h1 h2; have h3 : _ = _ := h2; exfalso; omega) | (intro b h1 h2 h3; have h4 : _ = _ := h3; (try dsimp only at h2); exfalso; omega) | (intro h1; have h2 : _ = _ := h1; exfalso; omega) | (intro h1; have h2 : _ ≤ _ := h1; exfalso; omega) | (intros; exfalso; (try dsimp only at *); omega) | (intro h1; exfalso; have h4 := h1.2; (try dsimp only at *); omega) | (intro x h1 h2; exact h2.1))
            replace hb5 := hn_17
            refine WL.nil (WX.block_normal (WX.then_normal (WC.region (WL.move rfl rfl (WL.add64 rfl rfl (by first | omega | (constructor <;> omega)) rfl (WL.assign rfl rfl (WL.nil (?_))))))))
            first
              | (have hset : ∀ q : PtV, q.a ≠ p.a → 0 ≤ q.a → (fd2.set p.a.toNat true)[q.a.toNat]? = fd2[q.a.toNat]? := fun q h1 h2 => List.getElem?_set_ne (by omega)
                 exact WX.loop_next (j + 1, kd - 1, fd2.set p.a.toNat true) ⟨rfl, rfl, rfl, rfl, rfl, rfl, rfl, rfl, rfl, trivial⟩ ⟨⟨by show j + 1 ≤ _; omega, by show kd - 1 = _ - ((j + 1 : Nat) : Int); omega⟩, ⟨by show (fd2.set _ _).length = i; rw [List.length_set]; exact hfl, fun q hq => by
                   show (fd2.set p.a.toNat true)[q.a.toNat]? = _
                   rw [hset q (hfx q hq p (List.mem_of_getElem? hp)) (hOI4.born q hq).2.1]
                   exact hfp q hq, fun m q hm hq => by
                   have hm : j + 1 ≤ m := hm
                   show (fd2.set p.a.toNat true)[q.a.toNat]? = _
                   rw [hset q (fun e => nodup_ne hfn hp hq (by omega) e.symm) (hfa q (List.mem_of_getElem? hq)).1]
                   exact hff m q (by omega) hq⟩, hb5, hb16, hL4, hF4, hFd, h1, hw⟩ (by show fr.length - (j + 1) < fr.length - j; omega))
              | (have hjf : j = fr.length := by omega
                 have hkd2 : kd = ((allP l4.abs).length : Int) := by omega
                 subst hkd2
                 exact WX.loop_next (u + 1, l4, fd2) ⟨rfl, rfl, rfl, rfl, rfl, rfl, trivial⟩ ⟨by show u + 1 + l4.snaps.length ≤ 30; omega, hOI4, by show (allP l4.abs).length ≤ 30; omega, ⟨hfl, hfp⟩, hb5, hL4, hFd, h1, hw⟩ (by show l4.snaps.length < l2.snaps.length; omega))
              | (have hbt : b2 = true := hc84
                 have hab : l2.abs = l1.abs := by
                   rcases hcs with ⟨h3, _⟩ | ⟨_, h3⟩
                   ·
                     rw [hbt] at h3; cases h3
                   ·
                     exact h3
                 have hl2 : l2.snaps.length = l1.snaps.length := abs_len hab
                 have hOI2 : OI l2.abs (i + 1) := by rw [hab]; exact hOI1.up
                 have hah2 : l2.abs.ahead l2.snaps.length = l1.abs.ahead l1.snaps.length := by rw [hab, hl2]
                 have hal2 : (allP l2.abs).length = (allP l1.abs).length := by rw [hab]
                 rw [show ((allP l1.abs).length : Int) + 1 - 1 = ((allP l2.abs).length : Int) from by omega]
                 first
                   | exact WX.loop_next (i + 1, l2, t + 1 + 1) ⟨rfl, rfl, rfl, rfl, rfl, rfl, rfl, trivial⟩ ⟨⟨by show i + 1 ≤ _; omega, by show i + 1 ≤ _; omega⟩, ⟨by show l2.abs.ahead l2.snaps.length ≤ t + 1 + 1; omega, by show 0 ≤ t + 1 + 1; omega, by show t + 1 + 1 ≤ 2 * ((i + 1 : Nat) : Int); omega⟩, hOI2, ⟨by show (allP l2.abs).length ≤ i + 1; omega, by show l2.snaps.length ≤ i + 1; omega⟩, hb51, hL2, h0, h1, hw⟩ (by show l0.length - (i + 1) < l0.length - i; omega)
                   | exact WX.loop_next (i + 1, l2, t + 1) ⟨rfl, rfl, rfl, rfl, rfl, rfl, rfl, trivial⟩ ⟨⟨by show i + 1 ≤ _; omega, by show i + 1 ≤ _; omega⟩, ⟨by show l2.abs.ahead l2.snaps.length ≤ t + 1; omega, by show 0 ≤ t + 1; omega, by show t + 1 ≤ 2 * ((i + 1 : Nat) : Int); omega⟩, hOI2, ⟨by show (allP l2.abs).length ≤ i + 1; omega, by show l2.snaps.length ≤ i + 1; omega⟩, hb51, hL2, h0, h1, hw⟩ (by show l0.length - (i + 1) < l0.length - i; omega))
              | (have hbt : b2 = false := hc84
                 obtain ⟨hOI2, hal2, hl2, hah2⟩ : OI l2.abs (i + 1) ∧ (allP l2.abs).length = (allP l1.abs).length + 1 ∧ l2.snaps.length = l1.snaps.length ∧ l2.abs.ahead l2.snaps.length = l1.abs.ahead l1.snaps.length := by
                   rcases hcs with ⟨_, h3⟩ | ⟨h3, _⟩
                   ·
                     exact h3
                   ·
                     rw [hbt] at h3; cases h3
                 rw [show ((allP l1.abs).length : Int) + 1 = ((allP l2.abs).length : Int) from by omega]
                 first
                   | exact WX.loop_next (i + 1, l2, t + 1 + 1) ⟨rfl, rfl, rfl, rfl, rfl, rfl, rfl, trivial⟩ ⟨⟨by show i + 1 ≤ _; omega, by show i + 1 ≤ _; omega⟩, ⟨by show l2.abs.ahead l2.snaps.length ≤ t + 1 + 1; omega, by show 0 ≤ t + 1 + 1; omega, by show t + 1 + 1 ≤ 2 * ((i + 1 : Nat) : Int); omega⟩, hOI2, ⟨by show (allP l2.abs).length ≤ i + 1; omega, by show l2.snaps.length ≤ i + 1; omega⟩, hb51, hL2, h0, h1, hw⟩ (by show l0.length - (i + 1) < l0.length - i; omega)
                   | exact WX.loop_next (i + 1, l2, t + 1) ⟨rfl, rfl, rfl, rfl, rfl, rfl, rfl, trivial⟩ ⟨⟨by show i + 1 ≤ _; omega, by show i + 1 ≤ _; omega⟩, ⟨by show l2.abs.ahead l2.snaps.length ≤ t + 1; omega, by show 0 ≤ t + 1; omega, by show t + 1 ≤ 2 * ((i + 1 : Nat) : Int); omega⟩, hOI2, ⟨by show (allP l2.abs).length ≤ i + 1; omega, by show l2.snaps.length ≤ i + 1; omega⟩, hb51, hL2, h0, h1, hw⟩ (by show l0.length - (i + 1) < l0.length - i; omega))
              | exact WX.loop_next (i + 1, l1, t + 1 + 1) ⟨rfl, rfl, rfl, rfl, rfl, rfl, rfl, trivial⟩ ⟨⟨by show i + 1 ≤ _; omega, by show i + 1 ≤ _; omega⟩, ⟨by show l1.abs.ahead l1.snaps.length ≤ t + 1 + 1; omega, by show 0 ≤ t + 1 + 1; omega, by show t + 1 + 1 ≤ 2 * ((i + 1 : Nat) : Int); omega⟩, hOI1.up, ⟨by show (allP l1.abs).length ≤ i + 1; omega, by show l1.snaps.length ≤ i + 1; omega⟩, hb51, hL1, h0, h1, hw⟩ (by show l0.length - (i + 1) < l0.length - i; omega)
              | exact WX.loop_next (i + 1, l1, t + 1) ⟨rfl, rfl, rfl, rfl, rfl, rfl, rfl, trivial⟩ ⟨⟨by show i + 1 ≤ _; omega, by show i + 1 ≤ _; omega⟩, ⟨by show l1.abs.ahead l1.snaps.length ≤ t + 1; omega, by show 0 ≤ t + 1; omega, by show t + 1 ≤ 2 * ((i + 1 : Nat) : Int); omega⟩, hOI1.up, ⟨by show (allP l1.abs).length ≤ i + 1; omega, by show l1.snaps.length ≤ i + 1; omega⟩, hb51, hL1, h0, h1, hw⟩ (by show l0.length - (i + 1) < l0.length - i; omega)
        ·
          refine WL.nil (WX.then_normal (WC.cond_false rfl (WC.skip (WX.then_normal (WC.seq (WC.region (WL.loadsB Try.isAgg33 Try.sizeOf33 hb5 rfl (by first | (simp; done) | (simp; omega) | rfl) rfl (?_))))))))
          refine WL.move rfl rfl (?_)
          have hls2 : l2.abs.snaps.length = l2.snaps.length := sabs_len _
          obtain ⟨hsm, hzz⟩ := all_sm (n := 30) hal (by omega) (by omega)
          first
            | refine WL.call eg_19 rfl rfl (Destroy_calls hL (hsm.up (by decide)) (kk : Int) (by constructor <;> omega) hzz) ?_
            | refine WL.call eg_19 rfl rfl (Destroy_calls hL (hsm.up (by decide)) 0 (by decide) hzz) ?_
          rintro v w7 ⟨⟨l4, fao, fc, fr, e4, rfl, hR4, hL4, hF4⟩, k7⟩
          obtain ⟨k3, hk3, ha4, hf4, rfl⟩ : ∃ k3, k3 < l2.abs.snaps.length ∧ l4.abs = destroyA l2.abs k3 ∧ fr = freeA l2.abs k3 ∧ e4 = 0 := by
            first
              | (have h := hR4.go hOI.right (by rw [hls2]; constructor <;> omega)
                 rw [Int.toNat_natCast] at h
                 exact ⟨kk, by rw [hls2]; exact hkl, h⟩)
              | exact ⟨0, by rw [hls2]; omega, hR4.go hOI.right (by rw [hls2]; constructor <;> omega)⟩
          obtain ⟨hOI4, hfa, hfn, hfx, hcnt⟩ := hOI.destroy hk3
          have hl4 := destroy_sl hk3
          rw [← ha4] at hOI4 hfx hcnt hl4
          rw [← hf4] at hfa hfn hfx hcnt
          rw [hls2, show l4.abs.snaps.length = l4.snaps.length from sabs_len _] at hl4
          have zs_k7 := k7.size
          replace hb5 := hb5.pure k7
          replace hFd := hFd.pure k7
          replace h1 := h1.pure k7
          replace hw := hw.pure k7
          replace hL4 := hL4.mono (S' := fun b => b ≠ g5 ∧ b ≠ gf) (fun b hb => by omega)
          replace hF4 := hF4.mono (S' := fun b => b ≠ g5 ∧ b ≠ gf) (fun b hb => by omega)
          refine WL.move rfl rfl (WL.extract rfl rfl rfl (WL.extract rfl rfl rfl (WL.extract rfl rfl rfl (?_))))
          replace hL4 := hL4.lt
          replace hF4 := hF4.lt
          refine WL.alloc Try.zeroValue33 rfl ?_
          intro g16 w16 hge16 hlt16 hb16 k16
          have zs_k16 := k16.size
          replace hb5 := hb5.pure k16
          replace hFd := hFd.pure k16
          replace h1 := h1.pure k16
          replace hw := hw.pure k16
          replace hL4 := hL4.pure k16
          replace hF4 := hF4.pure k16
          refine WL.stores Try.sizeOf33 hb16 rfl rfl (by first | (simp; done) | (simp; omega) | rfl) (by first | exact Enc.one _ _ | (intro u hu; obtain ⟨x, _, rfl⟩ := List.mem_map.1 hu; rfl) | (simp [Value.oneCell']; done) | (simp [Value.oneCell', Value.cells]; done)) (by first | (simp; done) | (simp; omega) | (simp [Value.cells]; done) | (simp [Value.cells]; omega) | exact Nat.le_of_ble_eq_true rfl) rfl ?_
          intro w_2 hs_2 hn_2 k_2
          have zs_k_2 := k_2.size
          replace hb5 := hb5.chg k_2 (by first | (intro x h1 h2; exact h2) | (intro x h1 h2; have h3 : _ = _ := h2; subst h3; assumption) | (intro x h1 h2; have h3 : _ = _ := h2; exfalso; omega) | (intro b h1 h2 h3; have h4 : _ = _ := h3; (try dsimp only at h2); exfalso; omega) | (intro h1; have h2 : _ = _ := h1; exfalso; omega) | (intro h1; have h2 : _ ≤ _ := h1; exfalso; omega) | (intros; exfalso; (try dsimp only at *); omega) | (intro h1; exfalso; have h4 := h1.2; (try dsimp only at *); omega) | (intro x h1 h2; exact h2.1))
          replace hFd := hFd.chg k_2 (by first | (intro x h1 h2; exact h2) | (intro x h1 h2; have h3 : _ = _ := h2; subst h3; assumption) | (intro x h1 h2; have h3 : _ = _ := h2; exfalso; omega) | (intro b h1 h2 h3; have h4 : _ = _ := h3; (try dsimp only at h2); exfalso; omega) | (intro h1; have h2 : _ = _ := h1; exfalso; omega) | (intro h1; have h2 : _ ≤ _ := h1; exfalso; omega) | (intros; exfalso; (try dsimp only at *); omega) | (intro h1; exfalso; have h4 := h1.2; (try dsimp only at *); omega) | (intro x h1 h2; exact h2.1))
          replace h1 := h1.chg k_2 (by first | (intro x h1 h2; exact h2) | (intro x h1 h2; have h3 : _ = _ := h2; subst h3; assumption) | (intro x h1 h2; have h3 : _ = _ := h2; exfalso; omega) | (intro b h1 h2 h3; have h4 : _ = _ := h3; (try dsimp only at h2); exfalso; omega) | (intro h1; have h2 : _ = _ := h1; exfalso; omega) | (intro h1; have h2 : _ ≤ _ := h1; exfalso; omega) | (intros; exfalso; (try dsimp only at *); omega) | (intro h1; exfalso; have h4 := h1.2; (try dsimp only at *); omega) | (intro x h1 h2; exact h2.1))
          replace hw := hw.chg k_2 (by first | (intro x h1 h2; exact h2) | (intro x h1 h2; have h3 : _ = _ := h2; subst h3; assumption) | (intro x h1 h2; have h3 : _ = _ := h2; exfalso; omega) | (intro b h1 h2 h3; have h4 : _ = _ := h3; (try dsimp only at h2); exfalso; omega) | (intro h1; have h2 : _ = _ := h1; exfalso; omega) | (intro h1; have h2 : _ ≤ _ := h1; exfalso; omega) | (intros; exfalso; (try dsimp only at *); omega) | (intro h1; exfalso; have h4 := h1.2; (try dsimp only at *); omega) | (intro x h1 h2; exact h2.1))
          replace hL4 := hL4.chg k_2 (by first | (intro x h1 h2; exact h2) | (intro x h1 h2; have h3 : _ = _ := h2; subst h3; assumption) | (intro x h1 h2; have h3 : _ = _ := h2; exfalso; omega) | (intro b h1 h2 h3; have h4 : _ = _ := h3; (try dsimp only at h2); exfalso; omega) | (intro h1; have h2 : _ = _ := h1; exfalso; omega) | (intro h1; have h2 : _ ≤ _ := h1; exfalso; omega) | (intros; exfalso; (try dsimp only at *); omega) | (intro h1; exfalso; have h4 := h1.2; (try dsimp only at *); omega) | (intro x h1 h2; exact h2.1))
          replace hF4 := hF4.chg k_2 (by first | (intro x h1 h2; exact h2) | (intro x h1 h2; have h3 : _ = _ := h2; subst h3; assumption) | (intro x h1 h2; have h3 : _ = _ := h2; exfalso; omega) | (intro b h1 h2 h3; have h4 : _ = _ := h3; (try dsimp only at h2); exfalso; omega) | (intro h1; have h2 : _ = _ := h1; exfalso; omega) | (intro h1; have h2 : _ ≤ _ := h1; exfalso; omega) | (intros; exfalso; (try dsimp only at *); omega) | (intro h1; exfalso; have h4 := h1.2; (try dsimp only at *); omega) | (intro x h1 h2; exact h2.1))
          replace hb16 := hn_2
          refine WL.assign rfl rfl (WL.assign rfl rfl (WL.nil (WX.then_normal (WC.seq (WC.seq (WC.region (WL.move rfl rfl (?_))))))))
          refine WL.neqF rfl rfl rfl (by first | rfl | omega | decide) ?_
          refine WL.move rfl rfl (WL.want rfl rfl rfl (WL.fieldAddr (fld_33_1) rfl rfl (WL.want rfl rfl rfl (WL.loadB Try.isAgg31 hb16 rfl rfl rfl (WL.want rfl rfl rfl (WL.len Try.underlying31 rfl rfl (WL.want rfl rfl rfl (?_))))))))
          refine WL.fieldAddr (fld_33_1) rfl rfl (WL.want rfl rfl rfl (WL.loadB Try.isAgg31 hb5 rfl rfl rfl (WL.want rfl rfl rfl (WL.len Try.underlying31 rfl rfl (WL.want rfl rfl rfl (WL.sub64 rfl rfl (by first | omega | (constructor <;> omega)) rfl (WL.want rfl rfl rfl (?_))))))))
          refine WL.neqF rfl rfl rfl (by first | rfl | omega | decide) ?_
          refine WL.pickF rfl rfl rfl (WL.nil (WX.then_normal (WC.cond_false rfl (WC.skip (WX.then_normal (WC.seq (WC.seq (?_))))))))
          refine WC.region (WL.assign rfl rfl (WL.nil (WX.then_normal (WC.block (?_)))))
          have hb16' : Blk _ g16 33 (lcells l4) := hb16
          have lg16 := hb16.lt
          refine WC.loop (σ := Nat × Int × List Bool) (fun q => [(1, .slice a1 l1.length c1), (5, gptr g5), (7, vi (i : Int)), (8, vi q.2.1), (13, .slice (some ⟨gf, 0, none⟩) i i), (14, vi (u : Int)), (16, gptr g16), (17, .slice fao fr.length fc), (19, vi (q.1 : Int))]) (fun q w' => (q.1 ≤ fr.length ∧ q.2.1 = ((allP l2.abs).length : Int) - (q.1 : Int)) ∧ (q.2.2.length = i ∧ (∀ p ∈ allP l4.abs, q.2.2[p.a.toNat]? = some false) ∧ ∀ m p, q.1 ≤ m → fr[m]? = some p → q.2.2[p.a.toNat]? = some false) ∧ Blk w' g5 33 (lcells l2) ∧ Blk w' g16 33 (lcells l4) ∧ LS (fun b => b ≠ g5 ∧ b ≠ gf) w' l4 ∧ RSl (fun b => b ≠ g5 ∧ b ≠ gf) w' ept fao fc fr ∧ Row (fun b => b = gf) w' 4 ebool (some ⟨gf, 0, none⟩) i q.2.2 ∧ RSl (· < w.heap.size) w' ei _ c1 l1 ∧ Chg Nob w w') (fun q => fr.length - q.1) (0, ((allP l2.abs).length : Int), fd) ⟨rfl, rfl, rfl, rfl, rfl, rfl, rfl, rfl, rfl, trivial⟩ ⟨⟨Nat.zero_le _, by show ((allP l2.abs).length : Int) = _ - ((0 : Nat) : Int); omega⟩, ⟨hfl, ?_, ?_⟩, hb5, hb16', hL4.mono (fun b hb => hb.1), hF4.mono (fun b hb => hb.1), hFd, h1, hw⟩ ?_
          ·
            intro p hp
            exact hff p ((allP_destroy l2.abs hk3).mem_iff.1 (List.mem_append_left _ (by rw [← ha4]; exact hp)))
          ·
            intro m p _ hp
            exact hff p ((allP_destroy l2.abs hk3).mem_iff.1 (List.mem_append_right _ (by rw [← hf4]; exact List.mem_of_getElem? hp)))
          clear hff
          have hg16f : g16 ≠ gf := by omega
          clear hb5 hb16 hb16' hL4 hF4 hFd h1 hw hfl
          rintro ⟨j, kd, fd2⟩ w2 ⟨⟨hj, hkd⟩, ⟨hfl, hfp, hff⟩, hb5, hb16, hL4, hF4, hFd, h1, hw⟩
          simp only at hj hkd hfl hfp hff hFd
          dsimp only
          have lg5 := hb5.lt
          have lgf : gf < _ := hFd.own.lt _ rfl
          have lg16 := hb16.lt
          refine WC.seq (WC.seq (WC.region (WL.move rfl rfl (WL.move rfl rfl (WL.len Try.underlying23 rfl rfl (?_))))))
          refine WL.lss? rfl rfl rfl (fun h132 => ?_) (fun h132 => ?_)
          ·
            refine WL.nil (WX.then_normal (WC.cond_true rfl (WC.skip (WX.then_normal (WC.seq (WC.block (WC.seq (?_))))))))
            refine WC.region (WL.move rfl rfl (WL.move rfl rfl (?_)))
            obtain ⟨p, hp⟩ : ∃ p, fr[j]? = some p := ⟨_, List.getElem?_eq_getElem (by omega)⟩
            have hpa := hfa p (List.mem_of_getElem? hp)
            have hfp0 := hff j p (Nat.le_refl _) hp
            refine WL.indexT (e := ept) Try.underlying23 Try.sizeOf27 hF4 rfl rfl ⟨hp, rfl⟩ rfl ?_
            intro bb oo hcc
            refine WL.fieldAddr (fld_27_0) rfl rfl (WL.load Try.isAgg3 rfl (hcc _ _ rfl) rfl (WL.assign rfl rfl (WL.nil (WX.then_normal (WC.seq (WC.seq (WC.region (?_))))))))
            refine WL.move rfl rfl (?_)
            refine WL.lssF rfl rfl rfl (by first | rfl | omega | decide) ?_
            refine WL.move rfl rfl (WL.want rfl rfl rfl (WL.move rfl rfl (WL.want rfl rfl rfl (WL.move rfl rfl (WL.want rfl rfl rfl (?_))))))
            refine WL.geqF rfl rfl rfl (by first | rfl | omega | decide) ?_
            refine WL.pickF rfl rfl rfl (WL.move rfl rfl (WL.want rfl rfl rfl (WL.move rfl rfl (WL.want rfl rfl rfl (WL.move rfl rfl (WL.want rfl rfl rfl (?_)))))))
            refine WL.indexT (e := ebool) Try.underlying57 Try.sizeOf4 hFd.rsl (by show some (Value.slice _ i i) = _; rw [hfl]) rfl ⟨hfp0, by omega⟩ rfl ?_
            intro bb2 oo2 hcc2
            refine WL.want rfl rfl rfl (?_)
            refine WL.load Try.isAgg4 rfl (hcc2 0 _ rfl) rfl ?_
            refine WL.pickF rfl rfl rfl (WL.nil (WX.then_normal (WC.cond_false rfl (WC.skip (WX.then_normal (WC.seq (WC.region (?_))))))))
            refine WL.move rfl rfl (WL.move rfl rfl (?_))
            refine WL.index (j := p.a.toNat) Try.underlying57 Try.sizeOf4 rfl rfl (by omega) (by omega) rfl ?_
            refine WL.storeRow (z := true) (p.a.toNat) Try.sizeOf4 hFd rfl rfl rfl (by first | (simp; done) | (show 0 + _ * 1 = _; omega)) (by omega) rfl ?_
            intro w_3 zs_3 nr_3 k_3
            have zs_k_3 := k_3.size
            replace hb5 := hb5.chg k_3 (by first | (intro x h1 h2; exact h2) | (intro x h1 h2; have h3 : _ = _ := h2; subst h3; assumption) | (intro x h1 h2; have h3 : _ = _ := h2; exfalso; omega) | (intro b h1 h2 h3; have h4 : _ = _ := h3; (try dsimp only at h2); exfalso; omega) | (intro h1; have h2 : _ = _ := h1; exfalso; omega) | (intro h1; have h2 : _ ≤ _ := h1; exfalso; omega) | (intros; exfalso; (try dsimp only at *); omega) | (intro h1; exfalso; have h4 := h1.2; (try dsimp only at *); omega) | (intro x h1 h2; exact h2.1))
            replace hb16 := hb16.chg k_3 (by first | (intro x h1 h2; exact h2) | (intro x h1 h2; have h3 : _ = _ := h2; subst h3; assumption) | (intro x h1 h2; have h3 : _ = _ := h2; exfalso; omega) | (intro b h1 h2 h3; have h4 : _ = _ := h3; (try dsimp only at h2); exfalso; omega) | (intro h1; have h2 : _ = _ := h1; exfalso; omega) | (intro h1; have h2 : _ ≤ _ := h1; exfalso; omega) | (intros; exfalso; (try dsimp only at *); omega) | (intro h1; exfalso; have h4 := h1.2; (try dsimp only at *); omega) | (intro x h1 h2; exact h2.1))
            replace hL4 := hL4.chg k_3 (by first | (intro x h1 h2; exact h2) | (intro x h1 h2; have h3 : _ = _ := h2; subst h3; assumption) | (intro x h1 h2; have h3 : _ = _ := h2; exfalso; omega) | (intro b h1 h2 h3; have h4 : _ = _ := h3; (try dsimp only at h2); exfalso; omega) | (intro h1; have h2 : _ = _ := h1; exfalso; omega) | (intro h1; have h2 : _ ≤ _ := h1; exfalso; omega) | (intros; exfalso; (try dsimp only at *); omega) | (intro h1; exfalso; have h4 := h1.2; (try dsimp only at *); omega) | (intro x h1 h2; exact h2.1))
            replace hF4 := hF4.chg k_3 (by first | (intro x h1 h2; exact h2) | (intro x h1 h2; have h3 : _ = _ := h2; subst h3; assumption) | (intro x h1 h2; have h3 : _ = _ := h2; exfalso; omega) | (intro b h1 h2 h3; have h4 : _ = _ := h3; (try dsimp only at h2); exfalso; omega) | (intro h1; have h2 : _ = _ := h1; exfalso; omega) | (intro h1; have h2 : _ ≤ _ := h1; exfalso; omega) | (intros; exfalso; (try dsimp only at *); omega) | (intro h1; exfalso; have h4 := h1.2; (try dsimp only at *); omega) | (intro x h1 h2; exact h2.1))
            replace h1 := h1.chg k_3 (by first | (intro x h1 h2; exact h2) | (intro x h1 h2; have h3 : _ = _ := h2; subst h3; assumption) | (intro x h1 h2; have h3 : _ = _ := h2; exfalso; omega) | (intro b h1 h2 h3; have h4 : _ = _ := h3; (try dsimp only at h2); exfalso; omega) | (intro h1; have h2 : _ = _ := h1; exfalso; omega) | (intro h1; have h2 : _ ≤ _ := h1; exfalso; omega) | (intros; exfalso; (try dsimp only at *); omega) | (intro h1; exfalso; have h4 := h1.2; (try dsimp only at *); omega) | (intro x h1 h2; exact h2.1))
            replace hw := hw.chg k_3 (by first | (intro x h1 h2; exact h2) | (intro x h1 h2; have h3 : _ = _ := h2; subst h3; assumption) | (intro x h1 h2; have h3 : _ = _ := h2; exfalso; omega) | (intro b h1 h2 h3; have h4 : _ = _ := h3; (try dsimp only at h2); exfalso; omega) | (intro h1; have h2 : _ = _ := h1; exfalso; omega) | (intro h1; have h2 : _ ≤ _ := h1; exfalso; omega) | (intros; exfalso; (try dsimp only at *); omega) | (intro h1; exfalso; have h4 := h1.2; (try dsimp only at *); omega) | (intro x h1 h2; exact h2.1))
            replace hFd := nr_3
            refine WL.nil (WX.then_normal (WC.region (WL.move rfl rfl (WL.sub64 rfl rfl (by first | omega | (constructor <;> omega)) rfl (WL.assign rfl rfl (WL.nil (WX.block_normal (?_))))))))
            refine WX.then_normal (WC.region (WL.move rfl rfl (WL.add64 rfl rfl (by first | omega | (constructor <;> omega)) rfl (WL.assign rfl rfl (WL.nil (?_))))))
            first
              | (have hset : ∀ q : PtV, q.a ≠ p.a → 0 ≤ q.a → (fd2.set p.a.toNat true)[q.a.toNat]? = fd2[q.a.toNat]? := fun q h1 h2 => List.getElem?_set_ne (by omega)
                 exact WX.loop_next (j + 1, kd - 1, fd2.set p.a.toNat true) ⟨rfl, rfl, rfl, rfl, rfl, rfl, rfl, rfl, rfl, trivial⟩ ⟨⟨by show j + 1 ≤ _; omega, by show kd - 1 = _ - ((j + 1 : Nat) : Int); omega⟩, ⟨by show (fd2.set _ _).length = i; rw [List.length_set]; exact hfl, fun q hq => by
                   show (fd2.set p.a.toNat true)[q.a.toNat]? = _
                   rw [hset q (hfx q hq p (List.mem_of_getElem? hp)) (hOI4.born q hq).2.1]
                   exact hfp q hq, fun m q hm hq => by
                   have hm : j + 1 ≤ m := hm
                   show (fd2.set p.a.toNat true)[q.a.toNat]? = _
                   rw [hset q (fun e => nodup_ne hfn hp hq (by omega) e.symm) (hfa q (List.mem_of_getElem? hq)).1]
                   exact hff m q (by omega) hq⟩, hb5, hb16, hL4, hF4, hFd, h1, hw⟩ (by show fr.length - (j + 1) < fr.length - j; omega))
              | (have hjf : j = fr.length := by omega
                 have hkd2 : kd = ((allP l4.abs).length : Int) := by omega
                 subst hkd2
                 exact WX.loop_next (u + 1, l4, fd2) ⟨rfl, rfl, rfl, rfl, rfl, rfl, trivial⟩ ⟨by show u + 1 + l4.snaps.length ≤ 30; omega, hOI4, by show (allP l4.abs).length ≤ 30; omega, ⟨hfl, hfp⟩, hb5, hL4, hFd, h1, hw⟩ (by show l4.snaps.length < l2.snaps.length; omega))
              | (have hbt : b2 = true := hc84
                 have hab : l2.abs = l1.abs := by
                   rcases hcs with ⟨h3, _⟩ | ⟨_, h3⟩
                   ·
                     rw [hbt] at h3; cases h3
                   ·
                     exact h3
                 have hl2 : l2.snaps.length = l1.snaps.length := abs_len hab
                 have hOI2 : OI l2.abs (i + 1) := by rw [hab]; exact hOI1.up
                 have hah2 : l2.abs.ahead l2.snaps.length = l1.abs.ahead l1.snaps.length := by rw [hab, hl2]
                 have hal2 : (allP l2.abs).length = (allP l1.abs).length := by rw [hab]
                 rw [show ((allP l1.abs).length : Int) + 1 - 1 = ((allP l2.abs).length : Int) from by omega]
                 first
                   | exact WX.loop_next (i + 1, l2, t + 1 + 1) ⟨rfl, rfl, rfl, rfl, rfl, rfl, rfl, trivial⟩ ⟨⟨by show i + 1 ≤ _; omega, by show i + 1 ≤ _; omega⟩, ⟨by show l2.abs.ahead l2.snaps.length ≤ t + 1 + 1; omega, by show 0 ≤ t + 1 + 1; omega, by show t + 1 + 1 ≤ 2 * ((i + 1 : Nat) : Int); omega⟩, hOI2, ⟨by show (allP l2.abs).length ≤ i + 1; omega, by show l2.snaps.length ≤ i + 1; omega⟩, hb51, hL2, h0, h1, hw⟩ (by show l0.length - (i + 1) < l0.length - i; omega)
                   | exact WX.loop_next (i + 1, l2, t + 1) ⟨rfl, rfl, rfl, rfl, rfl, rfl, rfl, trivial⟩ ⟨⟨by show i + 1 ≤ _; omega, by show i + 1 ≤ _; omega⟩, ⟨by show l2.abs.ahead l2.snaps.length ≤ t + 1; omega, by show 0 ≤ t + 1; omega, by show t + 1 ≤ 2 * ((i + 1 : Nat) : Int); omega⟩, hOI2, ⟨by show (allP l2.abs).length ≤ i + 1; omega, by show l2.snaps.length ≤ i + 1; omega⟩, hb51, hL2, h0, h1, hw⟩ (by show l0.length - (i + 1) < l0.length - i; omega))
              | (have hbt : b2 = false := hc84
                 obtain ⟨hOI2, hal2, hl2, hah2⟩ : OI l2.abs (i + 1) ∧ (allP l2.abs).length = (allP l1.abs).length + 1 ∧ l2.snaps.length = l1.snaps.length ∧ l2.abs.ahead l2.snaps.length = l1.abs.ahead l1.snaps.length := by
                   rcases hcs with ⟨_, h3⟩ | ⟨h3, _⟩
                   ·
                     exact h3
                   ·
                     rw [hbt] at h3; cases h3
                 rw [show ((allP l1.abs).length : Int) + 1 = ((allP l2.abs).length : Int) from by omega]
                 first
                   | exact WX.loop_next (i + 1, l2, t + 1 + 1) ⟨rfl, rfl, rfl, rfl, rfl, rfl, rfl, trivial⟩ ⟨⟨by show i + 1 ≤ _; omega, by show i + 1 ≤ _; omega⟩, ⟨by show l2.abs.ahead l2.snaps.length ≤ t + 1 + 1; omega, by show 0 ≤ t + 1 + 1; omega, by show t + 1 + 1 ≤ 2 * ((i + 1 : Nat) : Int); omega⟩, hOI2, ⟨by show (allP l2.abs).length ≤ i + 1; omega, by show l2.snaps.length ≤ i + 1; omega⟩, hb51, hL2, h0, h1, hw⟩ (by show l0.length - (i + 1) < l0.length - i; omega)
                   | exact WX.loop_next (i + 1, l2, t + 1) ⟨rfl, rfl, rfl, rfl, rfl, rfl, rfl, trivial⟩ ⟨⟨by show i + 1 ≤ _; omega, by show i + 1 ≤ _; omega⟩, ⟨by show l2.abs.ahead l2.snaps.length ≤ t + 1; omega, by show 0 ≤ t + 1; omega, by show t + 1 ≤ 2 * ((i + 1 : Nat) : Int); omega⟩, hOI2, ⟨by show (allP l2.abs).length ≤ i + 1; omega, by show l2.snaps.length ≤ i + 1; omega⟩, hb51, hL2, h0, h1, hw⟩ (by show l0.length - (i + 1) < l0.length - i; omega))
              | exact WX.loop_next (i + 1, l1, t + 1 + 1) ⟨rfl, rfl, rfl, rfl, rfl, rfl, rfl, trivial⟩ ⟨⟨by show i + 1 ≤ _; omega, by show i + 1 ≤ _; omega⟩, ⟨by show l1.abs.ahead l1.snaps.length ≤ t + 1 + 1; omega, by show 0 ≤ t + 1 + 1; omega, by show t + 1 + 1 ≤ 2 * ((i + 1 : Nat) : Int); omega⟩, hOI1.up, ⟨by show (allP l1.abs).length ≤ i + 1; omega, by show l1.snaps.length ≤ i + 1; omega⟩, hb51, hL1, h0, h1, hw⟩ (by show l0.length - (i + 1) < l0.length - i; omega)
              | exact WX.loop_next (i + 1, l1, t + 1) ⟨rfl, rfl, rfl, rfl, rfl, rfl, rfl, trivial⟩ ⟨⟨by show i + 1 ≤ _; omega, by show i + 1 ≤ _; omega⟩, ⟨by show l1.abs.ahead l1.snaps.length ≤ t + 1; omega, by show 0 ≤ t + 1; omega, by show t + 1 ≤ 2 * ((i + 1 : Nat) : Int); omega⟩, hOI1.up, ⟨by show (allP l1.abs).length ≤ i + 1; omega, by show l1.snaps.length ≤ i + 1; omega⟩, hb51, hL1, h0, h1, hw⟩ (by show l0.length - (i + 1) < l0.length - i; omega)
          ·
            refine WL.nil (WX.then_normal (WC.cond_false rfl (WC.exit (WX.then_exit (WX.then_exit (WX.block_here (WX.then_normal (?_))))))))
            refine WC.region (WL.loadsB Try.isAgg33 Try.sizeOf33 hb16 rfl (by first | (simp; done) | (simp; omega) | rfl) rfl (?_))
            refine WL.stores Try.sizeOf33 hb5 rfl rfl (by first | (simp; done) | (simp; omega) | rfl) (by first | exact Enc.one _ _ | (intro u hu; obtain ⟨x, _, rfl⟩ := List.mem_map.1 hu; rfl) | (simp [Value.oneCell']; done) | (simp [Value.oneCell', Value.cells]; done)) (by first | (simp; done) | (simp; omega) | (simp [Value.cells]; done) | (simp [Value.cells]; omega) | exact Nat.le_of_ble_eq_true rfl) rfl ?_
            intro w_3 hs_3 hn_3 k_3
            have zs_k_3 := k_3.size
            replace hb16 := hb16.chg k_3 (by first | (intro x h1 h2; exact h2) | (intro x h1 h2; have h3 : _ = _ := h2; subst h3; assumption) | (intro x h1 h2; have h3 : _ = _ := h2; exfalso; omega) | (intro b h1 h2 h3; have h4 : _ = _ := h3; (try dsimp only at h2); exfalso; omega) | (intro h1; have h2 : _ = _ := h1; exfalso; omega) | (intro h1; have h2 : _ ≤ _ := h1; exfalso; omega) | (intros; exfalso; (try dsimp only at *); omega) | (intro h1; exfalso; have h4 := h1.2; (try dsimp only at *); omega) | (intro x h1 h2; exact h2.1))
            replace hL4 := hL4.chg k_3 (by first | (intro x h1 h2; exact h2) | (intro x h1 h2; have h3 : _ = _ := h2; subst h3; assumption) | (intro x h1 h2; have h3 : _ = _ := h2; exfalso; omega) | (intro b h1 h2 h3; have h4 : _ = _ := h3; (try dsimp only at h2); exfalso; omega) | (intro h1; have h2 : _ = _ := h1; exfalso; omega) | (intro h1; have h2 : _ ≤ _ := h1; exfalso; omega) | (intros; exfalso; (try dsimp only at *); omega) | (intro h1; exfalso; have h4 := h1.2; (try dsimp only at *); omega) | (intro x h1 h2; exact h2.1))
            replace hF4 := hF4.chg k_3 (by first | (intro x h1 h2; exact h2) | (intro x h1 h2; have h3 : _ = _ := h2; subst h3; assumption) | (intro x h1 h2; have h3 : _ = _ := h2; exfalso; omega) | (intro b h1 h2 h3; have h4 : _ = _ := h3; (try dsimp only at h2); exfalso; omega) | (intro h1; have h2 : _ = _ := h1; exfalso; omega) | (intro h1; have h2 : _ ≤ _ := h1; exfalso; omega) | (intros; exfalso; (try dsimp only at *); omega) | (intro h1; exfalso; have h4 := h1.2; (try dsimp only at *); omega) | (intro x h1 h2; exact h2.1))
            replace hFd := hFd.chg k_3 (by first | (intro x h1 h2; exact h2) | (intro x h1 h2; have h3 : _ = _ := h2; subst h3; assumption) | (intro x h1 h2; have h3 : _ = _ := h2; exfalso; omega) | (intro b h1 h2 h3; have h4 : _ = _ := h3; (try dsimp only at h2); exfalso; omega) | (intro h1; have h2 : _ = _ := h1; exfalso; omega) | (intro h1; have h2 : _ ≤ _ := h1; exfalso; omega) | (intros; exfalso; (try dsimp only at *); omega) | (intro h1; exfalso; have h4 := h1.2; (try dsimp only at *); omega) | (intro x h1 h2; exact h2.1))
            replace h1 := h1.chg k_3 (by first | (intro x h1 h2; exact h2) | (intro x h1 h2; have h3 : _ = _ := h2; subst h3; assumption) | (intro x h1 h2; have h3 : _ = _ := h2; exfalso; omega) | (intro b h1 h2 h3; have h4 : _ = _ := h3; (try dsimp only at h2); exfalso; omega) | (intro h1; have h2 : _ = _ := h1; exfalso; omega) | (intro h1; have h2 : _ ≤ _ := h1; exfalso; omega) | (intros; exfalso; (try dsimp only at *); omega) | (intro h1; exfalso; have h4 := h1.2; (try dsimp only at *); omega) | (intro x h1 h2; exact h2.1))
            replace hw := hw.chg k_3 (by first | (intro x h1 h2; exact h2) | (intro x h1 h2; have h3 : _ = _ := h2; subst h3; assumption) | (intro x h1 h2; have h3 : _ = _ := h2; exfalso; omega) | (intro b h1 h2 h3; have h4 : _ = _ := h3; (try dsimp only at h2); exfalso; omega) | (intro h1; have h2 : _ = _ := h1; exfalso; omega) | (intro h1; have h2 : _ ≤ _ := h1; exfalso; omega) | (intros; exfalso; (try dsimp only at *); omega) | (intro h1; exfalso; have h4 := h1.2; (try dsimp only at *); omega) | (intro x h1 h2; exact h2.1))
            replace hb5 := hn_3
            refine WL.nil (WX.block_normal (WX.then_normal (WC.region (WL.move rfl rfl (WL.add64 rfl rfl (by first | omega | (constructor <;> omega)) rfl (WL.assign rfl rfl (WL.nil (?_))))))))
            first
              | (have hset : ∀ q : PtV, q.a ≠ p.a → 0 ≤ q.a → (fd2.set p.a.toNat true)[q.a.toNat]? = fd2[q.a.toNat]? := fun q h1 h2 => List.getElem?_set_ne (by omega)
                 exact WX.loop_next (j + 1, kd - 1, fd2.set p.a.toNat true) ⟨rfl, rfl, rfl, rfl, rfl, rfl, rfl, rfl, rfl, trivial⟩ ⟨⟨by show j + 1 ≤ _; omega, by show kd - 1 = _ - ((j + 1 : Nat) : Int); omega⟩, ⟨by show (fd2.set _ _).length = i; rw [List.length_set]; exact hfl, fun q hq => by
                   show (fd2.set p.a.toNat true)[q.a.toNat]? = _
                   rw [hset q (hfx q hq p (List.mem_of_getElem? hp)) (hOI4.born q hq).2.1]
                   exact hfp q hq, fun m q hm hq => by
                   have hm : j + 1 ≤ m := hm
                   show (fd2.set p.a.toNat true)[q.a.toNat]? = _
                   rw [hset q (fun e => nodup_ne hfn hp hq (by omega) e.symm) (hfa q (List.mem_of_getElem? hq)).1]
                   exact hff m q (by omega) hq⟩, hb5, hb16, hL4, hF4, hFd, h1, hw⟩ (by show fr.length - (j + 1) < fr.length - j; omega))
              | (have hjf : j = fr.length := by omega
                 have hkd2 : kd = ((allP l4.abs).length : Int) := by omega
                 subst hkd2
                 exact WX.loop_next (u + 1, l4, fd2) ⟨rfl, rfl, rfl, rfl, rfl, rfl, trivial⟩ ⟨by show u + 1 + l4.snaps.length ≤ 30; omega, hOI4, by show (allP l4.abs).length ≤ 30; omega, ⟨hfl, hfp⟩, hb5, hL4, hFd, h1, hw⟩ (by show l4.snaps.length < l2.snaps.length; omega))
              | (have hbt : b2 = true := hc84
                 have hab : l2.abs = l1.abs := by
                   rcases hcs with ⟨h3, _⟩ | ⟨_, h3⟩
                   ·
                     rw [hbt] at h3; cases h3
                   ·
                     exact h3
                 have hl2 : l2.snaps.length = l1.snaps.length := abs_len hab
                 have hOI2 : OI l2.abs (i + 1) := by rw [hab]; exact hOI1.up
                 have hah2 : l2.abs.ahead l2.snaps.length = l1.abs.ahead l1.snaps.length := by rw [hab, hl2]
                 have hal2 : (allP l2.abs).length = (allP l1.abs).length := by rw [hab]
                 rw [show ((allP l1.abs).length : Int) + 1 - 1 = ((allP l2.abs).length : Int) from by omega]
                 first
                   | exact WX.loop_next (i + 1, l2, t + 1 + 1) ⟨rfl, rfl, rfl, rfl, rfl, rfl, rfl, trivial⟩ ⟨⟨by show i + 1 ≤ _; omega, by show i + 1 ≤ _; omega⟩, ⟨by show l2.abs.ahead l2.snaps.length ≤ t + 1 + 1; omega, by show 0 ≤ t + 1 + 1; omega, by show t + 1 + 1 ≤ 2 * ((i + 1 : Nat) : Int); omega⟩, hOI2, ⟨by show (allP l2.abs).length ≤ i + 1; omega, by show l2.snaps.length ≤ i + 1; omega⟩, hb51, hL2, h0, h1, hw⟩ (by show l0.length - (i + 1) < l0.length - i; omega)
                   | exact WX.loop_next (i + 1, l2, t + 1) ⟨rfl, rfl, rfl, rfl, rfl, rfl, rfl, trivial⟩ ⟨⟨by show i + 1 ≤ _; omega, by show i + 1 ≤ _; omega⟩, ⟨by show l2.abs.ahead l2.snaps.length ≤ t + 1; omega, by show 0 ≤ t + 1; omega, by show t + 1 ≤ 2 * ((i + 1 : Nat) : Int); omega⟩, hOI2, ⟨by show (allP l2.abs).length ≤ i + 1; omega, by show l2.snaps.length ≤ i + 1; omega⟩, hb51, hL2, h0, h1, hw⟩ (by show l0.length - (i + 1) < l0.length - i; omega))
              | (have hbt : b2 = false := hc84
                 obtain ⟨hOI2, hal2, hl2, hah2⟩ : OI l2.abs (i + 1) ∧ (allP l2.abs).length = (allP l1.abs).length + 1 ∧ l2.snaps.length = l1.snaps.length ∧ l2.abs.ahead l2.snaps.length = l1.abs.ahead l1.snaps.length := by
                   rcases hcs with ⟨_, h3⟩ | ⟨h3, _⟩
                   ·
                     exact h3
                   ·
                     rw [hbt] at h3; cases h3
                 rw [show ((allP l1.abs).length : Int) + 1 = ((allP l2.abs).length : Int) from by omega]
                 first
                   | exact WX.loop_next (i + 1, l2, t + 1 + 1) ⟨rfl, rfl, rfl, rfl, rfl, rfl, rfl, trivial⟩ ⟨⟨by show i + 1 ≤ _; omega, by show i + 1 ≤ _; omega⟩, ⟨by show l2.abs.ahead l2.snaps.length ≤ t + 1 + 1; omega, by show 0 ≤ t + 1 + 1; omega, by show t + 1 + 1 ≤ 2 * ((i + 1 : Nat) : Int); omega⟩, hOI2, ⟨by show (allP l2.abs).length ≤ i + 1; omega, by show l2.snaps.length ≤ i + 1; omega⟩, hb51, hL2, h0, h1, hw⟩ (by show l0.length - (i + 1) < l0.length - i; omega)
                   | exact WX.loop_next (i + 1, l2, t + 1) ⟨rfl, rfl, rfl, rfl, rfl, rfl, rfl, trivial⟩ ⟨⟨by show i + 1 ≤ _; omega, by show i + 1 ≤ _; omega⟩, ⟨by show l2.abs.ahead l2.snaps.length ≤ t + 1; omega, by show 0 ≤ t + 1; omega, by show t + 1 ≤ 2 * ((i + 1 : Nat) : Int); omega⟩, hOI2, ⟨by show (allP l2.abs).length ≤ i + 1; omega, by show l2.snaps.length ≤ i + 1; omega⟩, hb51, hL2, h0, h1, hw⟩ (by show l0.length - (i + 1) < l0.length - i; omega))
              | exact WX.loop_next (i + 1, l1, t + 1 + 1) ⟨rfl, rfl, rfl, rfl, rfl, rfl, rfl, trivial⟩ ⟨⟨by show i + 1 ≤ _; omega, by show i + 1 ≤ _; omega⟩, ⟨by show l1.abs.ahead l1.snaps.length ≤ t + 1 + 1; omega, by show 0 ≤ t + 1 + 1; omega, by show t + 1 + 1 ≤ 2 * ((i + 1 : Nat) : Int); omega⟩, hOI1.up, ⟨by show (allP l1.abs).length ≤ i + 1; omega, by show l1.snaps.length ≤ i + 1; omega⟩, hb51, hL1, h0, h1, hw⟩ (by show l0.length - (i + 1) < l0.length - i; omega)
              | exact WX.loop_next (i + 1, l1, t + 1) ⟨rfl, rfl, rfl, rfl, rfl, rfl, rfl, trivial⟩ ⟨⟨by show i + 1 ≤ _; omega, by show i + 1 ≤ _; omega⟩, ⟨by show l1.abs.ahead l1.snaps.length ≤ t + 1; omega, by show 0 ≤ t + 1; omega, by show t + 1 ≤ 2 * ((i + 1 : Nat) : Int); omega⟩, hOI1.up, ⟨by show (allP l1.abs).length ≤ i + 1; omega, by show l1.snaps.length ≤ i + 1; omega⟩, hb51, hL1, h0, h1, hw⟩ (by show l0.length - (i + 1) < l0.length - i; omega)
      ·
        refine WL.nil (WX.then_normal (WC.cond_false rfl (WC.exit (WX.then_exit (WX.then_exit (WX.block_here (WX.then_normal (?_))))))))
        refine WC.seq (WC.region (WL.move rfl rfl (?_)))
        have hs0 : l2.abs.snaps = [] := List.eq_nil_of_length_eq_zero (by rw [show l2.abs.snaps.length = l2.snaps.length from sabs_len _]; omega)
        have he := hOI.end_ hs0
        have hd0 : l2.dead.length = 0 := by
          have h2 : l2.abs.dead = [] := (List.append_eq_nil_iff.1 he).2
          rw [show l2.dead = [] from h2]
          rfl
        have he0 : (allP l2.abs).length = 0 := by rw [he]; rfl
        refine WL.eqlT rfl rfl rfl (by first | rfl | omega | decide) ?_
        refine WL.move rfl rfl (WL.want rfl rfl rfl (WL.fieldAddr (fld_33_2) rfl rfl (WL.want rfl rfl rfl (WL.loadB Try.isAgg23 hb5 rfl rfl rfl (WL.want rfl rfl rfl (WL.len Try.underlying23 rfl rfl (WL.want rfl rfl rfl (?_))))))))
        refine WL.eqlT rfl rfl rfl (by first | rfl | omega | decide) ?_
        refine WL.pickT rfl rfl rfl (WL.assign rfl rfl (WL.nil (WX.then_normal (WC.ret (?_)))))
        refine WX.ret1 (.inl rfl) Try.results7 rfl ?_
        exact ⟨_, rfl, rfl, hw⟩
  ·
    refine WL.move rfl rfl (WL.pass rfl rfl rfl rfl (WL.pass rfl rfl rfl rfl (WL.pickF rfl rfl rfl (WL.nil (WX.then_normal (WC.cond_false rfl (WC.exit (?_))))))))
    refine WX.then_exit (WX.then_exit (WX.block_here (WX.then_normal (WC.seq (WC.region (WL.move rfl rfl (?_)))))))
    replace hL := hL.lt
    refine WL.make (e := ebool) false i i Try.underlying57 info_4 rfl rfl rfl ⟨rfl, rfl, Nat.le_refl _⟩ (by constructor <;> omega) rfl ?_
    intro gf wf hfd kf zf egf
    rw [List.length_replicate]
    have zs_kf := kf.size
    replace hb5 := hb5.pure kf
    replace hL := hL.pure kf
    replace h0 := h0.pure kf
    replace h1 := h1.pure kf
    replace hw := hw.pure kf
    refine WL.assign rfl rfl (WL.nil (WX.then_normal (WC.seq (WC.seq (WC.region (WL.assign rfl rfl (WL.nil (?_))))))))
    refine WX.then_normal (WC.block (?_))
    have hFd0 : Row (fun b => b = gf) _ 4 ebool (some ⟨gf, 0, none⟩) i (List.replicate i false) := ⟨fun a ea => by injection ea with ea; rw [← ea], hfd.own⟩
    refine WC.loop (σ := Nat × LnV × List Bool) (fun q => [(1, .slice a1 l1.length c1), (5, gptr g5), (7, vi (i : Int)), (8, vi ((allP q.2.1.abs).length : Int)), (13, .slice (some ⟨gf, 0, none⟩) i i), (14, vi (q.1 : Int))]) (fun q w' => q.1 + q.2.1.snaps.length ≤ 30 ∧ OI q.2.1.abs i ∧ (allP q.2.1.abs).length ≤ 30 ∧ (q.2.2.length = i ∧ ∀ p ∈ allP q.2.1.abs, q.2.2[p.a.toNat]? = some false) ∧ Blk w' g5 33 (lcells q.2.1) ∧ LS (fun b => b ≠ g5 ∧ b ≠ gf) w' q.2.1 ∧ Row (fun b => b = gf) w' 4 ebool (some ⟨gf, 0, none⟩) i q.2.2 ∧ RSl (· < w.heap.size) w' ei a1 c1 l1 ∧ Chg Nob w w') (fun q => q.2.1.snaps.length) (0, l, List.replicate i false) ⟨rfl, rfl, rfl, rfl, rfl, rfl, trivial⟩ ⟨by show 0 + l.snaps.length ≤ 30; omega, hOI, by show (allP l.abs).length ≤ 30; omega, ⟨List.length_replicate, fun p hp => by have := hOI.born p hp; show (List.replicate i false)[p.a.toNat]? = _; rw [List.getElem?_replicate, if_pos (by omega)]⟩, hb5, hL.mono (fun b hb => ⟨hb.1, by have := hb.2; omega⟩), hFd0, h1, hw⟩ ?_
    have hgfw : w.heap.size ≤ gf := by omega
    have hg5f : g5 ≠ gf := by omega
    clear hb5 hL hfd hFd0 h1 hw h0
    rintro ⟨u, l2, fd⟩ w1 ⟨hu, hOI, hal, ⟨hfl, hff⟩, hb5, hL, hFd, h1, hw⟩
    simp only at hu hOI hal hfl hff hb5 hL hFd
    dsimp only
    have lg5 := hb5.lt
    have lgf : gf < _ := hFd.own.lt _ rfl
    have zw := hw.size
    refine WC.seq (WC.seq (WC.region (WL.fieldAddr (fld_33_1) rfl rfl (WL.loadB Try.isAgg31 hb5 rfl rfl rfl (WL.len Try.underlying31 rfl rfl (?_))))))
    refine WL.gtr? rfl rfl rfl (fun h92 => ?_) (fun h92 => ?_)
    ·
      refine WL.nil (WX.then_normal (WC.cond_true rfl (WC.skip (WX.then_normal (WC.seq (WC.block (WC.seq (?_))))))))
      refine WC.region (WL.assign rfl rfl (WL.nil (WX.then_normal (WC.seq (WC.seq (WC.region (WL.move rfl rfl (?_))))))))
      refine WL.move rfl rfl (WL.len Try.underlying55 rfl rfl (?_))
      refine WL.lss? rfl rfl rfl (fun h98 => ?_) (fun h98 => ?_)
      ·
        refine WL.nil (WX.then_normal (WC.cond_true rfl (?_)))
        obtain ⟨y, hy⟩ : ∃ y, l1[u]? = some y := ⟨_, List.getElem?_eq_getElem (by omega)⟩
        obtain ⟨kk, hkk⟩ : ∃ kk, kk = (B64 y % B64 (l2.snaps.length : Int)).toNat := ⟨_, rfl⟩
        have hBl : (B64 (l2.snaps.length : Int)).toNat = l2.snaps.length := B64_nat (by omega)
        have hkl : kk < l2.snaps.length := by rw [hkk, UInt64.toNat_mod, hBl]; exact Nat.mod_lt _ (by omega)
        obtain ⟨ob, oo, ho⟩ := h1.place hy
        refine WC.draw (Nob) [0, 1, 2, 3, 4, 5, 6, 7, 8, 9, 10, 11] [] mixed rfl rfl (fun wd_2 kd_2 zd_2 => ?_)
        have zs_kd_2 := kd_2.size
        replace hb5 := hb5.pure kd_2
        replace hL := hL.pure kd_2
        replace hFd := hFd.pure kd_2
        replace h1 := h1.pure kd_2
        replace hw := hw.pure kd_2
        apply DQ.step (E' := [(1, _)])
        case ho => rfl
        case hs => exact ⟨rfl, trivial⟩
        case hk => rfl
        case h1 =>
          intro wq_3 kq_3
          refine WL.move rfl rfl (?_)
          refine WL.nil ?_
          exact WX.one ⟨rfl, by first | exact Chg.refl _ _ | assumption⟩
        apply DQ.step (E' := [(14, _)])
        case ho => rfl
        case hs => exact ⟨rfl, trivial⟩
        case hk => rfl
        case h1 =>
          intro wq_4 kq_4
          refine WL.move rfl rfl (?_)
          refine WL.nil ?_
          exact WX.one ⟨rfl, by first | exact Chg.refl _ _ | assumption⟩
        apply DQ.step (E' := [(99, _), (100, _)])
        case ho => rfl
        case hs => exact ⟨rfl, rfl, trivial⟩
        case hk => rfl
        case h1 =>
          intro wq_5 kq_5
          have zs_kq_5 := kq_5.size
          replace hb5 := hb5.pure kq_5
          replace hL := hL.pure kq_5
          replace hFd := hFd.pure kq_5
          replace h1 := h1.pure kq_5
          replace hw := hw.pure kq_5
          have h1q := h1
          rw [ho] at h1q
          refine WL.indexC (e := ei) h1q Try.underlying55 Try.sizeOf3 (by show some (Value.slice a1 l1.length c1) = _; rw [ho]) rfl ⟨hy, rfl⟩ rfl ?_
          refine WL.nil ?_
          exact WX.one ⟨rfl, by first | exact Chg.refl _ _ | assumption⟩
        apply DQ.step (E' := [(101, _)])
        case ho => rfl
        case hs => exact ⟨rfl, trivial⟩
        case hk => rfl
        case h1 =>
          intro wq_6 kq_6
          have zs_kq_6 := kq_6.size
          replace hb5 := hb5.pure kq_6
          replace hL := hL.pure kq_6
          replace hFd := hFd.pure kq_6
          replace h1 := h1.pure kq_6
          replace hw := hw.pure kq_6
          have h1q := h1
          rw [ho] at h1q
          refine WL.load Try.isAgg3 rfl (h1q.cellsAt hy 0 _ rfl) rfl ?_
          refine WL.nil ?_
          exact WX.one ⟨rfl, by first | exact Chg.refl _ _ | assumption⟩
        apply DQ.step (E' := [(102, _)])
        case ho => rfl
        case hs => exact ⟨rfl, trivial⟩
        case hk => rfl
        case h1 =>
          intro wq_7 kq_7
          have zs_kq_7 := kq_7.size
          replace hb5 := hb5.pure kq_7
          replace hL := hL.pure kq_7
          replace hFd := hFd.pure kq_7
          replace h1 := h1.pure kq_7
          replace hw := hw.pure kq_7
          refine WL.c_i64_u64 Try.underlying3 Try.underlying54 rfl rfl (?_)
          refine WL.nil ?_
          exact WX.one ⟨rfl, by first | exact Chg.refl _ _ | assumption⟩
        apply DQ.step (E' := [(5, _)])
        case ho => rfl
        case hs => exact ⟨rfl, trivial⟩
        case hk => rfl
        case h1 =>
          intro wq_8 kq_8
          refine WL.fieldAddr (fld_33_1) rfl rfl (?_)
          refine WL.nil ?_
          exact WX.one ⟨rfl, by first | exact Chg.refl _ _ | assumption⟩
        apply DQ.step (E' := [(104, _)])
        case ho => rfl
        case hs => exact ⟨rfl, trivial⟩
        case hk => rfl
        case h1 =>
          intro wq_9 kq_9
          have zs_kq_9 := kq_9.size
          replace hb5 := hb5.pure kq_9
          replace hL := hL.pure kq_9
          replace hFd := hFd.pure kq_9
          replace h1 := h1.pure kq_9
          replace hw := hw.pure kq_9
          refine WL.loadB Try.isAgg31 hb5 rfl rfl rfl (?_)
          refine WL.nil ?_
          exact WX.one ⟨rfl, by first | exact Chg.refl _ _ | assumption⟩
        apply DQ.step (E' := [(105, _)])
        case ho => rfl
        case hs => exact ⟨rfl, trivial⟩
        case hk => rfl
        case h1 =>
          intro wq_10 kq_10
          have zs_kq_10 := kq_10.size
          replace hb5 := hb5.pure kq_10
          replace hL := hL.pure kq_10
          replace hFd := hFd.pure kq_10
          replace h1 := h1.pure kq_10
          replace hw := hw.pure kq_10
          refine WL.len Try.underlying31 rfl rfl (?_)
          refine WL.nil ?_
          exact WX.one ⟨rfl, by first | exact Chg.refl _ _ | assumption⟩
        apply DQ.step (E' := [(106, _)])
        case ho => rfl
        case hs => exact ⟨rfl, trivial⟩
        case hk => rfl
        case h1 =>
          intro wq_11 kq_11
          have zs_kq_11 := kq_11.size
          replace hb5 := hb5.pure kq_11
          replace hL := hL.pure kq_11
          replace hFd := hFd.pure kq_11
          replace h1 := h1.pure kq_11
          replace hw := hw.pure kq_11
          refine WL.c_i64_u64 Try.underlying3 Try.underlying54 rfl rfl (?_)
          refine WL.nil ?_
          exact WX.one ⟨rfl, by first | exact Chg.refl _ _ | assumption⟩
        apply DQ.step (E' := [(103, _), (107, _)])
        case ho => rfl
        case hs => exact ⟨rfl, rfl, trivial⟩
        case hk => rfl
        case h1 =>
          intro wq_12 kq_12
          refine WL.num rfl rfl (n_rem64 _ _ _ _ (by rw [hBl]; omega)) rfl ?_
          refine WL.nil ?_
          exact WX.one ⟨rfl, by first | exact Chg.refl _ _ | assumption⟩
        apply DQ.step (E' := [(108, _)])
        case ho => rfl
        case hs => exact ⟨rfl, trivial⟩
        case hk => rfl
        case h1 =>
          intro wq_13 kq_13
          have zs_kq_13 := kq_13.size
          replace hb5 := hb5.pure kq_13
          replace hL := hL.pure kq_13
          replace hFd := hFd.pure kq_13
          replace h1 := h1.pure kq_13
          replace hw := hw.pure kq_13
          refine WL.c_u64_i64s (n := kk) Try.underlying54 Try.underlying3 rfl ⟨hkk.symm, by omega⟩ rfl ?_
          refine WL.nil ?_
          exact WX.one ⟨rfl, by first | exact Chg.refl _ _ | assumption⟩
        apply DQ.step (E' := [(109, _)])
        case ho => rfl
        case hs => exact ⟨rfl, trivial⟩
        case hk => rfl
        case h1 =>
          intro wq_14 kq_14
          refine WL.assign rfl rfl (?_)
          refine WL.nil ?_
          exact WX.one ⟨rfl, by first | exact Chg.refl _ _ | assumption⟩
        refine DQ.done (fun _ => ?_)
        refine DL.done (fun we_15 ke_15 => ?_)
        have zs_ke_15 := ke_15.size
        replace hb5 := hb5.pure ke_15
        replace hL := hL.pure ke_15
        replace hFd := hFd.pure ke_15
        replace h1 := h1.pure ke_15
        replace hw := hw.pure ke_15
        refine WX.then_normal (WC.seq (WC.region (WL.loadsB Try.isAgg33 Try.sizeOf33 hb5 rfl (by first | (simp; done) | (simp; omega) | rfl) rfl (WL.move rfl rfl (?_)))))
        have hls2 : l2.abs.snaps.length = l2.snaps.length := sabs_len _
        obtain ⟨hsm, hzz⟩ := all_sm (n := 30) hal (by omega) (by omega)
        first
          | refine WL.call eg_19 rfl rfl (Destroy_calls hL (hsm.up (by decide)) (kk : Int) (by constructor <;> omega) hzz) ?_
          | refine WL.call eg_19 rfl rfl (Destroy_calls hL (hsm.up (by decide)) 0 (by decide) hzz) ?_
        rintro v w7 ⟨⟨l4, fao, fc, fr, e4, rfl, hR4, hL4, hF4⟩, k7⟩
        obtain ⟨k3, hk3, ha4, hf4, rfl⟩ : ∃ k3, k3 < l2.abs.snaps.length ∧ l4.abs = destroyA l2.abs k3 ∧ fr = freeA l2.abs k3 ∧ e4 = 0 := by
          first
            | (have h := hR4.go hOI.right (by rw [hls2]; constructor <;> omega)
               rw [Int.toNat_natCast] at h
               exact ⟨kk, by rw [hls2]; exact hkl, h⟩)
            | exact ⟨0, by rw [hls2]; omega, hR4.go hOI.right (by rw [hls2]; constructor <;> omega)⟩
        obtain ⟨hOI4, hfa, hfn, hfx, hcnt⟩ := hOI.destroy hk3
        have hl4 := destroy_sl hk3
        rw [← ha4] at hOI4 hfx hcnt hl4
        rw [← hf4] at hfa hfn hfx hcnt
        rw [hls2, show l4.abs.snaps.length = l4.snaps.length from sabs_len _] at hl4
        have zs_k7 := k7.size
        replace hb5 := hb5.pure k7
        replace hFd := hFd.pure k7
        replace h1 := h1.pure k7
        replace hw := hw.pure k7
        replace hL4 := hL4.mono (S' := fun b => b ≠ g5 ∧ b ≠ gf) (fun b hb => by omega)
        replace hF4 := hF4.mono (S' := fun b => b ≠ g5 ∧ b ≠ gf) (fun b hb => by omega)
        refine WL.move rfl rfl (WL.extract rfl rfl rfl (WL.extract rfl rfl rfl (WL.extract rfl rfl rfl (?_))))
        replace hL4 := hL4.lt
        replace hF4 := hF4.lt
        refine WL.alloc Try.zeroValue33 rfl ?_
        intro g16 w16 hge16 hlt16 hb16 k16
        have zs_k16 := k16.size
        replace hb5 := hb5.pure k16
        replace hFd := hFd.pure k16
        replace h1 := h1.pure k16
        replace hw := hw.pure k16
        replace hL4 := hL4.pure k16
        replace hF4 := hF4.pure k16
        refine WL.stores Try.sizeOf33 hb16 rfl rfl (by first | (simp; done) | (simp; omega) | rfl) (by first | exact Enc.one _ _ | (intro u hu; obtain ⟨x, _, rfl⟩ := List.mem_map.1 hu; rfl) | (simp [Value.oneCell']; done) | (simp [Value.oneCell', Value.cells]; done)) (by first | (simp; done) | (simp; omega) | (simp [Value.cells]; done) | (simp [Value.cells]; omega) | exact Nat.le_of_ble_eq_true rfl) rfl ?_
        intro w_16 hs_16 hn_16 k_16
        have zs_k_16 := k_16.size
        replace hb5 := hb5.chg k_16 (by first | (intro x h1 h2; exact h2) | (intro x h1 h2; have h3 : _ = _ := h2; subst h3; assumption) | (intro x h1 h2; have h3 : _ = _ := h2; exfalso; omega) | (intro b h1 h2 h3; have h4 : _ = _ := h3; (try dsimp only at h2); exfalso; omega) | (intro h1; have h2 : _ = _ := h1; exfalso; omega) | (intro h1; have h2 : _ ≤ _ := h1; exfalso; omega) | (intros; exfalso; (try dsimp only at *); omega) | (intro h1; exfalso; have h4 := h1.2; (try dsimp only at *); omega) | (intro x h1 h2; exact h2.1))
        replace hFd := hFd.chg k_16 (by first | (intro x h1 h2; exact h2) | (intro x h1 h2; have h3 : _ = _ := h2; subst h3; assumption) | (intro x h1 h2; have h3 : _ = _ := h2; exfalso; omega) | (intro b h1 h2 h3; have h4 : _ = _ := h3; (try dsimp only at h2); exfalso; omega) | (intro h1; have h2 : _ = _ := h1; exfalso; omega) | (intro h1; have h2 : _ ≤ _ := h1; exfalso; omega) | (intros; exfalso; (try dsimp only at *); omega) | (intro h1; exfalso; have h4 := h1.2; (try dsimp only at *); omega) | (intro x h1 h2; exact h2.1))
        replace h1 := h1.chg k_16 (by first | (intro x h1 h2; exact h2) | (intro x h1 h2; have h3 : _ = _ := h2; subst h3; assumption) | (intro x h1 h2; have h3 : _ = _ := h2; exfalso; omega) | (intro b h1 h2 h3; have h4 : _ = _ := h3; (try dsimp only at h2); exfalso; omega) | (intro h1; have h2 : _ = _ := h1; exfalso; omega) | (intro h1; have h2 : _ ≤ _ := h1; exfalso; omega) | (intros; exfalso; (try dsimp only at *); omega) | (intro h1; exfalso; have h4 := h1.2; (try dsimp only at *); omega) | (intro x h1 h2; exact h2.1))
        replace hw := hw.chg k_16 (by first | (intro x h1 h2; exact h2) | (intro x h1 h2; have h3 : _ = _ := h2; subst h3; assumption) | (intro x h1 h2; have h3 : _ = _ := h2; exfalso; omega) | (intro b h1 h2 h3; have h4 : _ = _ := h3; (try dsimp only at h2); exfalso; omega) | (intro h1; have h2 : _ = _ := h1; exfalso; omega) | (intro h1; have h2 : _ ≤ _ := h1; exfalso; omega) | (intros; exfalso; (try dsimp only at *); omega) | (intro h1; exfalso; have h4 := h1.2; (try dsimp only at *); omega) | (intro x h1 h2; exact h2.1))
        replace hL4 := hL4.chg k_16 (by first | (intro x h1 h2; exact h2) | (intro x h1 h2; have h3 : _ = _ := h2; subst h3; assumption) | (intro x h1 h2; have h3 : _ = _ := h2; exfalso; omega) | (intro b h1 h2 h3; have h4 : _ = _ := h3; (try dsimp only at h2); exfalso; omega) | (intro h1; have h2 : _ = _ := h1; exfalso; omega) | (intro h1; have h2 : _ ≤ _ := h1; exfalso; omega) | (intros; exfalso; (try dsimp only at *); omega) | (intro h1; exfalso; have h4 := h1.2; (try dsimp only at *); omega) | (intro x h1 h2; exact h2.1))
        replace hF4 := hF4.chg k_16 (by first | (intro x h1 h2; exact h2) | (intro x h1 h2; have h3 : _ = _ := h2; subst h3; assumption) | (intro x h1 h2; have h3 : _ = _ := h2; exfalso; omega) | (intro b h1 h2 h3; have h4 : _ = _ := h3; (try dsimp only at h2); exfalso; omega) | (intro h1; have h2 : _ = _ := h1; exfalso; omega) | (intro h1; have h2 : _ ≤ _ := h1; exfalso; omega) | (intros; exfalso; (try dsimp only at *); omega) | (intro h1; exfalso; have h4 := h1.2; (try dsimp only at *); omega) | (intro x h1 h2; exact h2.1))
        replace hb16 := hn_16
        refine WL.assign rfl rfl (WL.assign rfl rfl (WL.nil (WX.then_normal (WC.seq (WC.seq (WC.region (WL.move rfl rfl (?_))))))))
        refine WL.neqF rfl rfl rfl (by first | rfl | omega | decide) ?_
        refine WL.move rfl rfl (WL.want rfl rfl rfl (WL.fieldAddr (fld_33_1) rfl rfl (WL.want rfl rfl rfl (WL.loadB Try.isAgg31 hb16 rfl rfl rfl (WL.want rfl rfl rfl (WL.len Try.underlying31 rfl rfl (WL.want rfl rfl rfl (?_))))))))
        refine WL.fieldAddr (fld_33_1) rfl rfl (WL.want rfl rfl rfl (WL.loadB Try.isAgg31 hb5 rfl rfl rfl (WL.want rfl rfl rfl (WL.len Try.underlying31 rfl rfl (WL.want rfl rfl rfl (WL.sub64 rfl rfl (by first | omega | (constructor <;> omega)) rfl (WL.want rfl rfl rfl (?_))))))))
        refine WL.neqF rfl rfl rfl (by first | rfl | omega | decide) ?_
        refine WL.pickF rfl rfl rfl (WL.nil (WX.then_normal (WC.cond_false rfl (WC.skip (WX.then_normal (WC.seq (WC.seq (?_))))))))
        refine WC.region (WL.assign rfl rfl (WL.nil (WX.then_normal (WC.block (?_)))))
        have hb16' : Blk _ g16 33 (lcells l4) := hb16
        have lg16 := hb16.lt
        refine WC.loop (σ := Nat × Int × List Bool) (fun q => [(1, .slice a1 l1.length c1), (5, gptr g5), (7, vi (i : Int)), (8, vi q.2.1), (13, .slice (some ⟨gf, 0, none⟩) i i), (14, vi (u : Int)), (16, gptr g16), (17, .slice fao fr.length fc), (19, vi (q.1 : Int))]) (fun q w' => (q.1 ≤ fr.length ∧ q.2.1 = ((allP l2.abs).length : Int) - (q.1 : Int)) ∧ (q.2.2.length = i ∧ (∀ p ∈ allP l4.abs, q.2.2[p.a.toNat]? = some false) ∧ ∀ m p, q.1 ≤ m → fr[m]? = some p → q.2.2[p.a.toNat]? = some false) ∧ Blk w' g5 33 (lcells l2) ∧ Blk w' g16 33 (lcells l4) ∧ LS (fun b => b ≠ g5 ∧ b ≠ gf) w' l4 ∧ RSl (fun b => b ≠ g5 ∧ b ≠ gf) w' ept fao fc fr ∧ Row (fun b => b = gf) w' 4 ebool (some ⟨gf, 0, none⟩) i q.2.2 ∧ RSl (· < w.heap.size) w' ei _ c1 l1 ∧ Chg Nob w w') (fun q => fr.length - q.1) (0, ((allP l2.abs).length : Int), fd) ⟨rfl, rfl, rfl, rfl, rfl, rfl, rfl, rfl, rfl, trivial⟩ ⟨⟨Nat.zero_le _, by show ((allP l2.abs).length : Int) = _ - ((0 : Nat) : Int); omega⟩, ⟨hfl, ?_, ?_⟩, hb5, hb16', hL4.mono (fun b hb => hb.1), hF4.mono (fun b hb => hb.1), hFd, h1, hw⟩ ?_
        ·
          intro p hp
          exact hff p ((allP_destroy l2.abs hk3).mem_iff.1 (List.mem_append_left _ (by rw [← ha4]; exact hp)))
        ·
          intro m p _ hp
          exact hff p ((allP_destroy l2.abs hk3).mem_iff.1 (List.mem_append_right _ (by rw [← hf4]; exact List.mem_of_getElem? hp)))
        clear hff
        have hg16f : g16 ≠ gf := by omega
        clear hb5 hb16 hb16' hL4 hF4 hFd h1 hw hfl
        rintro ⟨j, kd, fd2⟩ w2 ⟨⟨hj, hkd⟩, ⟨hfl, hfp, hff⟩, hb5, hb16, hL4, hF4, hFd, h1, hw⟩
        simp only at hj hkd hfl hfp hff hFd
        dsimp only
        have lg5 := hb5.lt
        have lgf : gf < _ := hFd.own.lt _ rfl
        have lg16 := hb16.lt
        refine WC.seq (WC.seq (WC.region (WL.move rfl rfl (WL.move rfl rfl (WL.len Try.underlying23 rfl rfl (?_))))))
        refine WL.lss? rfl rfl rfl (fun h132 => ?_) (fun h132 => ?_)
        ·
          refine WL.nil (WX.then_normal (WC.cond_true rfl (WC.skip (WX.then_normal (WC.seq (WC.block (WC.seq (?_))))))))
          refine WC.region (WL.move rfl rfl (WL.move rfl rfl (?_)))
          obtain ⟨p, hp⟩ : ∃ p, fr[j]? = some p := ⟨_, List.getElem?_eq_getElem (by omega)⟩
          have hpa := hfa p (List.mem_of_getElem? hp)
          have hfp0 := hff j p (Nat.le_refl _) hp
          refine WL.indexT (e := ept) Try.underlying23 Try.sizeOf27 hF4 rfl rfl ⟨hp, rfl⟩ rfl ?_
          intro bb oo hcc
          refine WL.fieldAddr (fld_27_0) rfl rfl (WL.load Try.isAgg3 rfl (hcc _ _ rfl) rfl (WL.assign rfl rfl (WL.nil (WX.then_normal (WC.seq (WC.seq (WC.region (?_))))))))
          refine WL.move rfl rfl (?_)
          refine WL.lssF rfl rfl rfl (by first | rfl | omega | decide) ?_
          refine WL.move rfl rfl (WL.want rfl rfl rfl (WL.move rfl rfl (WL.want rfl rfl rfl (WL.move rfl rfl (WL.want rfl rfl rfl (?_))))))
          refine WL.geqF rfl rfl rfl (by first | rfl | omega | decide) ?_
          refine WL.pickF rfl rfl rfl (WL.move rfl rfl (WL.want rfl rfl rfl (WL.move rfl rfl (WL.want rfl rfl rfl (WL.move rfl rfl (WL.want rfl rfl rfl (?_)))))))
          refine WL.indexT (e := ebool) Try.underlying57 Try.sizeOf4 hFd.rsl (by show some (Value.slice _ i i) = _; rw [hfl]) rfl ⟨hfp0, by omega⟩ rfl ?_
          intro bb2 oo2 hcc2
          refine WL.want rfl rfl rfl (?_)
          refine WL.load Try.isAgg4 rfl (hcc2 0 _ rfl) rfl ?_
          refine WL.pickF rfl rfl rfl (WL.nil (WX.then_normal (WC.cond_false rfl (WC.skip (WX.then_normal (WC.seq (WC.region (?_))))))))
          refine WL.move rfl rfl (WL.move rfl rfl (?_))
          refine WL.index (j := p.a.toNat) Try.underlying57 Try.sizeOf4 rfl rfl (by omega) (by omega) rfl ?_
          refine WL.storeRow (z := true) (p.a.toNat) Try.sizeOf4 hFd rfl rfl rfl (by first | (simp; done) | (show 0 + _ * 1 = _; omega)) (by omega) rfl ?_
          intro w_17 zs_17 nr_17 k_17
          have zs_k_17 := k_17.size
          replace hb5 := hb5.chg k_17 (by first | (intro x h1 h2; exact h2) | (intro x h1 h2; have h3 : _ = _ := h2; subst h3; assumption) | (intro x h1 h2; have h3 : _ = _ := h2; exfalso; omega) | (intro b h1 h2 h3; have h4 : _ = _ := h3; (try dsimp only at h2); exfalso; omega) | (intro h1; have h2 : _ = _ := h1; exfalso; omega) | (intro h1; have h2 : _ ≤ _ := h1; exfalso; omega) | (intros; exfalso; (try dsimp only at *); omega) | (intro h1; exfalso; have h4 := h1.2; (try dsimp only at *); omega) | (intro x h1 h2; exact h2.1))
          replace hb16 := hb16.chg k_17 (by first | (intro x h1 h2; exact h2) | (intro x h1 h2; have h3 : _ = _ := h2; subst h3; assumption) | (intro x h1 h2; have h3 : _ = _ := h2; exfalso; omega) | (intro b h1 h2 h3; have h4 : _ = _ := h3; (try dsimp only at h2); exfalso; omega) | (intro h1; have h2 : _ = _ := h1; exfalso; omega) | (intro h1; have h2 : _ ≤ _ := h1; exfalso; omega) | (intros; exfalso; (try dsimp only at *); omega) | (intro h1; exfalso; have h4 := h1.2; (try dsimp only at *); omega) | (intro x h1 h2; exact h2.1))
          replace hL4 := hL4.chg k_17 (by first | (intro x h1 h2; exact h2) | (intro x h1 h2; have h3 : _ = _ := h2; subst h3; assumption) | (intro x h1 h2; have h3 : _ = _ := h2; exfalso; omega) | (intro b h1 h2 h3; have h4 : _ = _ := h3; (try dsimp only at h2); exfalso; omega) | (intro h1; have h2 : _ = _ := h1; exfalso; omega) | (intro h1; have h2 : _ ≤ _ := h1; exfalso; omega) | (intros; exfalso; (try dsimp only at *); omega) | (intro h1; exfalso; have h4 := h1.2; (try dsimp only at *); omega) | (intro x h1 h2; exact h2.1))
          replace hF4 := hF4.chg k_17 (by first | (intro x h1 h2; exact h2) | (intro x h1 h2; have h3 : _ = _ := h2; subst h3; assumption) | (intro x h1 h2; have h3 : _ = _ := h2; exfalso; omega) | (intro b h1 h2 h3; have h4 : _ = _ := h3; (try dsimp only at h2); exfalso; omega) | (intro h1; have h2 : _ = _ := h1; exfalso; omega) | (intro h1; have h2 : _ ≤ _ := h1; exfalso; omega) | (intros; exfalso; (try dsimp only at *); omega) | (intro h1; exfalso; have h4 := h1.2; (try dsimp only at *); omega) | (intro x h1 h2; exact h2.1))
          replace h1 := h1.chg k_17 (by first | (intro x h1 h2; exact h2) | (intro x h1 h2; have h3 : _ = _ := h2; subst h3; assumption) | (intro x h1 h2; have h3 : _ = _ := h2; exfalso; omega) | (intro b h1 h2 h3; have h4 : _ = _ := h3; (try dsimp only at h2); exfalso; omega) | (intro h1; have h2 : _ = _ := h1; exfalso; omega) | (intro h1; have h2 : _ ≤ _ := h1; exfalso; omega) | (intros; exfalso; (try dsimp only at *); omega) | (intro h1; exfalso; have h4 := h1.2; (try dsimp only at *); omega) | (intro x h1 h2; exact h2.1))
          replace hw := hw.chg k_17 (by first | (intro x h1 h2; exact h2) | (intro x h1 h2; have h3 : _ = _ := h2; subst h3; assumption) | (intro x h1 h2; have h3 : _ = _ := h2; exfalso; omega) | (intro b h1 h2 h3; have h4 : _ = _ := h3; (try dsimp only at h2); exfalso; omega) | (intro h1; have h2 : _ = _ := h1; exfalso; omega) | (intro h1; have h2 : _ ≤ _ := h1; exfalso; omega) | (intros; exfalso; (try dsimp only at *); omega) | (intro h1; exfalso; have h4 := h1.2; (try dsimp only at *); omega) | (intro x h1 h2; exact h2.1))
          replace hFd := nr_17
          refine WL.nil (WX.then_normal (WC.region (WL.move rfl rfl (WL.sub64 rfl rfl (by first | omega | (constructor <;> omega)) rfl (WL.assign rfl rfl (WL.nil (WX.block_normal (?_))))))))
          refine WX.then_normal (WC.region (WL.move rfl rfl (WL.add64 rfl rfl (by first | omega | (constructor <;> omega)) rfl (WL.assign rfl rfl (WL.nil (?_))))))
          first
            | (have hset : ∀ q : PtV, q.a ≠ p.a → 0 ≤ q.a → (fd2.set p.a.toNat true)[q.a.toNat]? = fd2[q.a.toNat]? := fun q h1 h2 => List.getElem?_set_ne (by omega)
               exact WX.loop_next (j + 1, kd - 1, fd2.set p.a.toNat true) ⟨rfl, rfl, rfl, rfl, rfl, rfl, rfl, rfl, rfl, trivial⟩ ⟨⟨by show j + 1 ≤ _; omega, by show kd - 1 = _ - ((j + 1 : Nat) : Int); omega⟩, ⟨by show (fd2.set _ _).length = i; rw [List.length_set]; exact hfl, fun q hq => by
                 show (fd2.set p.a.toNat true)[q.a.toNat]? = _
                 rw [hset q (hfx q hq p (List.mem_of_getElem? hp)) (hOI4.born q hq).2.1]
                 exact hfp q hq, fun m q hm hq => by
                 have hm : j + 1 ≤ m := hm
                 show (fd2.set p.a.toNat true)[q.a.toNat]? = _
                 rw [hset q (fun e => nodup_ne hfn hp hq (by omega) e.symm) (hfa q (List.mem_of_getElem? hq)).1]
                 exact hff m q (by omega) hq⟩, hb5, hb16, hL4, hF4, hFd, h1, hw⟩ (by show fr.length - (j + 1) < fr.length - j; omega))
            | (have hjf : j = fr.length := by omega
               have hkd2 : kd = ((allP l4.abs).length : Int) := by omega
               subst hkd2
               exact WX.loop_next (u + 1, l4, fd2) ⟨rfl, rfl, rfl, rfl, rfl, rfl, trivial⟩ ⟨by show u + 1 + l4.snaps.length ≤ 30; omega, hOI4, by show (allP l4.abs).length ≤ 30; omega, ⟨hfl, hfp⟩, hb5, hL4, hFd, h1, hw⟩ (by show l4.snaps.length < l2.snaps.length; omega))
            | (have hbt : b2 = true := hc84
               have hab : l2.abs = l1.abs := by
                 rcases hcs with ⟨h3, _⟩ | ⟨_, h3⟩
                 ·
                   rw [hbt] at h3; cases h3
                 ·
                   exact h3
               have hl2 : l2.snaps.length = l1.snaps.length := abs_len hab
               have hOI2 : OI l2.abs (i + 1) := by rw [hab]; exact hOI1.up
               have hah2 : l2.abs.ahead l2.snaps.length = l1.abs.ahead l1.snaps.length := by rw [hab, hl2]
               have hal2 : (allP l2.abs).length = (allP l1.abs).length := by rw [hab]
               rw [show ((allP l1.abs).length : Int) + 1 - 1 = ((allP l2.abs).length : Int) from by omega]
               first
                 | exact WX.loop_next (i + 1, l2, t + 1 + 1) ⟨rfl, rfl, rfl, rfl, rfl, rfl, rfl, trivial⟩ ⟨⟨by show i + 1 ≤ _; omega, by show i + 1 ≤ _; omega⟩, ⟨by show l2.abs.ahead l2.snaps.length ≤ t + 1 + 1; omega, by show 0 ≤ t + 1 + 1; omega, by show t + 1 + 1 ≤ 2 * ((i + 1 : Nat) : Int); omega⟩, hOI2, ⟨by show (allP l2.abs).length ≤ i + 1; omega, by show l2.snaps.length ≤ i + 1; omega⟩, hb51, hL2, h0, h1, hw⟩ (by show l0.length - (i + 1) < l0.length - i; omega)
                 | exact WX.loop_next (i + 1, l2, t + 1) ⟨rfl, rfl, rfl, rfl, rfl, rfl, rfl, trivial⟩ ⟨⟨by show i + 1 ≤ _; omega, by show i + 1 ≤ _; omega⟩, ⟨by show l2.abs.ahead l2.snaps.length ≤ t + 1; omega, by show 0 ≤ t + 1; omega, by show t + 1 ≤ 2 * ((i + 1 : Nat) : Int); omega⟩, hOI2, ⟨by show (allP l2.abs).length ≤ i + 1; omega, by show l2.snaps.length ≤ i + 1; omega⟩, hb51, hL2, h0, h1, hw⟩ (by show l0.length - (i + 1) < l0.length - i; omega))
            | (have hbt : b2 = false := hc84
               obtain ⟨hOI2, hal2, hl2, hah2⟩ : OI l2.abs (i + 1) ∧ (allP l2.abs).length = (allP l1.abs).length + 1 ∧ l2.snaps.length = l1.snaps.length ∧ l2.abs.ahead l2.snaps.length = l1.abs.ahead l1.snaps.length := by
                 rcases hcs with ⟨_, h3⟩ | ⟨h3, _⟩
                 ·
                   exact h3
                 ·
                   rw [hbt] at h3; cases h3
               rw [show ((allP l1.abs).length : Int) + 1 = ((allP l2.abs).length : Int) from by omega]
               first
                 | exact WX.loop_next (i + 1, l2, t + 1 + 1) ⟨rfl, rfl, rfl, rfl, rfl, rfl, rfl, trivial⟩ ⟨⟨by show i + 1 ≤ _; omega, by show i + 1 ≤ _; omega⟩, ⟨by show l2.abs.ahead l2.snaps.length ≤ t + 1 + 1; omega, by show 0 ≤ t + 1 + 1; omega, by show t + 1 + 1 ≤ 2 * ((i + 1 : Nat) : Int); omega⟩, hOI2, ⟨by show (allP l2.abs).length ≤ i + 1; omega, by show l2.snaps.length ≤ i + 1; omega⟩, hb51, hL2, h0, h1, hw⟩ (by show l0.length - (i + 1) < l0.length - i; omega)
                 | exact WX.loop_next (i + 1, l2, t + 1) ⟨rfl, rfl, rfl, rfl, rfl, rfl, rfl, trivial⟩ ⟨⟨by show i + 1 ≤ _; omega, by show i + 1 ≤ _; omega⟩, ⟨by show l2.abs.ahead l2.snaps.length ≤ t + 1; omega, by show 0 ≤ t + 1; omega, by show t + 1 ≤ 2 * ((i + 1 : Nat) : Int); omega⟩, hOI2, ⟨by show (allP l2.abs).length ≤ i + 1; omega, by show l2.snaps.length ≤ i + 1; omega⟩, hb51, hL2, h0, h1, hw⟩ (by show l0.length - (i + 1) < l0.length - i; omega))
            | exact WX.loop_next (i + 1, l1, t + 1 + 1) ⟨rfl, rfl, rfl, rfl, rfl, rfl, rfl, trivial⟩ ⟨⟨by show i + 1 ≤ _; omega, by show i + 1 ≤ _; omega⟩, ⟨by show l1.abs.ahead l1.snaps.length ≤ t + 1 + 1; omega, by show 0 ≤ t + 1 + 1; omega, by show t + 1 + 1 ≤ 2 * ((i + 1 : Nat) : Int); omega⟩, hOI1.up, ⟨by show (allP l1.abs).length ≤ i + 1; omega, by show l1.snaps.length ≤ i + 1; omega⟩, hb51, hL1, h0, h1, hw⟩ (by show l0.length - (i + 1) < l0.length - i; omega)
            | exact WX.loop_next (i + 1, l1, t + 1) ⟨rfl, rfl, rfl, rfl, rfl, rfl, rfl, trivial⟩ ⟨⟨by show i + 1 ≤ _; omega, by show i + 1 ≤ _; omega⟩, ⟨by show l1.abs.ahead l1.snaps.length ≤ t + 1; omega, by show 0 ≤ t + 1; omega, by show t + 1 ≤ 2 * ((i + 1 : Nat) : Int); omega⟩, hOI1.up, ⟨by show (allP l1.abs).length ≤ i + 1; omega, by show l1.snaps.length ≤ i + 1; omega⟩, hb51, hL1, h0, h1, hw⟩ (by show l0.length - (i + 1) < l0.length - i; omega)
        ·
          refine WL.nil (WX.then_normal (WC.cond_false rfl (WC.exit (WX.then_exit (WX.then_exit (WX.block_here (WX.then_normal (?_))))))))
          refine WC.region (WL.loadsB Try.isAgg33 Try.sizeOf33 hb16 rfl (by first | (simp; done) | (simp; omega) | rfl) rfl (?_))
          refine WL.stores Try.sizeOf33 hb5 rfl rfl (by first | (simp; done) | (simp; omega) | rfl) (by first | exact Enc.one _ _ | (intro u hu; obtain ⟨x, _, rfl⟩ := List.mem_map.1 hu; rfl) | (simp [Value.oneCell']; done) | (simp [Value.oneCell', Value.cells]; done)) (by first | (simp; done) | (simp; omega) | (simp [Value.cells]; done) | (simp [Value.cells]; omega) | exact Nat.le_of_ble_eq_true rfl) rfl ?_
          intro w_17 hs_17 hn_17 k_17
          have zs_k_17 := k_17.size
          replace hb16 := hb16.chg k_17 (by first | (intro x h1 h2; exact h2) | (intro x h1 h2; have h3 : _ = _ := h2; subst h3; assumption) | (intro x h1 h2; have h3 : _ = _ := h2; exfalso; omega) | (intro b h1 h2 h3; have h4 : _ = _ := h3; (try dsimp only at h2); exfalso; omega) | (intro h1; have h2 : _ = _ := h1; exfalso; omega) | (intro h1; have h2 : _ ≤ _ := h1; exfalso; omega) | (intros; exfalso; (try dsimp only at *); omega) | (intro h1; exfalso; have h4 := h1.2; (try dsimp only at *); omega) | (intro x h1 h2; exact h2.1))
          replace hL4 := hL4.chg k_17 (by first | (intro x h1 h2; exact h2) | (intro x h1 h2; have h3 : _ = _ := h2; subst h3; assumption) | (intro x h1 h2; have h3 : _ = _ := h2; exfalso; omega) | (intro b h1 h2 h3; have h4 : _ = _ := h3; (try dsimp only at h2); exfalso; omega) | (intro h1; have h2 : _ = _ := h1; exfalso; omega) | (intro h1; have h2 : _ ≤ _ := h1; exfalso; omega) | (intros; exfalso; (try dsimp only at *); omega) | (intro h1; exfalso; have h4 := h1.2; (try dsimp only at *); omega) | (intro x h1 h2; exact h2.1))
          replace hF4 := hF4.chg k_17 (by first | (intro x h1 h2; exact h2) | (intro x h1 h2; have h3 : _ = _ := h2; subst h3; assumption) | (intro x h1 h2; have h3 : _ = _ := h2; exfalso; omega) | (intro b h1 h2 h3; have h4 : _ = _ := h3; (try dsimp only at h2); exfalso; omega) | (intro h1; have h2 : _ = _ := h1; exfalso; omega) | (intro h1; have h2 : _ ≤ _ := h1; exfalso; omega) | (intros; exfalso; (try dsimp only at *); omega) | (intro h1; exfalso; have h4 := h1.2; (try dsimp only at *); omega) | (intro x h1 h2; exact h2.1))
          replace hFd := hFd.chg k_17 (by first | (intro x h1 h2; exact h2) | (intro x h1 h2; have h3 : _ = _ := h2; subst h3; assumption) | (intro x h1 h2; have h3 : _ = _ := h2; exfalso; omega) | (intro b h1 h2 h3; have h4 : _ = _ := h3; (try dsimp only at h2); exfalso; omega) | (intro h1; have h2 : _ = _ := h1; exfalso; omega) | (intro h1; have h2 : _ ≤ _ := h1; exfalso; omega) | (intros; exfalso; (try dsimp only at *); omega) | (intro h1; exfalso; have h4 := h1.2; (try dsimp only at *); omega) | (intro x h1 h2; exact h2.1))
          replace h1 := h1.chg k_17 (by first | (intro x h1 h2; exact h2) | (intro x h1 h2; have h3 : _ = _ := h2; subst h3; assumption) | (intro x h1 h2; have h3 : _ = _ := h2; exfalso; omega) | (intro b h1 h2 h3; have h4 : _ = _ := h3; (try dsimp only at h2); exfalso; omega) | (intro h1; have h2 : _ = _ := h1; exfalso; omega) | (intro h1; have h2 : _ ≤ _ := h1; exfalso; omega) | (intros; exfalso; (try dsimp only at *); omega) | (intro h1; exfalso; have h4 := h1.2; (try dsimp only at *); omega) | (intro x h1 h2; exact h2.1))
          replace hw := hw.chg k_17 (by first | (intro x h1 h2; exact h2) | (intro x h1 h2; have h3 : _ = _ := h2; subst h3; assumption) | (intro x h1 h2; have h3 : _ = _ := h2; exfalso; omega) | (intro b h1 h2 h3; have h4 : _ = _ := h3; (try dsimp only at h2); exfalso; omega) | (intro h1; have h2 : _ = _ := h1; exfalso; omega) | (intro h1; have h2 : _ ≤ _ := h1; exfalso; omega) | (intros; exfalso; (try dsimp only at *); omega) | (intro h1; exfalso; have h4 := h1.2; (try dsimp only at *); omega) | (intro x h1 h2; exact h2.1))
          replace hb5 := hn_17
          refine WL.nil (WX.block_normal (WX.then_normal (WC.region (WL.move rfl rfl (WL.add64 rfl rfl (by first | omega | (constructor <;> omega)) rfl (WL.assign rfl rfl (WL.nil (?_))))))))
          first
            | (have hset : ∀ q : PtV, q.a ≠ p.a → 0 ≤ q.a → (fd2.set p.a.toNat true)[q.a.toNat]? = fd2[q.a.toNat]? := fun q h1 h2 => List.getElem?_set_ne (by omega)
               exact WX.loop_next (j + 1, kd - 1, fd2.set p.a.toNat true) ⟨rfl, rfl, rfl, rfl, rfl, rfl, rfl, rfl, rfl, trivial⟩ ⟨⟨by show j + 1 ≤ _; omega, by show kd - 1 = _ - ((j + 1 : Nat) : Int); omega⟩, ⟨by show (fd2.set _ _).length = i; rw [List.length_set]; exact hfl, fun q hq => by
                 show (fd2.set p.a.toNat true)[q.a.toNat]? = _
                 rw [hset q (hfx q hq p (List.mem_of_getElem? hp)) (hOI4.born q hq).2.1]
                 exact hfp q hq, fun m q hm hq => by
                 have hm : j + 1 ≤ m := hm
                 show (fd2.set p.a.toNat true)[q.a.toNat]? = _
                 rw [hset q (fun e => nodup_ne hfn hp hq (by omega) e.symm) (hfa q (List.mem_of_getElem? hq)).1]
                 exact hff m q (by omega) hq⟩, hb5, hb16, hL4, hF4, hFd, h1, hw⟩ (by show fr.length - (j + 1) < fr.length - j; omega))
            | (have hjf : j = fr.length := by omega
               have hkd2 : kd = ((allP l4.abs).length : Int) := by omega
               subst hkd2
               exact WX.loop_next (u + 1, l4, fd2) ⟨rfl, rfl, rfl, rfl, rfl, rfl, trivial⟩ ⟨by show u + 1 + l4.snaps.length ≤ 30; omega, hOI4, by show (allP l4.abs).length ≤ 30; omega, ⟨hfl, hfp⟩, hb5, hL4, hFd, h1, hw⟩ (by show l4.snaps.length < l2.snaps.length; omega))
            | (have hbt : b2 = true := hc84
               have hab : l2.abs = l1.abs := by
                 rcases hcs with ⟨h3, _⟩ | ⟨_, h3⟩
                 ·
                   rw [hbt] at h3; cases h3
                 ·
                   exact h3
               have hl2 : l2.snaps.length = l1.snaps.length := abs_len hab
               have hOI2 : OI l2.abs (i + 1) := by rw [hab]; exact hOI1.up
               have hah2 : l2.abs.ahead l2.snaps.length = l1.abs.ahead l1.snaps.length := by rw [hab, hl2]
               have hal2 : (allP l2.abs).length = (allP l1.abs).length := by rw [hab]
               rw [show ((allP l1.abs).length : Int) + 1 - 1 = ((allP l2.abs).length : Int) from by omega]
               first
                 | exact WX.loop_next (i + 1, l2, t + 1 + 1) ⟨rfl, rfl, rfl, rfl, rfl, rfl, rfl, trivial⟩ ⟨⟨by show i + 1 ≤ _; omega, by show i + 1 ≤ _; omega⟩, ⟨by show l2.abs.ahead l2.snaps.length ≤ t + 1 + 1; omega, by show 0 ≤ t + 1 + 1; omega, by show t + 1 + 1 ≤ 2 * ((i + 1 : Nat) : Int); omega⟩, hOI2, ⟨by show (allP l2.abs).length ≤ i + 1; omega, by show l2.snaps.length ≤ i + 1; omega⟩, hb51, hL2, h0, h1, hw⟩ (by show l0.length - (i + 1) < l0.length - i; omega)
                 | exact WX.loop_next (i + 1, l2, t + 1) ⟨rfl, rfl, rfl, rfl, rfl, rfl, rfl, trivial⟩ ⟨⟨by show i + 1 ≤ _; omega, by show i + 1 ≤ _; omega⟩, ⟨by show l2.abs.ahead l2.snaps.length ≤ t + 1; omega, by show 0 ≤ t + 1; omega, by show t + 1 ≤ 2 * ((i + 1 : Nat) : Int); omega⟩, hOI2, ⟨by show (allP l2.abs).length ≤ i + 1; omega, by show l2.snaps.length ≤ i + 1; omega⟩, hb51, hL2, h0, h1, hw⟩ (by show l0.length - (i + 1) < l0.length - i; omega))
            | (have hbt : b2 = false := hc84
               obtain ⟨hOI2, hal2, hl2, hah2⟩ : OI l2.abs (i + 1) ∧ (allP l2.abs).length = (allP l1.abs).length + 1 ∧ l2.snaps.length = l1.snaps.length ∧ l2.abs.ahead l2.snaps.length = l1.abs.ahead l1.snaps.length := by
                 rcases hcs with ⟨_, h3⟩ | ⟨h3, _⟩
                 ·
                   exact h3
                 ·
                   rw [hbt] at h3; cases h3
               rw [show ((allP l1.abs).length : Int) + 1 = ((allP l2.abs).length : Int) from by omega]
               first
                 | exact WX.loop_next (i + 1, l2, t + 1 + 1) ⟨rfl, rfl, rfl, rfl, rfl, rfl, rfl, trivial⟩ ⟨⟨by show i + 1 ≤ _; omega, by show i + 1 ≤ _; omega⟩, ⟨by show l2.abs.ahead l2.snaps.length ≤ t + 1 + 1; omega, by show 0 ≤ t + 1 + 1; omega, by show t + 1 + 1 ≤ 2 * ((i + 1 : Nat) : Int); omega⟩, hOI2, ⟨by show (allP l2.abs).length ≤ i + 1; omega, by show l2.snaps.length ≤ i + 1; omega⟩, hb51, hL2, h0, h1, hw⟩ (by show l0.length - (i + 1) < l0.length - i; omega)
                 | exact WX.loop_next (i + 1, l2, t + 1) ⟨rfl, rfl, rfl, rfl, rfl, rfl, rfl, trivial⟩ ⟨⟨by show i + 1 ≤ _; omega, by show i + 1 ≤ _; omega⟩, ⟨by show l2.abs.ahead l2.snaps.length ≤ t + 1; omega, by show 0 ≤ t + 1; omega, by show t + 1 ≤ 2 * ((i + 1 : Nat) : Int); omega⟩, hOI2, ⟨by show (allP l2.abs).length ≤ i + 1; omega, by show l2.snaps.length ≤ i + 1; omega⟩, hb51, hL2, h0, h1, hw⟩ (by show l0.length - (i + 1) < l0.length - i; omega))
            | exact WX.loop_next (i + 1, l1, t + 1 + 1) ⟨rfl, rfl, rfl, rfl, rfl, rfl, rfl, trivial⟩ ⟨⟨by show i + 1 ≤ _; omega, by show i + 1 ≤ _; omega⟩, ⟨by show l1.abs.ahead l1.snaps.length ≤ t + 1 + 1; omega, by show 0 ≤ t + 1 + 1; omega, by show t + 1 + 1 ≤ 2 * ((i + 1 : Nat) : Int); omega⟩, hOI1.up, ⟨by show (allP l1.abs).length ≤ i + 1; omega, by show l1.snaps.length ≤ i + 1; omega⟩, hb51, hL1, h0, h1, hw⟩ (by show l0.length - (i + 1) < l0.length - i; omega)
            | exact WX.loop_next (i + 1, l1, t + 1) ⟨rfl, rfl, rfl, rfl, rfl, rfl, rfl, trivial⟩ ⟨⟨by show i + 1 ≤ _; omega, by show i + 1 ≤ _; omega⟩, ⟨by show l1.abs.ahead l1.snaps.length ≤ t + 1; omega, by show 0 ≤ t + 1; omega, by show t + 1 ≤ 2 * ((i + 1 : Nat) : Int); omega⟩, hOI1.up, ⟨by show (allP l1.abs).length ≤ i + 1; omega, by show l1.snaps.length ≤ i + 1; omega⟩, hb51, hL1, h0, h1, hw⟩ (by show l0.length - (i + 1) < l0.length - i; omega)
      ·
        refine WL.nil (WX.then_normal (WC.cond_false rfl (WC.skip (WX.then_normal (WC.seq (WC.region (WL.loadsB Try.isAgg33 Try.sizeOf33 hb5 rfl (by first | (simp; done) | (simp; omega) | rfl) rfl (?_))))))))
        refine WL.move rfl rfl (?_)
        have hls2 : l2.abs.snaps.length = l2.snaps.length := sabs_len _
        obtain ⟨hsm, hzz⟩ := all_sm (n := 30) hal (by omega) (by omega)
        first
          | refine WL.call eg_19 rfl rfl (Destroy_calls hL (hsm.up (by decide)) (kk : Int) (by constructor <;> omega) hzz) ?_
          | refine WL.call eg_19 rfl rfl (Destroy_calls hL (hsm.up (by decide)) 0 (by decide) hzz) ?_
        rintro v w7 ⟨⟨l4, fao, fc, fr, e4, rfl, hR4, hL4, hF4⟩, k7⟩
        obtain ⟨k3, hk3, ha4, hf4, rfl⟩ : ∃ k3, k3 < l2.abs.snaps.length ∧ l4.abs = destroyA l2.abs k3 ∧ fr = freeA l2.abs k3 ∧ e4 = 0 := by
          first
            | (have h := hR4.go hOI.right (by rw [hls2]; constructor <;> omega)
               rw [Int.toNat_natCast] at h
               exact ⟨kk, by rw [hls2]; exact hkl, h⟩)
            | exact ⟨0, by rw [hls2]; omega, hR4.go hOI.right (by rw [hls2]; constructor <;> omega)⟩
        obtain ⟨hOI4, hfa, hfn, hfx, hcnt⟩ := hOI.destroy hk3
        have hl4 := destroy_sl hk3
        rw [← ha4] at hOI4 hfx hcnt hl4
        rw [← hf4] at hfa hfn hfx hcnt
        rw [hls2, show l4.abs.snaps.length = l4.snaps.length from sabs_len _] at hl4
        have zs_k7 := k7.size
        replace hb5 := hb5.pure k7
        replace hFd := hFd.pure k7
        replace h1 := h1.pure k7
        replace hw := hw.pure k7
        replace hL4 := hL4.mono (S' := fun b => b ≠ g5 ∧ b ≠ gf) (fun b hb => by omega)
        replace hF4 := hF4.mono (S' := fun b => b ≠ g5 ∧ b ≠ gf) (fun b hb => by omega)
        refine WL.move rfl rfl (WL.extract rfl rfl rfl (WL.extract rfl rfl rfl (WL.extract rfl rfl rfl (?_))))
        replace hL4 := hL4.lt
        replace hF4 := hF4.lt
        refine WL.alloc Try.zeroValue33 rfl ?_
        intro g16 w16 hge16 hlt16 hb16 k16
        have zs_k16 := k16.size
        replace hb5 := hb5.pure k16
        replace hFd := hFd.pure k16
        replace h1 := h1.pure k16
        replace hw := hw.pure k16
        replace hL4 := hL4.pure k16
        replace hF4 := hF4.pure k16
        refine WL.stores Try.sizeOf33 hb16 rfl rfl (by first | (simp; done) | (simp; omega) | rfl) (by first | exact Enc.one _ _ | (intro u hu; obtain ⟨x, _, rfl⟩ := List.mem_map.1 hu; rfl) | (simp [Value.oneCell']; done) | (simp [Value.oneCell', Value.cells]; done)) (by first | (simp; done) | (simp; omega) | (simp [Value.cells]; done) | (simp [Value.cells]; omega) | exact Nat.le_of_ble_eq_true rfl) rfl ?_
        intro w_2 hs_2 hn_2 k_2
        have zs_k_2 := k_2.size
        replace hb5 := hb5.chg k_2 (by first | (intro x h1 h2; exact h2) | (intro x h1 h2; have h3 : _ = _ := h2; subst h3; assumption) | (intro x h1 h2; have h3 : _ = _ := h2; exfalso; omega) | (intro b h1 h2 h3; have h4 : _ = _ := h3; (try dsimp only at h2); exfalso; omega) | (intro h1; have h2 : _ = _ := h1; exfalso; omega) | (intro h1; have h2 : _ ≤ _ := h1; exfalso; omega) | (intros; exfalso; (try dsimp only at *); omega) | (intro h1; exfalso; have h4 := h1.2; (try dsimp only at *); omega) | (intro x h1 h2; exact h2.1))
        replace hFd := hFd.chg k_2 (by first | (intro x h1 h2; exact h2) | (intro x h1 h2; have h3 : _ = _ := h2; subst h3; assumption) | (intro x h1 h2; have h3 : _ = _ := h2; exfalso; omega) | (intro b h1 h2 h3; have h4 : _ = _ := h3; (try dsimp only at h2); exfalso; omega) | (intro h1; have h2 : _ = _ := h1; exfalso; omega) | (intro h1; have h2 : _ ≤ _ := h1; exfalso; omega) | (intros; exfalso; (try dsimp only at *); omega) | (intro h1; exfalso; have h4 := h1.2; (try dsimp only at *); omega) | (intro x h1 h2; exact h2.1))
        replace h1 := h1.chg k_2 (by first | (intro x h1 h2; exact h2) | (intro x h1 h2; have h3 : _ = _ := h2; subst h3; assumption) | (intro x h1 h2; have h3 : _ = _ := h2; exfalso; omega) | (intro b h1 h2 h3; have h4 : _ = _ := h3; (try dsimp only at h2); exfalso; omega) | (intro h1; have h2 : _ = _ := h1; exfalso; omega) | (intro h1; have h2 : _ ≤ _ := h1; exfalso; omega) | (intros; exfalso; (try dsimp only at *); omega) | (intro h1; exfalso; have h4 := h1.2; (try dsimp only at *); omega) | (intro x h1 h2; exact h2.1))
        replace hw := hw.chg k_2 (by first | (intro x h1 h2; exact h2) | (intro x h1 h2; have h3 : _ = _ := h2; subst h3; assumption) | (intro x h1 h2; have h3 : _ = _ := h2; exfalso; omega) | (intro b h1 h2 h3; have h4 : _ = _ := h3; (try dsimp only at h2); exfalso; omega) | (intro h1; have h2 : _ = _ := h1; exfalso; omega) | (intro h1; have h2 : _ ≤ _ := h1; exfalso; omega) | (intros; exfalso; (try dsimp only at *); omega) | (intro h1; exfalso; have h4 := h1.2; (try dsimp only at *); omega) | (intro x h1 h2; exact h2.1))
        replace hL4 := hL4.chg k_2 (by first | (intro x h1 h2; exact h2) | (intro x h1 h2; have h3 : _ = _ := h2; subst h3; assumption) | (intro x h1 h2; have h3 : _ = _ := h2; exfalso; omega) | (intro b h1 h2 h3; have h4 : _ = _ := h3; (try dsimp only at h2); exfalso; omega) | (intro h1; have h2 : _ = _ := h1; exfalso; omega) | (intro h1; have h2 : _ ≤ _ := h1; exfalso; omega) | (intros; exfalso; (try dsimp only at *); omega) | (intro h1; exfalso; have h4 := h1.2; (try dsimp only at *); omega) | (intro x h1 h2; exact h2.1))
        replace hF4 := hF4.chg k_2 (by first | (intro x h1 h2; exact h2) | (intro x h1 h2; have h3 : _ = _ := h2; subst h3; assumption) | (intro x h1 h2; have h3 : _ = _ := h2; exfalso; omega) | (intro b h1 h2 h3; have h4 : _ = _ := h3; (try dsimp only at h2); exfalso; omega) | (intro h1; have h2 : _ = _ := h1; exfalso; omega) | (intro h1; have h2 : _ ≤ _ := h1; exfalso; omega) | (intros; exfalso; (try dsimp only at *); omega) | (intro h1; exfalso; have h4 := h1.2; (try dsimp only at *); omega) | (intro x h1 h2; exact h2.1))
        replace hb16 := hn_2
        refine WL.assign rfl rfl (WL.assign rfl rfl (WL.nil (WX.then_normal (WC.seq (WC.seq (WC.region (WL.move rfl rfl (?_))))))))
        refine WL.neqF rfl rfl rfl (by first | rfl | omega | decide) ?_
        refine WL.move rfl rfl (WL.want rfl rfl rfl (WL.fieldAddr (fld_33_1) rfl rfl (WL.want rfl rfl rfl (WL.loadB Try.isAgg31 hb16 rfl rfl rfl (WL.want rfl rfl rfl (WL.len Try.underlying31 rfl rfl (WL.want rfl rfl rfl (?_))))))))
        refine WL.fieldAddr (fld_33_1) rfl rfl (WL.want rfl rfl rfl (WL.loadB Try.isAgg31 hb5 rfl rfl rfl (WL.want rfl rfl rfl (WL.len Try.underlying31 rfl rfl (WL.want rfl rfl rfl (WL.sub64 rfl rfl (by first | omega | (constructor <;> omega)) rfl (WL.want rfl rfl rfl (?_))))))))
        refine WL.neqF rfl rfl rfl (by first | rfl | omega | decide) ?_
        refine WL.pickF rfl rfl rfl (WL.nil (WX.then_normal (WC.cond_false rfl (WC.skip (WX.then_normal (WC.seq (WC.seq (?_))))))))
        refine WC.region (WL.assign rfl rfl (WL.nil (WX.then_normal (WC.block (?_)))))
        have hb16' : Blk _ g16 33 (lcells l4) := hb16
        have lg16 := hb16.lt
        refine WC.loop (σ := Nat × Int × List Bool) (fun q => [(1, .slice a1 l1.length c1), (5, gptr g5), (7, vi (i : Int)), (8, vi q.2.1), (13, .slice (some ⟨gf, 0, none⟩) i i), (14, vi (u : Int)), (16, gptr g16), (17, .slice fao fr.length fc), (19, vi (q.1 : Int))]) (fun q w' => (q.1 ≤ fr.length ∧ q.2.1 = ((allP l2.abs).length : Int) - (q.1 : Int)) ∧ (q.2.2.length = i ∧ (∀ p ∈ allP l4.abs, q.2.2[p.a.toNat]? = some false) ∧ ∀ m p, q.1 ≤ m → fr[m]? = some p → q.2.2[p.a.toNat]? = some false) ∧ Blk w' g5 33 (lcells l2) ∧ Blk w' g16 33 (lcells l4) ∧ LS (fun b => b ≠ g5 ∧ b ≠ gf) w' l4 ∧ RSl (fun b => b ≠ g5 ∧ b ≠ gf) w' ept fao fc fr ∧ Row (fun b => b = gf) w' 4 ebool (some ⟨gf, 0, none⟩) i q.2.2 ∧ RSl (· < w.heap.size) w' ei _ c1 l1 ∧ Chg Nob w w') (fun q => fr.length - q.1) (0, ((allP l2.abs).length : Int), fd) ⟨rfl, rfl, rfl, rfl, rfl, rfl, rfl, rfl, rfl, trivial⟩ ⟨⟨Nat.zero_le _, by show ((allP l2.abs).length : Int) = _ - ((0 : Nat) : Int); omega⟩, ⟨hfl, ?_, ?_⟩, hb5, hb16', hL4.mono (fun b hb => hb.1), hF4.mono (fun b hb => hb.1), hFd, h1, hw⟩ ?_
        ·
          intro p hp
          exact hff p ((allP_destroy l2.abs hk3).mem_iff.1 (List.mem_append_left _ (by rw [← ha4]; exact hp)))
        ·
          intro m p _ hp
          exact hff p ((allP_destroy l2.abs hk3).mem_iff.1 (List.mem_append_right _ (by rw [← hf4]; exact List.mem_of_getElem? hp)))
        clear hff
        have hg16f : g16 ≠ gf := by omega
        clear hb5 hb16 hb16' hL4 hF4 hFd h1 hw hfl
        rintro ⟨j, kd, fd2⟩ w2 ⟨⟨hj, hkd⟩, ⟨hfl, hfp, hff⟩, hb5, hb16, hL4, hF4, hFd, h1, hw⟩
        simp only at hj hkd hfl hfp hff hFd
        dsimp only
        have lg5 := hb5.lt
        have lgf : gf < _ := hFd.own.lt _ rfl
        have lg16 := hb16.lt
        refine WC.seq (WC.seq (WC.region (WL.move rfl rfl (WL.move rfl rfl (WL.len Try.underlying23 rfl rfl (?_))))))
        refine WL.lss? rfl rfl rfl (fun h132 => ?_) (fun h132 => ?_)
        ·
          refine WL.nil (WX.then_normal (WC.cond_true rfl (WC.skip (WX.then_normal (WC.seq (WC.block (WC.seq (?_))))))))
          refine WC.region (WL.move rfl rfl (WL.move rfl rfl (?_)))
          obtain ⟨p, hp⟩ : ∃ p, fr[j]? = some p := ⟨_, List.getElem?_eq_getElem (by omega)⟩
          have hpa := hfa p (List.mem_of_getElem? hp)
          have hfp0 := hff j p (Nat.le_refl _) hp
          refine WL.indexT (e := ept) Try.underlying23 Try.sizeOf27 hF4 rfl rfl ⟨hp, rfl⟩ rfl ?_
          intro bb oo hcc
          refine WL.fieldAddr (fld_27_0) rfl rfl (WL.load Try.isAgg3 rfl (hcc _ _ rfl) rfl (WL.assign rfl rfl (WL.nil (WX.then_normal (WC.seq (WC.seq (WC.region (?_))))))))
          refine WL.move rfl rfl (?_)
          refine WL.lssF rfl rfl rfl (by first | rfl | omega | decide) ?_
          refine WL.move rfl rfl (WL.want rfl rfl rfl (WL.move rfl rfl (WL.want rfl rfl rfl (WL.move rfl rfl (WL.want rfl rfl rfl (?_))))))
          refine WL.geqF rfl rfl rfl (by first | rfl | omega | decide) ?_
          refine WL.pickF rfl rfl rfl (WL.move rfl rfl (WL.want rfl rfl rfl (WL.move rfl rfl (WL.want rfl rfl rfl (WL.move rfl rfl (WL.want rfl rfl rfl (?_)))))))
          refine WL.indexT (e := ebool) Try.underlying57 Try.sizeOf4 hFd.rsl (by show some (Value.slice _ i i) = _; rw [hfl]) rfl ⟨hfp0, by omega⟩ rfl ?_
          intro bb2 oo2 hcc2
          refine WL.want rfl rfl rfl (?_)
          refine WL.load Try.isAgg4 rfl (hcc2 0 _ rfl) rfl ?_
          refine WL.pickF rfl rfl rfl (WL.nil (WX.then_normal (WC.cond_false rfl (WC.skip (WX.then_normal (WC.seq (WC.region (?_))))))))
          refine WL.move rfl rfl (WL.move rfl rfl (?_))
          refine WL.index (j := p.a.toNat) Try.underlying57 Try.sizeOf4 rfl rfl (by omega) (by omega) rfl ?_
          refine WL.storeRow (z := true) (p.a.toNat) Try.sizeOf4 hFd rfl rfl rfl (by first | (simp; done) | (show 0 + _ * 1 = _; omega)) (by omega) rfl ?_
          intro w_3 zs_3 nr_3 k_3
          have zs_k_3 := k_3.size
          replace hb5 := hb5.chg k_3 (by first | (intro x h1 h2; exact h2) | (intro x h1 h2; have h3 : _ = _ := h2; subst h3; assumption) | (intro x h1 h2; have h3 : _ = _ := h2; exfalso; omega) | (intro b h1 h2 h3; have h4 : _ = _ := h3; (try dsimp only at h2); exfalso; omega) | (intro h1; have h2 : _ = _ := h1; exfalso; omega) | (intro h1; have h2 : _ ≤ _ := h1; exfalso; omega) | (intros; exfalso; (try dsimp only at *); omega) | (intro h1; exfalso; have h4 := h1.2; (try dsimp only at *); omega) | (intro x h1 h2; exact h2.1))
          replace hb16 := hb16.chg k_3 (by first | (intro x h1 h2; exact h2) | (intro x h1 h2; have h3 : _ = _ := h2; subst h3; assumption) | (intro x h1 h2; have h3 : _ = _ := h2; exfalso; omega) | (intro b h1 h2 h3; have h4 : _ = _ := h3; (try dsimp only at h2); exfalso; omega) | (intro h1; have h2 : _ = _ := h1; exfalso; omega) | (intro h1; have h2 : _ ≤ _ := h1; exfalso; omega) | (intros; exfalso; (try dsimp only at *); omega) | (intro h1; exfalso; have h4 := h1.2; (try dsimp only at *); omega) | (intro x h1 h2; exact h2.1))
          replace hL4 := hL4.chg k_3 (by first | (intro x h1 h2; exact h2) | (intro x h1 h2; have h3 : _ = _ := h2; subst h3; assumption) | (intro x h1 h2; have h3 : _ = _ := h2; exfalso; omega) | (intro b h1 h2 h3; have h4 : _ = _ := h3; (try dsimp only at h2); exfalso; omega) | (intro h1; have h2 : _ = _ := h1; exfalso; omega) | (intro h1; have h2 : _ ≤ _ := h1; exfalso; omega) | (intros; exfalso; (try dsimp only at *); omega) | (intro h1; exfalso; have h4 := h1.2; (try dsimp only at *); omega) | (intro x h1 h2; exact h2.1))
          replace hF4 := hF4.chg k_3 (by first | (intro x h1 h2; exact h2) | (intro x h1 h2; have h3 : _ = _ := h2; subst h3; assumption) | (intro x h1 h2; have h3 : _ = _ := h2; exfalso; omega) | (intro b h1 h2 h3; have h4 : _ = _ := h3; (try dsimp only at h2); exfalso; omega) | (intro h1; have h2 : _ = _ := h1; exfalso; omega) | (intro h1; have h2 : _ ≤ _ := h1; exfalso; omega) | (intros; exfalso; (try dsimp only at *); omega) | (intro h1; exfalso; have h4 := h1.2; (try dsimp only at *); omega) | (intro x h1 h2; exact h2.1))
          replace h1 := h1.chg k_3 (by first | (intro x h1 h2; exact h2) | (intro x h1 h2; have h3 : _ = _ := h2; subst h3; assumption) | (intro x h1 h2; have h3 : _ = _ := h2; exfalso; omega) | (intro b h1 h2 h3; have h4 : _ = _ := h3; (try dsimp only at h2); exfalso; omega) | (intro h1; have h2 : _ = _ := h1; exfalso; omega) | (intro h1; have h2 : _ ≤ _ := h1; exfalso; omega) | (intros; exfalso; (try dsimp only at *); omega) | (intro h1; exfalso; have h4 := h1.2; (try dsimp only at *); omega) | (intro x h1 h2; exact h2.1))
          replace hw := hw.chg k_3 (by first | (intro x h1 h2; exact h2) | (intro x h1 h2; have h3 : _ = _ := h2; subst h3; assumption) | (intro x h1 h2; have h3 : _ = _ := h2; exfalso; omega) | (intro b h1 h2 h3; have h4 : _ = _ := h3; (try dsimp only at h2); exfalso; omega) | (intro h1; have h2 : _ = _ := h1; exfalso; omega) | (intro h1; have h2 : _ ≤ _ := h1; exfalso; omega) | (intros; exfalso; (try dsimp only at *); omega) | (intro h1; exfalso; have h4 := h1.2; (try dsimp only at *); omega) | (intro x h1 h2; exact h2.1))
          replace hFd := nr_3
          refine WL.nil (WX.then_normal (WC.region (WL.move rfl rfl (WL.sub64 rfl rfl (by first | omega | (constructor <;> omega)) rfl (WL.assign rfl rfl (WL.nil (WX.block_normal (?_))))))))
          refine WX.then_normal (WC.region (WL.move rfl rfl (WL.add64 rfl rfl (by first | omega | (constructor <;> omega)) rfl (WL.assign rfl rfl (WL.nil (?_))))))
          first
            | (have hset : ∀ q : PtV, q.a ≠ p.a → 0 ≤ q.a → (fd2.set p.a.toNat true)[q.a.toNat]? = fd2[q.a.toNat]? := fun q h1 h2 => List.getElem?_set_ne (by omega)
               exact WX.loop_next (j + 1, kd - 1, fd2.set p.a.toNat true) ⟨rfl, rfl, rfl, rfl, rfl, rfl, rfl, rfl, rfl, trivial⟩ ⟨⟨by show j + 1 ≤ _; omega, by show kd - 1 = _ - ((j + 1 : Nat) : Int); omega⟩, ⟨by show (fd2.set _ _).length = i; rw [List.length_set]; exact hfl, fun q hq => by
                 show (fd2.set p.a.toNat true)[q.a.toNat]? = _
                 rw [hset q (hfx q hq p (List.mem_of_getElem? hp)) (hOI4.born q hq).2.1]
                 exact hfp q hq, fun m q hm hq => by
                 have hm : j + 1 ≤ m := hm
                 show (fd2.set p.a.toNat true)[q.a.toNat]? = _
                 rw [hset q (fun e => nodup_ne hfn hp hq (by omega) e.symm) (hfa q (List.mem_of_getElem? hq)).1]
                 exact hff m q (by omega) hq⟩, hb5, hb16, hL4, hF4, hFd, h1, hw⟩ (by show fr.length - (j + 1) < fr.length - j; omega))
            | (have hjf : j = fr.length := by omega
               have hkd2 : kd = ((allP l4.abs).length : Int) := by omega
               subst hkd2
               exact WX.loop_next (u + 1, l4, fd2) ⟨rfl, rfl, rfl, rfl, rfl, rfl, trivial⟩ ⟨by show u + 1 + l4.snaps.length ≤ 30; omega, hOI4, by show (allP l4.abs).length ≤ 30; omega, ⟨hfl, hfp⟩, hb5, hL4, hFd, h1, hw⟩ (by show l4.snaps.length < l2.snaps.length; omega))
            | (have hbt : b2 = true := hc84
               have hab : l2.abs = l1.abs := by
                 rcases hcs with ⟨h3, _⟩ | ⟨_, h3⟩
                 ·
                   rw [hbt] at h3; cases h3
                 ·
                   exact h3
               have hl2 : l2.snaps.length = l1.snaps.length := abs_len hab
               have hOI2 : OI l2.abs (i + 1) := by rw [hab]; exact hOI1.up
               have hah2 : l2.abs.ahead l2.snaps.length = l1.abs.ahead l1.snaps.length := by rw [hab, hl2]
               have hal2 : (allP l2.abs).length = (allP l1.abs).length := by rw [hab]
               rw [show ((allP l1.abs).length : Int) + 1 - 1 = ((allP l2.abs).length : Int) from by omega]
               first
                 | exact WX.loop_next (i + 1, l2, t + 1 + 1) ⟨rfl, rfl, rfl, rfl, rfl, rfl, rfl, trivial⟩ ⟨⟨by show i + 1 ≤ _; omega, by show i + 1 ≤ _; omega⟩, ⟨by show l2.abs.ahead l2.snaps.length ≤ t + 1 + 1; omega, by show 0 ≤ t + 1 + 1; omega, by show t + 1 + 1 ≤ 2 * ((i + 1 : Nat) : Int); omega⟩, hOI2, ⟨by show (allP l2.abs).length ≤ i + 1; omega, by show l2.snaps.length ≤ i + 1; omega⟩, hb51, hL2, h0, h1, hw⟩ (by show l0.length - (i + 1) < l0.length - i; omega)
                 | exact WX.loop_next (i + 1, l2, t + 1) ⟨rfl, rfl, rfl, rfl, rfl, rfl, rfl, trivial⟩ ⟨⟨by show i + 1 ≤ _; omega, by show i + 1 ≤ _; omega⟩, ⟨by show l2.abs.ahead l2.snaps.length ≤ t + 1; omega, by show 0 ≤ t + 1; omega, by show t + 1 ≤ 2 * ((i + 1 : Nat) : Int); omega⟩, hOI2, ⟨by show (allP l2.abs).length ≤ i + 1; omega, by show l2.snaps.length ≤ i + 1; omega⟩, hb51, hL2, h0, h1, hw⟩ (by show l0.length - (i + 1) < l0.length - i; omega))
            | (have hbt : b2 = false := hc84
               obtain ⟨hOI2, hal2, hl2, hah2⟩ : OI l2.abs (i + 1) ∧ (allP l2.abs).length = (allP l1.abs).length + 1 ∧ l2.snaps.length = l1.snaps.length ∧ l2.abs.ahead l2.snaps.length = l1.abs.ahead l1.snaps.length := by
                 rcases hcs with ⟨_, h3⟩ | ⟨h3, _⟩
                 ·
                   exact h3
                 ·
                   rw [hbt] at h3; cases h3
               rw [show ((allP l1.abs).length : Int) + 1 = ((allP l2.abs).length : Int) from by omega]
               first
                 | exact WX.loop_next (i + 1, l2, t + 1 + 1) ⟨rfl, rfl, rfl, rfl, rfl, rfl, rfl, trivial⟩ ⟨⟨by show i + 1 ≤ _; omega, by show i + 1 ≤ _; omega⟩, ⟨by show l2.abs.ahead l2.snaps.length ≤ t + 1 + 1; omega, by show 0 ≤ t + 1 + 1; omega, by show t + 1 + 1 ≤ 2 * ((i + 1 : Nat) : Int); omega⟩, hOI2, ⟨by show (allP l2.abs).length ≤ i + 1; omega, by show l2.snaps.length ≤ i + 1; omega⟩, hb51, hL2, h0, h1, hw⟩ (by show l0.length - (i + 1) < l0.length - i; omega)
                 | exact WX.loop_next (i + 1, l2, t + 1) ⟨rfl, rfl, rfl, rfl, rfl, rfl, rfl, trivial⟩ ⟨⟨by show i + 1 ≤ _; omega, by show i + 1 ≤ _; omega⟩, ⟨by show l2.abs.ahead l2.snaps.length ≤ t + 1; omega, by show 0 ≤ t + 1; omega, by show t + 1 ≤ 2 * ((i + 1 : Nat) : Int); omega⟩, hOI2, ⟨by show (allP l2.abs).length ≤ i + 1; omega, by show l2.snaps.length ≤ i + 1; omega⟩, hb51, hL2, h0, h1, hw⟩ (by show l0.length - (i + 1) < l0.length - i; omega))
            | exact WX.loop_next (i + 1, l1, t + 1 + 1) ⟨rfl, rfl, rfl, rfl, rfl, rfl, rfl, trivial⟩ ⟨⟨by show i + 1 ≤ _; omega, by show i + 1 ≤ _; omega⟩, ⟨by show l1.abs.ahead l1.snaps.length ≤ t + 1 + 1; omega, by show 0 ≤ t + 1 + 1; omega, by show t + 1 + 1 ≤ 2 * ((i + 1 : Nat) : Int); omega⟩, hOI1.up, ⟨by show (allP l1.abs).length ≤ i + 1; omega, by show l1.snaps.length ≤ i + 1; omega⟩, hb51, hL1, h0, h1, hw⟩ (by show l0.length - (i + 1) < l0.length - i; omega)
            | exact WX.loop_next (i + 1, l1, t + 1) ⟨rfl, rfl, rfl, rfl, rfl, rfl, rfl, trivial⟩ ⟨⟨by show i + 1 ≤ _; omega, by show i + 1 ≤ _; omega⟩, ⟨by show l1.abs.ahead l1.snaps.length ≤ t + 1; omega, by show 0 ≤ t + 1; omega, by show t + 1 ≤ 2 * ((i + 1 : Nat) : Int); omega⟩, hOI1.up, ⟨by show (allP l1.abs).length ≤ i + 1; omega, by show l1.snaps.length ≤ i + 1; omega⟩, hb51, hL1, h0, h1, hw⟩ (by show l0.length - (i + 1) < l0.length - i; omega)
        ·
          refine WL.nil (WX.then_normal (WC.cond_false rfl (WC.exit (WX.then_exit (WX.then_exit (WX.block_here (WX.then_normal (?_))))))))
          refine WC.region (WL.loadsB Try.isAgg33 Try.sizeOf33 hb16 rfl (by first | (simp; done) | (simp; omega) | rfl) rfl (?_))
          refine WL.stores Try.sizeOf33 hb5 rfl rfl (by first | (simp; done) | (simp; omega) | rfl) (by first | exact Enc.one _ _ | (intro u hu; obtain ⟨x, _, rfl⟩ := List.mem_map.1 hu; rfl) | (simp [Value.oneCell']; done) | (simp [Value.oneCell', Value.cells]; done)) (by first | (simp; done) | (simp; omega) | (simp [Value.cells]; done) | (simp [Value.cells]; omega) | exact Nat.le_of_ble_eq_true rfl) rfl ?_
          intro w_3 hs_3 hn_3 k_3
          have zs_k_3 := k_3.size
          replace hb16 := hb16.chg k_3 (by first | (intro x h1 h2; exact h2) | (intro x h1 h2; have h3 : _ = _ := h2; subst h3; assumption) | (intro x h1 h2; have h3 : _ = _ := h2; exfalso; omega) | (intro b h1 h2 h3; have h4 : _ = _ := h3; (try dsimp only at h2); exfalso; omega) | (intro h1; have h2 : _ = _ := h1; exfalso; omega) | (intro h1; have h2 : _ ≤ _ := h1; exfalso; omega) | (intros; exfalso; (try dsimp only at *); omega) | (intro h1; exfalso; have h4 := h1.2; (try dsimp only at *); omega) | (intro x h1 h2; exact h2.1))
          replace hL4 := hL4.chg k_3 (by first | (intro x h1 h2; exact h2) | (intro x h1 h2; have h3 : _ = _ := h2; subst h3; assumption) | (intro x h1 h2; have h3 : _ = _ := h2; exfalso; omega) | (intro b h1 h2 h3; have h4 : _ = _ := h3; (try dsimp only at h2); exfalso; omega) | (intro h1; have h2 : _ = _ := h1; exfalso; omega) | (intro h1; have h2 : _ ≤ _ := h1; exfalso; omega) | (intros; exfalso; (try dsimp only at *); omega) | (intro h1; exfalso; have h4 := h1.2; (try dsimp only at *); omega) | (intro x h1 h2; exact h2.1))
          replace hF4 := hF4.chg k_3 (by first | (intro x h1 h2; exact h2) | (intro x h1 h2; have h3 : _ = _ := h2; subst h3; assumption) | (intro x h1 h2; have h3 : _ = _ := h2; exfalso; omega) | (intro b h1 h2 h3; have h4 : _ = _ := h3; (try dsimp only at h2); exfalso; omega) | (intro h1; have h2 : _ = _ := h1; exfalso; omega) | (intro h1; have h2 : _ ≤ _ := h1; exfalso; omega) | (intros; exfalso; (try dsimp only at *); omega) | (intro h1; exfalso; have h4 := h1.2; (try dsimp only at *); omega) | (intro x h1 h2; exact h2.1))
          replace hFd := hFd.chg k_3 (by first | (intro x h1 h2; exact h2) | (intro x h1 h2; have h3 : _ = _ := h2; subst h3; assumption) | (intro x h1 h2; have h3 : _ = _ := h2; exfalso; omega) | (intro b h1 h2 h3; have h4 : _ = _ := h3; (try dsimp only at h2); exfalso; omega) | (intro h1; have h2 : _ = _ := h1; exfalso; omega) | (intro h1; have h2 : _ ≤ _ := h1; exfalso; omega) | (intros; exfalso; (try dsimp only at *); omega) | (intro h1; exfalso; have h4 := h1.2; (try dsimp only at *); omega) | (intro x h1 h2; exact h2.1))
          replace h1 := h1.chg k_3 (by first | (intro x h1 h2; exact h2) | (intro x h1 h2; have h3 : _ = _ := h2; subst h3; assumption) | (intro x h1 h2; have h3 : _ = _ := h2; exfalso; omega) | (intro b h1 h2 h3; have h4 : _ = _ := h3; (try dsimp only at h2); exfalso; omega) | (intro h1; have h2 : _ = _ := h1; exfalso; omega) | (intro h1; have h2 : _ ≤ _ := h1; exfalso; omega) | (intros; exfalso; (try dsimp only at *); omega) | (intro h1; exfalso; have h4 := h1.2; (try dsimp only at *); omega) | (intro x h1 h2; exact h2.1))
          replace hw := hw.chg k_3 (by first | (intro x h1 h2; exact h2) | (intro x h1 h2; have h3 : _ = _ := h2; subst h3; assumption) | (intro x h1 h2; have h3 : _ = _ := h2; exfalso; omega) | (intro b h1 h2 h3; have h4 : _ = _ := h3; (try dsimp only at h2); exfalso; omega) | (intro h1; have h2 : _ = _ := h1; exfalso; omega) | (intro h1; have h2 : _ ≤ _ := h1; exfalso; omega) | (intros; exfalso; (try dsimp only at *); omega) | (intro h1; exfalso; have h4 := h1.2; (try dsimp only at *); omega) | (intro x h1 h2; exact h2.1))
          replace hb5 := hn_3
          refine WL.nil (WX.block_normal (WX.then_normal (WC.region (WL.move rfl rfl (WL.add64 rfl rfl (by first | omega | (constructor <;> omega)) rfl (WL.assign rfl rfl (WL.nil (?_))))))))
          first
            | (have hset : ∀ q : PtV, q.a ≠ p.a → 0 ≤ q.a → (fd2.set p.a.toNat true)[q.a.toNat]? = fd2[q.a.toNat]? := fun q h1 h2 => List.getElem?_set_ne (by omega)
               exact WX.loop_next (j + 1, kd - 1, fd2.set p.a.toNat true) ⟨rfl, rfl, rfl, rfl, rfl, rfl, rfl, rfl, rfl, trivial⟩ ⟨⟨by show j + 1 ≤ _; omega, by show kd - 1 = _ - ((j + 1 : Nat) : Int); omega⟩, ⟨by show (fd2.set _ _).length = i; rw [List.length_set]; exact hfl, fun q hq => by
                 show (fd2.set p.a.toNat true)[q.a.toNat]? = _
                 rw [hset q (hfx q hq p (List.mem_of_getElem? hp)) (hOI4.born q hq).2.1]
                 exact hfp q hq, fun m q hm hq => by
                 have hm : j + 1 ≤ m := hm
                 show (fd2.set p.a.toNat true)[q.a.toNat]? = _
                 rw [hset q (fun e => nodup_ne hfn hp hq (by omega) e.symm) (hfa q (List.mem_of_getElem? hq)).1]
                 exact hff m q (by omega) hq⟩, hb5, hb16, hL4, hF4, hFd, h1, hw⟩ (by show fr.length - (j + 1) < fr.length - j; omega))
            | (have hjf : j = fr.length := by omega
               have hkd2 : kd = ((allP l4.abs).length : Int) := by omega
               subst hkd2
               exact WX.loop_next (u + 1, l4, fd2) ⟨rfl, rfl, rfl, rfl, rfl, rfl, trivial⟩ ⟨by show u + 1 + l4.snaps.length ≤ 30; omega, hOI4, by show (allP l4.abs).length ≤ 30; omega, ⟨hfl, hfp⟩, hb5, hL4, hFd, h1, hw⟩ (by show l4.snaps.length < l2.snaps.length; omega))
            | (have hbt : b2 = true := hc84
               have hab : l2.abs = l1.abs := by
                 rcases hcs with ⟨h3, _⟩ | ⟨_, h3⟩
                 ·
                   rw [hbt] at h3; cases h3
                 ·
                   exact h3
               have hl2 : l2.snaps.length = l1.snaps.length := abs_len hab
               have hOI2 : OI l2.abs (i + 1) := by rw [hab]; exact hOI1.up
               have hah2 : l2.abs.ahead l2.snaps.length = l1.abs.ahead l1.snaps.length := by rw [hab, hl2]
               have hal2 : (allP l2.abs).length = (allP l1.abs).length := by rw [hab]
               rw [show ((allP l1.abs).length : Int) + 1 - 1 = ((allP l2.abs).length : Int) from by omega]
               first
                 | exact WX.loop_next (i + 1, l2, t + 1 + 1) ⟨rfl, rfl, rfl, rfl, rfl, rfl, rfl, trivial⟩ ⟨⟨by show i + 1 ≤ _; omega, by show i + 1 ≤ _; omega⟩, ⟨by show l2.abs.ahead l2.snaps.length ≤ t + 1 + 1; omega, by show 0 ≤ t + 1 + 1; omega, by show t + 1 + 1 ≤ 2 * ((i + 1 : Nat) : Int); omega⟩, hOI2, ⟨by show (allP l2.abs).length ≤ i + 1; omega, by show l2.snaps.length ≤ i + 1; omega⟩, hb51, hL2, h0, h1, hw⟩ (by show l0.length - (i + 1) < l0.length - i; omega)
                 | exact WX.loop_next (i + 1, l2, t + 1) ⟨rfl, rfl, rfl, rfl, rfl, rfl, rfl, trivial⟩ ⟨⟨by show i + 1 ≤ _; omega, by show i + 1 ≤ _; omega⟩, ⟨by show l2.abs.ahead l2.snaps.length ≤ t + 1; omega, by show 0 ≤ t + 1; omega, by show t + 1 ≤ 2 * ((i + 1 : Nat) : Int); omega⟩, hOI2, ⟨by show (allP l2.abs).length ≤ i + 1; omega, by show l2.snaps.length ≤ i + 1; omega⟩, hb51, hL2, h0, h1, hw⟩ (by show l0.length - (i + 1) < l0.length - i; omega))
            | (have hbt : b2 = false := hc84
               obtain ⟨hOI2, hal2, hl2, hah2⟩ : OI l2.abs (i + 1) ∧ (allP l2.abs).length = (allP l1.abs).length + 1 ∧ l2.snaps.length = l1.snaps.length ∧ l2.abs.ahead l2.snaps.length = l1.abs.ahead l1.snaps.length := by
                 rcases hcs with ⟨_, h3⟩ | ⟨h3, _⟩
                 ·
                   exact h3
                 ·
                   rw [hbt] at h3; cases h3
               rw [show ((allP l1.abs).length : Int) + 1 = ((allP l2.abs).length : Int) from by omega]
               first
                 | exact WX.loop_next (i + 1, l2, t + 1 + 1) ⟨rfl, rfl, rfl, rfl, rfl, rfl, rfl, trivial⟩ ⟨⟨by show i + 1 ≤ _; omega, by show i + 1 ≤ _; omega⟩, ⟨by show l2.abs.ahead l2.snaps.length ≤ t + 1 + 1; omega, by show 0 ≤ t + 1 + 1; omega, by show t + 1 + 1 ≤ 2 * ((i + 1 : Nat) : Int); omega⟩, hOI2, ⟨by show (allP l2.abs).length ≤ i + 1; omega, by show l2.snaps.length ≤ i + 1; omega⟩, hb51, hL2, h0, h1, hw⟩ (by show l0.length - (i + 1) < l0.length - i; omega)
                 | exact WX.loop_next (i + 1, l2, t + 1) ⟨rfl, rfl, rfl, rfl, rfl, rfl, rfl, trivial⟩ ⟨⟨by show i + 1 ≤ _; omega, by show i + 1 ≤ _; omega⟩, ⟨by show l2.abs.ahead l2.snaps.length ≤ t + 1; omega, by show 0 ≤ t + 1; omega, by show t + 1 ≤ 2 * ((i + 1 : Nat) : Int); omega⟩, hOI2, ⟨by show (allP l2.abs).length ≤ i + 1; omega, by show l2.snaps.length ≤ i + 1; omega⟩, hb51, hL2, h0, h1, hw⟩ (by show l0.length - (i + 1) < l0.length - i; omega))
            | exact WX.loop_next (i + 1, l1, t + 1 + 1) ⟨rfl, rfl, rfl, rfl, rfl, rfl, rfl, trivial⟩ ⟨⟨by show i + 1 ≤ _; omega, by show i + 1 ≤ _; omega⟩, ⟨by show l1.abs.ahead l1.snaps.length ≤ t + 1 + 1; omega, by show 0 ≤ t + 1 + 1; omega, by show t + 1 + 1 ≤ 2 * ((i + 1 : Nat) : Int); omega⟩, hOI1.up, ⟨by show (allP l1.abs).length ≤ i + 1; omega, by show l1.snaps.length ≤ i + 1; omega⟩, hb51, hL1, h0, h1, hw⟩ (by show l0.length - (i + 1) < l0.length - i; omega)
            | exact WX.loop_next (i + 1, l1, t + 1) ⟨rfl, rfl, rfl, rfl, rfl, rfl, rfl, trivial⟩ ⟨⟨by show i + 1 ≤ _; omega, by show i + 1 ≤ _; omega⟩, ⟨by show l1.abs.ahead l1.snaps.length ≤ t + 1; omega, by show 0 ≤ t + 1; omega, by show t + 1 ≤ 2 * ((i + 1 : Nat) : Int); omega⟩, hOI1.up, ⟨by show (allP l1.abs).length ≤ i + 1; omega, by show l1.snaps.length ≤ i + 1; omega⟩, hb51, hL1, h0, h1, hw⟩ (by show l0.length - (i + 1) < l0.length - i; omega)
    ·
      refine WL.nil (WX.then_normal (WC.cond_false rfl (WC.exit (WX.then_exit (WX.then_exit (WX.block_here (WX.then_normal (?_))))))))
      refine WC.seq (WC.region (WL.move rfl rfl (?_)))
      have hs0 : l2.abs.snaps = [] := List.eq_nil_of_length_eq_zero (by rw [show l2.abs.snaps.length = l2.snaps.length from sabs_len _]; omega)
      have he := hOI.end_ hs0
      have hd0 : l2.dead.length = 0 := by
        have h2 : l2.abs.dead = [] := (List.append_eq_nil_iff.1 he).2
        rw [show l2.dead = [] from h2]
        rfl
      have he0 : (allP l2.abs).length = 0 := by rw [he]; rfl
      refine WL.eqlT rfl rfl rfl (by first | rfl | omega | decide) ?_
      refine WL.move rfl rfl (WL.want rfl rfl rfl (WL.fieldAddr (fld_33_2) rfl rfl (WL.want rfl rfl rfl (WL.loadB Try.isAgg23 hb5 rfl rfl rfl (WL.want rfl rfl rfl (WL.len Try.underlying23 rfl rfl (WL.want rfl rfl rfl (?_))))))))
      refine WL.eqlT rfl rfl rfl (by first | rfl | omega | decide) ?_
      refine WL.pickT rfl rfl rfl (WL.assign rfl rfl (WL.nil (WX.then_normal (WC.ret (?_)))))
      refine WX.ret1 (.inl rfl) Try.results7 rfl ?_
      exact ⟨_, rfl, rfl, hw⟩
end Go.Proofs.Ytgmkoieemmglpaa
