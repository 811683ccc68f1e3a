import Derived.Test.YtfkaioldfmapjaaHm
import Derived.Test.YtfkaioldfmapjaaSa
namespace Go.Proofs.Ytfkaioldfmapjaa
open Go.RowKit Go.HL

def V8.cells (v : V8) : List Value := [v32 v.a, v32 v.b, v32 v.c, v32 v.d, v32 v.e, v32 v.f, v32 v.g, v32 v.h]
theorem begin_calls (w : World) : Calls Try.prog 37 [].toArray w (Ret fun v w' => v = .agg (st0.cells).toArray ∧ Chg Nob w w') := by
  have hw := Chg.refl Nob w
  refine Calls.of_WC Try.func37 rfl Try.ntmps37 (by simp) ?_
  refine WC.seq (WC.region (?_))
  refine WL.alloc Try.zeroValue65 rfl ?_
  intro g_1 w_1 hge_1 hlt_1 hb_1 k_1
  have zs_k_1 := k_1.size
  replace hw := hw.pure k_1
  refine WL.nil (WX.then_normal (WC.seq (WC.region (WL.bld rfl (bld_65_0_1_2_3_4_5_6_7 _ _ _ _ _ _ _ _) rfl (?_)))))
  refine WL.stores Try.sizeOf65 hb_1 rfl rfl (by first | (simp; done) | (simp; omega) | rfl) (by first | exact Enc.one _ _ | (intro u hu; obtain ⟨x, _, rfl⟩ := List.mem_map.1 hu; rfl) | (simp [Value.oneCell']; done) | (simp [Value.oneCell', Value.cells]; done)) (by first | (simp; done) | (simp; omega) | (simp [Value.cells]; done) | (simp [Value.cells]; omega) | exact Nat.le_of_ble_eq_true rfl) rfl ?_
  intro w_2 hs_2 hn_2 k_2
  have zs_k_2 := k_2.size
  replace hw := hw.chg k_2 (by first | (intro x h1 h2; exact h2) | (intro x h1 h2; have h3 : _ = _ := h2; exfalso; omega) | (intro b h1 h2 h3; have h4 : _ = _ := h3; (try dsimp only at h2); exfalso; omega) | (intro h1; have h2 : _ = _ := h1; exfalso; omega) | (intros; exfalso; (try dsimp only at *); omega) | (intro b h1 h2 h3; exfalso; have h4 := h3.2; (try dsimp only at *); omega) | (intro h1; exfalso; have h4 := h1.2; (try dsimp only at *); omega) | (intro x h1 h2; exfalso; have h4 := h2.2; (try dsimp only at *); omega) | (intro x h1 h2; exact h2.1))
  replace hb_1 := hn_2
  refine WL.nil (WX.then_normal (WC.ret (?_)))
  refine WX.ret1c (.inl rfl) Try.results37 Try.isAgg65 Try.sizeOf65 hb_1 rfl (by first | (simp; done) | (simp; omega) | rfl) ?_
  exact ⟨_, rfl, rfl, hw⟩
theorem rounds_calls (w : World) : Calls Try.prog 38 [].toArray w (Ret fun v w' => v = .agg (K256.map v32).toArray ∧ Chg Nob w w') := by
  have hw := Chg.refl Nob w
  refine Calls.of_WC Try.func38 rfl Try.ntmps38 (by simp) ?_
  refine WC.seq (WC.region (?_))
  refine WL.alloc Try.zeroValue67 rfl ?_
  intro g_1 w_1 hge_1 hlt_1 hb_1 k_1
  have zs_k_1 := k_1.size
  replace hw := hw.pure k_1
  refine WL.nil (WX.then_normal (WC.seq (WC.region (?_))))
  refine WL.buildArr (K256.map v32) Try.underlying67 Try.sizeOf63 Try.zeroValue67 rfl rfl rfl (by intro v hv; obtain ⟨x, _, rfl⟩ := List.mem_map.1 hv; rfl) rfl ?_
  refine WL.stores Try.sizeOf67 hb_1 rfl rfl (by first | (simp; done) | (simp; omega) | rfl) (by first | exact Enc.one _ _ | (intro u hu; obtain ⟨x, _, rfl⟩ := List.mem_map.1 hu; rfl) | (simp [Value.oneCell']; done) | (simp [Value.oneCell', Value.cells]; done)) (by first | (simp; done) | (simp; omega) | (simp [Value.cells]; done) | (simp [Value.cells]; omega) | exact Nat.le_of_ble_eq_true rfl) rfl ?_
  intro w_2 hs_2 hn_2 k_2
  have zs_k_2 := k_2.size
  replace hw := hw.chg k_2 (by first | (intro x h1 h2; exact h2) | (intro x h1 h2; have h3 : _ = _ := h2; exfalso; omega) | (intro b h1 h2 h3; have h4 : _ = _ := h3; (try dsimp only at h2); exfalso; omega) | (intro h1; have h2 : _ = _ := h1; exfalso; omega) | (intros; exfalso; (try dsimp only at *); omega) | (intro b h1 h2 h3; exfalso; have h4 := h3.2; (try dsimp only at *); omega) | (intro h1; exfalso; have h4 := h1.2; (try dsimp only at *); omega) | (intro x h1 h2; exfalso; have h4 := h2.2; (try dsimp only at *); omega) | (intro x h1 h2; exact h2.1))
  replace hb_1 := hn_2
  refine WL.nil (WX.then_normal (WC.ret (?_)))
  refine WX.ret1c (.inl rfl) Try.results38 Try.isAgg67 Try.sizeOf67 hb_1 rfl (by first | (simp; done) | (simp; omega) | rfl) ?_
  exact ⟨_, rfl, rfl, hw⟩
end Go.Proofs.Ytfkaioldfmapjaa
