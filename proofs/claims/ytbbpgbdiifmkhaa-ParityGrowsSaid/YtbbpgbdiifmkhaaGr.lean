import Derived.Test.YtbbpgbdiifmkhaaGq
namespace Go.Proofs.Ytbbpgbdiifmkhaa
open Go.RowKit Go.HL

theorem xss_app (a b : List Rw) : xss (a ++ b) = xss a ++ xss b := by rw [xss, List.map_append]; rfl
theorem xss_set (rs : List Rw) (i : Nat) (r : Rw) : xss (rs.set i r) = (xss rs).set i r.xs := by rw [xss, List.map_set]; rfl
theorem AR.here {L N n1 : Nat} {w : World} {T U : TypeId} {ao : Option Addr} {c : Nat} {gs : List Nat} {rs : List Rw} (_ : AR L N n1 w T U ao c gs rs) (M : Nat → Prop) : Chg M w w := Chg.refl _ _
theorem parityTells_bad {w : World} {aa : Option Addr} {ca : Nat} {ra : List Rw} (ha : RS (· < w.heap.size) w aa ca ra) (la : bounded ra) (hno : ¬ okM ra) (at' : Int) (x : UInt8) :
    Calls Try.prog 6 [.slice aa ra.length ca, vi at', v8 x].toArray w (Ret fun v w' => v = .bool true ∧ Chg Nob w w') := by
  have hw := Chg.refl Nob w
  refine Calls.of_WC Try.func6 rfl Try.ntmps6 (by simp) ?_
  refine WC.seq (WC.region (WL.assign rfl rfl (WL.nil (WX.then_normal (WC.seq (WC.seq (WC.region (?_))))))))
  refine WL.call eg_7 rfl rfl (known3_calls _) ?_
  rintro v w0 ⟨rfl, k0⟩
  have zs_k0 := k0.size
  replace ha := ha.pure k0
  replace hw := hw.pure k0
  refine WL.not rfl rfl (WL.move rfl rfl (WL.want rfl rfl rfl (WL.move rfl rfl (WL.want rfl rfl rfl (?_)))))
  refine WL.call eg_8 rfl rfl (small_calls ha la) ?_
  rintro v w0 ⟨⟨s1, rfl⟩, k0⟩
  have zs_k0 := k0.size
  replace ha := ha.pure k0
  replace hw := hw.pure k0
  rcases s1 with _ | _
  ·
    refine WL.want rfl rfl rfl (WL.not rfl rfl (WL.pickF rfl rfl rfl (WL.nil (WX.then_normal (WC.cond_true rfl (WC.seq (WC.region (?_))))))))
    refine WL.call eg_7 rfl rfl (known3_calls _) ?_
    rintro v w0 ⟨rfl, k0⟩
    have zs_k0 := k0.size
    replace ha := ha.pure k0
    replace hw := hw.pure k0
    refine WL.assign rfl rfl (WL.nil (WX.then_normal (WC.ret (WX.then_ret (?_)))))
    refine WX.ret1 (.inl rfl) Try.results6 rfl ?_
    exact ⟨_, rfl, rfl, hw⟩
  ·
    refine WL.want rfl rfl rfl (WL.not rfl rfl (WL.pickF rfl rfl rfl (WL.nil (WX.then_normal (WC.cond_false rfl (WC.skip (WX.then_normal (?_))))))))
    refine WC.seq (WC.region (WL.move rfl rfl (?_)))
    refine WL.call eg_9 rfl rfl (make_bad ha la.1 hno) ?_
    rintro v w0 ⟨rfl, k0⟩
    have zs_k0 := k0.size
    replace ha := ha.pure k0
    replace hw := hw.pure k0
    refine WL.move rfl rfl (WL.extract rfl rfl rfl (WL.extract rfl rfl rfl (WL.assign rfl rfl (WL.assign rfl rfl (WL.nil (WX.then_normal (WC.seq (?_))))))))
    refine WC.seq (WC.region (WL.move rfl rfl (?_)))
    refine WL.neq rfl rfl rfl ?_
    rw [show decide ((1 : Int) ≠ 0) = true from rfl]
    refine WL.nil (WX.then_normal (WC.cond_true rfl (WC.seq (WC.region (WL.assign rfl rfl (WL.nil (WX.then_normal (?_))))))))
    refine WC.ret (WX.then_ret (?_))
    refine WX.ret1 (.inl rfl) Try.results6 rfl ?_
    exact ⟨_, rfl, rfl, hw⟩
set_option maxHeartbeats 8000000 in
theorem parityTells_good {w : World} {aa : Option Addr} {ca : Nat} {ra : List Rw} (ha : RS (· < w.heap.size) w aa ca ra) (la : bounded ra) (n : Nat) (h13 : ra.length ≤ 13) (hn : lenC (xss ra) = (n : Int)) (at' : Int) (x : UInt8) :
    Calls Try.prog 6 [.slice aa ra.length ca, vi at', v8 x].toArray w (Ret fun v w' => v = .bool true ∧ Chg Nob w w') := by
  have hw := Chg.refl Nob w
  have hpos := okM_pos (rs := ra) ⟨h13, by omega⟩
  obtain ⟨m0, hm, hn1, hn2, hne, hall⟩ := lenC_some (cols := xss ra) (by omega)
  have hmn : m0 = n := by omega
  subst hmn
  have hxl := xss_len ra
  refine Calls.of_WC Try.func6 rfl Try.ntmps6 (by simp) ?_
  refine WC.seq (WC.region (WL.assign rfl rfl (WL.nil (WX.then_normal (WC.seq (WC.seq (WC.region (?_))))))))
  refine WL.call eg_7 rfl rfl (known3_calls _) ?_
  rintro v w0 ⟨rfl, k0⟩
  have zs_k0 := k0.size
  replace ha := ha.pure k0
  replace hw := hw.pure k0
  refine WL.not rfl rfl (WL.move rfl rfl (WL.want rfl rfl rfl (WL.move rfl rfl (WL.want rfl rfl rfl (?_)))))
  refine WL.call eg_8 rfl rfl (small_calls ha la) ?_
  rintro v w0 ⟨⟨s1, rfl⟩, k0⟩
  have zs_k0 := k0.size
  replace ha := ha.pure k0
  replace hw := hw.pure k0
  rcases s1 with _ | _
  ·
    refine WL.want rfl rfl rfl (WL.not rfl rfl (WL.pickF rfl rfl rfl (WL.nil (WX.then_normal (WC.cond_true rfl (WC.seq (WC.region (?_))))))))
    refine WL.call eg_7 rfl rfl (known3_calls _) ?_
    rintro v w0 ⟨rfl, k0⟩
    have zs_k0 := k0.size
    replace ha := ha.pure k0
    replace hw := hw.pure k0
    refine WL.assign rfl rfl (WL.nil (WX.then_normal (WC.ret (WX.then_ret (?_)))))
    refine WX.ret1 (.inl rfl) Try.results6 rfl ?_
    exact ⟨_, rfl, rfl, hw⟩
  ·
    refine WL.want rfl rfl rfl (WL.not rfl rfl (WL.pickF rfl rfl rfl (WL.nil (WX.then_normal (WC.cond_false rfl (WC.skip (WX.then_normal (?_))))))))
    refine WC.seq (WC.region (WL.move rfl rfl (?_)))
    have zw0 := hw.size
    refine WL.call eg_9 rfl rfl (make_good ha h13 hn) ?_
    rintro v w0 ⟨⟨go, gs, rfl, hO, hg3, hgo⟩, k0⟩
    have zs_k0 := k0.size
    replace ha := ha.pure k0
    replace hw := hw.pure k0
    have hgow : w.heap.size ≤ go := by omega
    refine WL.move rfl rfl (WL.extract rfl rfl rfl (WL.extract rfl rfl rfl (WL.assign rfl rfl (WL.assign rfl rfl (WL.nil (WX.then_normal (WC.seq (?_))))))))
    refine WC.seq (WC.region (WL.move rfl rfl (?_)))
    refine WL.neq rfl rfl rfl ?_
    rw [show decide ((0 : Int) ≠ 0) = false from rfl]
    refine WL.nil (WX.then_normal (WC.cond_false rfl (WC.skip (WX.then_normal (WC.seq (WC.region (WL.assign rfl rfl (?_))))))))
    refine WL.nil (WX.then_normal (WC.seq (WC.seq (WC.region (WL.assign rfl rfl (WL.nil (WX.then_normal (?_))))))))
    refine WC.block (?_)
    obtain ⟨N, hON, hgoN, hwN, hNe⟩ : ∃ N : Nat, (∀ (i g : Nat), gs[i]? = some g → g < N) ∧ go < N ∧ w.heap.size ≤ N ∧ N = w0.heap.size := ⟨w0.heap.size, fun i g h => hO.lt h, hO.lto, hw.size, rfl⟩
    refine WC.loop (σ := List Rw × List Nat × Option Addr × Nat × Nat) (fun q => [(0, .slice aa ra.length ca), (1, vi at'), (2, v8 x), (7, .slice (some ⟨go, 0, none⟩) 3 3), (9, .slice q.2.2.1 q.1.length q.2.2.2.1), (10, vi q.1.length)])
      (fun q w' => q.1.length ≤ ra.length ∧ N ≤ q.2.2.2.2 ∧ q.2.2.2.2 ≤ w'.heap.size ∧ AR N N q.2.2.2.2 w' 28 5 q.2.2.1 q.2.2.2.1 q.2.1 q.1 ∧ xss q.1 = (xss ra).take q.1.length ∧ RS (· < w.heap.size) w' aa ca ra ∧ OR w' 28 5 go 3 gs m0 (three (xss ra) m0 ra.length) [] ∧ Chg Nob w w') (fun q => ra.length - q.1.length)
      ([], [], none, 0, N) ⟨rfl, rfl, rfl, rfl, rfl, rfl, trivial⟩ ⟨Nat.zero_le _, Nat.le_refl _, Nat.le_of_eq hNe, AR.nil _ _ _ _ _ _, rfl, ha, hO, hw⟩ ?_
    clear ha hO hw
    rintro ⟨cs, hs, ac, cc, n1⟩ w2 ⟨hcl, hN1, hn1', hC, hxc, ha, hO, hw⟩
    dsimp only at hcl hN1 hn1' hC hxc ha hO hw ⊢
    have hk := Chg.refl (fun b => N ≤ b) w2
    refine WC.seq (WC.seq (WC.region (WL.move rfl rfl (WL.move rfl rfl (WL.len Try.underlying22 rfl rfl (?_))))))
    refine WL.lss? rfl rfl rfl (fun h33 => ?_) (fun h33 => ?_)
    ·
      refine WL.nil (WX.then_normal (WC.cond_true rfl (WC.skip (WX.then_normal (WC.seq (WC.block (WC.region (?_))))))))
      refine WL.move rfl rfl (?_)
      refine WL.build (e := eb) [] Try.underlying28 Try.sizeOf5 Try.zeroValue5 rfl rfl rfl (by first | (simp [Value.cells]; done) | (simp [Value.cells] <;> rfl) | (simp [Value.cells, eb, ei, es, ebool, e32, e64]; done)) (by decide) rfl ?_
      intro a_h0 w_h0 h0 l_h0 z_h0 k_h0
      have zs_k_h0 := k_h0.size
      replace hC := hC.pure k_h0
      replace ha := ha.pure k_h0
      replace hw := hw.pure k_h0
      replace hk := hk.pure k_h0
      refine WL.move rfl rfl (WL.move rfl rfl (?_))
      obtain ⟨y, hy⟩ : ∃ y, ra[cs.length]? = some y := ⟨_, List.getElem?_eq_getElem (by omega)⟩
      have hyl := hall _ (xss_mem hy)
      refine WL.indexT Try.underlying22 Try.sizeOf28 ha.outer rfl rfl ⟨hy, rfl⟩ rfl ?_
      intro b_1 o_1 hc_1
      refine WL.load Try.isAgg28 rfl (hc_1 0 _ rfl) rfl (?_)
      have hyr := ha.at hy
      refine WL.append (e := eb) info_5 rfl Try.underlying28 rfl rfl h0 (hyr.src Try.underlying28) (by (try simp only [List.length_append, List.length_cons, List.length_nil] at *); omega) (by intro b hb; first | (apply hS; omega) | ((try dsimp only); omega)) rfl ?_
      intro a_h1 c_h1 w_h1 h1 g_h1 n_h1
      have z_h1 := g_h1.chg.size
      have zs_g_h1_chg := g_h1.chg.size
      replace hC := hC.chg g_h1.chg (by first | (intro x h1 h2; exact h2) | (intro x h1 h2; have h3 : _ = _ := h2; exfalso; omega) | (intro b h1 h2 h3; have h4 : _ = _ := h3; (try dsimp only at h2); exfalso; omega) | (intro h1; have h2 : _ = _ := h1; exfalso; omega) | (intros; exfalso; (try dsimp only at *); omega) | (intro b h1 h2 h3; exfalso; have h4 := h3.2; (try dsimp only at *); omega) | (intro h1; exfalso; have h4 := h1.2; (try dsimp only at *); omega) | (intro x h1 h2; exfalso; have h4 := h2.2; (try dsimp only at *); omega) | (intro x h1 h2; exact h2.1))
      replace ha := ha.chg g_h1.chg (by first | (intro x h1 h2; exact h2) | (intro x h1 h2; have h3 : _ = _ := h2; exfalso; omega) | (intro b h1 h2 h3; have h4 : _ = _ := h3; (try dsimp only at h2); exfalso; omega) | (intro h1; have h2 : _ = _ := h1; exfalso; omega) | (intros; exfalso; (try dsimp only at *); omega) | (intro b h1 h2 h3; exfalso; have h4 := h3.2; (try dsimp only at *); omega) | (intro h1; exfalso; have h4 := h1.2; (try dsimp only at *); omega) | (intro x h1 h2; exfalso; have h4 := h2.2; (try dsimp only at *); omega) | (intro x h1 h2; exact h2.1))
      replace hw := hw.chg g_h1.chg (by first | (intro x h1 h2; exact h2) | (intro x h1 h2; have h3 : _ = _ := h2; exfalso; omega) | (intro b h1 h2 h3; have h4 : _ = _ := h3; (try dsimp only at h2); exfalso; omega) | (intro h1; have h2 : _ = _ := h1; exfalso; omega) | (intros; exfalso; (try dsimp only at *); omega) | (intro b h1 h2 h3; exfalso; have h4 := h3.2; (try dsimp only at *); omega) | (intro h1; exfalso; have h4 := h1.2; (try dsimp only at *); omega) | (intro x h1 h2; exfalso; have h4 := h2.2; (try dsimp only at *); omega) | (intro x h1 h2; exact h2.1))
      rw [List.nil_append] at h1 ⊢
      replace hk := hk.chg g_h1.chg (fun b _ h => by have h2 := h.2; omega)
      obtain ⟨gr, rfl⟩ := h1.place0 (j := 0) (by omega)
      have hgr0 := h1.at_ _ rfl
      dsimp only at hgr0
      refine WL.build (e := erow) [⟨some ⟨gr, 0, none⟩, c_h1, y.xs⟩] Try.underlying22 Try.sizeOf28 Try.zeroValue28 rfl rfl rfl (by first | (simp [Value.cells]; done) | (simp [Value.cells] <;> rfl) | (simp [Value.cells, eb, ei, es, ebool, e32, e64]; done)) (by decide) rfl ?_
      intro a_hz w_hz hz l_hz z_hz k_hz
      have zs_k_hz := k_hz.size
      replace hC := hC.pure k_hz
      replace ha := ha.pure k_hz
      replace hw := hw.pure k_hz
      replace h1 := h1.pure k_hz
      replace hk := hk.pure k_hz
      have hg : Row (fun b => b = gr) _ 5 eb (some ⟨gr, 0, none⟩) c_h1 y.xs := ⟨fun a ea => by injection ea with ea; subst ea; rfl, h1.own⟩
      refine WL.append (e := erow) info_28 rfl Try.underlying22 rfl rfl (hC.outer.mono (fun b h => h.1)) (hz.rsl.src Try.underlying22) (by constructor <;> (simp only [List.length_cons, List.length_nil]; omega)) (fun b hb => by have := hw.size; omega) rfl ?_
      intro ao2 c2 wz hC2 gC nC
      have hCn := hC.snoc (g := gr) (cr := c_h1) (xs := y.xs) (by omega) (by omega) hg (by omega) hC2 gC
      have zgc := gC.chg.size
      have zs_gC_chg := gC.chg.size
      replace ha := ha.chg gC.chg (by first | (intro x h1 h2; exact h2) | (intro x h1 h2; have h3 : _ = _ := h2; exfalso; omega) | (intro b h1 h2 h3; have h4 : _ = _ := h3; (try dsimp only at h2); exfalso; omega) | (intro h1; have h2 : _ = _ := h1; exfalso; omega) | (intros; exfalso; (try dsimp only at *); omega) | (intro b h1 h2 h3; exfalso; have h4 := h3.2; (try dsimp only at *); omega) | (intro h1; exfalso; have h4 := h1.2; (try dsimp only at *); omega) | (intro x h1 h2; exfalso; have h4 := h2.2; (try dsimp only at *); omega) | (intro x h1 h2; exact h2.1))
      replace hw := hw.chg gC.chg (by first | (intro x h1 h2; exact h2) | (intro x h1 h2; have h3 : _ = _ := h2; exfalso; omega) | (intro b h1 h2 h3; have h4 : _ = _ := h3; (try dsimp only at h2); exfalso; omega) | (intro h1; have h2 : _ = _ := h1; exfalso; omega) | (intros; exfalso; (try dsimp only at *); omega) | (intro b h1 h2 h3; exfalso; have h4 := h3.2; (try dsimp only at *); omega) | (intro h1; exfalso; have h4 := h1.2; (try dsimp only at *); omega) | (intro x h1 h2; exfalso; have h4 := h2.2; (try dsimp only at *); omega) | (intro x h1 h2; exact h2.1))
      replace hk := hk.chg gC.chg (fun b _ h => h.2)
      have hO2 := hO.chg hk ⟨by omega, fun i g hg => by have := hON i g hg; omega⟩
      refine WL.assign rfl rfl (WL.nil (WX.block_normal (WX.then_normal (WC.region (WL.move rfl rfl (WL.add64 rfl rfl (by first | omega | (constructor <;> omega)) rfl (WL.assign rfl rfl (?_))))))))
      refine WL.nil (?_)
      refine WX.loop_next (cs ++ [⟨some ⟨gr, 0, none⟩, c_h1, y.xs⟩], hs ++ [gr], ao2, c2, wz.heap.size) ⟨rfl, rfl, rfl, rfl, rfl, ?_, trivial⟩ ⟨?_, by dsimp only; omega, Nat.le_refl _, hCn, ?_, ha, hO2, hw⟩ ?_
      ·
        dsimp only
        rw [List.length_append]
        rfl
      ·
        dsimp only
        rw [List.length_append]
        show cs.length + 1 ≤ ra.length
        omega
      ·
        dsimp only
        rw [xss_app, hxc, List.length_append]
        show List.take cs.length (xss ra) ++ [y.xs] = List.take (cs.length + 1) (xss ra)
        rw [List.take_add_one, xss_at hy]
        rfl
      ·
        dsimp only
        rw [List.length_append]
        show ra.length - (cs.length + 1) < ra.length - cs.length
        omega
    ·
      refine WL.nil (WX.then_normal (WC.cond_false rfl (WC.exit (WX.then_exit (WX.then_exit (WX.block_here (WX.then_normal (?_))))))))
      refine WC.seq (WC.region (WL.move rfl rfl (WL.move rfl rfl (?_))))
      have hcsl : cs.length = ra.length := by omega
      have hxcs : xss cs = xss ra := by rw [hxc, List.take_of_length_le (by omega)]
      have hol : gs.length = (three (xss ra) m0 ra.length).length := hO.len
      have hOr := hO.rs (S := fun _ => True) trivial (fun _ _ _ => trivial)
      have hgall : ∀ (i g : Nat), (hs ++ gs)[i]? = some g → w.heap.size ≤ g := by
        intro i g h
        rcases get_app h with ⟨_, h1⟩ | ⟨_, h1⟩
        ·
          have := hC.low i g h1
          omega
        ·
          have := hO.above _ g h1
          omega
      rw [show Value.slice (some ⟨go, 0, none⟩) 3 3 = Value.slice (some ⟨go, 0, none⟩) (orows gs m0 (three (xss ra) m0 ra.length)).length 3 from by rw [orows_len hol, hg3]]
      refine WL.append (e := erow) info_28 rfl Try.underlying22 rfl rfl (hC.outer.mono (fun b h => h.1)) (hOr.outer.src Try.underlying22) (by rw [orows_len hol]; omega) (fun b hb => by have := hw.size; omega) rfl ?_
      intro ao2 c2 wz hA2 gA nA
      have hAR := hC.app hO (Nat.le_refl _) hON hN1 hn1' hA2 gA
      have zga := gA.chg.size
      obtain ⟨A, hA⟩ : ∃ A, A = cs ++ orows gs m0 (three (xss ra) m0 ra.length) := ⟨_, rfl⟩
      have hAx : xss A = xss ra ++ three (xss ra) m0 (xss ra).length := by rw [hA, xss_app, hxcs, xss_orows hol, hxl]
      have hAl : A.length = ra.length + 3 := by rw [← xss_len, hAx, List.length_append, hxl]; rfl
      rw [← hA] at hAR ⊢
      have zs_gA_chg := gA.chg.size
      replace ha := ha.chg gA.chg (by first | (intro x h1 h2; exact h2) | (intro x h1 h2; have h3 : _ = _ := h2; exfalso; omega) | (intro b h1 h2 h3; have h4 : _ = _ := h3; (try dsimp only at h2); exfalso; omega) | (intro h1; have h2 : _ = _ := h1; exfalso; omega) | (intros; exfalso; (try dsimp only at *); omega) | (intro b h1 h2 h3; exfalso; have h4 := h3.2; (try dsimp only at *); omega) | (intro h1; exfalso; have h4 := h1.2; (try dsimp only at *); omega) | (intro x h1 h2; exfalso; have h4 := h2.2; (try dsimp only at *); omega) | (intro x h1 h2; exact h2.1))
      replace hw := hw.chg gA.chg (by first | (intro x h1 h2; exact h2) | (intro x h1 h2; have h3 : _ = _ := h2; exfalso; omega) | (intro b h1 h2 h3; have h4 : _ = _ := h3; (try dsimp only at h2); exfalso; omega) | (intro h1; have h2 : _ = _ := h1; exfalso; omega) | (intros; exfalso; (try dsimp only at *); omega) | (intro b h1 h2 h3; exfalso; have h4 := h3.2; (try dsimp only at *); omega) | (intro h1; exfalso; have h4 := h1.2; (try dsimp only at *); omega) | (intro x h1 h2; exfalso; have h4 := h2.2; (try dsimp only at *); omega) | (intro x h1 h2; exact h2.1))
      clear hA2 gA nA hOr hO hC hk
      refine WL.assign rfl rfl (WL.nil (WX.then_normal (WC.seq (WC.region (WL.move rfl rfl (WL.c_i64_u64 Try.underlying3 Try.underlying32 rfl rfl (WL.move rfl rfl (?_))))))))
      refine WL.len Try.underlying22 rfl rfl (WL.c_i64_u64 Try.underlying3 Try.underlying32 rfl rfl (?_))
      refine WL.num rfl rfl (n_rem64 _ _ _ _ (by rw [B64_nat (by omega)]; omega)) rfl ?_
      have hi0 : (B64 at' % B64 (A.length : Int)).toNat < A.length := by rw [UInt64.toNat_mod, B64_nat (by omega)]; exact Nat.mod_lt _ (by omega)
      obtain ⟨i, hi⟩ : ∃ i, i = (B64 at' % B64 (A.length : Int)).toNat := ⟨_, rfl⟩
      refine WL.c_u64_i64s Try.underlying32 Try.underlying3 rfl ⟨hi.symm, by omega⟩ rfl ?_
      refine WL.assign rfl rfl (WL.nil (WX.then_normal (WC.seq (?_))))
      obtain ⟨⟨rao, rcap, rxs⟩, hr⟩ : ∃ r, A[i]? = some r := ⟨_, List.getElem?_eq_getElem (by omega)⟩
      obtain ⟨g, hgi⟩ : ∃ g, (hs ++ gs)[i]? = some g := ⟨_, List.getElem?_eq_getElem (by rw [hAR.len]; omega)⟩
      obtain ⟨hrao, hrow, hgn, hgne⟩ := hAR.inner i g _ hgi hr
      replace hrow : Row (fun b => b = g) _ 5 eb (some ⟨g, 0, none⟩) rcap rxs := hrow
      have hrao' : rao = some ⟨g, 0, none⟩ := hrao
      subst hrao'
      have hgw := hgall i g hgi
      have hal3 : ∀ d ∈ xss A, d.length = m0 := by
        rw [hAx]
        intro d hd
        rcases List.mem_append.1 hd with h1 | h1
        ·
          exact hall d h1
        ·
          have hp : ∀ q, (prow (wtq q) (xss ra) m0 (xss ra).length).length = m0 := fun q => prow_len hall (Nat.le_refl _)
          simp only [three, List.mem_cons, List.not_mem_nil, or_false] at h1
          rcases h1 with rfl | rfl | rfl <;> exact hp _
      have hrl : rxs.length = m0 := hal3 _ (xss_mem hr)
      obtain ⟨bA, oA, rfl⟩ := hAR.outer.rsl.place hr
      have hAo : RSl (fun b => b ≠ g) _ erow (some ⟨bA, oA, none⟩) c2 A := ⟨fun _ a ea e => hgne ⟨a, ea, e.symm⟩, hAR.outer.rsl.cap, hAR.outer.rsl.sl⟩
      refine WC.draw (Nob) [0, 1, 2, 3, 4, 5, 6, 7, 8, 9, 10, 11, 12, 13, 14] [] mixed rfl rfl (fun wd_1 kd_1 zd_1 => ?_)
      have zs_kd_1 := kd_1.size
      replace ha := ha.pure kd_1
      replace hw := hw.pure kd_1
      replace hAR := hAR.pure kd_1
      replace hrow := hrow.pure kd_1
      replace hAo := hAo.pure kd_1
      apply DQ.step (E' := [(1, _)])
      case ho => rfl
      case hs => exact ⟨rfl, trivial⟩
      case hk => rfl
      case h1 =>
        intro wq_2 kq_2
        refine WL.move rfl rfl (?_)
        refine WL.nil ?_
        exact WX.one ⟨rfl, by first | exact Chg.refl _ _ | assumption⟩
      apply DQ.step (E' := [(55, _)])
      case ho => rfl
      case hs => exact ⟨rfl, trivial⟩
      case hk => rfl
      case h1 =>
        intro wq_3 kq_3
        have zs_kq_3 := kq_3.size
        replace ha := ha.pure kq_3
        replace hw := hw.pure kq_3
        replace hAR := hAR.pure kq_3
        replace hrow := hrow.pure kq_3
        replace hAo := hAo.pure kq_3
        refine WL.c_i64_u64 Try.underlying3 Try.underlying32 rfl rfl (?_)
        refine WL.nil ?_
        exact WX.one ⟨rfl, by first | exact Chg.refl _ _ | assumption⟩
      apply DQ.step (E' := [(9, _)])
      case ho => rfl
      case hs => exact ⟨rfl, trivial⟩
      case hk => rfl
      case h1 =>
        intro wq_4 kq_4
        refine WL.move rfl rfl (?_)
        refine WL.nil ?_
        exact WX.one ⟨rfl, by first | exact Chg.refl _ _ | assumption⟩
      apply DQ.step (E' := [(57, _)])
      case ho => rfl
      case hs => exact ⟨rfl, trivial⟩
      case hk => rfl
      case h1 =>
        intro wq_5 kq_5
        have zs_kq_5 := kq_5.size
        replace ha := ha.pure kq_5
        replace hw := hw.pure kq_5
        replace hAR := hAR.pure kq_5
        replace hrow := hrow.pure kq_5
        replace hAo := hAo.pure kq_5
        refine WL.len Try.underlying22 rfl rfl (?_)
        refine WL.nil ?_
        exact WX.one ⟨rfl, by first | exact Chg.refl _ _ | assumption⟩
      apply DQ.step (E' := [(58, _)])
      case ho => rfl
      case hs => exact ⟨rfl, trivial⟩
      case hk => rfl
      case h1 =>
        intro wq_6 kq_6
        have zs_kq_6 := kq_6.size
        replace ha := ha.pure kq_6
        replace hw := hw.pure kq_6
        replace hAR := hAR.pure kq_6
        replace hrow := hrow.pure kq_6
        replace hAo := hAo.pure kq_6
        refine WL.c_i64_u64 Try.underlying3 Try.underlying32 rfl rfl (?_)
        refine WL.nil ?_
        exact WX.one ⟨rfl, by first | exact Chg.refl _ _ | assumption⟩
      apply DQ.step (E' := [(56, _), (59, _)])
      case ho => rfl
      case hs => exact ⟨rfl, rfl, trivial⟩
      case hk => rfl
      case h1 =>
        intro wq_7 kq_7
        refine WL.num rfl rfl (n_quo64 _ _ _ _ (by rw [B64_nat (by omega)]; omega)) rfl ?_
        refine WL.nil ?_
        exact WX.one ⟨rfl, by first | exact Chg.refl _ _ | assumption⟩
      apply DQ.step (E' := [(9, _)])
      case ho => rfl
      case hs => exact ⟨rfl, trivial⟩
      case hk => rfl
      case h1 =>
        intro wq_8 kq_8
        refine WL.move rfl rfl (?_)
        refine WL.nil ?_
        exact WX.one ⟨rfl, by first | exact Chg.refl _ _ | assumption⟩
      apply DQ.step (E' := [(11, _)])
      case ho => rfl
      case hs => exact ⟨rfl, trivial⟩
      case hk => rfl
      case h1 =>
        intro wq_9 kq_9
        refine WL.move rfl rfl (?_)
        refine WL.nil ?_
        exact WX.one ⟨rfl, by first | exact Chg.refl _ _ | assumption⟩
      apply DQ.step (E' := [(61, _), (62, _)])
      case ho => rfl
      case hs => exact ⟨rfl, rfl, trivial⟩
      case hk => rfl
      case h1 =>
        intro wq_10 kq_10
        have zs_kq_10 := kq_10.size
        replace ha := ha.pure kq_10
        replace hw := hw.pure kq_10
        replace hAR := hAR.pure kq_10
        replace hrow := hrow.pure kq_10
        replace hAo := hAo.pure kq_10
        refine WL.indexC hAo Try.underlying22 Try.sizeOf28 rfl rfl ⟨hr, rfl⟩ rfl ?_
        refine WL.nil ?_
        exact WX.one ⟨rfl, by first | exact Chg.refl _ _ | assumption⟩
      apply DQ.step (E' := [(63, _)])
      case ho => rfl
      case hs => exact ⟨rfl, trivial⟩
      case hk => rfl
      case h1 =>
        intro wq_11 kq_11
        have zs_kq_11 := kq_11.size
        replace ha := ha.pure kq_11
        replace hw := hw.pure kq_11
        replace hAR := hAR.pure kq_11
        replace hrow := hrow.pure kq_11
        replace hAo := hAo.pure kq_11
        refine WL.load Try.isAgg28 rfl ((hAo.cellsAt hr) 0 _ rfl) rfl (?_)
        refine WL.nil ?_
        exact WX.one ⟨rfl, by first | exact Chg.refl _ _ | assumption⟩
      apply DQ.step (E' := [(64, _)])
      case ho => rfl
      case hs => exact ⟨rfl, trivial⟩
      case hk => rfl
      case h1 =>
        intro wq_12 kq_12
        have zs_kq_12 := kq_12.size
        replace ha := ha.pure kq_12
        replace hw := hw.pure kq_12
        replace hAR := hAR.pure kq_12
        replace hrow := hrow.pure kq_12
        replace hAo := hAo.pure kq_12
        refine WL.len Try.underlying28 rfl rfl (?_)
        refine WL.nil ?_
        exact WX.one ⟨rfl, by first | exact Chg.refl _ _ | assumption⟩
      apply DQ.step (E' := [(65, _)])
      case ho => rfl
      case hs => exact ⟨rfl, trivial⟩
      case hk => rfl
      case h1 =>
        intro wq_13 kq_13
        have zs_kq_13 := kq_13.size
        replace ha := ha.pure kq_13
        replace hw := hw.pure kq_13
        replace hAR := hAR.pure kq_13
        replace hrow := hrow.pure kq_13
        replace hAo := hAo.pure kq_13
        refine WL.c_i64_u64 Try.underlying3 Try.underlying32 rfl rfl (?_)
        refine WL.nil ?_
        exact WX.one ⟨rfl, by first | exact Chg.refl _ _ | assumption⟩
      apply DQ.step (E' := [(60, _), (66, _)])
      case ho => rfl
      case hs => exact ⟨rfl, rfl, trivial⟩
      case hk => rfl
      case h1 =>
        intro wq_14 kq_14
        refine WL.num rfl rfl (n_rem64 _ _ _ _ (by show (B64 (rxs.length : Int)).toNat ≠ 0; rw [B64_nat (by omega)]; omega)) rfl ?_
        refine WL.nil ?_
        exact WX.one ⟨rfl, by first | exact Chg.refl _ _ | assumption⟩
      apply DQ.step (E' := [(67, _)])
      case ho => rfl
      case hs => exact ⟨rfl, trivial⟩
      case hk => rfl
      case h1 =>
        intro wq_15 kq_15
        have zs_kq_15 := kq_15.size
        replace ha := ha.pure kq_15
        replace hw := hw.pure kq_15
        replace hAR := hAR.pure kq_15
        replace hrow := hrow.pure kq_15
        replace hAo := hAo.pure kq_15
        have hk0 : (B64 at' / B64 (A.length : Int) % B64 (rxs.length : Int)).toNat < m0 := by rw [UInt64.toNat_mod, B64_nat (by omega), hrl]; exact Nat.mod_lt _ (by omega)
        refine WL.c_u64_i64s (n := (B64 at' / B64 (A.length : Int) % B64 (rxs.length : Int)).toNat) Try.underlying32 Try.underlying3 rfl ⟨rfl, by omega⟩ rfl ?_
        refine WL.nil ?_
        exact WX.one ⟨rfl, by first | exact Chg.refl _ _ | assumption⟩
      apply DQ.step (E' := [(68, _)])
      case ho => rfl
      case hs => exact ⟨rfl, trivial⟩
      case hk => rfl
      case h1 =>
        intro wq_16 kq_16
        refine WL.assign rfl rfl (?_)
        refine WL.nil ?_
        exact WX.one ⟨rfl, by first | exact Chg.refl _ _ | assumption⟩
      refine DQ.done (fun _ => ?_)
      refine DL.done (fun we_17 ke_17 => ?_)
      have zs_ke_17 := ke_17.size
      replace ha := ha.pure ke_17
      replace hw := hw.pure ke_17
      replace hAR := hAR.pure ke_17
      replace hrow := hrow.pure ke_17
      replace hAo := hAo.pure ke_17
      refine WX.then_normal (WC.seq (?_))
      have hk0 : (B64 at' / B64 (A.length : Int) % B64 (rxs.length : Int)).toNat < m0 := by rw [UInt64.toNat_mod, B64_nat (by omega), hrl]; exact Nat.mod_lt _ (by omega)
      obtain ⟨k, hk⟩ : ∃ k, k = (B64 at' / B64 (A.length : Int) % B64 (rxs.length : Int)).toNat := ⟨_, rfl⟩
      rw [← hk] at hk0 ⊢
      obtain ⟨z, hz⟩ : ∃ z, rxs[k]? = some z := ⟨_, List.getElem?_eq_getElem (by omega)⟩
      have hk2 := AR.here hAR (fun b => b = g)
      refine WC.draw (fun b => b = g) [0, 1, 2, 3, 4, 5, 6, 7, 8, 9, 10, 12, 14] [11, 13, 15] mixed rfl rfl (fun wd_18 kd_18 zd_18 => ?_)
      have zs_kd_18 := kd_18.size
      replace ha := ha.pure kd_18
      replace hw := hw.pure kd_18
      replace hrow := hrow.pure kd_18
      replace hAo := hAo.pure kd_18
      replace hk2 := hk2.pure kd_18
      apply DQ.step (E' := [(9, _)])
      case ho => rfl
      case hs => exact ⟨rfl, trivial⟩
      case hk => rfl
      case h1 =>
        intro wq_20 kq_20
        refine WL.move rfl rfl (?_)
        refine WL.nil ?_
        exact WX.one ⟨rfl, by first | exact Chg.refl _ _ | assumption⟩
      apply DQ.step (E' := [(11, _)])
      case ho => rfl
      case hs => exact ⟨rfl, trivial⟩
      case hk => rfl
      case h1 =>
        intro wq_21 kq_21
        refine WL.move rfl rfl (?_)
        refine WL.nil ?_
        exact WX.one ⟨rfl, by first | exact Chg.refl _ _ | assumption⟩
      apply DQ.step (E' := [(69, _), (70, _)])
      case ho => rfl
      case hs => exact ⟨rfl, rfl, trivial⟩
      case hk => rfl
      case h1 =>
        intro wq_22 kq_22
        have zs_kq_22 := kq_22.size
        replace ha := ha.chg kq_22 (by first | (intro x h1 h2; exact h2) | (intro x h1 h2; have h3 : _ = _ := h2; exfalso; omega) | (intro b h1 h2 h3; have h4 : _ = _ := h3; (try dsimp only at h2); exfalso; omega) | (intro h1; have h2 : _ = _ := h1; exfalso; omega) | (intros; exfalso; (try dsimp only at *); omega) | (intro b h1 h2 h3; exfalso; have h4 := h3.2; (try dsimp only at *); omega) | (intro h1; exfalso; have h4 := h1.2; (try dsimp only at *); omega) | (intro x h1 h2; exfalso; have h4 := h2.2; (try dsimp only at *); omega) | (intro x h1 h2; exact h2.1))
        replace hw := hw.chg kq_22 (by first | (intro x h1 h2; exact h2) | (intro x h1 h2; have h3 : _ = _ := h2; exfalso; omega) | (intro b h1 h2 h3; have h4 : _ = _ := h3; (try dsimp only at h2); exfalso; omega) | (intro h1; have h2 : _ = _ := h1; exfalso; omega) | (intros; exfalso; (try dsimp only at *); omega) | (intro b h1 h2 h3; exfalso; have h4 := h3.2; (try dsimp only at *); omega) | (intro h1; exfalso; have h4 := h1.2; (try dsimp only at *); omega) | (intro x h1 h2; exfalso; have h4 := h2.2; (try dsimp only at *); omega) | (intro x h1 h2; exact h2.1))
        replace hAo := hAo.chg kq_22 (by first | (intro x h1 h2; exact h2) | (intro x h1 h2; have h3 : _ = _ := h2; exfalso; omega) | (intro b h1 h2 h3; have h4 : _ = _ := h3; (try dsimp only at h2); exfalso; omega) | (intro h1; have h2 : _ = _ := h1; exfalso; omega) | (intros; exfalso; (try dsimp only at *); omega) | (intro b h1 h2 h3; exfalso; have h4 := h3.2; (try dsimp only at *); omega) | (intro h1; exfalso; have h4 := h1.2; (try dsimp only at *); omega) | (intro x h1 h2; exfalso; have h4 := h2.2; (try dsimp only at *); omega) | (intro x h1 h2; exact h2.1))
        refine WL.indexC hAo Try.underlying22 Try.sizeOf28 rfl rfl ⟨hr, rfl⟩ rfl ?_
        refine WL.nil ?_
        exact WX.one ⟨rfl, by first | exact Chg.refl _ _ | assumption⟩
      apply DQ.step (E' := [(71, _)])
      case ho => rfl
      case hs => exact ⟨rfl, trivial⟩
      case hk => rfl
      case h1 =>
        intro wq_23 kq_23
        have zs_kq_23 := kq_23.size
        replace ha := ha.chg kq_23 (by first | (intro x h1 h2; exact h2) | (intro x h1 h2; have h3 : _ = _ := h2; exfalso; omega) | (intro b h1 h2 h3; have h4 : _ = _ := h3; (try dsimp only at h2); exfalso; omega) | (intro h1; have h2 : _ = _ := h1; exfalso; omega) | (intros; exfalso; (try dsimp only at *); omega) | (intro b h1 h2 h3; exfalso; have h4 := h3.2; (try dsimp only at *); omega) | (intro h1; exfalso; have h4 := h1.2; (try dsimp only at *); omega) | (intro x h1 h2; exfalso; have h4 := h2.2; (try dsimp only at *); omega) | (intro x h1 h2; exact h2.1))
        replace hw := hw.chg kq_23 (by first | (intro x h1 h2; exact h2) | (intro x h1 h2; have h3 : _ = _ := h2; exfalso; omega) | (intro b h1 h2 h3; have h4 : _ = _ := h3; (try dsimp only at h2); exfalso; omega) | (intro h1; have h2 : _ = _ := h1; exfalso; omega) | (intros; exfalso; (try dsimp only at *); omega) | (intro b h1 h2 h3; exfalso; have h4 := h3.2; (try dsimp only at *); omega) | (intro h1; exfalso; have h4 := h1.2; (try dsimp only at *); omega) | (intro x h1 h2; exfalso; have h4 := h2.2; (try dsimp only at *); omega) | (intro x h1 h2; exact h2.1))
        replace hAo := hAo.chg kq_23 (by first | (intro x h1 h2; exact h2) | (intro x h1 h2; have h3 : _ = _ := h2; exfalso; omega) | (intro b h1 h2 h3; have h4 : _ = _ := h3; (try dsimp only at h2); exfalso; omega) | (intro h1; have h2 : _ = _ := h1; exfalso; omega) | (intros; exfalso; (try dsimp only at *); omega) | (intro b h1 h2 h3; exfalso; have h4 := h3.2; (try dsimp only at *); omega) | (intro h1; exfalso; have h4 := h1.2; (try dsimp only at *); omega) | (intro x h1 h2; exfalso; have h4 := h2.2; (try dsimp only at *); omega) | (intro x h1 h2; exact h2.1))
        refine WL.load Try.isAgg28 rfl ((hAo.cellsAt hr) 0 _ rfl) rfl (?_)
        refine WL.nil ?_
        exact WX.one ⟨rfl, by first | exact Chg.refl _ _ | assumption⟩
      apply DQ.step (E' := [(12, _)])
      case ho => rfl
      case hs => exact ⟨rfl, trivial⟩
      case hk => rfl
      case h1 =>
        intro wq_24 kq_24
        refine WL.move rfl rfl (?_)
        refine WL.nil ?_
        exact WX.one ⟨rfl, by first | exact Chg.refl _ _ | assumption⟩
      apply DQ.step (E' := [(9, _)])
      case ho => rfl
      case hs => exact ⟨rfl, trivial⟩
      case hk => rfl
      case h1 =>
        intro wq_25 kq_25
        refine WL.move rfl rfl (?_)
        refine WL.nil ?_
        exact WX.one ⟨rfl, by first | exact Chg.refl _ _ | assumption⟩
      apply DQ.step (E' := [(11, _)])
      case ho => rfl
      case hs => exact ⟨rfl, trivial⟩
      case hk => rfl
      case h1 =>
        intro wq_26 kq_26
        refine WL.move rfl rfl (?_)
        refine WL.nil ?_
        exact WX.one ⟨rfl, by first | exact Chg.refl _ _ | assumption⟩
      apply DQ.step (E' := [(74, _), (75, _)])
      case ho => rfl
      case hs => exact ⟨rfl, rfl, trivial⟩
      case hk => rfl
      case h1 =>
        intro wq_27 kq_27
        have zs_kq_27 := kq_27.size
        replace ha := ha.chg kq_27 (by first | (intro x h1 h2; exact h2) | (intro x h1 h2; have h3 : _ = _ := h2; exfalso; omega) | (intro b h1 h2 h3; have h4 : _ = _ := h3; (try dsimp only at h2); exfalso; omega) | (intro h1; have h2 : _ = _ := h1; exfalso; omega) | (intros; exfalso; (try dsimp only at *); omega) | (intro b h1 h2 h3; exfalso; have h4 := h3.2; (try dsimp only at *); omega) | (intro h1; exfalso; have h4 := h1.2; (try dsimp only at *); omega) | (intro x h1 h2; exfalso; have h4 := h2.2; (try dsimp only at *); omega) | (intro x h1 h2; exact h2.1))
        replace hw := hw.chg kq_27 (by first | (intro x h1 h2; exact h2) | (intro x h1 h2; have h3 : _ = _ := h2; exfalso; omega) | (intro b h1 h2 h3; have h4 : _ = _ := h3; (try dsimp only at h2); exfalso; omega) | (intro h1; have h2 : _ = _ := h1; exfalso; omega) | (intros; exfalso; (try dsimp only at *); omega) | (intro b h1 h2 h3; exfalso; have h4 := h3.2; (try dsimp only at *); omega) | (intro h1; exfalso; have h4 := h1.2; (try dsimp only at *); omega) | (intro x h1 h2; exfalso; have h4 := h2.2; (try dsimp only at *); omega) | (intro x h1 h2; exact h2.1))
        replace hAo := hAo.chg kq_27 (by first | (intro x h1 h2; exact h2) | (intro x h1 h2; have h3 : _ = _ := h2; exfalso; omega) | (intro b h1 h2 h3; have h4 : _ = _ := h3; (try dsimp only at h2); exfalso; omega) | (intro h1; have h2 : _ = _ := h1; exfalso; omega) | (intros; exfalso; (try dsimp only at *); omega) | (intro b h1 h2 h3; exfalso; have h4 := h3.2; (try dsimp only at *); omega) | (intro h1; exfalso; have h4 := h1.2; (try dsimp only at *); omega) | (intro x h1 h2; exfalso; have h4 := h2.2; (try dsimp only at *); omega) | (intro x h1 h2; exact h2.1))
        refine WL.indexC hAo Try.underlying22 Try.sizeOf28 rfl rfl ⟨hr, rfl⟩ rfl ?_
        refine WL.nil ?_
        exact WX.one ⟨rfl, by first | exact Chg.refl _ _ | assumption⟩
      apply DQ.step (E' := [(76, _)])
      case ho => rfl
      case hs => exact ⟨rfl, trivial⟩
      case hk => rfl
      case h1 =>
        intro wq_28 kq_28
        have zs_kq_28 := kq_28.size
        replace ha := ha.chg kq_28 (by first | (intro x h1 h2; exact h2) | (intro x h1 h2; have h3 : _ = _ := h2; exfalso; omega) | (intro b h1 h2 h3; have h4 : _ = _ := h3; (try dsimp only at h2); exfalso; omega) | (intro h1; have h2 : _ = _ := h1; exfalso; omega) | (intros; exfalso; (try dsimp only at *); omega) | (intro b h1 h2 h3; exfalso; have h4 := h3.2; (try dsimp only at *); omega) | (intro h1; exfalso; have h4 := h1.2; (try dsimp only at *); omega) | (intro x h1 h2; exfalso; have h4 := h2.2; (try dsimp only at *); omega) | (intro x h1 h2; exact h2.1))
        replace hw := hw.chg kq_28 (by first | (intro x h1 h2; exact h2) | (intro x h1 h2; have h3 : _ = _ := h2; exfalso; omega) | (intro b h1 h2 h3; have h4 : _ = _ := h3; (try dsimp only at h2); exfalso; omega) | (intro h1; have h2 : _ = _ := h1; exfalso; omega) | (intros; exfalso; (try dsimp only at *); omega) | (intro b h1 h2 h3; exfalso; have h4 := h3.2; (try dsimp only at *); omega) | (intro h1; exfalso; have h4 := h1.2; (try dsimp only at *); omega) | (intro x h1 h2; exfalso; have h4 := h2.2; (try dsimp only at *); omega) | (intro x h1 h2; exact h2.1))
        replace hAo := hAo.chg kq_28 (by first | (intro x h1 h2; exact h2) | (intro x h1 h2; have h3 : _ = _ := h2; exfalso; omega) | (intro b h1 h2 h3; have h4 : _ = _ := h3; (try dsimp only at h2); exfalso; omega) | (intro h1; have h2 : _ = _ := h1; exfalso; omega) | (intros; exfalso; (try dsimp only at *); omega) | (intro b h1 h2 h3; exfalso; have h4 := h3.2; (try dsimp only at *); omega) | (intro h1; exfalso; have h4 := h1.2; (try dsimp only at *); omega) | (intro x h1 h2; exfalso; have h4 := h2.2; (try dsimp only at *); omega) | (intro x h1 h2; exact h2.1))
        refine WL.load Try.isAgg28 rfl ((hAo.cellsAt hr) 0 _ rfl) rfl (?_)
        refine WL.nil ?_
        exact WX.one ⟨rfl, by first | exact Chg.refl _ _ | assumption⟩
      apply DQ.step (E' := [(12, _)])
      case ho => rfl
      case hs => exact ⟨rfl, trivial⟩
      case hk => rfl
      case h1 =>
        intro wq_29 kq_29
        refine WL.move rfl rfl (?_)
        refine WL.nil ?_
        exact WX.one ⟨rfl, by first | exact Chg.refl _ _ | assumption⟩
      apply DQ.step (E' := [(77, _), (78, _)])
      case ho => rfl
      case hs => exact ⟨rfl, rfl, trivial⟩
      case hk => rfl
      case h1 =>
        intro wq_30 kq_30
        have zs_kq_30 := kq_30.size
        replace ha := ha.chg kq_30 (by first | (intro x h1 h2; exact h2) | (intro x h1 h2; have h3 : _ = _ := h2; exfalso; omega) | (intro b h1 h2 h3; have h4 : _ = _ := h3; (try dsimp only at h2); exfalso; omega) | (intro h1; have h2 : _ = _ := h1; exfalso; omega) | (intros; exfalso; (try dsimp only at *); omega) | (intro b h1 h2 h3; exfalso; have h4 := h3.2; (try dsimp only at *); omega) | (intro h1; exfalso; have h4 := h1.2; (try dsimp only at *); omega) | (intro x h1 h2; exfalso; have h4 := h2.2; (try dsimp only at *); omega) | (intro x h1 h2; exact h2.1))
        replace hw := hw.chg kq_30 (by first | (intro x h1 h2; exact h2) | (intro x h1 h2; have h3 : _ = _ := h2; exfalso; omega) | (intro b h1 h2 h3; have h4 : _ = _ := h3; (try dsimp only at h2); exfalso; omega) | (intro h1; have h2 : _ = _ := h1; exfalso; omega) | (intros; exfalso; (try dsimp only at *); omega) | (intro b h1 h2 h3; exfalso; have h4 := h3.2; (try dsimp only at *); omega) | (intro h1; exfalso; have h4 := h1.2; (try dsimp only at *); omega) | (intro x h1 h2; exfalso; have h4 := h2.2; (try dsimp only at *); omega) | (intro x h1 h2; exact h2.1))
        replace hAo := hAo.chg kq_30 (by first | (intro x h1 h2; exact h2) | (intro x h1 h2; have h3 : _ = _ := h2; exfalso; omega) | (intro b h1 h2 h3; have h4 : _ = _ := h3; (try dsimp only at h2); exfalso; omega) | (intro h1; have h2 : _ = _ := h1; exfalso; omega) | (intros; exfalso; (try dsimp only at *); omega) | (intro b h1 h2 h3; exfalso; have h4 := h3.2; (try dsimp only at *); omega) | (intro h1; exfalso; have h4 := h1.2; (try dsimp only at *); omega) | (intro x h1 h2; exfalso; have h4 := h2.2; (try dsimp only at *); omega) | (intro x h1 h2; exact h2.1))
        refine WL.index (sz := 1) (j := k) Try.underlying28 Try.sizeOf5 rfl rfl rfl (by show k < rxs.length; omega) rfl ?_
        refine WL.nil ?_
        exact WX.one ⟨rfl, by first | exact Chg.refl _ _ | assumption⟩
      apply DQ.step (E' := [(2, _)])
      case ho => rfl
      case hs => exact ⟨rfl, trivial⟩
      case hk => rfl
      case h1 =>
        intro wq_31 kq_31
        refine WL.move rfl rfl (?_)
        refine WL.nil ?_
        exact WX.one ⟨rfl, by first | exact Chg.refl _ _ | assumption⟩
      apply DQ.step (E' := [(72, _), (73, _)])
      case ho => rfl
      case hs => exact ⟨rfl, rfl, trivial⟩
      case hk => rfl
      case h1 =>
        intro wq_32 kq_32
        have zs_kq_32 := kq_32.size
        replace ha := ha.chg kq_32 (by first | (intro x h1 h2; exact h2) | (intro x h1 h2; have h3 : _ = _ := h2; exfalso; omega) | (intro b h1 h2 h3; have h4 : _ = _ := h3; (try dsimp only at h2); exfalso; omega) | (intro h1; have h2 : _ = _ := h1; exfalso; omega) | (intros; exfalso; (try dsimp only at *); omega) | (intro b h1 h2 h3; exfalso; have h4 := h3.2; (try dsimp only at *); omega) | (intro h1; exfalso; have h4 := h1.2; (try dsimp only at *); omega) | (intro x h1 h2; exfalso; have h4 := h2.2; (try dsimp only at *); omega) | (intro x h1 h2; exact h2.1))
        replace hw := hw.chg kq_32 (by first | (intro x h1 h2; exact h2) | (intro x h1 h2; have h3 : _ = _ := h2; exfalso; omega) | (intro b h1 h2 h3; have h4 : _ = _ := h3; (try dsimp only at h2); exfalso; omega) | (intro h1; have h2 : _ = _ := h1; exfalso; omega) | (intros; exfalso; (try dsimp only at *); omega) | (intro b h1 h2 h3; exfalso; have h4 := h3.2; (try dsimp only at *); omega) | (intro h1; exfalso; have h4 := h1.2; (try dsimp only at *); omega) | (intro x h1 h2; exfalso; have h4 := h2.2; (try dsimp only at *); omega) | (intro x h1 h2; exact h2.1))
        replace hAo := hAo.chg kq_32 (by first | (intro x h1 h2; exact h2) | (intro x h1 h2; have h3 : _ = _ := h2; exfalso; omega) | (intro b h1 h2 h3; have h4 : _ = _ := h3; (try dsimp only at h2); exfalso; omega) | (intro h1; have h2 : _ = _ := h1; exfalso; omega) | (intros; exfalso; (try dsimp only at *); omega) | (intro b h1 h2 h3; exfalso; have h4 := h3.2; (try dsimp only at *); omega) | (intro h1; exfalso; have h4 := h1.2; (try dsimp only at *); omega) | (intro x h1 h2; exfalso; have h4 := h2.2; (try dsimp only at *); omega) | (intro x h1 h2; exact h2.1))
        refine WL.index (sz := 1) (j := k) Try.underlying28 Try.sizeOf5 rfl rfl rfl (by show k < rxs.length; omega) rfl ?_
        refine WL.nil ?_
        exact WX.one ⟨rfl, by first | exact Chg.refl _ _ | assumption⟩
      refine DQ.done (fun hd_19 => ?_)
      refine DL.step [(79, _)] rfl ⟨rfl, trivial⟩ rfl (fun wq_33 kq_33 => ?_)
      have zs_kq_33 := kq_33.size
      replace ha := ha.pure kq_33
      replace hw := hw.pure kq_33
      replace hrow := hrow.pure kq_33
      replace hAo := hAo.pure kq_33
      replace hk2 := hk2.pure kq_33
      replace hd_19 := hd_19.pure kq_33
      refine WL.load Try.isAgg5 rfl ((hrow.rsl.cellsAt hz) 0 _ rfl) rfl ?_
      refine WL.nil ?_
      refine WX.one ⟨hd_19, ?_⟩
      refine DL.step [(80, _), (81, _)] rfl ⟨rfl, rfl, trivial⟩ rfl (fun wq_34 kq_34 => ?_)
      have zs_kq_34 := kq_34.size
      replace ha := ha.pure kq_34
      replace hw := hw.pure kq_34
      replace hrow := hrow.pure kq_34
      replace hAo := hAo.pure kq_34
      replace hk2 := hk2.pure kq_34
      replace hd_19 := hd_19.pure kq_34
      refine WL.num rfl rfl (n_xor8 _ _ _ _) rfl (?_)
      refine WL.nil ?_
      refine WX.one ⟨hd_19, ?_⟩
      refine DL.step [(83, _), (82, _)] rfl ⟨rfl, rfl, trivial⟩ rfl (fun wq_35 kq_35 => ?_)
      have zs_kq_35 := kq_35.size
      replace ha := ha.pure kq_35
      replace hw := hw.pure kq_35
      replace hrow := hrow.pure kq_35
      replace hAo := hAo.pure kq_35
      replace hk2 := hk2.pure kq_35
      replace hd_19 := hd_19.pure kq_35
      refine WL.storeRow (z := z ^^^ x) (k) Try.sizeOf5 hrow rfl rfl rfl (by first | (simp; done) | (show 0 + _ * 1 = _; omega)) (by omega) rfl ?_
      intro w_36 zs_36 nr_36 k_36
      have zs_k_36 := k_36.size
      replace ha := ha.chg k_36 (by first | (intro x h1 h2; exact h2) | (intro x h1 h2; have h3 : _ = _ := h2; exfalso; omega) | (intro b h1 h2 h3; have h4 : _ = _ := h3; (try dsimp only at h2); exfalso; omega) | (intro h1; have h2 : _ = _ := h1; exfalso; omega) | (intros; exfalso; (try dsimp only at *); omega) | (intro b h1 h2 h3; exfalso; have h4 := h3.2; (try dsimp only at *); omega) | (intro h1; exfalso; have h4 := h1.2; (try dsimp only at *); omega) | (intro x h1 h2; exfalso; have h4 := h2.2; (try dsimp only at *); omega) | (intro x h1 h2; exact h2.1))
      replace hw := hw.chg k_36 (by first | (intro x h1 h2; exact h2) | (intro x h1 h2; have h3 : _ = _ := h2; exfalso; omega) | (intro b h1 h2 h3; have h4 : _ = _ := h3; (try dsimp only at h2); exfalso; omega) | (intro h1; have h2 : _ = _ := h1; exfalso; omega) | (intros; exfalso; (try dsimp only at *); omega) | (intro b h1 h2 h3; exfalso; have h4 := h3.2; (try dsimp only at *); omega) | (intro h1; exfalso; have h4 := h1.2; (try dsimp only at *); omega) | (intro x h1 h2; exfalso; have h4 := h2.2; (try dsimp only at *); omega) | (intro x h1 h2; exact h2.1))
      replace hAo := hAo.chg k_36 (by first | (intro x h1 h2; exact h2) | (intro x h1 h2; have h3 : _ = _ := h2; exfalso; omega) | (intro b h1 h2 h3; have h4 : _ = _ := h3; (try dsimp only at h2); exfalso; omega) | (intro h1; have h2 : _ = _ := h1; exfalso; omega) | (intros; exfalso; (try dsimp only at *); omega) | (intro b h1 h2 h3; exfalso; have h4 := h3.2; (try dsimp only at *); omega) | (intro h1; exfalso; have h4 := h1.2; (try dsimp only at *); omega) | (intro x h1 h2; exfalso; have h4 := h2.2; (try dsimp only at *); omega) | (intro x h1 h2; exact h2.1))
      replace hk2 := hk2.chg k_36 (by first | (intro x h1 h2; exact h2) | (intro x h1 h2; have h3 : _ = _ := h2; exfalso; omega) | (intro b h1 h2 h3; have h4 : _ = _ := h3; (try dsimp only at h2); exfalso; omega) | (intro h1; have h2 : _ = _ := h1; exfalso; omega) | (intros; exfalso; (try dsimp only at *); omega) | (intro b h1 h2 h3; exfalso; have h4 := h3.2; (try dsimp only at *); omega) | (intro h1; exfalso; have h4 := h1.2; (try dsimp only at *); omega) | (intro x h1 h2; exfalso; have h4 := h2.2; (try dsimp only at *); omega) | (intro x h1 h2; exact h2.1))
      replace hd_19 := hd_19.chg k_36 (by first | (intro x h1 h2; exact h2) | (intro x h1 h2; have h3 : _ = _ := h2; exfalso; omega) | (intro b h1 h2 h3; have h4 : _ = _ := h3; (try dsimp only at h2); exfalso; omega) | (intro h1; have h2 : _ = _ := h1; exfalso; omega) | (intros; exfalso; (try dsimp only at *); omega) | (intro b h1 h2 h3; exfalso; have h4 := h3.2; (try dsimp only at *); omega) | (intro h1; exfalso; have h4 := h1.2; (try dsimp only at *); omega) | (intro x h1 h2; exfalso; have h4 := h2.2; (try dsimp only at *); omega) | (intro x h1 h2; exact h2.1))
      replace hrow := nr_36
      refine WL.nil ?_
      refine WX.one0 (v := undef) ⟨hd_19, ?_⟩
      refine DL.done (fun we_37 ke_37 => ?_)
      have zs_ke_37 := ke_37.size
      replace ha := ha.pure ke_37
      replace hw := hw.pure ke_37
      replace hrow := hrow.pure ke_37
      replace hAo := hAo.pure ke_37
      replace hk2 := hk2.pure ke_37
      replace hd_19 := hd_19.pure ke_37
      refine WX.then_normal (WC.seq (WC.region (?_)))
      have hAR2 := hAR.upd hgi hr (by show (rxs.set k (z ^^^ x)).length = rxs.length; rw [List.length_set]) hk2 hrow
      have hread := hAR2.read
      obtain ⟨A2, hA2⟩ : ∃ A2, A2 = A.set i ⟨some ⟨g, 0, none⟩, rcap, rxs.set k (z ^^^ x)⟩ := ⟨_, rfl⟩
      rw [← hA2] at hread
      have hA2l : A2.length = A.length := by rw [hA2, List.length_set]
      have hA2x : xss A2 = (xss ra ++ three (xss ra) m0 (xss ra).length).set i (rxs.set k (z ^^^ x)) := by rw [hA2, xss_set, hAx]
      have hal2 : ∀ d ∈ xss A2, d.length = m0 := by
        rw [hA2x, ← hAx]
        intro d hd
        rcases List.mem_or_eq_of_mem_set hd with h1 | h1
        ·
          exact hal3 d h1
        ·
          rw [h1, List.length_set, hrl]
      have hlc : lenC (xss A2) = (m0 : Int) := by
        rw [lenC_of (fun e => by have := xss_len A2; rw [e] at this; simp at this; omega) hal2, if_pos ⟨hn1, hn2⟩]
      have hright : rightR A2 := ⟨by omega, by omega, by omega⟩
      have hrx : (xss ra ++ three (xss ra) m0 (xss ra).length)[i]? = some rxs := by rw [← hAx]; exact xss_at hr
      have hchk : chk A2 m0 = decide ((x.toNat : Int) = 0) := by
        rw [chk, show A2.length - 3 = (xss ra).length from by omega, hA2x]
        refine decide_eq_decide.2 ((turned hall (by omega) hrx hz (by omega)).trans ⟨fun h => by rw [h]; rfl, fun h => u8_zero h⟩)
      refine WL.move rfl rfl ?_
      rw [show Value.slice (some ⟨bA, oA, none⟩) A.length c2 = Value.slice (some ⟨bA, oA, none⟩) A2.length c2 from by rw [hA2l]]
      refine WL.call eg_13 rfl rfl (check_good hread hright hlc) ?_
      rintro v w9 ⟨rfl, k9⟩
      rw [hchk]
      have zs_k9 := k9.size
      replace ha := ha.pure k9
      replace hw := hw.pure k9
      replace hrow := hrow.pure k9
      replace hAo := hAo.pure k9
      replace hk2 := hk2.pure k9
      refine WL.move rfl rfl (WL.extract rfl rfl rfl (WL.extract rfl rfl rfl (WL.assign rfl rfl (WL.assign rfl rfl (WL.nil (WX.then_normal (WC.seq (?_))))))))
      refine WC.region (WL.move rfl rfl (?_))
      refine WL.eql rfl rfl rfl ?_
      rw [eql_self3]
      refine WL.move rfl rfl (WL.want rfl rfl rfl (WL.move rfl rfl (WL.want rfl rfl rfl (WL.move rfl rfl (WL.want rfl rfl rfl (WL.eql rfl rfl rfl (WL.want rfl rfl rfl (?_))))))))
      refine WL.beql Try.underlying4 rfl rfl rfl ?_
      rw [show (decide ((x.toNat : Int) = 0) == decide ((x.toNat : Int) = 0)) = true from by cases decide ((x.toNat : Int) = 0) <;> rfl]
      refine WL.pickT rfl rfl rfl (WL.assign rfl rfl (WL.nil (WX.then_normal (WC.ret (?_)))))
      refine WX.ret1 (.inl rfl) Try.results6 rfl ?_
      exact ⟨_, rfl, rfl, hw⟩
theorem parityTells_calls {w : World} {aa : Option Addr} {ca : Nat} {ra : List Rw} (ha : RS (· < w.heap.size) w aa ca ra) (la : bounded ra) (at' : Int) (x : UInt8) :
    Calls Try.prog 6 [.slice aa ra.length ca, vi at', v8 x].toArray w (Ret fun v w' => v = .bool true ∧ Chg Nob w w') := by
  by_cases h : okM ra
  · obtain ⟨n, hn, _⟩ := lenC_some h.2
    exact parityTells_good ha la n h.1 hn at' x
  · exact parityTells_bad ha la h at' x
end Go.Proofs.Ytbbpgbdiifmkhaa
