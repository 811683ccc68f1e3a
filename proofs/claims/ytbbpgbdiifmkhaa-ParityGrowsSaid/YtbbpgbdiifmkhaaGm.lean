import Derived.Test.YtbbpgbdiifmkhaaGl
namespace Go.Proofs.Ytbbpgbdiifmkhaa
open Go.RowKit Go.HL

theorem okM_pos {rs : List Rw} (h : okM rs) : 0 < rs.length := by
  obtain ⟨n, _, _, _, hne, _⟩ := lenC_some h.2
  rcases Nat.eq_zero_or_pos rs.length with h1 | h1
  · exact absurd (by rw [List.eq_nil_of_length_eq_zero h1]; rfl) hne
  · exact h1
set_option maxHeartbeats 1000000 in
theorem docMake_good {S : Nat → Prop} {w : World} {ac : Option Addr} {cc : Nat} {rs : List Rw} {n : Nat} (hc : RS S w ac cc rs) (h13 : rs.length ≤ 13) (hn : lenC (xss rs) = (n : Int)) :
    Calls Try.prog 11 [.slice ac rs.length cc].toArray w (Ret fun v w' => (∃ (ao : Option Addr) (c : Nat) (ps : List Rw), v = .tuple #[.slice ao ps.length c, vi 0] ∧ RS (fun _ => True) w' ao c ps ∧ xss ps = three (xss rs) n rs.length) ∧ Chg Nob w w') := by
  replace hc := hc.old
  have hw := Chg.refl Nob w
  have hpos := okM_pos (rs := rs) ⟨h13, by omega⟩
  obtain ⟨m, hm, hm1, hm2, hne, hall⟩ := lenC_some (cols := xss rs) (by omega)
  have hmn : m = n := by omega
  subst hmn
  refine Calls.of_WC Try.func11 rfl Try.ntmps11 (by simp) ?_
  refine WC.seq (WC.region (WL.assign rfl rfl (WL.assign rfl rfl (WL.nil (WX.then_normal (WC.seq (WC.seq (?_))))))))
  refine WC.region (WL.move rfl rfl (WL.len Try.underlying22 rfl rfl (?_)))
  refine WL.lss rfl rfl rfl ?_
  rw [show decide ((rs.length : Int) < 1) = false from decide_eq_false (by omega)]
  refine WL.move rfl rfl (WL.want rfl rfl rfl (WL.move rfl rfl (WL.want rfl rfl rfl (WL.len Try.underlying22 rfl rfl (WL.want rfl rfl rfl (?_))))))
  refine WL.gtr rfl rfl rfl ?_
  rw [show decide ((rs.length : Int) > 13) = false from decide_eq_false (by omega)]
  refine WL.pickF rfl rfl rfl (WL.move rfl rfl (WL.want rfl rfl rfl (WL.move rfl rfl (WL.want rfl rfl rfl (?_)))))
  refine WL.call eg_16 rfl rfl (even_calls hc (by omega)) ?_
  rintro v w1 ⟨rfl, k⟩
  have zs_k := k.size
  replace hc := hc.pure k
  replace hw := hw.pure k
  refine WL.want rfl rfl rfl (?_)
  refine WL.lss rfl rfl rfl ?_
  rw [show decide (lenC (xss rs) < 0) = false from decide_eq_false (by omega)]
  refine WL.pickF rfl rfl rfl (WL.nil (WX.then_normal (WC.cond_false rfl (WC.skip (WX.then_normal (WC.seq (WC.region (?_))))))))
  refine WL.move rfl rfl (?_)
  refine WL.call eg_17 rfl rfl (parity_calls (q := 0) hc (by decide) h13 hpos hm2 hall) ?_
  rintro v w1 ⟨⟨a0, c0, rfl, h0⟩, k⟩
  have zs_k := k.size
  replace hc := hc.pure k
  replace hw := hw.pure k
  refine WL.move rfl rfl (?_)
  refine WL.call eg_17 rfl rfl (parity_calls (q := 1) hc (by decide) h13 hpos hm2 hall) ?_
  rintro v w1 ⟨⟨a1, c1, rfl, h1⟩, k⟩
  have zs_k := k.size
  replace hc := hc.pure k
  replace hw := hw.pure k
  replace h0 := h0.pure k
  refine WL.move rfl rfl (?_)
  refine WL.call eg_17 rfl rfl (parity_calls (q := 2) hc (by decide) h13 hpos hm2 hall) ?_
  rintro v w1 ⟨⟨a2, c2, rfl, h2⟩, k⟩
  have zs_k := k.size
  replace hc := hc.pure k
  replace hw := hw.pure k
  replace h0 := h0.pure k
  replace h1 := h1.pure k
  refine WL.build (e := erow) [⟨a0, c0, prow (wtq 0) (xss rs) m rs.length⟩, ⟨a1, c1, prow (wtq 1) (xss rs) m rs.length⟩, ⟨a2, c2, prow (wtq 2) (xss rs) m rs.length⟩] Try.underlying22 Try.sizeOf28 Try.zeroValue28 rfl rfl rfl (by first | (simp [Value.cells]; done) | (simp [Value.cells] <;> rfl) | (simp [Value.cells, eb, ei, es, ebool, e32, e64]; done)) (by decide) rfl ?_
  intro a_h3 w_h3 h3 l_h3 z_h3 k_h3
  have zs_k_h3 := k_h3.size
  replace hc := hc.pure k_h3
  replace hw := hw.pure k_h3
  replace h0 := h0.pure k_h3
  replace h1 := h1.pure k_h3
  replace h2 := h2.pure k_h3
  refine WL.assign rfl rfl (WL.assign rfl rfl (WL.nil (WX.then_normal (WC.ret (?_)))))
  refine WX.ret2 (.inl rfl) Try.results11 rfl rfl ?_
  refine ⟨_, rfl, ⟨_, _, _, rfl, ⟨h3.rsl.mono (fun _ _ => trivial), fun r hr => ?_⟩, rfl⟩, hw⟩
  simp only [List.mem_cons, List.not_mem_nil, or_false] at hr
  rcases hr with rfl | rfl | rfl
  ·
    exact h0.rsl.mono (fun _ _ => trivial)
  ·
    exact h1.rsl.mono (fun _ _ => trivial)
  ·
    exact h2.rsl.mono (fun _ _ => trivial)
theorem docMake_bad {S : Nat → Prop} {w : World} {ac : Option Addr} {cc : Nat} {rs : List Rw} (hc : RS S w ac cc rs) (hl : rs.length * 24 ≤ 140737488351232) (h : ¬ okM rs) :
    Calls Try.prog 11 [.slice ac rs.length cc].toArray w (Ret fun v w' => v = .tuple #[.slice none 0 0, vi 1] ∧ Chg Nob w w') := by
  replace hc := hc.old
  have hw := Chg.refl Nob w
  refine Calls.of_WC Try.func11 rfl Try.ntmps11 (by simp) ?_
  refine WC.seq (WC.region (WL.assign rfl rfl (WL.assign rfl rfl (WL.nil (WX.then_normal (WC.seq (WC.seq (?_))))))))
  refine WC.region (WL.move rfl rfl (WL.len Try.underlying22 rfl rfl (?_)))
  refine WL.lss? rfl rfl rfl (fun h6 => ?_) (fun h6 => ?_)
  ·
    refine WL.move rfl rfl (WL.pass rfl rfl rfl rfl (WL.pass rfl rfl rfl rfl (WL.pass rfl rfl rfl rfl (WL.pickT rfl rfl rfl (WL.move rfl rfl (WL.pass rfl rfl rfl rfl (WL.pass rfl rfl rfl rfl (?_))))))))
    refine WL.pass rfl rfl rfl rfl (WL.pickT rfl rfl rfl (WL.nil (WX.then_normal (WC.cond_true rfl (WC.seq (WC.region (WL.assign rfl rfl (?_))))))))
    refine WL.assign rfl rfl (WL.nil (WX.then_normal (WC.ret (WX.then_ret (?_)))))
    refine WX.ret2 (.inl rfl) Try.results11 rfl rfl ?_
    exact ⟨_, rfl, rfl, hw⟩
  ·
    refine WL.move rfl rfl (WL.want rfl rfl rfl (WL.move rfl rfl (WL.want rfl rfl rfl (WL.len Try.underlying22 rfl rfl (WL.want rfl rfl rfl (?_))))))
    refine WL.gtr? rfl rfl rfl (fun h10 => ?_) (fun h10 => ?_)
    ·
      refine WL.pickF rfl rfl rfl (WL.move rfl rfl (WL.pass rfl rfl rfl rfl (WL.pass rfl rfl rfl rfl (WL.pass rfl rfl rfl rfl (WL.pickT rfl rfl rfl (WL.nil (WX.then_normal (?_))))))))
      refine WC.cond_true rfl (WC.seq (WC.region (WL.assign rfl rfl (WL.assign rfl rfl (WL.nil (WX.then_normal (WC.ret (?_))))))))
      refine WX.then_ret (?_)
      refine WX.ret2 (.inl rfl) Try.results11 rfl rfl ?_
      exact ⟨_, rfl, rfl, hw⟩
    ·
      refine WL.pickF rfl rfl rfl (WL.move rfl rfl (WL.want rfl rfl rfl (WL.move rfl rfl (WL.want rfl rfl rfl (?_)))))
      refine WL.call eg_16 rfl rfl (even_calls hc hl) ?_
      rintro v w1 ⟨rfl, k⟩
      have zs_k := k.size
      replace hc := hc.pure k
      replace hw := hw.pure k
      refine WL.want rfl rfl rfl (?_)
      refine WL.lss? rfl rfl rfl (fun h15 => ?_) (fun h15 => ?_)
      ·
        refine WL.pickF rfl rfl rfl (WL.nil (WX.then_normal (WC.cond_true rfl (WC.seq (WC.region (WL.assign rfl rfl (WL.assign rfl rfl (?_))))))))
        refine WL.nil (WX.then_normal (WC.ret (WX.then_ret (?_))))
        refine WX.ret2 (.inl rfl) Try.results11 rfl rfl ?_
        exact ⟨_, rfl, rfl, hw⟩
      ·
        refine WL.pickF rfl rfl rfl (WL.nil (WX.then_normal (WC.cond_false rfl (WC.skip (WX.then_normal (WC.seq (WC.region (?_))))))))
        refine WL.move rfl rfl (?_)
        exfalso
        exact h ⟨by omega, by omega⟩
/-! Check -/
def chk (rs : List Rw) (n : Nat) : Bool := decide (three ((xss rs).take (rs.length - 3)) n (rs.length - 3) = (xss rs).drop (rs.length - 3))
set_option maxHeartbeats 2000000 in
theorem check_good {S : Nat → Prop} {w : World} {ao : Option Addr} {c : Nat} {rs : List Rw} {n : Nat} (hc : RS S w ao c rs) (h : rightR rs) (hn : lenC (xss rs) = (n : Int)) :
    Calls Try.prog 13 [.slice ao rs.length c].toArray w (Ret fun v w' => v = .tuple #[.bool (chk rs n), vi 0] ∧ Chg Nob w w') := by
  replace hc := hc.old
  have hw := Chg.refl Nob w
  obtain ⟨m, hm, hm1, hm2, hne, hall⟩ := lenC_some (cols := xss rs) (by omega)
  have hmn : m = n := by omega
  subst hmn
  have h1 := h.1
  have h2 := h.2.1
  obtain ⟨k, hk⟩ : ∃ k, rs.length = k + 3 := ⟨rs.length - 3, by omega⟩
  have hk3 : rs.length - 3 = k := by omega
  refine Calls.of_WC Try.func13 rfl Try.ntmps13 (by simp) ?_
  refine WC.seq (WC.region (WL.assign rfl rfl (WL.assign rfl rfl (WL.nil (WX.then_normal (WC.seq (WC.region (?_))))))))
  refine WL.move rfl rfl (?_)
  refine WL.call eg_19 rfl rfl (right_good hc h) ?_
  rintro v w1 ⟨rfl, k1⟩
  rw [hm]
  have zs_k1 := k1.size
  replace hc := hc.pure k1
  replace hw := hw.pure k1
  refine WL.move rfl rfl (WL.extract rfl rfl rfl (WL.extract rfl rfl rfl (WL.assign rfl rfl (WL.assign rfl rfl (WL.nil (WX.then_normal (WC.seq (?_))))))))
  refine WC.seq (WC.region (WL.move rfl rfl (?_)))
  refine WL.neq rfl rfl rfl ?_
  rw [show decide ((0 : Int) ≠ 0) = false from rfl]
  refine WL.nil (WX.then_normal (WC.cond_false rfl (WC.skip (WX.then_normal (WC.seq (WC.region (WL.move rfl rfl (?_))))))))
  refine WL.len Try.underlying22 rfl rfl (?_)
  refine WL.sub64 rfl rfl (by constructor <;> omega) rfl ?_
  rw [show ((rs.length : Int) - 3) = (k : Int) from by omega]
  refine WL.assign rfl rfl (WL.nil (WX.then_normal (WC.seq (?_))))
  have hc1 := hc.cut 0 k ⟨by omega, by omega⟩
  have hc2 := hc.cut k rs.length ⟨by omega, Nat.le_refl _⟩
  have hl1 : ((rs.take k).drop 0).length = k := by simp; omega
  refine WC.draw (Nob) [0, 2, 3, 4, 5, 7, 8, 9, 12] [1, 6, 10, 11] mixed rfl rfl (fun wd_1 kd_1 zd_1 => ?_)
  have zs_kd_1 := kd_1.size
  replace hc := hc.pure kd_1
  replace hw := hw.pure kd_1
  replace hc1 := hc1.pure kd_1
  replace hc2 := hc2.pure kd_1
  apply DQ.step (E' := [])
  case ho => rfl
  case hs => exact trivial
  case hk => rfl
  case h1 =>
    intro wq_3 kq_3
    refine WL.bld rfl bldF rfl ?_
    refine WL.nil ?_
    exact WX.one ⟨rfl, by first | exact Chg.refl _ _ | assumption⟩
  apply DQ.step (E' := [(0, _)])
  case ho => rfl
  case hs => exact ⟨rfl, trivial⟩
  case hk => rfl
  case h1 =>
    intro wq_4 kq_4
    refine WL.move rfl rfl (?_)
    refine WL.nil ?_
    exact WX.one ⟨rfl, by first | exact Chg.refl _ _ | assumption⟩
  apply DQ.step (E' := [(6, _)])
  case ho => rfl
  case hs => exact ⟨rfl, trivial⟩
  case hk => rfl
  case h1 =>
    intro wq_5 kq_5
    refine WL.move rfl rfl (?_)
    refine WL.nil ?_
    exact WX.one ⟨rfl, by first | exact Chg.refl _ _ | assumption⟩
  apply DQ.step (E' := [(20, _), (21, _)])
  case ho => rfl
  case hs => exact ⟨rfl, rfl, trivial⟩
  case hk => rfl
  case h1 =>
    intro wq_6 kq_6
    have zs_kq_6 := kq_6.size
    replace hc := hc.pure kq_6
    replace hw := hw.pure kq_6
    replace hc1 := hc1.pure kq_6
    replace hc2 := hc2.pure kq_6
    refine WL.sliceC (l := 0) (h := k) (k := .i64) Try.underlying22 Try.sizeOf28 hc.outer rfl (.inr ⟨rfl, rfl⟩) (.inl rfl) (by constructor <;> omega) rfl ?_
    refine WL.nil ?_
    exact WX.one ⟨rfl, by first | exact Chg.refl _ _ | assumption⟩
  apply DQ.step (E' := [(4, _)])
  case ho => rfl
  case hs => exact ⟨rfl, trivial⟩
  case hk => rfl
  case h1 =>
    intro wq_7 kq_7
    refine WL.move rfl rfl (?_)
    refine WL.nil ?_
    exact WX.one ⟨rfl, by first | exact Chg.refl _ _ | assumption⟩
  apply DQ.step (E' := [(0, _)])
  case ho => rfl
  case hs => exact ⟨rfl, trivial⟩
  case hk => rfl
  case h1 =>
    intro wq_8 kq_8
    refine WL.move rfl rfl (?_)
    refine WL.nil ?_
    exact WX.one ⟨rfl, by first | exact Chg.refl _ _ | assumption⟩
  apply DQ.step (E' := [(6, _)])
  case ho => rfl
  case hs => exact ⟨rfl, trivial⟩
  case hk => rfl
  case h1 =>
    intro wq_9 kq_9
    refine WL.move rfl rfl (?_)
    refine WL.nil ?_
    exact WX.one ⟨rfl, by first | exact Chg.refl _ _ | assumption⟩
  apply DQ.step (E' := [(25, _), (26, _)])
  case ho => rfl
  case hs => exact ⟨rfl, rfl, trivial⟩
  case hk => rfl
  case h1 =>
    intro wq_10 kq_10
    have zs_kq_10 := kq_10.size
    replace hc := hc.pure kq_10
    replace hw := hw.pure kq_10
    replace hc1 := hc1.pure kq_10
    replace hc2 := hc2.pure kq_10
    refine WL.sliceC (l := k) (h := rs.length) (j := .i64) Try.underlying22 Try.sizeOf28 hc.outer rfl (.inl rfl) (.inr ⟨rfl, rfl⟩) (by constructor <;> omega) rfl ?_
    refine WL.nil ?_
    exact WX.one ⟨rfl, by first | exact Chg.refl _ _ | assumption⟩
  apply DQ.step (E' := [])
  case ho => rfl
  case hs => exact trivial
  case hk => rfl
  case h1 =>
    intro wq_11 kq_11
    refine WL.assign rfl rfl (?_)
    refine WL.nil ?_
    exact WX.one ⟨rfl, by first | exact Chg.refl _ _ | assumption⟩
  refine DQ.done (fun hd_2 => ?_)
  refine DL.step [(18, _)] rfl ⟨rfl, trivial⟩ rfl (fun wq_12 kq_12 => ?_)
  have zs_kq_12 := kq_12.size
  replace hc := hc.pure kq_12
  replace hw := hw.pure kq_12
  replace hc1 := hc1.pure kq_12
  replace hc2 := hc2.pure kq_12
  replace hd_2 := hd_2.pure kq_12
  refine WL.box rfl rfl ?_
  intro gx wx hgex hltx hbx kx
  have zs_kx := kx.size
  replace hc := hc.pure kx
  replace hw := hw.pure kx
  replace hc1 := hc1.pure kx
  replace hc2 := hc2.pure kx
  replace hd_2 := hd_2.pure kx
  refine WL.nil ?_
  refine WX.one ⟨hd_2, ?_⟩
  refine DL.step [(19, _), (22, _), (23, _)] rfl ⟨rfl, rfl, rfl, trivial⟩ rfl (fun wq_13 kq_13 => ?_)
  have zs_kq_13 := kq_13.size
  replace hc := hc.pure kq_13
  replace hw := hw.pure kq_13
  replace hc1 := hc1.pure kq_13
  replace hc2 := hc2.pure kq_13
  replace hd_2 := hd_2.pure kq_13
  replace hbx := hbx.pure kq_13
  have hF : Fld _ gx := .inl hbx
  have hc1' : RS (fun b => b < gx) _ (cutAt ao c 0 erow.sz) (c - 0) ((rs.take k).drop 0) := hc1.mono (fun b hb => by have := hw.size; omega)
  have hal1 : ∀ d ∈ xss ((rs.take k).drop 0), d.length = m := by
    rw [xss_take]
    exact fun d hd => hall d (List.mem_of_mem_take hd)
  refine WL.call eg_15 rfl rfl (sums_calls hF hc1' hm2 (by omega) hal1) ?_
  rintro v w2 ⟨⟨go, gs, rfl, hO, hgs, hgo⟩, k2⟩
  have zs_k2 := k2.size
  replace hc := hc.chg k2 (by first | (intro x h1 h2; exact h2) | (intro x h1 h2; have h3 : _ = _ := h2; exfalso; omega) | (intro b h1 h2 h3; have h4 : _ = _ := h3; (try dsimp only at h2); exfalso; omega) | (intro h1; have h2 : _ = _ := h1; exfalso; omega) | (intros; exfalso; (try dsimp only at *); omega) | (intro b h1 h2 h3; exfalso; have h4 := h3.2; (try dsimp only at *); omega) | (intro h1; exfalso; have h4 := h1.2; (try dsimp only at *); omega) | (intro x h1 h2; exfalso; have h4 := h2.2; (try dsimp only at *); omega) | (intro x h1 h2; exact h2.1))
  replace hw := hw.chg k2 (by first | (intro x h1 h2; exact h2) | (intro x h1 h2; have h3 : _ = _ := h2; exfalso; omega) | (intro b h1 h2 h3; have h4 : _ = _ := h3; (try dsimp only at h2); exfalso; omega) | (intro h1; have h2 : _ = _ := h1; exfalso; omega) | (intros; exfalso; (try dsimp only at *); omega) | (intro b h1 h2 h3; exfalso; have h4 := h3.2; (try dsimp only at *); omega) | (intro h1; exfalso; have h4 := h1.2; (try dsimp only at *); omega) | (intro x h1 h2; exfalso; have h4 := h2.2; (try dsimp only at *); omega) | (intro x h1 h2; exact h2.1))
  replace hc1 := hc1.chg k2 (by first | (intro x h1 h2; exact h2) | (intro x h1 h2; have h3 : _ = _ := h2; exfalso; omega) | (intro b h1 h2 h3; have h4 : _ = _ := h3; (try dsimp only at h2); exfalso; omega) | (intro h1; have h2 : _ = _ := h1; exfalso; omega) | (intros; exfalso; (try dsimp only at *); omega) | (intro b h1 h2 h3; exfalso; have h4 := h3.2; (try dsimp only at *); omega) | (intro h1; exfalso; have h4 := h1.2; (try dsimp only at *); omega) | (intro x h1 h2; exfalso; have h4 := h2.2; (try dsimp only at *); omega) | (intro x h1 h2; exact h2.1))
  replace hc2 := hc2.chg k2 (by first | (intro x h1 h2; exact h2) | (intro x h1 h2; have h3 : _ = _ := h2; exfalso; omega) | (intro b h1 h2 h3; have h4 : _ = _ := h3; (try dsimp only at h2); exfalso; omega) | (intro h1; have h2 : _ = _ := h1; exfalso; omega) | (intros; exfalso; (try dsimp only at *); omega) | (intro b h1 h2 h3; exfalso; have h4 := h3.2; (try dsimp only at *); omega) | (intro h1; exfalso; have h4 := h1.2; (try dsimp only at *); omega) | (intro x h1 h2; exfalso; have h4 := h2.2; (try dsimp only at *); omega) | (intro x h1 h2; exact h2.1))
  replace hd_2 := hd_2.chg k2 (by first | (intro x h1 h2; exact h2) | (intro x h1 h2; have h3 : _ = _ := h2; exfalso; omega) | (intro b h1 h2 h3; have h4 : _ = _ := h3; (try dsimp only at h2); exfalso; omega) | (intro h1; have h2 : _ = _ := h1; exfalso; omega) | (intros; exfalso; (try dsimp only at *); omega) | (intro b h1 h2 h3; exfalso; have h4 := h3.2; (try dsimp only at *); omega) | (intro h1; exfalso; have h4 := h1.2; (try dsimp only at *); omega) | (intro x h1 h2; exfalso; have h4 := h2.2; (try dsimp only at *); omega) | (intro x h1 h2; exact h2.1))
  have hol : gs.length = (three (xss ((rs.take k).drop 0)) m ((rs.take k).drop 0).length).length := hO.len
  rw [show Value.slice (some ⟨go, 0, none⟩) 3 3 = Value.slice (some ⟨go, 0, none⟩) (orows gs m (three (xss ((rs.take k).drop 0)) m ((rs.take k).drop 0).length)).length 3 from by rw [orows_len hol, hgs]]
  refine WL.nil ?_
  refine WX.one ⟨hd_2, ?_⟩
  refine DL.step [(24, _), (27, _)] rfl ⟨rfl, rfl, trivial⟩ rfl (fun wq_14 kq_14 => ?_)
  have zs_kq_14 := kq_14.size
  replace hc := hc.pure kq_14
  replace hw := hw.pure kq_14
  replace hc1 := hc1.pure kq_14
  replace hc2 := hc2.pure kq_14
  replace hd_2 := hd_2.pure kq_14
  replace hO := hO.pure kq_14
  have hOr := hO.rs (S := fun _ => True) trivial (fun _ _ _ => trivial)
  refine WL.call eg_20 rfl rfl (equalFunc_calls hOr hc2 (by rw [orows_len hol]; omega)) ?_
  rintro v w3 ⟨rfl, k3⟩
  rw [xss_orows hol, hl1, xss_take, xss_drop]
  have zs_k3 := k3.size
  replace hc := hc.pure k3
  replace hw := hw.pure k3
  replace hc1 := hc1.pure k3
  replace hc2 := hc2.pure k3
  replace hd_2 := hd_2.pure k3
  replace hO := hO.pure k3
  refine WL.nil ?_
  refine WX.one ⟨hd_2, ?_⟩
  refine DL.step [(28, _)] rfl ⟨rfl, trivial⟩ rfl (fun wq_15 kq_15 => ?_)
  have zs_kq_15 := kq_15.size
  replace hc := hc.pure kq_15
  replace hw := hw.pure kq_15
  replace hc1 := hc1.pure kq_15
  replace hc2 := hc2.pure kq_15
  replace hd_2 := hd_2.pure kq_15
  refine WL.assign rfl rfl (?_)
  refine WL.nil ?_
  refine WX.one ⟨hd_2, ?_⟩
  refine DL.done (fun we_16 ke_16 => ?_)
  have zs_ke_16 := ke_16.size
  replace hc := hc.pure ke_16
  replace hw := hw.pure ke_16
  replace hc1 := hc1.pure ke_16
  replace hc2 := hc2.pure ke_16
  replace hd_2 := hd_2.pure ke_16
  refine WX.then_normal (WC.ret (?_))
  refine WX.ret2 (.inl rfl) Try.results13 rfl rfl ?_
  refine ⟨_, rfl, ?_, hw⟩
  rw [chk, hk3]
theorem check_bad {S : Nat → Prop} {w : World} {ao : Option Addr} {c : Nat} {rs : List Rw} (hc : RS S w ao c rs) (hl : rs.length * 24 ≤ 140737488351232) (h : ¬ rightR rs) :
    Calls Try.prog 13 [.slice ao rs.length c].toArray w (Ret fun v w' => v = .tuple #[.bool false, vi 1] ∧ Chg Nob w w') := by
  replace hc := hc.old
  have hw := Chg.refl Nob w
  refine Calls.of_WC Try.func13 rfl Try.ntmps13 (by simp) ?_
  refine WC.seq (WC.region (WL.assign rfl rfl (WL.assign rfl rfl (WL.nil (WX.then_normal (WC.seq (WC.region (?_))))))))
  refine WL.move rfl rfl (?_)
  refine WL.call eg_19 rfl rfl (right_bad hc hl h) ?_
  rintro v w1 ⟨rfl, k1⟩
  have zs_k1 := k1.size
  replace hc := hc.pure k1
  replace hw := hw.pure k1
  refine WL.move rfl rfl (WL.extract rfl rfl rfl (WL.extract rfl rfl rfl (WL.assign rfl rfl (WL.assign rfl rfl (WL.nil (WX.then_normal (WC.seq (?_))))))))
  refine WC.seq (WC.region (WL.move rfl rfl (?_)))
  refine WL.neq rfl rfl rfl ?_
  rw [show decide ((1 : Int) ≠ 0) = true from rfl]
  refine WL.nil (WX.then_normal (WC.cond_true rfl (WC.seq (WC.region (WL.move rfl rfl (WL.assign rfl rfl (WL.assign rfl rfl (?_))))))))
  refine WL.nil (WX.then_normal (WC.ret (WX.then_ret (?_))))
  refine WX.ret2 (.inl rfl) Try.results13 rfl rfl ?_
  exact ⟨_, rfl, rfl, hw⟩
end Go.Proofs.Ytbbpgbdiifmkhaa
