import Derived.Test.YtjdbjdgobhjbkaaQParityApart9
namespace Go.Proofs.Ytjdbjdgobhjbkaa
open Go.RowKit Go.HL

/-! Check -/
def chk (rs : List Rw) (n : Nat) : Bool := decide (three ((xss rs).take (rs.length - 3)) n (rs.length - 3) = (xss rs).drop (rs.length - 3))
set_option maxHeartbeats 2000000 in
theorem check_good {S : Nat → Prop} {w : World} {ao : Option Addr} {c : Nat} {rs : List Rw} {n : Nat} (hc : RS S w ao c rs) (h : rightR rs) (hn : lenC (xss rs) = (n : Int)) :
    Calls Try.prog 22 [.slice ao rs.length c].toArray w (Ret fun v w' => v = .tuple #[.bool (chk rs n), vi 0] ∧ Chg Nob w w') := by
  replace hc := hc.old
  have hw := Chg.refl Nob w
  obtain ⟨m, hm, hm1, hm2, hne, hall⟩ := lenC_some (cols := xss rs) (by omega)
  have hmn : m = n := by omega
  subst hmn
  have h1 := h.1
  have h2 := h.2.1
  obtain ⟨k, hk⟩ : ∃ k, rs.length = k + 3 := ⟨rs.length - 3, by omega⟩
  have hk3 : rs.length - 3 = k := by omega
  refine Calls.of_WC Try.func22 rfl Try.ntmps22 (by simp) ?_
  refine WC.seq (WC.region (WL.assign rfl rfl (WL.assign rfl rfl (WL.nil (WX.then_normal (WC.seq (WC.region (?_))))))))
  refine WL.move rfl rfl (?_)
  refine WL.call eg_38 rfl rfl (right_good hc h) ?_
  rintro v w1 ⟨rfl, k1⟩
  rw [hm]
  have zs_k1 := k1.size
  replace hc := hc.pure k1
  replace hw := hw.pure k1
  refine WL.move rfl rfl (WL.extract rfl rfl rfl (WL.extract rfl rfl rfl (WL.assign rfl rfl (WL.assign rfl rfl (WL.nil (WX.then_normal (WC.seq (?_))))))))
  refine WC.seq (WC.region (WL.move rfl rfl (?_)))
  refine WL.neq rfl rfl rfl ?_
  rw [show decide ((0 : Int) ≠ 0) = false from rfl]
  refine WL.nil (WX.then_normal (WC.cond_false rfl (WC.skip (WX.then_normal (WC.seq (WC.region (WL.move rfl rfl (?_))))))))
  refine WL.len Try.underlying22 rfl rfl (?_)
  refine WL.sub64 rfl rfl (by constructor <;> omega) rfl ?_
  rw [show ((rs.length : Int) - 3) = (k : Int) from by omega]
  refine WL.assign rfl rfl (WL.nil (WX.then_normal (WC.seq (?_))))
  have hc1 := hc.cut 0 k ⟨by omega, by omega⟩
  have hc2 := hc.cut k rs.length ⟨by omega, Nat.le_refl _⟩
  have hl1 : ((rs.take k).drop 0).length = k := by simp; omega
  refine WC.draw (Nob) [0, 2, 3, 4, 5, 7, 8, 9, 12] [1, 6, 10, 11] mixed rfl rfl (fun wd_1 kd_1 zd_1 => ?_)
  have zs_kd_1 := kd_1.size
  replace hc := hc.pure kd_1
  replace hw := hw.pure kd_1
  replace hc1 := hc1.pure kd_1
  replace hc2 := hc2.pure kd_1
  apply DQ.step (E' := [])
  case ho => rfl
  case hs => exact trivial
  case hk => rfl
  case h1 =>
    intro wq_3 kq_3
    refine WL.bld rfl bldF rfl ?_
    refine WL.nil ?_
    exact WX.one ⟨rfl, by first | exact Chg.refl _ _ | assumption⟩
  apply DQ.step (E' := [(0, _)])
  case ho => rfl
  case hs => exact ⟨rfl, trivial⟩
  case hk => rfl
  case h1 =>
    intro wq_4 kq_4
    refine WL.move rfl rfl (?_)
    refine WL.nil ?_
    exact WX.one ⟨rfl, by first | exact Chg.refl _ _ | assumption⟩
  apply DQ.step (E' := [(6, _)])
  case ho => rfl
  case hs => exact ⟨rfl, trivial⟩
  case hk => rfl
  case h1 =>
    intro wq_5 kq_5
    refine WL.move rfl rfl (?_)
    refine WL.nil ?_
    exact WX.one ⟨rfl, by first | exact Chg.refl _ _ | assumption⟩
  apply DQ.step (E' := [(20, _), (21, _)])
  case ho => rfl
  case hs => exact ⟨rfl, rfl, trivial⟩
  case hk => rfl
  case h1 =>
    intro wq_6 kq_6
    have zs_kq_6 := kq_6.size
    replace hc := hc.pure kq_6
    replace hw := hw.pure kq_6
    replace hc1 := hc1.pure kq_6
    replace hc2 := hc2.pure kq_6
    refine WL.sliceC (l := 0) (h := k) (k := .i64) Try.underlying22 Try.sizeOf23 hc.outer rfl (.inr ⟨rfl, rfl⟩) (.inl rfl) (by constructor <;> omega) rfl ?_
    refine WL.nil ?_
    exact WX.one ⟨rfl, by first | exact Chg.refl _ _ | assumption⟩
  apply DQ.step (E' := [(4, _)])
  case ho => rfl
  case hs => exact ⟨rfl, trivial⟩
  case hk => rfl
  case h1 =>
    intro wq_7 kq_7
    refine WL.move rfl rfl (?_)
    refine WL.nil ?_
    exact WX.one ⟨rfl, by first | exact Chg.refl _ _ | assumption⟩
  apply DQ.step (E' := [(0, _)])
  case ho => rfl
  case hs => exact ⟨rfl, trivial⟩
  case hk => rfl
  case h1 =>
    intro wq_8 kq_8
    refine WL.move rfl rfl (?_)
    refine WL.nil ?_
    exact WX.one ⟨rfl, by first | exact Chg.refl _ _ | assumption⟩
  apply DQ.step (E' := [(6, _)])
  case ho => rfl
  case hs => exact ⟨rfl, trivial⟩
  case hk => rfl
  case h1 =>
    intro wq_9 kq_9
    refine WL.move rfl rfl (?_)
    refine WL.nil ?_
    exact WX.one ⟨rfl, by first | exact Chg.refl _ _ | assumption⟩
  apply DQ.step (E' := [(25, _), (26, _)])
  case ho => rfl
  case hs => exact ⟨rfl, rfl, trivial⟩
  case hk => rfl
  case h1 =>
    intro wq_10 kq_10
    have zs_kq_10 := kq_10.size
    replace hc := hc.pure kq_10
    replace hw := hw.pure kq_10
    replace hc1 := hc1.pure kq_10
    replace hc2 := hc2.pure kq_10
    refine WL.sliceC (l := k) (h := rs.length) (j := .i64) Try.underlying22 Try.sizeOf23 hc.outer rfl (.inl rfl) (.inr ⟨rfl, rfl⟩) (by constructor <;> omega) rfl ?_
    refine WL.nil ?_
    exact WX.one ⟨rfl, by first | exact Chg.refl _ _ | assumption⟩
  apply DQ.step (E' := [])
  case ho => rfl
  case hs => exact trivial
  case hk => rfl
  case h1 =>
    intro wq_11 kq_11
    refine WL.assign rfl rfl (?_)
    refine WL.nil ?_
    exact WX.one ⟨rfl, by first | exact Chg.refl _ _ | assumption⟩
  refine DQ.done (fun hd_2 => ?_)
  refine DL.step [(18, _)] rfl ⟨rfl, trivial⟩ rfl (fun wq_12 kq_12 => ?_)
  have zs_kq_12 := kq_12.size
  replace hc := hc.pure kq_12
  replace hw := hw.pure kq_12
  replace hc1 := hc1.pure kq_12
  replace hc2 := hc2.pure kq_12
  replace hd_2 := hd_2.pure kq_12
  refine WL.box rfl rfl ?_
  intro gx wx hgex hltx hbx kx
  have zs_kx := kx.size
  replace hc := hc.pure kx
  replace hw := hw.pure kx
  replace hc1 := hc1.pure kx
  replace hc2 := hc2.pure kx
  replace hd_2 := hd_2.pure kx
  refine WL.nil ?_
  refine WX.one ⟨hd_2, ?_⟩
  refine DL.step [(19, _), (22, _), (23, _)] rfl ⟨rfl, rfl, rfl, trivial⟩ rfl (fun wq_13 kq_13 => ?_)
  have zs_kq_13 := kq_13.size
  replace hc := hc.pure kq_13
  replace hw := hw.pure kq_13
  replace hc1 := hc1.pure kq_13
  replace hc2 := hc2.pure kq_13
  replace hd_2 := hd_2.pure kq_13
  replace hbx := hbx.pure kq_13
  have hF : Fld _ gx := .inl hbx
  have hc1' : RS (fun b => b < gx) _ (cutAt ao c 0 erow.sz) (c - 0) ((rs.take k).drop 0) := hc1.mono (fun b hb => by have := hw.size; omega)
  have hal1 : ∀ d ∈ xss ((rs.take k).drop 0), d.length = m := by
    rw [xss_take]
    exact fun d hd => hall d (List.mem_of_mem_take hd)
  refine WL.call eg_42 rfl rfl (sums_calls hF hc1' hm2 (by omega) hal1) ?_
  rintro v w2 ⟨⟨go, gs, rfl, hO, hgs, hgo⟩, k2⟩
  have zs_k2 := k2.size
  replace hc := hc.chg k2 (by first | (intro x h1 h2; exact h2) | (intro x h0 h1 h2; exact hS x h1 h2) | (intro x h0 h1 h2; have h3 : _ = _ := h2; subst h3; exact hSR h1.1) | (intro x h1 h2; have h3 : _ = _ := h2; subst h3; assumption) | (intro x h1 h2; have h3 : _ = _ := h2; exfalso; omega) | (intro b h1 h2 h3; have h4 : _ = _ := h3; (try dsimp only at h2); exfalso; omega) | (intro h1; have h2 : _ = _ := h1; exfalso; omega) | (intro h1; have h2 : _ ≤ _ := h1; exfalso; omega) | (intros; exfalso; (try dsimp only at *); omega) | (intro b h1 h2 h3; exfalso; have h4 := h3.2; (try dsimp only at *); omega) | (intro h1; exfalso; have h4 := h1.2; (try dsimp only at *); omega) | (intro x h1 h2; exfalso; have h4 := h2.2; (try dsimp only at *); omega) | (intro x h1 h2; exact ⟨_, rfl, h2⟩) | (intro x h1 h2; have h4 := h2.1; have h5 := h2.2; exfalso; omega) | (intro x h1 h2; exact h2.1) | (intro x h1 h2; rcases h2.1 with h3 | h3; exact h3; exfalso; omega) | (intro x h1 h2; rcases h2 with h3 | h3; exact h3; exfalso; omega))
  replace hw := hw.chg k2 (by first | (intro x h1 h2; exact h2) | (intro x h0 h1 h2; exact hS x h1 h2) | (intro x h0 h1 h2; have h3 : _ = _ := h2; subst h3; exact hSR h1.1) | (intro x h1 h2; have h3 : _ = _ := h2; subst h3; assumption) | (intro x h1 h2; have h3 : _ = _ := h2; exfalso; omega) | (intro b h1 h2 h3; have h4 : _ = _ := h3; (try dsimp only at h2); exfalso; omega) | (intro h1; have h2 : _ = _ := h1; exfalso; omega) | (intro h1; have h2 : _ ≤ _ := h1; exfalso; omega) | (intros; exfalso; (try dsimp only at *); omega) | (intro b h1 h2 h3; exfalso; have h4 := h3.2; (try dsimp only at *); omega) | (intro h1; exfalso; have h4 := h1.2; (try dsimp only at *); omega) | (intro x h1 h2; exfalso; have h4 := h2.2; (try dsimp only at *); omega) | (intro x h1 h2; exact ⟨_, rfl, h2⟩) | (intro x h1 h2; have h4 := h2.1; have h5 := h2.2; exfalso; omega) | (intro x h1 h2; exact h2.1) | (intro x h1 h2; rcases h2.1 with h3 | h3; exact h3; exfalso; omega) | (intro x h1 h2; rcases h2 with h3 | h3; exact h3; exfalso; omega))
  replace hc1 := hc1.chg k2 (by first | (intro x h1 h2; exact h2) | (intro x h0 h1 h2; exact hS x h1 h2) | (intro x h0 h1 h2; have h3 : _ = _ := h2; subst h3; exact hSR h1.1) | (intro x h1 h2; have h3 : _ = _ := h2; subst h3; assumption) | (intro x h1 h2; have h3 : _ = _ := h2; exfalso; omega) | (intro b h1 h2 h3; have h4 : _ = _ := h3; (try dsimp only at h2); exfalso; omega) | (intro h1; have h2 : _ = _ := h1; exfalso; omega) | (intro h1; have h2 : _ ≤ _ := h1; exfalso; omega) | (intros; exfalso; (try dsimp only at *); omega) | (intro b h1 h2 h3; exfalso; have h4 := h3.2; (try dsimp only at *); omega) | (intro h1; exfalso; have h4 := h1.2; (try dsimp only at *); omega) | (intro x h1 h2; exfalso; have h4 := h2.2; (try dsimp only at *); omega) | (intro x h1 h2; exact ⟨_, rfl, h2⟩) | (intro x h1 h2; have h4 := h2.1; have h5 := h2.2; exfalso; omega) | (intro x h1 h2; exact h2.1) | (intro x h1 h2; rcases h2.1 with h3 | h3; exact h3; exfalso; omega) | (intro x h1 h2; rcases h2 with h3 | h3; exact h3; exfalso; omega))
  replace hc2 := hc2.chg k2 (by first | (intro x h1 h2; exact h2) | (intro x h0 h1 h2; exact hS x h1 h2) | (intro x h0 h1 h2; have h3 : _ = _ := h2; subst h3; exact hSR h1.1) | (intro x h1 h2; have h3 : _ = _ := h2; subst h3; assumption) | (intro x h1 h2; have h3 : _ = _ := h2; exfalso; omega) | (intro b h1 h2 h3; have h4 : _ = _ := h3; (try dsimp only at h2); exfalso; omega) | (intro h1; have h2 : _ = _ := h1; exfalso; omega) | (intro h1; have h2 : _ ≤ _ := h1; exfalso; omega) | (intros; exfalso; (try dsimp only at *); omega) | (intro b h1 h2 h3; exfalso; have h4 := h3.2; (try dsimp only at *); omega) | (intro h1; exfalso; have h4 := h1.2; (try dsimp only at *); omega) | (intro x h1 h2; exfalso; have h4 := h2.2; (try dsimp only at *); omega) | (intro x h1 h2; exact ⟨_, rfl, h2⟩) | (intro x h1 h2; have h4 := h2.1; have h5 := h2.2; exfalso; omega) | (intro x h1 h2; exact h2.1) | (intro x h1 h2; rcases h2.1 with h3 | h3; exact h3; exfalso; omega) | (intro x h1 h2; rcases h2 with h3 | h3; exact h3; exfalso; omega))
  replace hd_2 := hd_2.chg k2 (by first | (intro x h1 h2; exact h2) | (intro x h0 h1 h2; exact hS x h1 h2) | (intro x h0 h1 h2; have h3 : _ = _ := h2; subst h3; exact hSR h1.1) | (intro x h1 h2; have h3 : _ = _ := h2; subst h3; assumption) | (intro x h1 h2; have h3 : _ = _ := h2; exfalso; omega) | (intro b h1 h2 h3; have h4 : _ = _ := h3; (try dsimp only at h2); exfalso; omega) | (intro h1; have h2 : _ = _ := h1; exfalso; omega) | (intro h1; have h2 : _ ≤ _ := h1; exfalso; omega) | (intros; exfalso; (try dsimp only at *); omega) | (intro b h1 h2 h3; exfalso; have h4 := h3.2; (try dsimp only at *); omega) | (intro h1; exfalso; have h4 := h1.2; (try dsimp only at *); omega) | (intro x h1 h2; exfalso; have h4 := h2.2; (try dsimp only at *); omega) | (intro x h1 h2; exact ⟨_, rfl, h2⟩) | (intro x h1 h2; have h4 := h2.1; have h5 := h2.2; exfalso; omega) | (intro x h1 h2; exact h2.1) | (intro x h1 h2; rcases h2.1 with h3 | h3; exact h3; exfalso; omega) | (intro x h1 h2; rcases h2 with h3 | h3; exact h3; exfalso; omega))
  have hol : gs.length = (three (xss ((rs.take k).drop 0)) m ((rs.take k).drop 0).length).length := hO.len
  rw [show Value.slice (some ⟨go, 0, none⟩) 3 3 = Value.slice (some ⟨go, 0, none⟩) (orows gs m (three (xss ((rs.take k).drop 0)) m ((rs.take k).drop 0).length)).length 3 from by rw [orows_len hol, hgs]]
  refine WL.nil ?_
  refine WX.one ⟨hd_2, ?_⟩
  refine DL.step [(24, _), (27, _)] rfl ⟨rfl, rfl, trivial⟩ rfl (fun wq_14 kq_14 => ?_)
  have zs_kq_14 := kq_14.size
  replace hc := hc.pure kq_14
  replace hw := hw.pure kq_14
  replace hc1 := hc1.pure kq_14
  replace hc2 := hc2.pure kq_14
  replace hd_2 := hd_2.pure kq_14
  replace hO := hO.pure kq_14
  have hOr := hO.rs (S := fun _ => True) trivial (fun _ _ _ => trivial)
  refine WL.call eg_44 rfl rfl (equalFunc_calls hOr hc2 (by rw [orows_len hol]; omega)) ?_
  rintro v w3 ⟨rfl, k3⟩
  rw [xss_orows hol, hl1, xss_take, xss_drop]
  have zs_k3 := k3.size
  replace hc := hc.pure k3
  replace hw := hw.pure k3
  replace hc1 := hc1.pure k3
  replace hc2 := hc2.pure k3
  replace hd_2 := hd_2.pure k3
  replace hO := hO.pure k3
  refine WL.nil ?_
  refine WX.one ⟨hd_2, ?_⟩
  refine DL.step [(28, _)] rfl ⟨rfl, trivial⟩ rfl (fun wq_15 kq_15 => ?_)
  have zs_kq_15 := kq_15.size
  replace hc := hc.pure kq_15
  replace hw := hw.pure kq_15
  replace hc1 := hc1.pure kq_15
  replace hc2 := hc2.pure kq_15
  replace hd_2 := hd_2.pure kq_15
  refine WL.assign rfl rfl (?_)
  refine WL.nil ?_
  refine WX.one ⟨hd_2, ?_⟩
  refine DL.done (fun we_16 ke_16 => ?_)
  have zs_ke_16 := ke_16.size
  replace hc := hc.pure ke_16
  replace hw := hw.pure ke_16
  replace hc1 := hc1.pure ke_16
  replace hc2 := hc2.pure ke_16
  replace hd_2 := hd_2.pure ke_16
  refine WX.then_normal (WC.ret (?_))
  refine WX.ret2 (.inl rfl) Try.results22 rfl rfl ?_
  refine ⟨_, rfl, ?_, hw⟩
  rw [chk, hk3]
theorem check_bad {S : Nat → Prop} {w : World} {ao : Option Addr} {c : Nat} {rs : List Rw} (hc : RS S w ao c rs) (hl : rs.length * 24 ≤ 140737488351232) (h : ¬ rightR rs) :
    Calls Try.prog 22 [.slice ao rs.length c].toArray w (Ret fun v w' => v = .tuple #[.bool false, vi 1] ∧ Chg Nob w w') := by
  replace hc := hc.old
  have hw := Chg.refl Nob w
  refine Calls.of_WC Try.func22 rfl Try.ntmps22 (by simp) ?_
  refine WC.seq (WC.region (WL.assign rfl rfl (WL.assign rfl rfl (WL.nil (WX.then_normal (WC.seq (WC.region (?_))))))))
  refine WL.move rfl rfl (?_)
  refine WL.call eg_38 rfl rfl (right_bad hc hl h) ?_
  rintro v w1 ⟨rfl, k1⟩
  have zs_k1 := k1.size
  replace hc := hc.pure k1
  replace hw := hw.pure k1
  refine WL.move rfl rfl (WL.extract rfl rfl rfl (WL.extract rfl rfl rfl (WL.assign rfl rfl (WL.assign rfl rfl (WL.nil (WX.then_normal (WC.seq (?_))))))))
  refine WC.seq (WC.region (WL.move rfl rfl (?_)))
  refine WL.neq rfl rfl rfl ?_
  rw [show decide ((1 : Int) ≠ 0) = true from rfl]
  refine WL.nil (WX.then_normal (WC.cond_true rfl (WC.seq (WC.region (WL.move rfl rfl (WL.assign rfl rfl (WL.assign rfl rfl (?_))))))))
  refine WL.nil (WX.then_normal (WC.ret (WX.then_ret (?_))))
  refine WX.ret2 (.inl rfl) Try.results22 rfl rfl ?_
  exact ⟨_, rfl, rfl, hw⟩
end Go.Proofs.Ytjdbjdgobhjbkaa
/-! plain: bad columns told by bools; what stands in their places -/
namespace Go.HL
open Go.RowKit
/-- the columns of which some are other ones -/
structure Gv {α : Type} (all : List α) (bs : List Bool) (z : α) (i : Nat) (g : List α) : Prop where
  len : g.length = all.length
  at' : ∀ j, j < all.length → g[j]? = if j < i ∧ bs.getD j false = true then some z else all[j]?
theorem Gv.start {α : Type} (all : List α) (bs : List Bool) (z : α) : Gv all bs z 0 all := ⟨rfl, fun j _ => by rw [if_neg (by omega)]⟩
theorem Gv.skip {α : Type} {all g : List α} {bs : List Bool} {z : α} {i : Nat} (h : Gv all bs z i g) (hb : bs.getD i false = false) : Gv all bs z (i + 1) g := ⟨h.len, fun j hj => by
  rw [h.at' j hj]
  by_cases e : j = i
  · subst e
    rw [if_neg (by omega), if_neg (by rw [hb]; simp)]
  · by_cases e2 : j < i ∧ bs.getD j false = true
    · rw [if_pos e2, if_pos ⟨by omega, e2.2⟩]
    · rw [if_neg e2, if_neg (fun h => e2 ⟨by omega, h.2⟩)]⟩
theorem Gv.put {α : Type} {all g : List α} {bs : List Bool} {z : α} {i : Nat} (h : Gv all bs z i g) (hb : bs.getD i false = true) (hi : i < all.length) : Gv all bs z (i + 1) (g.set i z) := ⟨by rw [List.length_set]; exact h.len, fun j hj => by
  by_cases e : j = i
  · subst e
    rw [List.getElem?_set_self (by rw [h.len]; exact hj), if_pos ⟨by omega, hb⟩]
  · rw [List.getElem?_set_ne (fun e2 => e e2.symm), h.at' j hj]
    by_cases e2 : j < i ∧ bs.getD j false = true
    · rw [if_pos e2, if_pos ⟨by omega, e2.2⟩]
    · rw [if_neg e2, if_neg (fun h => e2 ⟨by omega, h.2⟩)]⟩
theorem Gv.keep {α : Type} {all g : List α} {bs : List Bool} {z : α} {i : Nat} (h : Gv all bs z i g) {j : Nat} (hj : j < all.length) (hb : ¬ (j < i ∧ bs.getD j false = true)) : g[j]? = all[j]? := by rw [h.at' j hj, if_neg hb]
end Go.HL
namespace Go.Proofs.Ytjdbjdgobhjbkaa
open Go.RowKit Go.HL
end Go.Proofs.Ytjdbjdgobhjbkaa
