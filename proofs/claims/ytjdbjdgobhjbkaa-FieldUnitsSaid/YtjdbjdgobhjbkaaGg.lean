import Derived.Test.YtjdbjdgobhjbkaaGf
namespace Go.Proofs.Ytjdbjdgobhjbkaa
open Go.RowKit Go.HL

theorem xss_orows : ∀ {gs : List Nat} {n : Nat} {ys : List (List UInt8)}, gs.length = ys.length → xss (orows gs n ys) = ys
  | [], n, [], _ => rfl
  | g :: gs, n, y :: ys, h => by
    have ih := xss_orows (gs := gs) (n := n) (ys := ys) (by simpa using h)
    simp only [xss, orows] at ih
    simp [xss, orows, ih]
  | [], n, y :: ys, h => by simp at h
  | g :: gs, n, [], h => by simp at h
theorem make_rs {S : Nat → Prop} {w : World} {ac : Option Addr} {cc : Nat} {rs : List Rw} {n : Nat} (hc : RS S w ac cc rs) (h13 : rs.length ≤ 13) (hn : lenC (xss rs) = (n : Int)) :
    Calls Try.prog 21 [.slice ac rs.length cc].toArray w (Ret fun v w' => (∃ (ao : Option Addr) (c : Nat) (ps : List Rw), v = .tuple #[.slice ao ps.length c, vi 0] ∧ RS (w.heap.size ≤ ·) w' ao c ps ∧ xss ps = three (xss rs) n rs.length) ∧ Chg Nob w w') := by
  refine (make_good hc h13 hn).mono ?_
  rintro e w' ⟨v, rfl, ⟨go, gs, rfl, hO, hg, hgo⟩, hw⟩
  have hl : gs.length = (three (xss rs) n rs.length).length := hO.len
  refine ⟨_, rfl, ⟨some ⟨go, 0, none⟩, 3, orows gs n (three (xss rs) n rs.length), ?_, hO.rs hgo (fun i g h => by have := hO.above i g h; omega), xss_orows hl⟩, hw⟩
  rw [orows_len hl, hg]
/-! the same columns? -/
set_option maxHeartbeats 1000000 in
theorem same_calls {S1 S2 : Nat → Prop} {w : World} {aa ab : Option Addr} {ca cb : Nat} {us vs : List Rw} (ha : RS S1 w aa ca us) (hb : RS S2 w ab cb vs) (hla : us.length ≤ 100000) :
    Calls Try.prog 20 [.slice aa us.length ca, .slice ab vs.length cb].toArray w (Ret fun v w' => v = .bool (decide (xss us = xss vs)) ∧ Chg Nob w w') := by
  replace ha := ha.old
  replace hb := hb.old
  have hw := Chg.refl Nob w
  refine Calls.of_WC Try.func20 rfl Try.ntmps20 (by simp) ?_
  refine WC.seq (WC.region (WL.assign rfl rfl (WL.nil (WX.then_normal (WC.seq (WC.seq (WC.region (?_))))))))
  refine WL.move rfl rfl (WL.len Try.underlying22 rfl rfl (WL.move rfl rfl (WL.len Try.underlying22 rfl rfl (?_))))
  refine WL.neq? rfl rfl rfl (fun h10 => ?_) (fun h10 => ?_)
  ·
    refine WL.nil (WX.then_normal (WC.cond_true rfl (WC.seq (WC.region (WL.assign rfl rfl (WL.nil (WX.then_normal (?_))))))))
    refine WC.ret (WX.then_ret (?_))
    refine WX.ret1 (.inl rfl) Try.results20 rfl ?_
    first
      | (refine ⟨_, rfl, congrArg Value.bool (decide_eq_false (fun h => ?_)).symm, hw⟩
         have h1 : (xss us)[i]? = (xss vs)[i]? := by rw [h]
         rw [xss, xss, List.getElem?_map, List.getElem?_map, hx, hy] at h1
         injection h1 with h1
         exact h27 (by rw [h1]))
      | (refine ⟨_, rfl, congrArg Value.bool (decide_eq_false (fun h => ?_)).symm, hw⟩
         have h1 := congrArg List.length h
         rw [xss, xss, List.length_map, List.length_map] at h1
         omega)
      | (refine ⟨_, rfl, congrArg Value.bool (decide_eq_true ?_).symm, hw⟩
         apply List.ext_getElem?
         intro j
         rw [xss, xss, List.getElem?_map, List.getElem?_map]
         rcases Nat.lt_or_ge j us.length with hj | hj
         ·
           obtain ⟨x, hx⟩ : ∃ x, us[j]? = some x := ⟨_, List.getElem?_eq_getElem hj⟩
           obtain ⟨y, hy⟩ : ∃ y, vs[j]? = some y := ⟨_, List.getElem?_eq_getElem (by omega)⟩
           rw [hx, hy, Option.map_some, Option.map_some, hall j x y (by omega) hx hy]
         ·
           rw [List.getElem?_eq_none (by omega), List.getElem?_eq_none (by omega)])
  ·
    refine WL.nil (WX.then_normal (WC.cond_false rfl (WC.skip (WX.then_normal (WC.seq (WC.seq (WC.region (?_))))))))
    refine WL.assign rfl rfl (WL.nil (WX.then_normal (WC.block (?_))))
    refine WC.loop (σ := Nat) (fun i => [(0, .slice aa us.length ca), (1, .slice ab vs.length cb), (5, vi i)])
      (fun i w' => i ≤ us.length ∧ (∀ (j : Nat) (x y : Rw), j < i → us[j]? = some x → vs[j]? = some y → x.xs = y.xs) ∧ RS (· < w.heap.size) w' aa ca us ∧ RS (· < w.heap.size) w' ab cb vs ∧ Chg Nob w w') (fun i => us.length - i) 0 ⟨rfl, rfl, rfl, trivial⟩ ⟨Nat.zero_le _, fun j x y h => absurd h (by omega), ha, hb, hw⟩ ?_
    clear ha hb hw
    rintro i w2 ⟨hi, hall, ha, hb, hw⟩
    refine WC.seq (WC.seq (WC.region (WL.move rfl rfl (WL.move rfl rfl (WL.len Try.underlying22 rfl rfl (?_))))))
    refine WL.lss? rfl rfl rfl (fun h14 => ?_) (fun h14 => ?_)
    ·
      refine WL.nil (WX.then_normal (WC.cond_true rfl (WC.skip (WX.then_normal (WC.seq (WC.block (WC.seq (?_))))))))
      obtain ⟨x, hx⟩ : ∃ x, us[i]? = some x := ⟨_, List.getElem?_eq_getElem (by omega)⟩
      obtain ⟨y, hy⟩ : ∃ y, vs[i]? = some y := ⟨_, List.getElem?_eq_getElem (by omega)⟩
      have hxr := ha.at hx
      have hyr := hb.at hy
      obtain ⟨b1, o1, rfl⟩ := ha.outer.place hx
      obtain ⟨b2, o2, rfl⟩ := hb.outer.place hy
      refine WC.draw (Nob) [0, 1, 2, 3, 4, 5, 6, 7, 8, 9, 10] [] mixed rfl rfl (fun wd_1 kd_1 zd_1 => ?_)
      have zs_kd_1 := kd_1.size
      replace ha := ha.pure kd_1
      replace hb := hb.pure kd_1
      replace hw := hw.pure kd_1
      replace hxr := hxr.pure kd_1
      replace hyr := hyr.pure kd_1
      apply DQ.step (E' := [(0, _)])
      case ho => rfl
      case hs => exact ⟨rfl, trivial⟩
      case hk => rfl
      case h1 =>
        intro wq_2 kq_2
        refine WL.move rfl rfl (?_)
        refine WL.nil ?_
        exact WX.one ⟨rfl, by first | exact Chg.refl _ _ | assumption⟩
      apply DQ.step (E' := [(5, _)])
      case ho => rfl
      case hs => exact ⟨rfl, trivial⟩
      case hk => rfl
      case h1 =>
        intro wq_3 kq_3
        refine WL.move rfl rfl (?_)
        refine WL.nil ?_
        exact WX.one ⟨rfl, by first | exact Chg.refl _ _ | assumption⟩
      apply DQ.step (E' := [(17, _), (18, _)])
      case ho => rfl
      case hs => exact ⟨rfl, rfl, trivial⟩
      case hk => rfl
      case h1 =>
        intro wq_4 kq_4
        have zs_kq_4 := kq_4.size
        replace ha := ha.pure kq_4
        replace hb := hb.pure kq_4
        replace hw := hw.pure kq_4
        replace hxr := hxr.pure kq_4
        replace hyr := hyr.pure kq_4
        refine WL.indexC ha.outer Try.underlying22 Try.sizeOf23 rfl rfl ⟨hx, rfl⟩ rfl ?_
        refine WL.nil ?_
        exact WX.one ⟨rfl, by first | exact Chg.refl _ _ | assumption⟩
      apply DQ.step (E' := [(19, _)])
      case ho => rfl
      case hs => exact ⟨rfl, trivial⟩
      case hk => rfl
      case h1 =>
        intro wq_5 kq_5
        have zs_kq_5 := kq_5.size
        replace ha := ha.pure kq_5
        replace hb := hb.pure kq_5
        replace hw := hw.pure kq_5
        replace hxr := hxr.pure kq_5
        replace hyr := hyr.pure kq_5
        refine WL.load Try.isAgg23 rfl ((ha.outer.cellsAt hx) 0 _ rfl) rfl (?_)
        refine WL.nil ?_
        exact WX.one ⟨rfl, by first | exact Chg.refl _ _ | assumption⟩
      apply DQ.step (E' := [(20, _)])
      case ho => rfl
      case hs => exact ⟨rfl, trivial⟩
      case hk => rfl
      case h1 =>
        intro wq_6 kq_6
        have zs_kq_6 := kq_6.size
        replace ha := ha.pure kq_6
        replace hb := hb.pure kq_6
        replace hw := hw.pure kq_6
        replace hxr := hxr.pure kq_6
        replace hyr := hyr.pure kq_6
        refine WL.toStr Try.underlying23 Try.underlying5 Try.underlying9 hxr rfl rfl ?_
        refine WL.nil ?_
        exact WX.one ⟨rfl, by first | exact Chg.refl _ _ | assumption⟩
      apply DQ.step (E' := [(1, _)])
      case ho => rfl
      case hs => exact ⟨rfl, trivial⟩
      case hk => rfl
      case h1 =>
        intro wq_7 kq_7
        refine WL.move rfl rfl (?_)
        refine WL.nil ?_
        exact WX.one ⟨rfl, by first | exact Chg.refl _ _ | assumption⟩
      apply DQ.step (E' := [(5, _)])
      case ho => rfl
      case hs => exact ⟨rfl, trivial⟩
      case hk => rfl
      case h1 =>
        intro wq_8 kq_8
        refine WL.move rfl rfl (?_)
        refine WL.nil ?_
        exact WX.one ⟨rfl, by first | exact Chg.refl _ _ | assumption⟩
      apply DQ.step (E' := [(22, _), (23, _)])
      case ho => rfl
      case hs => exact ⟨rfl, rfl, trivial⟩
      case hk => rfl
      case h1 =>
        intro wq_9 kq_9
        have zs_kq_9 := kq_9.size
        replace ha := ha.pure kq_9
        replace hb := hb.pure kq_9
        replace hw := hw.pure kq_9
        replace hxr := hxr.pure kq_9
        replace hyr := hyr.pure kq_9
        refine WL.indexC hb.outer Try.underlying22 Try.sizeOf23 rfl rfl ⟨hy, rfl⟩ rfl ?_
        refine WL.nil ?_
        exact WX.one ⟨rfl, by first | exact Chg.refl _ _ | assumption⟩
      apply DQ.step (E' := [(24, _)])
      case ho => rfl
      case hs => exact ⟨rfl, trivial⟩
      case hk => rfl
      case h1 =>
        intro wq_10 kq_10
        have zs_kq_10 := kq_10.size
        replace ha := ha.pure kq_10
        replace hb := hb.pure kq_10
        replace hw := hw.pure kq_10
        replace hxr := hxr.pure kq_10
        replace hyr := hyr.pure kq_10
        refine WL.load Try.isAgg23 rfl ((hb.outer.cellsAt hy) 0 _ rfl) rfl (?_)
        refine WL.nil ?_
        exact WX.one ⟨rfl, by first | exact Chg.refl _ _ | assumption⟩
      apply DQ.step (E' := [(25, _)])
      case ho => rfl
      case hs => exact ⟨rfl, trivial⟩
      case hk => rfl
      case h1 =>
        intro wq_11 kq_11
        have zs_kq_11 := kq_11.size
        replace ha := ha.pure kq_11
        replace hb := hb.pure kq_11
        replace hw := hw.pure kq_11
        replace hxr := hxr.pure kq_11
        replace hyr := hyr.pure kq_11
        refine WL.toStr Try.underlying23 Try.underlying5 Try.underlying9 hyr rfl rfl ?_
        refine WL.nil ?_
        exact WX.one ⟨rfl, by first | exact Chg.refl _ _ | assumption⟩
      apply DQ.split (E' := [(21, _), (26, _)])
      case ho => rfl
      case hs => exact ⟨rfl, rfl, trivial⟩
      case hk => rfl
      case h1 =>
        intro wq_12 kq_12
        refine WL.sneq rfl rfl rfl ?_
        refine WL.nil ?_
        exact WX.one ⟨rfl, by first | exact Chg.refl _ _ | assumption⟩
      case ht =>
        intro h27
        replace h27 := of_decide_eq_true h27
        refine DQ.done (fun _ => ?_)
        refine DL.done (fun we_13 ke_13 => ?_)
        have zs_ke_13 := ke_13.size
        replace ha := ha.pure ke_13
        replace hb := hb.pure ke_13
        replace hw := hw.pure ke_13
        replace hxr := hxr.pure ke_13
        replace hyr := hyr.pure ke_13
        refine WX.then_normal (WC.cond_true rfl (WC.seq (WC.region (WL.assign rfl rfl (WL.nil (WX.then_normal (WC.ret (?_))))))))
        refine WX.block_ret (WX.then_ret (WX.then_ret (WX.block_ret (WX.then_ret (?_)))))
        refine WX.ret1 (.inl rfl) Try.results20 rfl ?_
        first
          | (refine ⟨_, rfl, congrArg Value.bool (decide_eq_false (fun h => ?_)).symm, hw⟩
             have h1 : (xss us)[i]? = (xss vs)[i]? := by rw [h]
             rw [xss, xss, List.getElem?_map, List.getElem?_map, hx, hy] at h1
             injection h1 with h1
             exact h27 (by rw [h1]))
          | (refine ⟨_, rfl, congrArg Value.bool (decide_eq_false (fun h => ?_)).symm, hw⟩
             have h1 := congrArg List.length h
             rw [xss, xss, List.length_map, List.length_map] at h1
             omega)
          | (refine ⟨_, rfl, congrArg Value.bool (decide_eq_true ?_).symm, hw⟩
             apply List.ext_getElem?
             intro j
             rw [xss, xss, List.getElem?_map, List.getElem?_map]
             rcases Nat.lt_or_ge j us.length with hj | hj
             ·
               obtain ⟨x, hx⟩ : ∃ x, us[j]? = some x := ⟨_, List.getElem?_eq_getElem hj⟩
               obtain ⟨y, hy⟩ : ∃ y, vs[j]? = some y := ⟨_, List.getElem?_eq_getElem (by omega)⟩
               rw [hx, hy, Option.map_some, Option.map_some, hall j x y (by omega) hx hy]
             ·
               rw [List.getElem?_eq_none (by omega), List.getElem?_eq_none (by omega)])
      case hf =>
        intro h27
        replace h27 := of_decide_eq_false h27
        refine DQ.done (fun _ => ?_)
        refine DL.done (fun we_13 ke_13 => ?_)
        have zs_ke_13 := ke_13.size
        replace ha := ha.pure ke_13
        replace hb := hb.pure ke_13
        replace hw := hw.pure ke_13
        replace hxr := hxr.pure ke_13
        replace hyr := hyr.pure ke_13
        refine WX.then_normal (WC.cond_false rfl (WC.skip (WX.block_normal (WX.then_normal (WC.region (WL.move rfl rfl (WL.add64 rfl rfl (by first | omega | (constructor <;> omega)) rfl (?_))))))))
        refine WL.assign rfl rfl (WL.nil (?_))
        refine WX.loop_next (i + 1) ⟨rfl, rfl, rfl, trivial⟩ ⟨by omega, fun j x' y' h h1 h2 => ?_, ha, hb, hw⟩ (by show _ - _ < _ - _; omega)
        rcases Nat.lt_or_ge j i with h3 | h3
        ·
          exact hall j x' y' h3 h1 h2
        ·
          have hji : j = i := by omega
          subst hji
          rw [hx] at h1
          rw [hy] at h2
          injection h1 with h1
          injection h2 with h2
          have h4 := congrArg (fun s : ByteArray => s.data.toList) (Classical.not_not.1 h27)
          rw [← h1, ← h2]
          exact h4
    ·
      refine WL.nil (WX.then_normal (WC.cond_false rfl (WC.exit (WX.then_exit (WX.then_exit (WX.block_here (WX.then_normal (?_))))))))
      refine WC.seq (WC.region (WL.assign rfl rfl (WL.nil (WX.then_normal (WC.ret (?_))))))
      refine WX.ret1 (.inl rfl) Try.results20 rfl ?_
      first
        | (refine ⟨_, rfl, congrArg Value.bool (decide_eq_false (fun h => ?_)).symm, hw⟩
           have h1 : (xss us)[i]? = (xss vs)[i]? := by rw [h]
           rw [xss, xss, List.getElem?_map, List.getElem?_map, hx, hy] at h1
           injection h1 with h1
           exact h27 (by rw [h1]))
        | (refine ⟨_, rfl, congrArg Value.bool (decide_eq_false (fun h => ?_)).symm, hw⟩
           have h1 := congrArg List.length h
           rw [xss, xss, List.length_map, List.length_map] at h1
           omega)
        | (refine ⟨_, rfl, congrArg Value.bool (decide_eq_true ?_).symm, hw⟩
           apply List.ext_getElem?
           intro j
           rw [xss, xss, List.getElem?_map, List.getElem?_map]
           rcases Nat.lt_or_ge j us.length with hj | hj
           ·
             obtain ⟨x, hx⟩ : ∃ x, us[j]? = some x := ⟨_, List.getElem?_eq_getElem hj⟩
             obtain ⟨y, hy⟩ : ∃ y, vs[j]? = some y := ⟨_, List.getElem?_eq_getElem (by omega)⟩
             rw [hx, hy, Option.map_some, Option.map_some, hall j x y (by omega) hx hy]
           ·
             rw [List.getElem?_eq_none (by omega), List.getElem?_eq_none (by omega)])
theorem small_calls {S : Nat → Prop} {w : World} {ao : Option Addr} {c : Nat} {rs : List Rw} (hc : RS S w ao c rs) (hl : rs.length * 24 ≤ 140737488351232 ∧ ∀ r ∈ rs, r.xs.length ≤ 140737488351232) :
    Calls Try.prog 17 [.slice ao rs.length c].toArray w (Ret fun v w' => (∃ b : Bool, v = .bool b) ∧ Chg Nob w w') := by
  replace hc := hc.old
  have hw := Chg.refl Nob w
  have hl1 := hl.1
  refine Calls.of_WC Try.func17 rfl Try.ntmps17 (by simp) ?_
  refine WC.seq (WC.region (WL.assign rfl rfl (WL.nil (WX.then_normal (WC.seq (WC.region (WL.assign rfl rfl (?_))))))))
  refine WL.nil (WX.then_normal (WC.seq (WC.seq (WC.region (WL.assign rfl rfl (WL.nil (WX.then_normal (?_))))))))
  refine WC.block (?_)
  refine WC.loop (σ := Nat × Nat) (fun q => [(0, .slice ao rs.length c), (3, vi q.2), (4, vi q.1)])
    (fun q w' => q.1 ≤ rs.length ∧ q.2 ≤ 140737488353300 ∧ RS (· < w.heap.size) w' ao c rs ∧ Chg Nob w w') (fun q => rs.length - q.1) (0, 0) ⟨rfl, rfl, rfl, trivial⟩ ⟨Nat.zero_le _, by decide, hc, hw⟩ ?_
  clear hc hw
  rintro ⟨i, n⟩ w2 ⟨hi, hn, hc, hw⟩
  dsimp only at hi hn hc hw ⊢
  refine WC.seq (WC.seq (WC.region (WL.move rfl rfl (WL.move rfl rfl (WL.len Try.underlying22 rfl rfl (?_))))))
  refine WL.lss? rfl rfl rfl (fun h8 => ?_) (fun h8 => ?_)
  ·
    refine WL.move rfl rfl (WL.want rfl rfl rfl (WL.move rfl rfl (WL.want rfl rfl rfl (?_))))
    refine WL.leq? rfl rfl rfl (fun h11 => ?_) (fun h11 => ?_)
    ·
      refine WL.pickT rfl rfl rfl (WL.nil (WX.then_normal (WC.cond_true rfl (WC.skip (WX.then_normal (WC.seq (WC.block (?_))))))))
      refine WC.region (WL.move rfl rfl (WL.move rfl rfl (WL.move rfl rfl (?_))))
      obtain ⟨r, hr⟩ : ∃ r, rs[i]? = some r := ⟨_, List.getElem?_eq_getElem (by omega)⟩
      have hrl := hl.2 r (List.mem_of_getElem? hr)
      refine WL.indexT Try.underlying22 Try.sizeOf23 hc.outer rfl rfl ⟨hr, rfl⟩ rfl ?_
      intro b_1 o_1 hc_1
      refine WL.load Try.isAgg23 rfl (hc_1 0 _ rfl) rfl (WL.len Try.underlying23 rfl rfl (WL.add64 rfl rfl (by first | omega | (constructor <;> omega)) rfl (WL.assign rfl rfl (WL.nil (WX.block_normal (WX.then_normal (WC.region (?_))))))))
      refine WL.move rfl rfl (WL.add64 rfl rfl (by first | omega | (constructor <;> omega)) rfl (WL.assign rfl rfl (WL.nil (?_))))
      refine WX.loop_next (i + 1, n + r.xs.length) ⟨rfl, rfl, rfl, trivial⟩ ⟨by dsimp only; omega, by dsimp only; omega, hc, hw⟩ (by show _ - _ < _ - _; omega)
    ·
      refine WL.pickT rfl rfl rfl (WL.nil (WX.then_normal (WC.cond_false rfl (WC.exit (WX.then_exit (WX.then_exit (WX.block_here (?_))))))))
      refine WX.then_normal (WC.seq (WC.region (WL.move rfl rfl (WL.leq rfl rfl rfl (WL.assign rfl rfl (WL.nil (WX.then_normal (?_))))))))
      refine WC.ret (?_)
      refine WX.ret1 (.inl rfl) Try.results17 rfl ?_
      exact ⟨_, rfl, ⟨_, rfl⟩, hw⟩
  ·
    refine WL.move rfl rfl (WL.pass rfl rfl rfl rfl (WL.pass rfl rfl rfl rfl (WL.pickF rfl rfl rfl (WL.nil (WX.then_normal (WC.cond_false rfl (WC.exit (?_))))))))
    refine WX.then_exit (WX.then_exit (WX.block_here (WX.then_normal (WC.seq (WC.region (WL.move rfl rfl (WL.leq rfl rfl rfl (?_))))))))
    refine WL.assign rfl rfl (WL.nil (WX.then_normal (WC.ret (?_))))
    refine WX.ret1 (.inl rfl) Try.results17 rfl ?_
    exact ⟨_, rfl, ⟨_, rfl⟩, hw⟩
set_option maxRecDepth 100000 in
theorem three_small : lenC [[1], [1]] = ((1 : Nat) : Int) ∧ three [[1], [1]] 1 2 = [[0], [3], [5]] := by decide +kernel
set_option maxHeartbeats 1000000 in
theorem known3_calls (w : World) : Calls Try.prog 16 [].toArray w (Ret fun v w' => v = .bool true ∧ Chg Nob w w') := by
  have hw := Chg.refl Nob w
  refine Calls.of_WC Try.func16 rfl Try.ntmps16 (by simp) ?_
  refine WC.seq (WC.region (WL.assign rfl rfl (WL.nil (WX.then_normal (WC.seq (WC.region (?_)))))))
  refine WL.build (e := eb) [1] Try.underlying23 Try.sizeOf5 Try.zeroValue5 rfl rfl rfl (by first | (simp [Value.cells]; done) | (simp [Value.cells] <;> rfl) | (simp [Value.cells, eb, ei, es, ebool, e32, e64]; done)) (by decide) rfl ?_
  intro a_h1 w_h1 h1 l_h1 z_h1 k_h1
  have zs_k_h1 := k_h1.size
  replace hw := hw.pure k_h1
  refine WL.build (e := eb) [1] Try.underlying23 Try.sizeOf5 Try.zeroValue5 rfl rfl rfl (by first | (simp [Value.cells]; done) | (simp [Value.cells] <;> rfl) | (simp [Value.cells, eb, ei, es, ebool, e32, e64]; done)) (by decide) rfl ?_
  intro a_h2 w_h2 h2 l_h2 z_h2 k_h2
  have zs_k_h2 := k_h2.size
  replace hw := hw.pure k_h2
  replace h1 := h1.pure k_h2
  refine WL.build (e := erow) [⟨a_h1, 1, [1]⟩, ⟨a_h2, 1, [1]⟩] Try.underlying22 Try.sizeOf23 Try.zeroValue23 rfl rfl rfl (by first | (simp [Value.cells]; done) | (simp [Value.cells] <;> rfl) | (simp [Value.cells, eb, ei, es, ebool, e32, e64]; done)) (by decide) rfl ?_
  intro a_h3 w_h3 h3 l_h3 z_h3 k_h3
  have zs_k_h3 := k_h3.size
  replace hw := hw.pure k_h3
  replace h1 := h1.pure k_h3
  replace h2 := h2.pure k_h3
  have hc : RS (fun _ => True) w_h3 a_h3 2 [⟨a_h1, 1, [1]⟩, ⟨a_h2, 1, [1]⟩] := by
    refine ⟨h3.rsl.mono (fun _ _ => trivial), fun r hr => ?_⟩
    simp only [List.mem_cons, List.not_mem_nil, or_false] at hr
    rcases hr with rfl | rfl
    ·
      exact h1.rsl.mono (fun _ _ => trivial)
    ·
      exact h2.rsl.mono (fun _ _ => trivial)
  refine WL.call eg_21 rfl rfl (make_rs hc (by show 2 ≤ 13; decide) three_small.1) ?_
  rintro v w1 ⟨⟨ao, c, ps, rfl, hp, hps⟩, k⟩
  have zs_k := k.size
  replace hw := hw.pure k
  replace hp := hp.old
  replace hps : xss ps = [[0], [3], [5]] := hps.trans three_small.2
  refine WL.move rfl rfl (WL.extract rfl rfl rfl (WL.extract rfl rfl rfl (WL.assign rfl rfl (WL.assign rfl rfl (WL.nil (WX.then_normal (WC.seq (?_))))))))
  refine WC.region (WL.move rfl rfl (?_))
  refine WL.eql rfl rfl rfl ?_
  rw [show decide ((0 : Int) = 0) = true from rfl]
  refine WL.move rfl rfl (WL.want rfl rfl rfl (WL.move rfl rfl (WL.want rfl rfl rfl (?_))))
  refine WL.build (e := eb) [0] Try.underlying23 Try.sizeOf5 Try.zeroValue5 rfl rfl rfl (by first | (simp [Value.cells]; done) | (simp [Value.cells] <;> rfl) | (simp [Value.cells, eb, ei, es, ebool, e32, e64]; done)) (by decide) rfl ?_
  intro a_h4 w_h4 h4 l_h4 z_h4 k_h4
  have zs_k_h4 := k_h4.size
  replace hw := hw.pure k_h4
  replace hp := hp.pure k_h4
  refine WL.want rfl rfl rfl (?_)
  refine WL.build (e := eb) [3] Try.underlying23 Try.sizeOf5 Try.zeroValue5 rfl rfl rfl (by first | (simp [Value.cells]; done) | (simp [Value.cells] <;> rfl) | (simp [Value.cells, eb, ei, es, ebool, e32, e64]; done)) (by decide) rfl ?_
  intro a_h5 w_h5 h5 l_h5 z_h5 k_h5
  have zs_k_h5 := k_h5.size
  replace hw := hw.pure k_h5
  replace hp := hp.pure k_h5
  replace h4 := h4.pure k_h5
  refine WL.want rfl rfl rfl (?_)
  refine WL.build (e := eb) [5] Try.underlying23 Try.sizeOf5 Try.zeroValue5 rfl rfl rfl (by first | (simp [Value.cells]; done) | (simp [Value.cells] <;> rfl) | (simp [Value.cells, eb, ei, es, ebool, e32, e64]; done)) (by decide) rfl ?_
  intro a_h6 w_h6 h6 l_h6 z_h6 k_h6
  have zs_k_h6 := k_h6.size
  replace hw := hw.pure k_h6
  replace hp := hp.pure k_h6
  replace h4 := h4.pure k_h6
  replace h5 := h5.pure k_h6
  refine WL.want rfl rfl rfl (?_)
  refine WL.build (e := erow) [⟨a_h4, 1, [0]⟩, ⟨a_h5, 1, [3]⟩, ⟨a_h6, 1, [5]⟩] Try.underlying22 Try.sizeOf23 Try.zeroValue23 rfl rfl rfl (by first | (simp [Value.cells]; done) | (simp [Value.cells] <;> rfl) | (simp [Value.cells, eb, ei, es, ebool, e32, e64]; done)) (by decide) rfl ?_
  intro a_h7 w_h7 h7 l_h7 z_h7 k_h7
  have zs_k_h7 := k_h7.size
  replace hw := hw.pure k_h7
  replace hp := hp.pure k_h7
  replace h4 := h4.pure k_h7
  replace h5 := h5.pure k_h7
  replace h6 := h6.pure k_h7
  refine WL.want rfl rfl rfl (?_)
  have hd : RS (fun _ => True) w_h7 a_h7 3 [⟨a_h4, 1, [0]⟩, ⟨a_h5, 1, [3]⟩, ⟨a_h6, 1, [5]⟩] := by
    refine ⟨h7.rsl.mono (fun _ _ => trivial), fun r hr => ?_⟩
    simp only [List.mem_cons, List.not_mem_nil, or_false] at hr
    rcases hr with rfl | rfl | rfl
    ·
      exact h4.rsl.mono (fun _ _ => trivial)
    ·
      exact h5.rsl.mono (fun _ _ => trivial)
    ·
      exact h6.rsl.mono (fun _ _ => trivial)
  have hp3 : ps.length = 3 := by have := congrArg List.length hps; rw [xss, List.length_map] at this; exact this
  refine WL.call eg_20 rfl rfl (same_calls hp hd (by omega)) ?_
  rintro v w1 ⟨rfl, k⟩
  rw [hps, show decide (([[0], [3], [5]] : List (List UInt8)) = xss [⟨a_h4, 1, [0]⟩, ⟨a_h5, 1, [3]⟩, ⟨a_h6, 1, [5]⟩]) = true from decide_eq_true rfl]
  have zs_k := k.size
  replace hw := hw.pure k
  replace hp := hp.pure k
  refine WL.pickT rfl rfl rfl (WL.assign rfl rfl (WL.nil (WX.then_normal (WC.ret (?_)))))
  refine WX.ret1 (.inl rfl) Try.results16 rfl ?_
  exact ⟨_, rfl, rfl, hw⟩
end Go.Proofs.Ytjdbjdgobhjbkaa
