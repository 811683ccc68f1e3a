import Derived.Test.YtjdbjdgobhjbkaaQParityApart3
namespace Go.Proofs.Ytjdbjdgobhjbkaa
open Go.RowKit Go.HL

theorem xss_orows : ∀ {gs : List Nat} {n : Nat} {ys : List (List UInt8)}, gs.length = ys.length → xss (orows gs n ys) = ys
  | [], n, [], _ => rfl
  | g :: gs, n, y :: ys, h => by
    have ih := xss_orows (gs := gs) (n := n) (ys := ys) (by simpa using h)
    simp only [xss, orows] at ih
    simp [xss, orows, ih]
  | [], n, y :: ys, h => by simp at h
  | g :: gs, n, [], h => by simp at h
theorem make_rs {S : Nat → Prop} {w : World} {ac : Option Addr} {cc : Nat} {rs : List Rw} {n : Nat} (hc : RS S w ac cc rs) (h13 : rs.length ≤ 13) (hn : lenC (xss rs) = (n : Int)) :
    Calls Try.prog 21 [.slice ac rs.length cc].toArray w (Ret fun v w' => (∃ (ao : Option Addr) (c : Nat) (ps : List Rw), v = .tuple #[.slice ao ps.length c, vi 0] ∧ RS (w.heap.size ≤ ·) w' ao c ps ∧ xss ps = three (xss rs) n rs.length) ∧ Chg Nob w w') := by
  refine (make_good hc h13 hn).mono ?_
  rintro e w' ⟨v, rfl, ⟨go, gs, rfl, hO, hg, hgo⟩, hw⟩
  have hl : gs.length = (three (xss rs) n rs.length).length := hO.len
  refine ⟨_, rfl, ⟨some ⟨go, 0, none⟩, 3, orows gs n (three (xss rs) n rs.length), ?_, hO.rs hgo (fun i g h => by have := hO.above i g h; omega), xss_orows hl⟩, hw⟩
  rw [orows_len hl, hg]
/-! the same columns? -/
set_option maxHeartbeats 1000000 in
theorem same_calls {S1 S2 : Nat → Prop} {w : World} {aa ab : Option Addr} {ca cb : Nat} {us vs : List Rw} (ha : RS S1 w aa ca us) (hb : RS S2 w ab cb vs) (hla : us.length ≤ 1000000000) :
    Calls Try.prog 20 [.slice aa us.length ca, .slice ab vs.length cb].toArray w (Ret fun v w' => v = .bool (decide (xss us = xss vs)) ∧ Chg Nob w w') := by
  replace ha := ha.old
  replace hb := hb.old
  have hw := Chg.refl Nob w
  refine Calls.of_WC Try.func20 rfl Try.ntmps20 (by simp) ?_
  refine WC.seq (WC.region (WL.assign rfl rfl (WL.nil (WX.then_normal (WC.seq (WC.seq (WC.region (?_))))))))
  refine WL.move rfl rfl (WL.len Try.underlying22 rfl rfl (WL.move rfl rfl (WL.len Try.underlying22 rfl rfl (?_))))
  refine WL.neq? rfl rfl rfl (fun h10 => ?_) (fun h10 => ?_)
  ·
    refine WL.nil (WX.then_normal (WC.cond_true rfl (WC.seq (WC.region (WL.assign rfl rfl (WL.nil (WX.then_normal (?_))))))))
    refine WC.ret (WX.then_ret (?_))
    refine WX.ret1 (.inl rfl) Try.results20 rfl ?_
    first
      | (refine ⟨_, rfl, congrArg Value.bool (decide_eq_false (fun h => ?_)).symm, hw⟩
         have h1 : (xss us)[i]? = (xss vs)[i]? := by rw [h]
         rw [xss, xss, List.getElem?_map, List.getElem?_map, hx, hy] at h1
         injection h1 with h1
         exact h27 (by rw [h1]))
      | (refine ⟨_, rfl, congrArg Value.bool (decide_eq_false (fun h => ?_)).symm, hw⟩
         have h1 := congrArg List.length h
         rw [xss, xss, List.length_map, List.length_map] at h1
         omega)
      | (refine ⟨_, rfl, congrArg Value.bool (decide_eq_true ?_).symm, hw⟩
         apply List.ext_getElem?
         intro j
         rw [xss, xss, List.getElem?_map, List.getElem?_map]
         rcases Nat.lt_or_ge j us.length with hj | hj
         ·
           obtain ⟨x, hx⟩ : ∃ x, us[j]? = some x := ⟨_, List.getElem?_eq_getElem hj⟩
           obtain ⟨y, hy⟩ : ∃ y, vs[j]? = some y := ⟨_, List.getElem?_eq_getElem (by omega)⟩
           rw [hx, hy, Option.map_some, Option.map_some, hall j x y (by omega) hx hy]
         ·
           rw [List.getElem?_eq_none (by omega), List.getElem?_eq_none (by omega)])
  ·
    refine WL.nil (WX.then_normal (WC.cond_false rfl (WC.skip (WX.then_normal (WC.seq (WC.seq (WC.region (?_))))))))
    refine WL.assign rfl rfl (WL.nil (WX.then_normal (WC.block (?_))))
    refine WC.loop (σ := Nat) (fun i => [(0, .slice aa us.length ca), (1, .slice ab vs.length cb), (5, vi i)])
      (fun i w' => i ≤ us.length ∧ (∀ (j : Nat) (x y : Rw), j < i → us[j]? = some x → vs[j]? = some y → x.xs = y.xs) ∧ RS (· < w.heap.size) w' aa ca us ∧ RS (· < w.heap.size) w' ab cb vs ∧ Chg Nob w w') (fun i => us.length - i) 0 ⟨rfl, rfl, rfl, trivial⟩ ⟨Nat.zero_le _, fun j x y h => absurd h (by omega), ha, hb, hw⟩ ?_
    clear ha hb hw
    rintro i w2 ⟨hi, hall, ha, hb, hw⟩
    refine WC.seq (WC.seq (WC.region (WL.move rfl rfl (WL.move rfl rfl (WL.len Try.underlying22 rfl rfl (?_))))))
    refine WL.lss? rfl rfl rfl (fun h14 => ?_) (fun h14 => ?_)
    ·
      refine WL.nil (WX.then_normal (WC.cond_true rfl (WC.skip (WX.then_normal (WC.seq (WC.block (WC.seq (?_))))))))
      obtain ⟨x, hx⟩ : ∃ x, us[i]? = some x := ⟨_, List.getElem?_eq_getElem (by omega)⟩
      obtain ⟨y, hy⟩ : ∃ y, vs[i]? = some y := ⟨_, List.getElem?_eq_getElem (by omega)⟩
      have hxr := ha.at hx
      have hyr := hb.at hy
      obtain ⟨b1, o1, rfl⟩ := ha.outer.place hx
      obtain ⟨b2, o2, rfl⟩ := hb.outer.place hy
      refine WC.draw (Nob) [0, 1, 2, 3, 4, 5, 6, 7, 8, 9, 10] [] mixed rfl rfl (fun wd_1 kd_1 zd_1 => ?_)
      have zs_kd_1 := kd_1.size
      replace ha := ha.pure kd_1
      replace hb := hb.pure kd_1
      replace hw := hw.pure kd_1
      replace hxr := hxr.pure kd_1
      replace hyr := hyr.pure kd_1
      apply DQ.step (E' := [(0, _)])
      case ho => rfl
      case hs => exact ⟨rfl, trivial⟩
      case hk => rfl
      case h1 =>
        intro wq_2 kq_2
        refine WL.move rfl rfl (?_)
        refine WL.nil ?_
        exact WX.one ⟨rfl, by first | exact Chg.refl _ _ | assumption⟩
      apply DQ.step (E' := [(5, _)])
      case ho => rfl
      case hs => exact ⟨rfl, trivial⟩
      case hk => rfl
      case h1 =>
        intro wq_3 kq_3
        refine WL.move rfl rfl (?_)
        refine WL.nil ?_
        exact WX.one ⟨rfl, by first | exact Chg.refl _ _ | assumption⟩
      apply DQ.step (E' := [(17, _), (18, _)])
      case ho => rfl
      case hs => exact ⟨rfl, rfl, trivial⟩
      case hk => rfl
      case h1 =>
        intro wq_4 kq_4
        have zs_kq_4 := kq_4.size
        replace ha := ha.pure kq_4
        replace hb := hb.pure kq_4
        replace hw := hw.pure kq_4
        replace hxr := hxr.pure kq_4
        replace hyr := hyr.pure kq_4
        refine WL.indexC ha.outer Try.underlying22 Try.sizeOf23 rfl rfl ⟨hx, rfl⟩ rfl ?_
        refine WL.nil ?_
        exact WX.one ⟨rfl, by first | exact Chg.refl _ _ | assumption⟩
      apply DQ.step (E' := [(19, _)])
      case ho => rfl
      case hs => exact ⟨rfl, trivial⟩
      case hk => rfl
      case h1 =>
        intro wq_5 kq_5
        have zs_kq_5 := kq_5.size
        replace ha := ha.pure kq_5
        replace hb := hb.pure kq_5
        replace hw := hw.pure kq_5
        replace hxr := hxr.pure kq_5
        replace hyr := hyr.pure kq_5
        refine WL.load Try.isAgg23 rfl ((ha.outer.cellsAt hx) 0 _ rfl) rfl (?_)
        refine WL.nil ?_
        exact WX.one ⟨rfl, by first | exact Chg.refl _ _ | assumption⟩
      apply DQ.step (E' := [(20, _)])
      case ho => rfl
      case hs => exact ⟨rfl, trivial⟩
      case hk => rfl
      case h1 =>
        intro wq_6 kq_6
        have zs_kq_6 := kq_6.size
        replace ha := ha.pure kq_6
        replace hb := hb.pure kq_6
        replace hw := hw.pure kq_6
        replace hxr := hxr.pure kq_6
        replace hyr := hyr.pure kq_6
        refine WL.toStr Try.underlying23 Try.underlying5 Try.underlying9 hxr rfl rfl ?_
        refine WL.nil ?_
        exact WX.one ⟨rfl, by first | exact Chg.refl _ _ | assumption⟩
      apply DQ.step (E' := [(1, _)])
      case ho => rfl
      case hs => exact ⟨rfl, trivial⟩
      case hk => rfl
      case h1 =>
        intro wq_7 kq_7
        refine WL.move rfl rfl (?_)
        refine WL.nil ?_
        exact WX.one ⟨rfl, by first | exact Chg.refl _ _ | assumption⟩
      apply DQ.step (E' := [(5, _)])
      case ho => rfl
      case hs => exact ⟨rfl, trivial⟩
      case hk => rfl
      case h1 =>
        intro wq_8 kq_8
        refine WL.move rfl rfl (?_)
        refine WL.nil ?_
        exact WX.one ⟨rfl, by first | exact Chg.refl _ _ | assumption⟩
      apply DQ.step (E' := [(22, _), (23, _)])
      case ho => rfl
      case hs => exact ⟨rfl, rfl, trivial⟩
      case hk => rfl
      case h1 =>
        intro wq_9 kq_9
        have zs_kq_9 := kq_9.size
        replace ha := ha.pure kq_9
        replace hb := hb.pure kq_9
        replace hw := hw.pure kq_9
        replace hxr := hxr.pure kq_9
        replace hyr := hyr.pure kq_9
        refine WL.indexC hb.outer Try.underlying22 Try.sizeOf23 rfl rfl ⟨hy, rfl⟩ rfl ?_
        refine WL.nil ?_
        exact WX.one ⟨rfl, by first | exact Chg.refl _ _ | assumption⟩
      apply DQ.step (E' := [(24, _)])
      case ho => rfl
      case hs => exact ⟨rfl, trivial⟩
      case hk => rfl
      case h1 =>
        intro wq_10 kq_10
        have zs_kq_10 := kq_10.size
        replace ha := ha.pure kq_10
        replace hb := hb.pure kq_10
        replace hw := hw.pure kq_10
        replace hxr := hxr.pure kq_10
        replace hyr := hyr.pure kq_10
        refine WL.load Try.isAgg23 rfl ((hb.outer.cellsAt hy) 0 _ rfl) rfl (?_)
        refine WL.nil ?_
        exact WX.one ⟨rfl, by first | exact Chg.refl _ _ | assumption⟩
      apply DQ.step (E' := [(25, _)])
      case ho => rfl
      case hs => exact ⟨rfl, trivial⟩
      case hk => rfl
      case h1 =>
        intro wq_11 kq_11
        have zs_kq_11 := kq_11.size
        replace ha := ha.pure kq_11
        replace hb := hb.pure kq_11
        replace hw := hw.pure kq_11
        replace hxr := hxr.pure kq_11
        replace hyr := hyr.pure kq_11
        refine WL.toStr Try.underlying23 Try.underlying5 Try.underlying9 hyr rfl rfl ?_
        refine WL.nil ?_
        exact WX.one ⟨rfl, by first | exact Chg.refl _ _ | assumption⟩
      apply DQ.split (E' := [(21, _), (26, _)])
      case ho => rfl
      case hs => exact ⟨rfl, rfl, trivial⟩
      case hk => rfl
      case h1 =>
        intro wq_12 kq_12
        refine WL.sneq rfl rfl rfl ?_
        refine WL.nil ?_
        exact WX.one ⟨rfl, by first | exact Chg.refl _ _ | assumption⟩
      case ht =>
        intro h27
        replace h27 := of_decide_eq_true h27
        refine DQ.done (fun _ => ?_)
        refine DL.done (fun we_13 ke_13 => ?_)
        have zs_ke_13 := ke_13.size
        replace ha := ha.pure ke_13
        replace hb := hb.pure ke_13
        replace hw := hw.pure ke_13
        replace hxr := hxr.pure ke_13
        replace hyr := hyr.pure ke_13
        refine WX.then_normal (WC.cond_true rfl (WC.seq (WC.region (WL.assign rfl rfl (WL.nil (WX.then_normal (WC.ret (?_))))))))
        refine WX.block_ret (WX.then_ret (WX.then_ret (WX.block_ret (WX.then_ret (?_)))))
        refine WX.ret1 (.inl rfl) Try.results20 rfl ?_
        first
          | (refine ⟨_, rfl, congrArg Value.bool (decide_eq_false (fun h => ?_)).symm, hw⟩
             have h1 : (xss us)[i]? = (xss vs)[i]? := by rw [h]
             rw [xss, xss, List.getElem?_map, List.getElem?_map, hx, hy] at h1
             injection h1 with h1
             exact h27 (by rw [h1]))
          | (refine ⟨_, rfl, congrArg Value.bool (decide_eq_false (fun h => ?_)).symm, hw⟩
             have h1 := congrArg List.length h
             rw [xss, xss, List.length_map, List.length_map] at h1
             omega)
          | (refine ⟨_, rfl, congrArg Value.bool (decide_eq_true ?_).symm, hw⟩
             apply List.ext_getElem?
             intro j
             rw [xss, xss, List.getElem?_map, List.getElem?_map]
             rcases Nat.lt_or_ge j us.length with hj | hj
             ·
               obtain ⟨x, hx⟩ : ∃ x, us[j]? = some x := ⟨_, List.getElem?_eq_getElem hj⟩
               obtain ⟨y, hy⟩ : ∃ y, vs[j]? = some y := ⟨_, List.getElem?_eq_getElem (by omega)⟩
               rw [hx, hy, Option.map_some, Option.map_some, hall j x y (by omega) hx hy]
             ·
               rw [List.getElem?_eq_none (by omega), List.getElem?_eq_none (by omega)])
      case hf =>
        intro h27
        replace h27 := of_decide_eq_false h27
        refine DQ.done (fun _ => ?_)
        refine DL.done (fun we_13 ke_13 => ?_)
        have zs_ke_13 := ke_13.size
        replace ha := ha.pure ke_13
        replace hb := hb.pure ke_13
        replace hw := hw.pure ke_13
        replace hxr := hxr.pure ke_13
        replace hyr := hyr.pure ke_13
        refine WX.then_normal (WC.cond_false rfl (WC.skip (WX.block_normal (WX.then_normal (WC.region (WL.move rfl rfl (WL.add64 rfl rfl (by first | omega | (constructor <;> omega)) rfl (?_))))))))
        refine WL.assign rfl rfl (WL.nil (?_))
        refine WX.loop_next (i + 1) ⟨rfl, rfl, rfl, trivial⟩ ⟨by omega, fun j x' y' h h1 h2 => ?_, ha, hb, hw⟩ (by show _ - _ < _ - _; omega)
        rcases Nat.lt_or_ge j i with h3 | h3
        ·
          exact hall j x' y' h3 h1 h2
        ·
          have hji : j = i := by omega
          subst hji
          rw [hx] at h1
          rw [hy] at h2
          injection h1 with h1
          injection h2 with h2
          have h4 := congrArg (fun s : ByteArray => s.data.toList) (Classical.not_not.1 h27)
          rw [← h1, ← h2]
          exact h4
    ·
      refine WL.nil (WX.then_normal (WC.cond_false rfl (WC.exit (WX.then_exit (WX.then_exit (WX.block_here (WX.then_normal (?_))))))))
      refine WC.seq (WC.region (WL.assign rfl rfl (WL.nil (WX.then_normal (WC.ret (?_))))))
      refine WX.ret1 (.inl rfl) Try.results20 rfl ?_
      first
        | (refine ⟨_, rfl, congrArg Value.bool (decide_eq_false (fun h => ?_)).symm, hw⟩
           have h1 : (xss us)[i]? = (xss vs)[i]? := by rw [h]
           rw [xss, xss, List.getElem?_map, List.getElem?_map, hx, hy] at h1
           injection h1 with h1
           exact h27 (by rw [h1]))
        | (refine ⟨_, rfl, congrArg Value.bool (decide_eq_false (fun h => ?_)).symm, hw⟩
           have h1 := congrArg List.length h
           rw [xss, xss, List.length_map, List.length_map] at h1
           omega)
        | (refine ⟨_, rfl, congrArg Value.bool (decide_eq_true ?_).symm, hw⟩
           apply List.ext_getElem?
           intro j
           rw [xss, xss, List.getElem?_map, List.getElem?_map]
           rcases Nat.lt_or_ge j us.length with hj | hj
           ·
             obtain ⟨x, hx⟩ : ∃ x, us[j]? = some x := ⟨_, List.getElem?_eq_getElem hj⟩
             obtain ⟨y, hy⟩ : ∃ y, vs[j]? = some y := ⟨_, List.getElem?_eq_getElem (by omega)⟩
             rw [hx, hy, Option.map_some, Option.map_some, hall j x y (by omega) hx hy]
           ·
             rw [List.getElem?_eq_none (by omega), List.getElem?_eq_none (by omega)])
theorem small_calls {S : Nat → Prop} {w : World} {ao : Option Addr} {c : Nat} {rs : List Rw} (hc : RS S w ao c rs) (hl : rs.length * 24 ≤ 140737488351232 ∧ ∀ r ∈ rs, r.xs.length ≤ 140737488351232) :
    Calls Try.prog 17 [.slice ao rs.length c].toArray w (Ret fun v w' => (∃ b : Bool, v = .bool b) ∧ Chg Nob w w') := by
  replace hc := hc.old
  have hw := Chg.refl Nob w
  have hl1 := hl.1
  refine Calls.of_WC Try.func17 rfl Try.ntmps17 (by simp) ?_
  refine WC.seq (WC.region (WL.assign rfl rfl (WL.nil (WX.then_normal (WC.seq (WC.region (WL.assign rfl rfl (?_))))))))
  refine WL.nil (WX.then_normal (WC.seq (WC.seq (WC.region (WL.assign rfl rfl (WL.nil (WX.then_normal (?_))))))))
  refine WC.block (?_)
  refine WC.loop (σ := Nat × Nat) (fun q => [(0, .slice ao rs.length c), (3, vi q.2), (4, vi q.1)])
    (fun q w' => q.1 ≤ rs.length ∧ q.2 ≤ 140737488353300 ∧ RS (· < w.heap.size) w' ao c rs ∧ Chg Nob w w') (fun q => rs.length - q.1) (0, 0) ⟨rfl, rfl, rfl, trivial⟩ ⟨Nat.zero_le _, by decide, hc, hw⟩ ?_
  clear hc hw
  rintro ⟨i, n⟩ w2 ⟨hi, hn, hc, hw⟩
  dsimp only at hi hn hc hw ⊢
  refine WC.seq (WC.seq (WC.region (WL.move rfl rfl (WL.move rfl rfl (WL.len Try.underlying22 rfl rfl (?_))))))
  refine WL.lss? rfl rfl rfl (fun h8 => ?_) (fun h8 => ?_)
  ·
    refine WL.move rfl rfl (WL.want rfl rfl rfl (WL.move rfl rfl (WL.want rfl rfl rfl (?_))))
    refine WL.leq? rfl rfl rfl (fun h11 => ?_) (fun h11 => ?_)
    ·
      refine WL.pickT rfl rfl rfl (WL.nil (WX.then_normal (WC.cond_true rfl (WC.skip (WX.then_normal (WC.seq (WC.block (?_))))))))
      refine WC.region (WL.move rfl rfl (WL.move rfl rfl (WL.move rfl rfl (?_))))
      obtain ⟨r, hr⟩ : ∃ r, rs[i]? = some r := ⟨_, List.getElem?_eq_getElem (by omega)⟩
      have hrl := hl.2 r (List.mem_of_getElem? hr)
      refine WL.indexT Try.underlying22 Try.sizeOf23 hc.outer rfl rfl ⟨hr, rfl⟩ rfl ?_
      intro b_1 o_1 hc_1
      refine WL.load Try.isAgg23 rfl (hc_1 0 _ rfl) rfl (WL.len Try.underlying23 rfl rfl (WL.add64 rfl rfl (by first | omega | (constructor <;> omega)) rfl (WL.assign rfl rfl (WL.nil (WX.block_normal (WX.then_normal (WC.region (?_))))))))
      refine WL.move rfl rfl (WL.add64 rfl rfl (by first | omega | (constructor <;> omega)) rfl (WL.assign rfl rfl (WL.nil (?_))))
      refine WX.loop_next (i + 1, n + r.xs.length) ⟨rfl, rfl, rfl, trivial⟩ ⟨by dsimp only; omega, by dsimp only; omega, hc, hw⟩ (by show _ - _ < _ - _; omega)
    ·
      refine WL.pickT rfl rfl rfl (WL.nil (WX.then_normal (WC.cond_false rfl (WC.exit (WX.then_exit (WX.then_exit (WX.block_here (?_))))))))
      refine WX.then_normal (WC.seq (WC.region (WL.move rfl rfl (WL.leq rfl rfl rfl (WL.assign rfl rfl (WL.nil (WX.then_normal (?_))))))))
      refine WC.ret (?_)
      refine WX.ret1 (.inl rfl) Try.results17 rfl ?_
      exact ⟨_, rfl, ⟨_, rfl⟩, hw⟩
  ·
    refine WL.move rfl rfl (WL.pass rfl rfl rfl rfl (WL.pass rfl rfl rfl rfl (WL.pickF rfl rfl rfl (WL.nil (WX.then_normal (WC.cond_false rfl (WC.exit (?_))))))))
    refine WX.then_exit (WX.then_exit (WX.block_here (WX.then_normal (WC.seq (WC.region (WL.move rfl rfl (WL.leq rfl rfl rfl (?_))))))))
    refine WL.assign rfl rfl (WL.nil (WX.then_normal (WC.ret (?_))))
    refine WX.ret1 (.inl rfl) Try.results17 rfl ?_
    exact ⟨_, rfl, ⟨_, rfl⟩, hw⟩
set_option maxRecDepth 100000 in
theorem three_small : lenC [[1], [1]] = ((1 : Nat) : Int) ∧ three [[1], [1]] 1 2 = [[0], [3], [5]] := by decide +kernel
set_option maxHeartbeats 1000000 in
theorem known3_calls (w : World) : Calls Try.prog 16 [].toArray w (Ret fun v w' => v = .bool true ∧ Chg Nob w w') := by
  have hw := Chg.refl Nob w
  refine Calls.of_WC Try.func16 rfl Try.ntmps16 (by simp) ?_
  refine WC.seq (WC.region (WL.assign rfl rfl (WL.nil (WX.then_normal (WC.seq (WC.region (?_)))))))
  refine WL.build (e := eb) [1] Try.underlying23 Try.sizeOf5 Try.zeroValue5 rfl rfl rfl (by first | (simp [Value.cells]; done) | (simp [Value.cells] <;> rfl) | (simp [Value.cells, eb, ei, es, ebool, e32, e64]; done)) (by decide) rfl ?_
  intro a_h1 w_h1 h1 l_h1 z_h1 k_h1
  have zs_k_h1 := k_h1.size
  replace hw := hw.pure k_h1
  refine WL.build (e := eb) [1] Try.underlying23 Try.sizeOf5 Try.zeroValue5 rfl rfl rfl (by first | (simp [Value.cells]; done) | (simp [Value.cells] <;> rfl) | (simp [Value.cells, eb, ei, es, ebool, e32, e64]; done)) (by decide) rfl ?_
  intro a_h2 w_h2 h2 l_h2 z_h2 k_h2
  have zs_k_h2 := k_h2.size
  replace hw := hw.pure k_h2
  replace h1 := h1.pure k_h2
  refine WL.build (e := erow) [⟨a_h1, 1, [1]⟩, ⟨a_h2, 1, [1]⟩] Try.underlying22 Try.sizeOf23 Try.zeroValue23 rfl rfl rfl (by first | (simp [Value.cells]; done) | (simp [Value.cells] <;> rfl) | (simp [Value.cells, eb, ei, es, ebool, e32, e64]; done)) (by decide) rfl ?_
  intro a_h3 w_h3 h3 l_h3 z_h3 k_h3
  have zs_k_h3 := k_h3.size
  replace hw := hw.pure k_h3
  replace h1 := h1.pure k_h3
  replace h2 := h2.pure k_h3
  have hc : RS (fun _ => True) w_h3 a_h3 2 [⟨a_h1, 1, [1]⟩, ⟨a_h2, 1, [1]⟩] := by
    refine ⟨h3.rsl.mono (fun _ _ => trivial), fun r hr => ?_⟩
    simp only [List.mem_cons, List.not_mem_nil, or_false] at hr
    rcases hr with rfl | rfl
    ·
      exact h1.rsl.mono (fun _ _ => trivial)
    ·
      exact h2.rsl.mono (fun _ _ => trivial)
  refine WL.call eg_21 rfl rfl (make_rs hc (by show 2 ≤ 13; decide) three_small.1) ?_
  rintro v w1 ⟨⟨ao, c, ps, rfl, hp, hps⟩, k⟩
  have zs_k := k.size
  replace hw := hw.pure k
  replace hp := hp.old
  replace hps : xss ps = [[0], [3], [5]] := hps.trans three_small.2
  refine WL.move rfl rfl (WL.extract rfl rfl rfl (WL.extract rfl rfl rfl (WL.assign rfl rfl (WL.assign rfl rfl (WL.nil (WX.then_normal (WC.seq (?_))))))))
  refine WC.region (WL.move rfl rfl (?_))
  refine WL.eql rfl rfl rfl ?_
  rw [show decide ((0 : Int) = 0) = true from rfl]
  refine WL.move rfl rfl (WL.want rfl rfl rfl (WL.move rfl rfl (WL.want rfl rfl rfl (?_))))
  refine WL.build (e := eb) [0] Try.underlying23 Try.sizeOf5 Try.zeroValue5 rfl rfl rfl (by first | (simp [Value.cells]; done) | (simp [Value.cells] <;> rfl) | (simp [Value.cells, eb, ei, es, ebool, e32, e64]; done)) (by decide) rfl ?_
  intro a_h4 w_h4 h4 l_h4 z_h4 k_h4
  have zs_k_h4 := k_h4.size
  replace hw := hw.pure k_h4
  replace hp := hp.pure k_h4
  refine WL.want rfl rfl rfl (?_)
  refine WL.build (e := eb) [3] Try.underlying23 Try.sizeOf5 Try.zeroValue5 rfl rfl rfl (by first | (simp [Value.cells]; done) | (simp [Value.cells] <;> rfl) | (simp [Value.cells, eb, ei, es, ebool, e32, e64]; done)) (by decide) rfl ?_
  intro a_h5 w_h5 h5 l_h5 z_h5 k_h5
  have zs_k_h5 := k_h5.size
  replace hw := hw.pure k_h5
  replace hp := hp.pure k_h5
  replace h4 := h4.pure k_h5
  refine WL.want rfl rfl rfl (?_)
  refine WL.build (e := eb) [5] Try.underlying23 Try.sizeOf5 Try.zeroValue5 rfl rfl rfl (by first | (simp [Value.cells]; done) | (simp [Value.cells] <;> rfl) | (simp [Value.cells, eb, ei, es, ebool, e32, e64]; done)) (by decide) rfl ?_
  intro a_h6 w_h6 h6 l_h6 z_h6 k_h6
  have zs_k_h6 := k_h6.size
  replace hw := hw.pure k_h6
  replace hp := hp.pure k_h6
  replace h4 := h4.pure k_h6
  replace h5 := h5.pure k_h6
  refine WL.want rfl rfl rfl (?_)
  refine WL.build (e := erow) [⟨a_h4, 1, [0]⟩, ⟨a_h5, 1, [3]⟩, ⟨a_h6, 1, [5]⟩] Try.underlying22 Try.sizeOf23 Try.zeroValue23 rfl rfl rfl (by first | (simp [Value.cells]; done) | (simp [Value.cells] <;> rfl) | (simp [Value.cells, eb, ei, es, ebool, e32, e64]; done)) (by decide) rfl ?_
  intro a_h7 w_h7 h7 l_h7 z_h7 k_h7
  have zs_k_h7 := k_h7.size
  replace hw := hw.pure k_h7
  replace hp := hp.pure k_h7
  replace h4 := h4.pure k_h7
  replace h5 := h5.pure k_h7
  replace h6 := h6.pure k_h7
  refine WL.want rfl rfl rfl (?_)
  have hd : RS (fun _ => True) w_h7 a_h7 3 [⟨a_h4, 1, [0]⟩, ⟨a_h5, 1, [3]⟩, ⟨a_h6, 1, [5]⟩] := by
    refine ⟨h7.rsl.mono (fun _ _ => trivial), fun r hr => ?_⟩
    simp only [List.mem_cons, List.not_mem_nil, or_false] at hr
    rcases hr with rfl | rfl | rfl
    ·
      exact h4.rsl.mono (fun _ _ => trivial)
    ·
      exact h5.rsl.mono (fun _ _ => trivial)
    ·
      exact h6.rsl.mono (fun _ _ => trivial)
  have hp3 : ps.length = 3 := by have := congrArg List.length hps; rw [xss, List.length_map] at this; exact this
  refine WL.call eg_20 rfl rfl (same_calls hp hd (by omega)) ?_
  rintro v w1 ⟨rfl, k⟩
  rw [hps, show decide (([[0], [3], [5]] : List (List UInt8)) = xss [⟨a_h4, 1, [0]⟩, ⟨a_h5, 1, [3]⟩, ⟨a_h6, 1, [5]⟩]) = true from decide_eq_true rfl]
  have zs_k := k.size
  replace hw := hw.pure k
  replace hp := hp.pure k
  refine WL.pickT rfl rfl rfl (WL.assign rfl rfl (WL.nil (WX.then_normal (WC.ret (?_)))))
  refine WX.ret1 (.inl rfl) Try.results16 rfl ?_
  exact ⟨_, rfl, rfl, hw⟩
end Go.Proofs.Ytjdbjdgobhjbkaa
namespace Go.HL
open Go.RowKit
/-- rows of bytes that are gathered, one behind the other -/
structure CR (N n1 : Nat) (w : World) (T : TypeId) (ao : Option Addr) (c : Nat) (rs : List Rw) : Prop where
  outer : Row (fun x => N ≤ x ∧ x < n1) w T erow ao c rs
  inner : ∀ r ∈ rs, RSl (fun x => (N ≤ x ∧ x < n1) ∧ ¬ Eqb ao x) w eb r.ao r.cap r.xs
section
variable {N n1 : Nat} {w w' : World} {T : TypeId} {ao : Option Addr} {c : Nat} {rs : List Rw} {M : Nat → Prop}
theorem CR.nil (N n1 : Nat) (w : World) (T : TypeId) : CR N n1 w T none 0 [] := ⟨Row.nil _ _ _ _, fun r hr => by cases hr⟩
theorem CR.chg (h : CR N n1 w T ao c rs) (k : Chg M w w') (hd : ∀ x, N ≤ x ∧ x < n1 → M x → False) : CR N n1 w' T ao c rs :=
  ⟨h.outer.chg k (fun b _ hs hm => hd b hs hm), fun r hr => (h.inner r hr).chg k (fun b _ hs hm => hd b hs.1 hm)⟩
theorem CR.pure (h : CR N n1 w T ao c rs) (k : Chg Nob w w') : CR N n1 w' T ao c rs := h.chg k (fun _ _ x => x)
/-- one more, which was made after all others -/
theorem CR.snoc (h : CR N n1 w T ao c rs) {r : Rw} (hr : RSl (fun x => n1 ≤ x ∧ x < w.heap.size) w eb r.ao r.cap r.xs) (hN : N ≤ n1) (hs : n1 ≤ w.heap.size) {ao2 : Option Addr} {c2 : Nat} (ho : Row (fun x => N ≤ x) w' T erow ao2 c2 (rs ++ [r])) (g : Grow (fun x => N ≤ x) w ao w' ao2) :
    CR N w'.heap.size w' T ao2 c2 (rs ++ [r]) := by
  have zs := g.chg.size
  have ho2 : Row (fun x => N ≤ x ∧ x < w'.heap.size) w' T erow ao2 c2 (rs ++ [r]) := ho.lt
  have hat : ∀ x, Eqb ao x → x < n1 := fun x e => (h.outer.at_.eqb e).2
  have hnew : ∀ x, x < w.heap.size → Eqb ao2 x → Eqb ao x := by
    intro x hx e
    rcases g.fr with e1 | e1
    · rw [← e1]; exact e
    · have := e1.eqb e
      omega
  refine ⟨ho2, fun q hq => ?_⟩
  rcases List.mem_append.1 hq with h1 | h1
  · refine (((h.inner q h1).lt).chg g.chg (fun b _ hb hm => hb.1.2 hm.1)).mono (fun b hb => ⟨⟨hb.1.1.1, by omega⟩, fun e => hb.1.2 (hnew b hb.2 e)⟩)
  · simp at h1
    subst h1
    refine (hr.chg g.chg (fun b _ hb hm => by have := hat b hm.1; omega)).mono (fun b hb => ⟨⟨by omega, by omega⟩, fun e => by have := hat b (hnew b hb.2 e); omega⟩)
theorem CR.read (h : CR N n1 w T ao c rs) : RS (fun _ => True) w ao c rs := ⟨h.outer.rsl.mono (fun _ _ => trivial), fun r hr => (h.inner r hr).mono (fun _ _ => trivial)⟩
end
/-! sums of columns -/
/-- a parity's byte -/
def px (wt : Nat → UInt8) (cols : List (List UInt8)) (k : Nat) : Nat → UInt8
  | 0 => 0
  | i + 1 => px wt cols k i ^^^ mul (wt i) ((cols.getD i []).getD k 0)
theorem prow_at {wt : Nat → UInt8} {cols : List (List UInt8)} {n : Nat} (h : ∀ d ∈ cols, d.length = n) {k : Nat} (hk : k < n) : ∀ {i : Nat}, i ≤ cols.length → (prow wt cols n i)[k]? = some (px wt cols k i) := by
  intro i
  induction i with
  | zero => intro _; rw [prow, List.getElem?_replicate, if_pos hk]; rfl
  | succ i ih =>
    intro hi
    have h2 : (cols.getD i []).length = n := by
      rw [List.getD_eq_getElem?_getD, List.getElem?_eq_getElem (by omega)]
      exact h _ (List.getElem_mem _)
    have h3 : (cols.getD i [])[k]? = some ((cols.getD i []).getD k 0) := by
      rw [List.getD_eq_getElem?_getD (l := cols.getD i []), List.getElem?_eq_getElem (by omega)]
      rfl
    rw [prow, addRow_at (ih (by omega)) h3]
    rfl
end Go.HL
namespace Go.Proofs.Ytjdbjdgobhjbkaa
open Go.RowKit Go.HL

theorem three_at {cols : List (List UInt8)} {n m i : Nat} (h : i < 3) : (three cols n m)[i]? = some (prow (wtq i) cols n m) := by
  have h3 : i = 0 ∨ i = 1 ∨ i = 2 := by omega
  rcases h3 with rfl | rfl | rfl <;> rfl
theorem xss_at {rs : List Rw} {i : Nat} {r : Rw} (h : rs[i]? = some r) : (xss rs)[i]? = some r.xs := by rw [xss, List.getElem?_map, h]; rfl
theorem xss_getD {rs : List Rw} {i : Nat} {r : Rw} (h : rs[i]? = some r) : (xss rs).getD i [] = r.xs := by rw [List.getD_eq_getElem?_getD, xss_at h]; rfl
theorem xss_len (rs : List Rw) : (xss rs).length = rs.length := by rw [xss, List.length_map]
end Go.Proofs.Ytjdbjdgobhjbkaa
namespace Go.Proofs.Ytjdbjdgobhjbkaa
open Go.RowKit Go.HL

/-! the document's parities -/
theorem wtq_G {q : Nat} (h : q ≤ 2) (i : Nat) : wtq q i = G (q * i) := by
  have h3 : q = 0 ∨ q = 1 ∨ q = 2 := by omega
  rcases h3 with rfl | rfl | rfl
  · rw [Nat.zero_mul, G_zero]; rfl
  · rw [Nat.one_mul]; rfl
  · show mul (G i) (G i) = G (2 * i)
    rw [mul_G (G_ne _) (G_ne _), L_G, ← G_mod, ← Nat.add_mod, G_mod, Nat.two_mul]
theorem power_calls (q i : Nat) (hq : q ≤ 2) (hi : i ≤ 100) (w : World) : Calls Try.prog 36 [vi q, vi i].toArray w (Ret fun v w' => v = v8 (wtq q i) ∧ Chg Nob w w') := by
  have hw := Chg.refl Nob w
  have hqi : q * i ≤ 200 := Nat.le_trans (Nat.mul_le_mul hq hi) (by decide)
  refine Calls.of_WC Try.func36 rfl Try.ntmps36 (by simp) ?_
  refine WC.seq (WC.region (WL.assign rfl rfl (WL.nil (WX.then_normal (WC.seq (WC.region (WL.move rfl rfl (?_))))))))
  refine WL.move rfl rfl (?_)
  refine WL.mul64 rfl rfl (by rw [← Int.natCast_mul]; omega) rfl ?_
  rw [← Int.natCast_mul]
  refine WL.call eg_48 rfl rfl (refPow_calls 2 ((q * i : Nat) : Int) _ (by omega)) ?_
  rintro v w1 ⟨rfl, k⟩
  rw [powR_two]
  have zs_k := k.size
  replace hw := hw.pure k
  refine WL.move rfl rfl (WL.extract rfl rfl rfl (WL.extract rfl rfl rfl (WL.assign rfl rfl (WL.assign rfl rfl (WL.nil (WX.then_normal (WC.seq (?_))))))))
  refine WC.region (WL.move rfl rfl (WL.assign rfl rfl (WL.nil (WX.then_normal (WC.ret (?_))))))
  refine WX.ret1 (.inl rfl) Try.results36 rfl ?_
  rw [wtq_G hq]
  exact ⟨_, rfl, rfl, hw⟩
set_option maxHeartbeats 2000000 in
/-- one parity -/
theorem parity_calls {S : Nat → Prop} {w : World} {ao : Option Addr} {c : Nat} {rs : List Rw} (hc : RS S w ao c rs) {n q : Nat} (hq : q ≤ 2) (h13 : rs.length ≤ 13) (hne : 0 < rs.length) (hn : n ≤ 4096) (hall : ∀ d ∈ xss rs, d.length = n) :
    Calls Try.prog 37 [.slice ao rs.length c, vi q].toArray w (Ret fun v w' => (∃ (ap : Option Addr) (cp : Nat), v = .slice ap (prow (wtq q) (xss rs) n rs.length).length cp ∧ Row (w.heap.size ≤ ·) w' 5 eb ap cp (prow (wtq q) (xss rs) n rs.length)) ∧ Chg Nob w w') := by
  replace hc := hc.old
  have hw := Chg.refl Nob w
  have hxl := xss_len rs
  refine Calls.of_WC Try.func37 rfl Try.ntmps37 (by simp) ?_
  refine WC.seq (WC.region (WL.assign rfl rfl (WL.nil (WX.then_normal (WC.seq (WC.region (WL.move rfl rfl (?_))))))))
  obtain ⟨r0, hr0⟩ : ∃ r0, rs[0]? = some r0 := ⟨_, List.getElem?_eq_getElem hne⟩
  have hr0l := hall _ (xss_mem hr0)
  refine WL.indexT Try.underlying22 Try.sizeOf23 hc.outer rfl rfl ⟨hr0, rfl⟩ rfl ?_
  intro b_1 o_1 hc_1
  refine WL.load Try.isAgg23 rfl (hc_1 0 _ rfl) rfl (WL.len Try.underlying23 rfl rfl (?_))
  refine WL.make (e := eb) (0 : UInt8) n n Try.underlying23 info_5 rfl rfl rfl ⟨by omega, by omega, Nat.le_refl _⟩ (by constructor <;> omega) rfl ?_
  intro g w1 hg k1 z1 eg
  rw [List.length_replicate]
  have hgw : w.heap.size ≤ g := by have := hw.size; omega
  have zs_k1 := k1.size
  replace hc := hc.pure k1
  replace hw := hw.pure k1
  refine WL.assign rfl rfl (WL.nil (WX.then_normal (WC.seq (WC.seq (WC.region (WL.assign rfl rfl (WL.nil (?_))))))))
  refine WX.then_normal (WC.block (?_))
  have hg0 : Row (fun b => b = g) w1 5 eb (some ⟨g, 0, none⟩) n (List.replicate n 0) := ⟨fun a ea => by injection ea with ea; subst ea; rfl, hg.own⟩
  refine WC.loop (σ := Nat) (fun i => [(0, .slice ao rs.length c), (1, vi q), (5, .slice (some ⟨g, 0, none⟩) n n), (6, vi i)])
    (fun i w' => i ≤ rs.length ∧ Row (fun b => b = g) w' 5 eb (some ⟨g, 0, none⟩) n (prow (wtq q) (xss rs) n i) ∧ RS (· < w.heap.size) w' ao c rs ∧ Chg Nob w w') (fun i => rs.length - i) 0 ⟨rfl, rfl, rfl, rfl, trivial⟩ ⟨Nat.zero_le _, hg0, hc, hw⟩ ?_
  clear hg hg0 hc hw
  rintro i w2 ⟨hi, hg, hc, hw⟩
  have hpl : (prow (wtq q) (xss rs) n i).length = n := prow_len hall (by omega)
  refine WC.seq (WC.seq (WC.region (WL.move rfl rfl (WL.move rfl rfl (WL.len Try.underlying22 rfl rfl (?_))))))
  refine WL.lss? rfl rfl rfl (fun h16 => ?_) (fun h16 => ?_)
  ·
    refine WL.nil (WX.then_normal (WC.cond_true rfl (WC.skip (WX.then_normal (WC.seq (WC.block (WC.seq (?_))))))))
    refine WC.region (WL.assign rfl rfl (WL.nil (WX.then_normal (WC.block (?_)))))
    obtain ⟨⟨rao, rc, rxs⟩, hr⟩ : ∃ r, rs[i]? = some r := ⟨_, List.getElem?_eq_getElem (by omega)⟩
    have hrl : rxs.length = n := hall _ (xss_mem hr)
    refine WC.loop (σ := Nat) (fun k => [(0, .slice ao rs.length c), (1, vi q), (5, .slice (some ⟨g, 0, none⟩) n n), (6, vi i), (7, vi k)])
      (fun k w' => k ≤ n ∧ Row (fun b => b = g) w' 5 eb (some ⟨g, 0, none⟩) n (addTo' (prow (wtq q) (xss rs) n i) rxs (wtq q i) k) ∧ RS (· < w.heap.size) w' ao c rs ∧ Chg Nob w w') (fun k => n - k) 0 ⟨rfl, rfl, rfl, rfl, rfl, trivial⟩ ⟨Nat.zero_le _, by simpa [addTo'] using hg, hc, hw⟩ ?_
    clear hg hc hw
    rintro k w3 ⟨hk, hg, hc, hw⟩
    have hal : (addTo' (prow (wtq q) (xss rs) n i) rxs (wtq q i) k).length = n := by rw [addTo'_len (by omega) (by omega)]; exact hpl
    refine WC.seq (WC.seq (WC.region (WL.move rfl rfl (WL.move rfl rfl (WL.len Try.underlying23 rfl rfl (?_))))))
    refine WL.lss? rfl rfl rfl (fun h22 => ?_) (fun h22 => ?_)
    ·
      refine WL.nil (WX.then_normal (WC.cond_true rfl (WC.skip (WX.then_normal (WC.seq (WC.block (?_)))))))
      obtain ⟨p, c0, hp0, hc0, fp, fset⟩ := addTo'_at (acc := prow (wtq q) (xss rs) n i) (col := rxs) (m := wtq q i) (k := k) (by omega) (by omega)
      have hrr : RSl (· < w.heap.size) _ eb rao rc rxs := hc.at hr
      obtain ⟨b1, o1, rfl⟩ := hc.outer.place hr
      obtain ⟨b2, o2, rfl⟩ := hrr.place hc0
      refine WC.draw (fun b => b = g) [0, 1, 2, 3, 4, 6, 7, 8, 9, 10, 11, 12, 13, 14, 15, 16, 18] [5, 17, 19] mixed rfl rfl (fun wd_2 kd_2 zd_2 => ?_)
      have zs_kd_2 := kd_2.size
      replace hg := hg.pure kd_2
      replace hc := hc.pure kd_2
      replace hw := hw.pure kd_2
      replace hrr := hrr.pure kd_2
      apply DQ.step (E' := [(5, _)])
      case ho => rfl
      case hs => exact ⟨rfl, trivial⟩
      case hk => rfl
      case h1 =>
        intro wq_4 kq_4
        refine WL.move rfl rfl (?_)
        refine WL.nil ?_
        exact WX.one ⟨rfl, by first | exact Chg.refl _ _ | assumption⟩
      apply DQ.step (E' := [(7, _)])
      case ho => rfl
      case hs => exact ⟨rfl, trivial⟩
      case hk => rfl
      case h1 =>
        intro wq_5 kq_5
        refine WL.move rfl rfl (?_)
        refine WL.nil ?_
        exact WX.one ⟨rfl, by first | exact Chg.refl _ _ | assumption⟩
      apply DQ.step (E' := [(5, _)])
      case ho => rfl
      case hs => exact ⟨rfl, trivial⟩
      case hk => rfl
      case h1 =>
        intro wq_6 kq_6
        refine WL.move rfl rfl (?_)
        refine WL.nil ?_
        exact WX.one ⟨rfl, by first | exact Chg.refl _ _ | assumption⟩
      apply DQ.step (E' := [(7, _)])
      case ho => rfl
      case hs => exact ⟨rfl, trivial⟩
      case hk => rfl
      case h1 =>
        intro wq_7 kq_7
        refine WL.move rfl rfl (?_)
        refine WL.nil ?_
        exact WX.one ⟨rfl, by first | exact Chg.refl _ _ | assumption⟩
      apply DQ.step (E' := [(27, _), (28, _)])
      case ho => rfl
      case hs => exact ⟨rfl, rfl, trivial⟩
      case hk => rfl
      case h1 =>
        intro wq_8 kq_8
        have zs_kq_8 := kq_8.size
        replace hc := hc.chg kq_8 (by first | (intro x h1 h2; exact h2) | (intro x h0 h1 h2; exact hS x h1 h2) | (intro x h0 h1 h2; have h3 : _ = _ := h2; subst h3; exact hSR h1.1) | (intro x h1 h2; have h3 : _ = _ := h2; subst h3; assumption) | (intro x h1 h2; have h3 : _ = _ := h2; exfalso; omega) | (intro b h1 h2 h3; have h4 : _ = _ := h3; (try dsimp only at h2); exfalso; omega) | (intro h1; have h2 : _ = _ := h1; exfalso; omega) | (intro h1; have h2 : _ ≤ _ := h1; exfalso; omega) | (intros; exfalso; (try dsimp only at *); omega) | (intro b h1 h2 h3; exfalso; have h4 := h3.2; (try dsimp only at *); omega) | (intro h1; exfalso; have h4 := h1.2; (try dsimp only at *); omega) | (intro x h1 h2; exfalso; have h4 := h2.2; (try dsimp only at *); omega) | (intro x h1 h2; exact ⟨_, rfl, h2⟩) | (intro x h1 h2; have h4 := h2.1; have h5 := h2.2; exfalso; omega) | (intro x h1 h2; exact h2.1) | (intro x h1 h2; rcases h2.1 with h3 | h3; exact h3; exfalso; omega) | (intro x h1 h2; rcases h2 with h3 | h3; exact h3; exfalso; omega))
        replace hw := hw.chg kq_8 (by first | (intro x h1 h2; exact h2) | (intro x h0 h1 h2; exact hS x h1 h2) | (intro x h0 h1 h2; have h3 : _ = _ := h2; subst h3; exact hSR h1.1) | (intro x h1 h2; have h3 : _ = _ := h2; subst h3; assumption) | (intro x h1 h2; have h3 : _ = _ := h2; exfalso; omega) | (intro b h1 h2 h3; have h4 : _ = _ := h3; (try dsimp only at h2); exfalso; omega) | (intro h1; have h2 : _ = _ := h1; exfalso; omega) | (intro h1; have h2 : _ ≤ _ := h1; exfalso; omega) | (intros; exfalso; (try dsimp only at *); omega) | (intro b h1 h2 h3; exfalso; have h4 := h3.2; (try dsimp only at *); omega) | (intro h1; exfalso; have h4 := h1.2; (try dsimp only at *); omega) | (intro x h1 h2; exfalso; have h4 := h2.2; (try dsimp only at *); omega) | (intro x h1 h2; exact ⟨_, rfl, h2⟩) | (intro x h1 h2; have h4 := h2.1; have h5 := h2.2; exfalso; omega) | (intro x h1 h2; exact h2.1) | (intro x h1 h2; rcases h2.1 with h3 | h3; exact h3; exfalso; omega) | (intro x h1 h2; rcases h2 with h3 | h3; exact h3; exfalso; omega))
        replace hrr := hrr.chg kq_8 (by first | (intro x h1 h2; exact h2) | (intro x h0 h1 h2; exact hS x h1 h2) | (intro x h0 h1 h2; have h3 : _ = _ := h2; subst h3; exact hSR h1.1) | (intro x h1 h2; have h3 : _ = _ := h2; subst h3; assumption) | (intro x h1 h2; have h3 : _ = _ := h2; exfalso; omega) | (intro b h1 h2 h3; have h4 : _ = _ := h3; (try dsimp only at h2); exfalso; omega) | (intro h1; have h2 : _ = _ := h1; exfalso; omega) | (intro h1; have h2 : _ ≤ _ := h1; exfalso; omega) | (intros; exfalso; (try dsimp only at *); omega) | (intro b h1 h2 h3; exfalso; have h4 := h3.2; (try dsimp only at *); omega) | (intro h1; exfalso; have h4 := h1.2; (try dsimp only at *); omega) | (intro x h1 h2; exfalso; have h4 := h2.2; (try dsimp only at *); omega) | (intro x h1 h2; exact ⟨_, rfl, h2⟩) | (intro x h1 h2; have h4 := h2.1; have h5 := h2.2; exfalso; omega) | (intro x h1 h2; exact h2.1) | (intro x h1 h2; rcases h2.1 with h3 | h3; exact h3; exfalso; omega) | (intro x h1 h2; rcases h2 with h3 | h3; exact h3; exfalso; omega))
        refine WL.index (sz := 1) Try.underlying23 Try.sizeOf5 rfl rfl rfl (by omega) rfl ?_
        refine WL.nil ?_
        exact WX.one ⟨rfl, by first | exact Chg.refl _ _ | assumption⟩
      apply DQ.step (E' := [(1, _)])
      case ho => rfl
      case hs => exact ⟨rfl, trivial⟩
      case hk => rfl
      case h1 =>
        intro wq_9 kq_9
        refine WL.move rfl rfl (?_)
        refine WL.nil ?_
        exact WX.one ⟨rfl, by first | exact Chg.refl _ _ | assumption⟩
      apply DQ.step (E' := [(6, _)])
      case ho => rfl
      case hs => exact ⟨rfl, trivial⟩
      case hk => rfl
      case h1 =>
        intro wq_10 kq_10
        refine WL.move rfl rfl (?_)
        refine WL.nil ?_
        exact WX.one ⟨rfl, by first | exact Chg.refl _ _ | assumption⟩
      apply DQ.step (E' := [(31, _), (32, _)])
      case ho => rfl
      case hs => exact ⟨rfl, rfl, trivial⟩
      case hk => rfl
      case h1 =>
        intro wq_11 kq_11
        have zs_kq_11 := kq_11.size
        replace hc := hc.chg kq_11 (by first | (intro x h1 h2; exact h2) | (intro x h0 h1 h2; exact hS x h1 h2) | (intro x h0 h1 h2; have h3 : _ = _ := h2; subst h3; exact hSR h1.1) | (intro x h1 h2; have h3 : _ = _ := h2; subst h3; assumption) | (intro x h1 h2; have h3 : _ = _ := h2; exfalso; omega) | (intro b h1 h2 h3; have h4 : _ = _ := h3; (try dsimp only at h2); exfalso; omega) | (intro h1; have h2 : _ = _ := h1; exfalso; omega) | (intro h1; have h2 : _ ≤ _ := h1; exfalso; omega) | (intros; exfalso; (try dsimp only at *); omega) | (intro b h1 h2 h3; exfalso; have h4 := h3.2; (try dsimp only at *); omega) | (intro h1; exfalso; have h4 := h1.2; (try dsimp only at *); omega) | (intro x h1 h2; exfalso; have h4 := h2.2; (try dsimp only at *); omega) | (intro x h1 h2; exact ⟨_, rfl, h2⟩) | (intro x h1 h2; have h4 := h2.1; have h5 := h2.2; exfalso; omega) | (intro x h1 h2; exact h2.1) | (intro x h1 h2; rcases h2.1 with h3 | h3; exact h3; exfalso; omega) | (intro x h1 h2; rcases h2 with h3 | h3; exact h3; exfalso; omega))
        replace hw := hw.chg kq_11 (by first | (intro x h1 h2; exact h2) | (intro x h0 h1 h2; exact hS x h1 h2) | (intro x h0 h1 h2; have h3 : _ = _ := h2; subst h3; exact hSR h1.1) | (intro x h1 h2; have h3 : _ = _ := h2; subst h3; assumption) | (intro x h1 h2; have h3 : _ = _ := h2; exfalso; omega) | (intro b h1 h2 h3; have h4 : _ = _ := h3; (try dsimp only at h2); exfalso; omega) | (intro h1; have h2 : _ = _ := h1; exfalso; omega) | (intro h1; have h2 : _ ≤ _ := h1; exfalso; omega) | (intros; exfalso; (try dsimp only at *); omega) | (intro b h1 h2 h3; exfalso; have h4 := h3.2; (try dsimp only at *); omega) | (intro h1; exfalso; have h4 := h1.2; (try dsimp only at *); omega) | (intro x h1 h2; exfalso; have h4 := h2.2; (try dsimp only at *); omega) | (intro x h1 h2; exact ⟨_, rfl, h2⟩) | (intro x h1 h2; have h4 := h2.1; have h5 := h2.2; exfalso; omega) | (intro x h1 h2; exact h2.1) | (intro x h1 h2; rcases h2.1 with h3 | h3; exact h3; exfalso; omega) | (intro x h1 h2; rcases h2 with h3 | h3; exact h3; exfalso; omega))
        replace hrr := hrr.chg kq_11 (by first | (intro x h1 h2; exact h2) | (intro x h0 h1 h2; exact hS x h1 h2) | (intro x h0 h1 h2; have h3 : _ = _ := h2; subst h3; exact hSR h1.1) | (intro x h1 h2; have h3 : _ = _ := h2; subst h3; assumption) | (intro x h1 h2; have h3 : _ = _ := h2; exfalso; omega) | (intro b h1 h2 h3; have h4 : _ = _ := h3; (try dsimp only at h2); exfalso; omega) | (intro h1; have h2 : _ = _ := h1; exfalso; omega) | (intro h1; have h2 : _ ≤ _ := h1; exfalso; omega) | (intros; exfalso; (try dsimp only at *); omega) | (intro b h1 h2 h3; exfalso; have h4 := h3.2; (try dsimp only at *); omega) | (intro h1; exfalso; have h4 := h1.2; (try dsimp only at *); omega) | (intro x h1 h2; exfalso; have h4 := h2.2; (try dsimp only at *); omega) | (intro x h1 h2; exact ⟨_, rfl, h2⟩) | (intro x h1 h2; have h4 := h2.1; have h5 := h2.2; exfalso; omega) | (intro x h1 h2; exact h2.1) | (intro x h1 h2; rcases h2.1 with h3 | h3; exact h3; exfalso; omega) | (intro x h1 h2; rcases h2 with h3 | h3; exact h3; exfalso; omega))
        refine WL.call eg_36 rfl rfl (power_calls q i hq (by omega) _) ?_
        rintro v w4 ⟨rfl, k4⟩
        have zs_k4 := k4.size
        replace hc := hc.pure k4
        replace hw := hw.pure k4
        replace hrr := hrr.pure k4
        refine WL.nil ?_
        exact WX.one ⟨rfl, by first | exact Chg.refl _ _ | assumption⟩
      apply DQ.step (E' := [(0, _)])
      case ho => rfl
      case hs => exact ⟨rfl, trivial⟩
      case hk => rfl
      case h1 =>
        intro wq_12 kq_12
        refine WL.move rfl rfl (?_)
        refine WL.nil ?_
        exact WX.one ⟨rfl, by first | exact Chg.refl _ _ | assumption⟩
      apply DQ.step (E' := [(6, _)])
      case ho => rfl
      case hs => exact ⟨rfl, trivial⟩
      case hk => rfl
      case h1 =>
        intro wq_13 kq_13
        refine WL.move rfl rfl (?_)
        refine WL.nil ?_
        exact WX.one ⟨rfl, by first | exact Chg.refl _ _ | assumption⟩
      apply DQ.step (E' := [(34, _), (35, _)])
      case ho => rfl
      case hs => exact ⟨rfl, rfl, trivial⟩
      case hk => rfl
      case h1 =>
        intro wq_14 kq_14
        have zs_kq_14 := kq_14.size
        replace hc := hc.chg kq_14 (by first | (intro x h1 h2; exact h2) | (intro x h0 h1 h2; exact hS x h1 h2) | (intro x h0 h1 h2; have h3 : _ = _ := h2; subst h3; exact hSR h1.1) | (intro x h1 h2; have h3 : _ = _ := h2; subst h3; assumption) | (intro x h1 h2; have h3 : _ = _ := h2; exfalso; omega) | (intro b h1 h2 h3; have h4 : _ = _ := h3; (try dsimp only at h2); exfalso; omega) | (intro h1; have h2 : _ = _ := h1; exfalso; omega) | (intro h1; have h2 : _ ≤ _ := h1; exfalso; omega) | (intros; exfalso; (try dsimp only at *); omega) | (intro b h1 h2 h3; exfalso; have h4 := h3.2; (try dsimp only at *); omega) | (intro h1; exfalso; have h4 := h1.2; (try dsimp only at *); omega) | (intro x h1 h2; exfalso; have h4 := h2.2; (try dsimp only at *); omega) | (intro x h1 h2; exact ⟨_, rfl, h2⟩) | (intro x h1 h2; have h4 := h2.1; have h5 := h2.2; exfalso; omega) | (intro x h1 h2; exact h2.1) | (intro x h1 h2; rcases h2.1 with h3 | h3; exact h3; exfalso; omega) | (intro x h1 h2; rcases h2 with h3 | h3; exact h3; exfalso; omega))
        replace hw := hw.chg kq_14 (by first | (intro x h1 h2; exact h2) | (intro x h0 h1 h2; exact hS x h1 h2) | (intro x h0 h1 h2; have h3 : _ = _ := h2; subst h3; exact hSR h1.1) | (intro x h1 h2; have h3 : _ = _ := h2; subst h3; assumption) | (intro x h1 h2; have h3 : _ = _ := h2; exfalso; omega) | (intro b h1 h2 h3; have h4 : _ = _ := h3; (try dsimp only at h2); exfalso; omega) | (intro h1; have h2 : _ = _ := h1; exfalso; omega) | (intro h1; have h2 : _ ≤ _ := h1; exfalso; omega) | (intros; exfalso; (try dsimp only at *); omega) | (intro b h1 h2 h3; exfalso; have h4 := h3.2; (try dsimp only at *); omega) | (intro h1; exfalso; have h4 := h1.2; (try dsimp only at *); omega) | (intro x h1 h2; exfalso; have h4 := h2.2; (try dsimp only at *); omega) | (intro x h1 h2; exact ⟨_, rfl, h2⟩) | (intro x h1 h2; have h4 := h2.1; have h5 := h2.2; exfalso; omega) | (intro x h1 h2; exact h2.1) | (intro x h1 h2; rcases h2.1 with h3 | h3; exact h3; exfalso; omega) | (intro x h1 h2; rcases h2 with h3 | h3; exact h3; exfalso; omega))
        replace hrr := hrr.chg kq_14 (by first | (intro x h1 h2; exact h2) | (intro x h0 h1 h2; exact hS x h1 h2) | (intro x h0 h1 h2; have h3 : _ = _ := h2; subst h3; exact hSR h1.1) | (intro x h1 h2; have h3 : _ = _ := h2; subst h3; assumption) | (intro x h1 h2; have h3 : _ = _ := h2; exfalso; omega) | (intro b h1 h2 h3; have h4 : _ = _ := h3; (try dsimp only at h2); exfalso; omega) | (intro h1; have h2 : _ = _ := h1; exfalso; omega) | (intro h1; have h2 : _ ≤ _ := h1; exfalso; omega) | (intros; exfalso; (try dsimp only at *); omega) | (intro b h1 h2 h3; exfalso; have h4 := h3.2; (try dsimp only at *); omega) | (intro h1; exfalso; have h4 := h1.2; (try dsimp only at *); omega) | (intro x h1 h2; exfalso; have h4 := h2.2; (try dsimp only at *); omega) | (intro x h1 h2; exact ⟨_, rfl, h2⟩) | (intro x h1 h2; have h4 := h2.1; have h5 := h2.2; exfalso; omega) | (intro x h1 h2; exact h2.1) | (intro x h1 h2; rcases h2.1 with h3 | h3; exact h3; exfalso; omega) | (intro x h1 h2; rcases h2 with h3 | h3; exact h3; exfalso; omega))
        refine WL.indexC hc.outer Try.underlying22 Try.sizeOf23 rfl rfl ⟨hr, rfl⟩ rfl ?_
        refine WL.nil ?_
        exact WX.one ⟨rfl, by first | exact Chg.refl _ _ | assumption⟩
      apply DQ.step (E' := [(36, _)])
      case ho => rfl
      case hs => exact ⟨rfl, trivial⟩
      case hk => rfl
      case h1 =>
        intro wq_15 kq_15
        have zs_kq_15 := kq_15.size
        replace hc := hc.chg kq_15 (by first | (intro x h1 h2; exact h2) | (intro x h0 h1 h2; exact hS x h1 h2) | (intro x h0 h1 h2; have h3 : _ = _ := h2; subst h3; exact hSR h1.1) | (intro x h1 h2; have h3 : _ = _ := h2; subst h3; assumption) | (intro x h1 h2; have h3 : _ = _ := h2; exfalso; omega) | (intro b h1 h2 h3; have h4 : _ = _ := h3; (try dsimp only at h2); exfalso; omega) | (intro h1; have h2 : _ = _ := h1; exfalso; omega) | (intro h1; have h2 : _ ≤ _ := h1; exfalso; omega) | (intros; exfalso; (try dsimp only at *); omega) | (intro b h1 h2 h3; exfalso; have h4 := h3.2; (try dsimp only at *); omega) | (intro h1; exfalso; have h4 := h1.2; (try dsimp only at *); omega) | (intro x h1 h2; exfalso; have h4 := h2.2; (try dsimp only at *); omega) | (intro x h1 h2; exact ⟨_, rfl, h2⟩) | (intro x h1 h2; have h4 := h2.1; have h5 := h2.2; exfalso; omega) | (intro x h1 h2; exact h2.1) | (intro x h1 h2; rcases h2.1 with h3 | h3; exact h3; exfalso; omega) | (intro x h1 h2; rcases h2 with h3 | h3; exact h3; exfalso; omega))
        replace hw := hw.chg kq_15 (by first | (intro x h1 h2; exact h2) | (intro x h0 h1 h2; exact hS x h1 h2) | (intro x h0 h1 h2; have h3 : _ = _ := h2; subst h3; exact hSR h1.1) | (intro x h1 h2; have h3 : _ = _ := h2; subst h3; assumption) | (intro x h1 h2; have h3 : _ = _ := h2; exfalso; omega) | (intro b h1 h2 h3; have h4 : _ = _ := h3; (try dsimp only at h2); exfalso; omega) | (intro h1; have h2 : _ = _ := h1; exfalso; omega) | (intro h1; have h2 : _ ≤ _ := h1; exfalso; omega) | (intros; exfalso; (try dsimp only at *); omega) | (intro b h1 h2 h3; exfalso; have h4 := h3.2; (try dsimp only at *); omega) | (intro h1; exfalso; have h4 := h1.2; (try dsimp only at *); omega) | (intro x h1 h2; exfalso; have h4 := h2.2; (try dsimp only at *); omega) | (intro x h1 h2; exact ⟨_, rfl, h2⟩) | (intro x h1 h2; have h4 := h2.1; have h5 := h2.2; exfalso; omega) | (intro x h1 h2; exact h2.1) | (intro x h1 h2; rcases h2.1 with h3 | h3; exact h3; exfalso; omega) | (intro x h1 h2; rcases h2 with h3 | h3; exact h3; exfalso; omega))
        replace hrr := hrr.chg kq_15 (by first | (intro x h1 h2; exact h2) | (intro x h0 h1 h2; exact hS x h1 h2) | (intro x h0 h1 h2; have h3 : _ = _ := h2; subst h3; exact hSR h1.1) | (intro x h1 h2; have h3 : _ = _ := h2; subst h3; assumption) | (intro x h1 h2; have h3 : _ = _ := h2; exfalso; omega) | (intro b h1 h2 h3; have h4 : _ = _ := h3; (try dsimp only at h2); exfalso; omega) | (intro h1; have h2 : _ = _ := h1; exfalso; omega) | (intro h1; have h2 : _ ≤ _ := h1; exfalso; omega) | (intros; exfalso; (try dsimp only at *); omega) | (intro b h1 h2 h3; exfalso; have h4 := h3.2; (try dsimp only at *); omega) | (intro h1; exfalso; have h4 := h1.2; (try dsimp only at *); omega) | (intro x h1 h2; exfalso; have h4 := h2.2; (try dsimp only at *); omega) | (intro x h1 h2; exact ⟨_, rfl, h2⟩) | (intro x h1 h2; have h4 := h2.1; have h5 := h2.2; exfalso; omega) | (intro x h1 h2; exact h2.1) | (intro x h1 h2; rcases h2.1 with h3 | h3; exact h3; exfalso; omega) | (intro x h1 h2; rcases h2 with h3 | h3; exact h3; exfalso; omega))
        refine WL.load Try.isAgg23 rfl ((hc.outer.cellsAt hr) 0 _ rfl) rfl (?_)
        refine WL.nil ?_
        exact WX.one ⟨rfl, by first | exact Chg.refl _ _ | assumption⟩
      apply DQ.step (E' := [(7, _)])
      case ho => rfl
      case hs => exact ⟨rfl, trivial⟩
      case hk => rfl
      case h1 =>
        intro wq_16 kq_16
        refine WL.move rfl rfl (?_)
        refine WL.nil ?_
        exact WX.one ⟨rfl, by first | exact Chg.refl _ _ | assumption⟩
      apply DQ.step (E' := [(37, _), (38, _)])
      case ho => rfl
      case hs => exact ⟨rfl, rfl, trivial⟩
      case hk => rfl
      case h1 =>
        intro wq_17 kq_17
        have zs_kq_17 := kq_17.size
        replace hc := hc.chg kq_17 (by first | (intro x h1 h2; exact h2) | (intro x h0 h1 h2; exact hS x h1 h2) | (intro x h0 h1 h2; have h3 : _ = _ := h2; subst h3; exact hSR h1.1) | (intro x h1 h2; have h3 : _ = _ := h2; subst h3; assumption) | (intro x h1 h2; have h3 : _ = _ := h2; exfalso; omega) | (intro b h1 h2 h3; have h4 : _ = _ := h3; (try dsimp only at h2); exfalso; omega) | (intro h1; have h2 : _ = _ := h1; exfalso; omega) | (intro h1; have h2 : _ ≤ _ := h1; exfalso; omega) | (intros; exfalso; (try dsimp only at *); omega) | (intro b h1 h2 h3; exfalso; have h4 := h3.2; (try dsimp only at *); omega) | (intro h1; exfalso; have h4 := h1.2; (try dsimp only at *); omega) | (intro x h1 h2; exfalso; have h4 := h2.2; (try dsimp only at *); omega) | (intro x h1 h2; exact ⟨_, rfl, h2⟩) | (intro x h1 h2; have h4 := h2.1; have h5 := h2.2; exfalso; omega) | (intro x h1 h2; exact h2.1) | (intro x h1 h2; rcases h2.1 with h3 | h3; exact h3; exfalso; omega) | (intro x h1 h2; rcases h2 with h3 | h3; exact h3; exfalso; omega))
        replace hw := hw.chg kq_17 (by first | (intro x h1 h2; exact h2) | (intro x h0 h1 h2; exact hS x h1 h2) | (intro x h0 h1 h2; have h3 : _ = _ := h2; subst h3; exact hSR h1.1) | (intro x h1 h2; have h3 : _ = _ := h2; subst h3; assumption) | (intro x h1 h2; have h3 : _ = _ := h2; exfalso; omega) | (intro b h1 h2 h3; have h4 : _ = _ := h3; (try dsimp only at h2); exfalso; omega) | (intro h1; have h2 : _ = _ := h1; exfalso; omega) | (intro h1; have h2 : _ ≤ _ := h1; exfalso; omega) | (intros; exfalso; (try dsimp only at *); omega) | (intro b h1 h2 h3; exfalso; have h4 := h3.2; (try dsimp only at *); omega) | (intro h1; exfalso; have h4 := h1.2; (try dsimp only at *); omega) | (intro x h1 h2; exfalso; have h4 := h2.2; (try dsimp only at *); omega) | (intro x h1 h2; exact ⟨_, rfl, h2⟩) | (intro x h1 h2; have h4 := h2.1; have h5 := h2.2; exfalso; omega) | (intro x h1 h2; exact h2.1) | (intro x h1 h2; rcases h2.1 with h3 | h3; exact h3; exfalso; omega) | (intro x h1 h2; rcases h2 with h3 | h3; exact h3; exfalso; omega))
        replace hrr := hrr.chg kq_17 (by first | (intro x h1 h2; exact h2) | (intro x h0 h1 h2; exact hS x h1 h2) | (intro x h0 h1 h2; have h3 : _ = _ := h2; subst h3; exact hSR h1.1) | (intro x h1 h2; have h3 : _ = _ := h2; subst h3; assumption) | (intro x h1 h2; have h3 : _ = _ := h2; exfalso; omega) | (intro b h1 h2 h3; have h4 : _ = _ := h3; (try dsimp only at h2); exfalso; omega) | (intro h1; have h2 : _ = _ := h1; exfalso; omega) | (intro h1; have h2 : _ ≤ _ := h1; exfalso; omega) | (intros; exfalso; (try dsimp only at *); omega) | (intro b h1 h2 h3; exfalso; have h4 := h3.2; (try dsimp only at *); omega) | (intro h1; exfalso; have h4 := h1.2; (try dsimp only at *); omega) | (intro x h1 h2; exfalso; have h4 := h2.2; (try dsimp only at *); omega) | (intro x h1 h2; exact ⟨_, rfl, h2⟩) | (intro x h1 h2; have h4 := h2.1; have h5 := h2.2; exfalso; omega) | (intro x h1 h2; exact h2.1) | (intro x h1 h2; rcases h2.1 with h3 | h3; exact h3; exfalso; omega) | (intro x h1 h2; rcases h2 with h3 | h3; exact h3; exfalso; omega))
        refine WL.indexC hrr Try.underlying23 Try.sizeOf5 rfl rfl ⟨hc0, rfl⟩ rfl ?_
        refine WL.nil ?_
        exact WX.one ⟨rfl, by first | exact Chg.refl _ _ | assumption⟩
      apply DQ.step (E' := [(39, _)])
      case ho => rfl
      case hs => exact ⟨rfl, trivial⟩
      case hk => rfl
      case h1 =>
        intro wq_18 kq_18
        have zs_kq_18 := kq_18.size
        replace hc := hc.chg kq_18 (by first | (intro x h1 h2; exact h2) | (intro x h0 h1 h2; exact hS x h1 h2) | (intro x h0 h1 h2; have h3 : _ = _ := h2; subst h3; exact hSR h1.1) | (intro x h1 h2; have h3 : _ = _ := h2; subst h3; assumption) | (intro x h1 h2; have h3 : _ = _ := h2; exfalso; omega) | (intro b h1 h2 h3; have h4 : _ = _ := h3; (try dsimp only at h2); exfalso; omega) | (intro h1; have h2 : _ = _ := h1; exfalso; omega) | (intro h1; have h2 : _ ≤ _ := h1; exfalso; omega) | (intros; exfalso; (try dsimp only at *); omega) | (intro b h1 h2 h3; exfalso; have h4 := h3.2; (try dsimp only at *); omega) | (intro h1; exfalso; have h4 := h1.2; (try dsimp only at *); omega) | (intro x h1 h2; exfalso; have h4 := h2.2; (try dsimp only at *); omega) | (intro x h1 h2; exact ⟨_, rfl, h2⟩) | (intro x h1 h2; have h4 := h2.1; have h5 := h2.2; exfalso; omega) | (intro x h1 h2; exact h2.1) | (intro x h1 h2; rcases h2.1 with h3 | h3; exact h3; exfalso; omega) | (intro x h1 h2; rcases h2 with h3 | h3; exact h3; exfalso; omega))
        replace hw := hw.chg kq_18 (by first | (intro x h1 h2; exact h2) | (intro x h0 h1 h2; exact hS x h1 h2) | (intro x h0 h1 h2; have h3 : _ = _ := h2; subst h3; exact hSR h1.1) | (intro x h1 h2; have h3 : _ = _ := h2; subst h3; assumption) | (intro x h1 h2; have h3 : _ = _ := h2; exfalso; omega) | (intro b h1 h2 h3; have h4 : _ = _ := h3; (try dsimp only at h2); exfalso; omega) | (intro h1; have h2 : _ = _ := h1; exfalso; omega) | (intro h1; have h2 : _ ≤ _ := h1; exfalso; omega) | (intros; exfalso; (try dsimp only at *); omega) | (intro b h1 h2 h3; exfalso; have h4 := h3.2; (try dsimp only at *); omega) | (intro h1; exfalso; have h4 := h1.2; (try dsimp only at *); omega) | (intro x h1 h2; exfalso; have h4 := h2.2; (try dsimp only at *); omega) | (intro x h1 h2; exact ⟨_, rfl, h2⟩) | (intro x h1 h2; have h4 := h2.1; have h5 := h2.2; exfalso; omega) | (intro x h1 h2; exact h2.1) | (intro x h1 h2; rcases h2.1 with h3 | h3; exact h3; exfalso; omega) | (intro x h1 h2; rcases h2 with h3 | h3; exact h3; exfalso; omega))
        replace hrr := hrr.chg kq_18 (by first | (intro x h1 h2; exact h2) | (intro x h0 h1 h2; exact hS x h1 h2) | (intro x h0 h1 h2; have h3 : _ = _ := h2; subst h3; exact hSR h1.1) | (intro x h1 h2; have h3 : _ = _ := h2; subst h3; assumption) | (intro x h1 h2; have h3 : _ = _ := h2; exfalso; omega) | (intro b h1 h2 h3; have h4 : _ = _ := h3; (try dsimp only at h2); exfalso; omega) | (intro h1; have h2 : _ = _ := h1; exfalso; omega) | (intro h1; have h2 : _ ≤ _ := h1; exfalso; omega) | (intros; exfalso; (try dsimp only at *); omega) | (intro b h1 h2 h3; exfalso; have h4 := h3.2; (try dsimp only at *); omega) | (intro h1; exfalso; have h4 := h1.2; (try dsimp only at *); omega) | (intro x h1 h2; exfalso; have h4 := h2.2; (try dsimp only at *); omega) | (intro x h1 h2; exact ⟨_, rfl, h2⟩) | (intro x h1 h2; have h4 := h2.1; have h5 := h2.2; exfalso; omega) | (intro x h1 h2; exact h2.1) | (intro x h1 h2; rcases h2.1 with h3 | h3; exact h3; exfalso; omega) | (intro x h1 h2; rcases h2 with h3 | h3; exact h3; exfalso; omega))
        refine WL.load Try.isAgg5 rfl ((hrr.cellsAt hc0) 0 _ rfl) rfl (?_)
        refine WL.nil ?_
        exact WX.one ⟨rfl, by first | exact Chg.refl _ _ | assumption⟩
      apply DQ.step (E' := [(33, _), (40, _)])
      case ho => rfl
      case hs => exact ⟨rfl, rfl, trivial⟩
      case hk => rfl
      case h1 =>
        intro wq_19 kq_19
        have zs_kq_19 := kq_19.size
        replace hc := hc.chg kq_19 (by first | (intro x h1 h2; exact h2) | (intro x h0 h1 h2; exact hS x h1 h2) | (intro x h0 h1 h2; have h3 : _ = _ := h2; subst h3; exact hSR h1.1) | (intro x h1 h2; have h3 : _ = _ := h2; subst h3; assumption) | (intro x h1 h2; have h3 : _ = _ := h2; exfalso; omega) | (intro b h1 h2 h3; have h4 : _ = _ := h3; (try dsimp only at h2); exfalso; omega) | (intro h1; have h2 : _ = _ := h1; exfalso; omega) | (intro h1; have h2 : _ ≤ _ := h1; exfalso; omega) | (intros; exfalso; (try dsimp only at *); omega) | (intro b h1 h2 h3; exfalso; have h4 := h3.2; (try dsimp only at *); omega) | (intro h1; exfalso; have h4 := h1.2; (try dsimp only at *); omega) | (intro x h1 h2; exfalso; have h4 := h2.2; (try dsimp only at *); omega) | (intro x h1 h2; exact ⟨_, rfl, h2⟩) | (intro x h1 h2; have h4 := h2.1; have h5 := h2.2; exfalso; omega) | (intro x h1 h2; exact h2.1) | (intro x h1 h2; rcases h2.1 with h3 | h3; exact h3; exfalso; omega) | (intro x h1 h2; rcases h2 with h3 | h3; exact h3; exfalso; omega))
        replace hw := hw.chg kq_19 (by first | (intro x h1 h2; exact h2) | (intro x h0 h1 h2; exact hS x h1 h2) | (intro x h0 h1 h2; have h3 : _ = _ := h2; subst h3; exact hSR h1.1) | (intro x h1 h2; have h3 : _ = _ := h2; subst h3; assumption) | (intro x h1 h2; have h3 : _ = _ := h2; exfalso; omega) | (intro b h1 h2 h3; have h4 : _ = _ := h3; (try dsimp only at h2); exfalso; omega) | (intro h1; have h2 : _ = _ := h1; exfalso; omega) | (intro h1; have h2 : _ ≤ _ := h1; exfalso; omega) | (intros; exfalso; (try dsimp only at *); omega) | (intro b h1 h2 h3; exfalso; have h4 := h3.2; (try dsimp only at *); omega) | (intro h1; exfalso; have h4 := h1.2; (try dsimp only at *); omega) | (intro x h1 h2; exfalso; have h4 := h2.2; (try dsimp only at *); omega) | (intro x h1 h2; exact ⟨_, rfl, h2⟩) | (intro x h1 h2; have h4 := h2.1; have h5 := h2.2; exfalso; omega) | (intro x h1 h2; exact h2.1) | (intro x h1 h2; rcases h2.1 with h3 | h3; exact h3; exfalso; omega) | (intro x h1 h2; rcases h2 with h3 | h3; exact h3; exfalso; omega))
        replace hrr := hrr.chg kq_19 (by first | (intro x h1 h2; exact h2) | (intro x h0 h1 h2; exact hS x h1 h2) | (intro x h0 h1 h2; have h3 : _ = _ := h2; subst h3; exact hSR h1.1) | (intro x h1 h2; have h3 : _ = _ := h2; subst h3; assumption) | (intro x h1 h2; have h3 : _ = _ := h2; exfalso; omega) | (intro b h1 h2 h3; have h4 : _ = _ := h3; (try dsimp only at h2); exfalso; omega) | (intro h1; have h2 : _ = _ := h1; exfalso; omega) | (intro h1; have h2 : _ ≤ _ := h1; exfalso; omega) | (intros; exfalso; (try dsimp only at *); omega) | (intro b h1 h2 h3; exfalso; have h4 := h3.2; (try dsimp only at *); omega) | (intro h1; exfalso; have h4 := h1.2; (try dsimp only at *); omega) | (intro x h1 h2; exfalso; have h4 := h2.2; (try dsimp only at *); omega) | (intro x h1 h2; exact ⟨_, rfl, h2⟩) | (intro x h1 h2; have h4 := h2.1; have h5 := h2.2; exfalso; omega) | (intro x h1 h2; exact h2.1) | (intro x h1 h2; rcases h2.1 with h3 | h3; exact h3; exfalso; omega) | (intro x h1 h2; rcases h2 with h3 | h3; exact h3; exfalso; omega))
        refine WL.call eg_27 rfl rfl (refMul_calls _ _ _) ?_
        rintro v w4 ⟨rfl, k4⟩
        have zs_k4 := k4.size
        replace hc := hc.pure k4
        replace hw := hw.pure k4
        replace hrr := hrr.pure k4
        refine WL.nil ?_
        exact WX.one ⟨rfl, by first | exact Chg.refl _ _ | assumption⟩
      apply DQ.step (E' := [(25, _), (26, _)])
      case ho => rfl
      case hs => exact ⟨rfl, rfl, trivial⟩
      case hk => rfl
      case h1 =>
        intro wq_20 kq_20
        have zs_kq_20 := kq_20.size
        replace hc := hc.chg kq_20 (by first | (intro x h1 h2; exact h2) | (intro x h0 h1 h2; exact hS x h1 h2) | (intro x h0 h1 h2; have h3 : _ = _ := h2; subst h3; exact hSR h1.1) | (intro x h1 h2; have h3 : _ = _ := h2; subst h3; assumption) | (intro x h1 h2; have h3 : _ = _ := h2; exfalso; omega) | (intro b h1 h2 h3; have h4 : _ = _ := h3; (try dsimp only at h2); exfalso; omega) | (intro h1; have h2 : _ = _ := h1; exfalso; omega) | (intro h1; have h2 : _ ≤ _ := h1; exfalso; omega) | (intros; exfalso; (try dsimp only at *); omega) | (intro b h1 h2 h3; exfalso; have h4 := h3.2; (try dsimp only at *); omega) | (intro h1; exfalso; have h4 := h1.2; (try dsimp only at *); omega) | (intro x h1 h2; exfalso; have h4 := h2.2; (try dsimp only at *); omega) | (intro x h1 h2; exact ⟨_, rfl, h2⟩) | (intro x h1 h2; have h4 := h2.1; have h5 := h2.2; exfalso; omega) | (intro x h1 h2; exact h2.1) | (intro x h1 h2; rcases h2.1 with h3 | h3; exact h3; exfalso; omega) | (intro x h1 h2; rcases h2 with h3 | h3; exact h3; exfalso; omega))
        replace hw := hw.chg kq_20 (by first | (intro x h1 h2; exact h2) | (intro x h0 h1 h2; exact hS x h1 h2) | (intro x h0 h1 h2; have h3 : _ = _ := h2; subst h3; exact hSR h1.1) | (intro x h1 h2; have h3 : _ = _ := h2; subst h3; assumption) | (intro x h1 h2; have h3 : _ = _ := h2; exfalso; omega) | (intro b h1 h2 h3; have h4 : _ = _ := h3; (try dsimp only at h2); exfalso; omega) | (intro h1; have h2 : _ = _ := h1; exfalso; omega) | (intro h1; have h2 : _ ≤ _ := h1; exfalso; omega) | (intros; exfalso; (try dsimp only at *); omega) | (intro b h1 h2 h3; exfalso; have h4 := h3.2; (try dsimp only at *); omega) | (intro h1; exfalso; have h4 := h1.2; (try dsimp only at *); omega) | (intro x h1 h2; exfalso; have h4 := h2.2; (try dsimp only at *); omega) | (intro x h1 h2; exact ⟨_, rfl, h2⟩) | (intro x h1 h2; have h4 := h2.1; have h5 := h2.2; exfalso; omega) | (intro x h1 h2; exact h2.1) | (intro x h1 h2; rcases h2.1 with h3 | h3; exact h3; exfalso; omega) | (intro x h1 h2; rcases h2 with h3 | h3; exact h3; exfalso; omega))
        replace hrr := hrr.chg kq_20 (by first | (intro x h1 h2; exact h2) | (intro x h0 h1 h2; exact hS x h1 h2) | (intro x h0 h1 h2; have h3 : _ = _ := h2; subst h3; exact hSR h1.1) | (intro x h1 h2; have h3 : _ = _ := h2; subst h3; assumption) | (intro x h1 h2; have h3 : _ = _ := h2; exfalso; omega) | (intro b h1 h2 h3; have h4 : _ = _ := h3; (try dsimp only at h2); exfalso; omega) | (intro h1; have h2 : _ = _ := h1; exfalso; omega) | (intro h1; have h2 : _ ≤ _ := h1; exfalso; omega) | (intros; exfalso; (try dsimp only at *); omega) | (intro b h1 h2 h3; exfalso; have h4 := h3.2; (try dsimp only at *); omega) | (intro h1; exfalso; have h4 := h1.2; (try dsimp only at *); omega) | (intro x h1 h2; exfalso; have h4 := h2.2; (try dsimp only at *); omega) | (intro x h1 h2; exact ⟨_, rfl, h2⟩) | (intro x h1 h2; have h4 := h2.1; have h5 := h2.2; exfalso; omega) | (intro x h1 h2; exact h2.1) | (intro x h1 h2; rcases h2.1 with h3 | h3; exact h3; exfalso; omega) | (intro x h1 h2; rcases h2 with h3 | h3; exact h3; exfalso; omega))
        refine WL.index (sz := 1) Try.underlying23 Try.sizeOf5 rfl rfl rfl (by omega) rfl ?_
        refine WL.nil ?_
        exact WX.one ⟨rfl, by first | exact Chg.refl _ _ | assumption⟩
      refine DQ.done (fun hd_3 => ?_)
      refine DL.step [(29, _)] rfl ⟨rfl, trivial⟩ rfl (fun wq_21 kq_21 => ?_)
      have zs_kq_21 := kq_21.size
      replace hg := hg.pure kq_21
      replace hc := hc.pure kq_21
      replace hw := hw.pure kq_21
      replace hrr := hrr.pure kq_21
      replace hd_3 := hd_3.pure kq_21
      refine WL.load Try.isAgg5 rfl ((hg.rsl.cellsAt fp) 0 _ rfl) rfl ?_
      refine WL.nil ?_
      refine WX.one ⟨hd_3, ?_⟩
      refine DL.step [(30, _), (41, _)] rfl ⟨rfl, rfl, trivial⟩ rfl (fun wq_22 kq_22 => ?_)
      have zs_kq_22 := kq_22.size
      replace hg := hg.pure kq_22
      replace hc := hc.pure kq_22
      replace hw := hw.pure kq_22
      replace hrr := hrr.pure kq_22
      replace hd_3 := hd_3.pure kq_22
      refine WL.num rfl rfl (n_xor8 _ _ _ _) rfl (?_)
      refine WL.nil ?_
      refine WX.one ⟨hd_3, ?_⟩
      refine DL.step [(43, _), (42, _)] rfl ⟨rfl, rfl, trivial⟩ rfl (fun wq_23 kq_23 => ?_)
      have zs_kq_23 := kq_23.size
      replace hg := hg.pure kq_23
      replace hc := hc.pure kq_23
      replace hw := hw.pure kq_23
      replace hrr := hrr.pure kq_23
      replace hd_3 := hd_3.pure kq_23
      refine WL.storeRow (z := p ^^^ mul (wtq q i) c0) (k) Try.sizeOf5 hg rfl rfl rfl (by first | (simp; done) | (show 0 + _ * 1 = _; omega)) (by omega) rfl ?_
      intro w_24 zs_24 nr_24 k_24
      have zs_k_24 := k_24.size
      replace hc := hc.chg k_24 (by first | (intro x h1 h2; exact h2) | (intro x h0 h1 h2; exact hS x h1 h2) | (intro x h0 h1 h2; have h3 : _ = _ := h2; subst h3; exact hSR h1.1) | (intro x h1 h2; have h3 : _ = _ := h2; subst h3; assumption) | (intro x h1 h2; have h3 : _ = _ := h2; exfalso; omega) | (intro b h1 h2 h3; have h4 : _ = _ := h3; (try dsimp only at h2); exfalso; omega) | (intro h1; have h2 : _ = _ := h1; exfalso; omega) | (intro h1; have h2 : _ ≤ _ := h1; exfalso; omega) | (intros; exfalso; (try dsimp only at *); omega) | (intro b h1 h2 h3; exfalso; have h4 := h3.2; (try dsimp only at *); omega) | (intro h1; exfalso; have h4 := h1.2; (try dsimp only at *); omega) | (intro x h1 h2; exfalso; have h4 := h2.2; (try dsimp only at *); omega) | (intro x h1 h2; exact ⟨_, rfl, h2⟩) | (intro x h1 h2; have h4 := h2.1; have h5 := h2.2; exfalso; omega) | (intro x h1 h2; exact h2.1) | (intro x h1 h2; rcases h2.1 with h3 | h3; exact h3; exfalso; omega) | (intro x h1 h2; rcases h2 with h3 | h3; exact h3; exfalso; omega))
      replace hw := hw.chg k_24 (by first | (intro x h1 h2; exact h2) | (intro x h0 h1 h2; exact hS x h1 h2) | (intro x h0 h1 h2; have h3 : _ = _ := h2; subst h3; exact hSR h1.1) | (intro x h1 h2; have h3 : _ = _ := h2; subst h3; assumption) | (intro x h1 h2; have h3 : _ = _ := h2; exfalso; omega) | (intro b h1 h2 h3; have h4 : _ = _ := h3; (try dsimp only at h2); exfalso; omega) | (intro h1; have h2 : _ = _ := h1; exfalso; omega) | (intro h1; have h2 : _ ≤ _ := h1; exfalso; omega) | (intros; exfalso; (try dsimp only at *); omega) | (intro b h1 h2 h3; exfalso; have h4 := h3.2; (try dsimp only at *); omega) | (intro h1; exfalso; have h4 := h1.2; (try dsimp only at *); omega) | (intro x h1 h2; exfalso; have h4 := h2.2; (try dsimp only at *); omega) | (intro x h1 h2; exact ⟨_, rfl, h2⟩) | (intro x h1 h2; have h4 := h2.1; have h5 := h2.2; exfalso; omega) | (intro x h1 h2; exact h2.1) | (intro x h1 h2; rcases h2.1 with h3 | h3; exact h3; exfalso; omega) | (intro x h1 h2; rcases h2 with h3 | h3; exact h3; exfalso; omega))
      replace hrr := hrr.chg k_24 (by first | (intro x h1 h2; exact h2) | (intro x h0 h1 h2; exact hS x h1 h2) | (intro x h0 h1 h2; have h3 : _ = _ := h2; subst h3; exact hSR h1.1) | (intro x h1 h2; have h3 : _ = _ := h2; subst h3; assumption) | (intro x h1 h2; have h3 : _ = _ := h2; exfalso; omega) | (intro b h1 h2 h3; have h4 : _ = _ := h3; (try dsimp only at h2); exfalso; omega) | (intro h1; have h2 : _ = _ := h1; exfalso; omega) | (intro h1; have h2 : _ ≤ _ := h1; exfalso; omega) | (intros; exfalso; (try dsimp only at *); omega) | (intro b h1 h2 h3; exfalso; have h4 := h3.2; (try dsimp only at *); omega) | (intro h1; exfalso; have h4 := h1.2; (try dsimp only at *); omega) | (intro x h1 h2; exfalso; have h4 := h2.2; (try dsimp only at *); omega) | (intro x h1 h2; exact ⟨_, rfl, h2⟩) | (intro x h1 h2; have h4 := h2.1; have h5 := h2.2; exfalso; omega) | (intro x h1 h2; exact h2.1) | (intro x h1 h2; rcases h2.1 with h3 | h3; exact h3; exfalso; omega) | (intro x h1 h2; rcases h2 with h3 | h3; exact h3; exfalso; omega))
      replace hd_3 := hd_3.chg k_24 (by first | (intro x h1 h2; exact h2) | (intro x h0 h1 h2; exact hS x h1 h2) | (intro x h0 h1 h2; have h3 : _ = _ := h2; subst h3; exact hSR h1.1) | (intro x h1 h2; have h3 : _ = _ := h2; subst h3; assumption) | (intro x h1 h2; have h3 : _ = _ := h2; exfalso; omega) | (intro b h1 h2 h3; have h4 : _ = _ := h3; (try dsimp only at h2); exfalso; omega) | (intro h1; have h2 : _ = _ := h1; exfalso; omega) | (intro h1; have h2 : _ ≤ _ := h1; exfalso; omega) | (intros; exfalso; (try dsimp only at *); omega) | (intro b h1 h2 h3; exfalso; have h4 := h3.2; (try dsimp only at *); omega) | (intro h1; exfalso; have h4 := h1.2; (try dsimp only at *); omega) | (intro x h1 h2; exfalso; have h4 := h2.2; (try dsimp only at *); omega) | (intro x h1 h2; exact ⟨_, rfl, h2⟩) | (intro x h1 h2; have h4 := h2.1; have h5 := h2.2; exfalso; omega) | (intro x h1 h2; exact h2.1) | (intro x h1 h2; rcases h2.1 with h3 | h3; exact h3; exfalso; omega) | (intro x h1 h2; rcases h2 with h3 | h3; exact h3; exfalso; omega))
      replace hg := nr_24
      rw [fset] at hg
      refine WL.nil ?_
      refine WX.one0 (v := undef) ⟨hd_3, ?_⟩
      refine DL.done (fun we_25 ke_25 => ?_)
      have zs_ke_25 := ke_25.size
      replace hg := hg.pure ke_25
      replace hc := hc.pure ke_25
      replace hw := hw.pure ke_25
      replace hrr := hrr.pure ke_25
      replace hd_3 := hd_3.pure ke_25
      refine WX.block_normal (WX.then_normal (WC.region (WL.move rfl rfl (WL.add64 rfl rfl (by first | omega | (constructor <;> omega)) rfl (WL.assign rfl rfl (WL.nil (?_)))))))
      first
        | (refine WX.loop_next (k + 1) ⟨rfl, rfl, rfl, rfl, rfl, trivial⟩ ⟨by omega, hg, hc, hw⟩ (by show _ - _ < _ - _; omega))
        | (have hkn : k = (prow (wtq q) (xss rs) n i).length := by omega
           subst hkn
           rw [addTo'_end (by omega)] at hg
           refine WX.loop_next (i + 1) ⟨rfl, rfl, rfl, rfl, trivial⟩ ⟨by omega, ?_, hc, hw⟩ (by show _ - _ < _ - _; omega)
           rw [prow, xss_getD hr]
           exact hg)
    ·
      refine WL.nil (WX.then_normal (WC.cond_false rfl (WC.exit (WX.then_exit (WX.then_exit (WX.block_here (WX.block_normal (?_))))))))
      refine WX.then_normal (WC.region (WL.move rfl rfl (WL.add64 rfl rfl (by first | omega | (constructor <;> omega)) rfl (WL.assign rfl rfl (WL.nil (?_))))))
      first
        | (refine WX.loop_next (k + 1) ⟨rfl, rfl, rfl, rfl, rfl, trivial⟩ ⟨by omega, hg, hc, hw⟩ (by show _ - _ < _ - _; omega))
        | (have hkn : k = (prow (wtq q) (xss rs) n i).length := by omega
           subst hkn
           rw [addTo'_end (by omega)] at hg
           refine WX.loop_next (i + 1) ⟨rfl, rfl, rfl, rfl, trivial⟩ ⟨by omega, ?_, hc, hw⟩ (by show _ - _ < _ - _; omega)
           rw [prow, xss_getD hr]
           exact hg)
  ·
    refine WL.nil (WX.then_normal (WC.cond_false rfl (WC.exit (WX.then_exit (WX.then_exit (WX.block_here (WX.then_normal (?_))))))))
    refine WC.seq (WC.region (WL.move rfl rfl (WL.assign rfl rfl (WL.nil (WX.then_normal (WC.ret (?_)))))))
    refine WX.ret1 (.inl rfl) Try.results37 rfl ?_
    have hil : i = rs.length := by omega
    subst hil
    refine ⟨_, rfl, ⟨some ⟨g, 0, none⟩, n, by rw [hpl], hg.mono (fun b h => ?_)⟩, hw⟩
    have h2 : b = g := h
    omega
end Go.Proofs.Ytjdbjdgobhjbkaa
namespace Go.HL
open Go.RowKit
theorem RS.cut {S : Nat → Prop} {w : World} {ao : Option Addr} {c : Nat} {rs : List Rw} (hr : RS S w ao c rs) (l h : Nat) (hl : l ≤ h ∧ h ≤ rs.length) : RS S w (cutAt ao c l erow.sz) (c - l) ((rs.take h).drop l) :=
  ⟨hr.outer.cut l h hl, fun r h1 => hr.inner r (List.mem_of_mem_take (List.mem_of_mem_drop h1))⟩
end Go.HL
namespace Go.Proofs.Ytjdbjdgobhjbkaa
open Go.RowKit Go.HL

theorem xss_take (rs : List Rw) (k : Nat) : xss ((rs.take k).drop 0) = (xss rs).take k := by rw [List.drop_zero, xss, xss, List.map_take]
theorem xss_drop (rs : List Rw) (k : Nat) : xss ((rs.take rs.length).drop k) = (xss rs).drop k := by rw [List.take_length, xss, xss, List.map_drop]
theorem beq0_calls {S1 S2 : Nat → Prop} {w : World} {a b : Option Addr} {c d : Nat} {us vs : List UInt8} (hx : RSl S1 w eb a c us) (hy : RSl S2 w eb b d vs) :
    Calls Try.prog 45 [.slice a us.length c, .slice b vs.length d].toArray w (Ret fun v w' => v = .bool (decide (us = vs)) ∧ Chg Nob w w') := by
  have hw := Chg.refl Nob w
  refine Calls.of_WC Try.func45 rfl Try.ntmps45 (by simp) ?_
  refine WC.seq (WC.region (WL.assign rfl rfl (WL.nil (WX.then_normal (WC.seq (WC.region (WL.move rfl rfl (?_))))))))
  refine WL.toStr Try.underlying23 Try.underlying5 Try.underlying9 hx rfl rfl ?_
  refine WL.move rfl rfl (?_)
  refine WL.toStr Try.underlying23 Try.underlying5 Try.underlying9 hy rfl rfl ?_
  refine WL.seql rfl rfl rfl (WL.assign rfl rfl (WL.nil (WX.then_normal (WC.ret (?_)))))
  refine WX.ret1 (.inl rfl) Try.results45 rfl ?_
  refine ⟨_, rfl, congrArg Value.bool (decide_eq_decide.2 ⟨fun h => ?_, fun h => by rw [h]⟩), hw⟩
  exact congrArg (fun s : ByteArray => s.data.toList) h
theorem beq_calls {S1 S2 : Nat → Prop} {w : World} {a b : Option Addr} {c d : Nat} {us vs : List UInt8} (hx : RSl S1 w eb a c us) (hy : RSl S2 w eb b d vs) :
    Calls Try.prog 45 (#[] ++ [.slice a us.length c, .slice b vs.length d].toArray ++ #[]) w (Ret fun v w' => v = .bool (decide (us = vs)) ∧ Chg Nob w w') := by
  rw [show (#[] ++ [Value.slice a us.length c, Value.slice b vs.length d].toArray ++ #[] : Array Value) = [Value.slice a us.length c, Value.slice b vs.length d].toArray from by rw [Array.append_empty, Array.empty_append]]
  exact beq0_calls hx hy
theorem equalFunc_calls {S1 S2 : Nat → Prop} {w : World} {aa ab : Option Addr} {ca cb : Nat} {us vs : List Rw} (ha : RS S1 w aa ca us) (hb : RS S2 w ab cb vs) (hla : us.length ≤ 100000) :
    Calls Try.prog 44 [.slice aa us.length ca, .slice ab vs.length cb, .func (.func 45) #[] #[]].toArray w (Ret fun v w' => v = .bool (decide (xss us = xss vs)) ∧ Chg Nob w w') := by
  replace ha := ha.old
  replace hb := hb.old
  have hw := Chg.refl Nob w
  refine Calls.of_WC Try.func44 rfl Try.ntmps44 (by simp) ?_
  refine WC.seq (WC.region (WL.assign rfl rfl (WL.nil (WX.then_normal (WC.seq (WC.seq (WC.region (?_))))))))
  refine WL.move rfl rfl (WL.len Try.underlying22 rfl rfl (WL.move rfl rfl (WL.len Try.underlying22 rfl rfl (?_))))
  refine WL.neq? rfl rfl rfl (fun h14 => ?_) (fun h14 => ?_)
  ·
    refine WL.nil (WX.then_normal (WC.cond_true rfl (WC.seq (WC.region (WL.assign rfl rfl (WL.nil (WX.then_normal (?_))))))))
    refine WC.ret (WX.then_ret (?_))
    refine WX.ret1 (.inl rfl) Try.results44 rfl ?_
    first
      | (refine ⟨_, rfl, congrArg Value.bool (decide_eq_false (fun h => ?_)).symm, hw⟩
         have h1 : (xss us)[i]? = (xss vs)[i]? := by rw [h]
         rw [xss_at hx, xss_at hy] at h1
         injection h1 with h1
         exact hxy h1)
      | (refine ⟨_, rfl, congrArg Value.bool (decide_eq_false (fun h => ?_)).symm, hw⟩
         have h1 := congrArg List.length h
         rw [xss_len, xss_len] at h1
         omega)
      | (refine ⟨_, rfl, congrArg Value.bool (decide_eq_true ?_).symm, hw⟩
         apply List.ext_getElem?
         intro j
         rcases Nat.lt_or_ge j us.length with hj | hj
         ·
           obtain ⟨x, hx⟩ : ∃ x, us[j]? = some x := ⟨_, List.getElem?_eq_getElem hj⟩
           obtain ⟨y, hy⟩ : ∃ y, vs[j]? = some y := ⟨_, List.getElem?_eq_getElem (by omega)⟩
           rw [xss_at hx, xss_at hy, hall j x y (by omega) hx hy]
         ·
           rw [List.getElem?_eq_none (by rw [xss_len]; omega), List.getElem?_eq_none (by rw [xss_len]; omega)])
  ·
    refine WL.nil (WX.then_normal (WC.cond_false rfl (WC.skip (WX.then_normal (WC.seq (WC.seq (WC.region (?_))))))))
    refine WL.move rfl rfl (WL.len Try.underlying22 rfl rfl (WL.move rfl rfl (WL.nil (WX.then_normal (WC.block (?_))))))
    refine WC.loop (σ := Nat) (fun i => [(1, .slice ab vs.length cb), (2, .func (.func 45) #[] #[]), (15, .slice aa us.length ca), (16, vi us.length), (17, vi i)])
      (fun i w' => i ≤ us.length ∧ (∀ (j : Nat) (x y : Rw), j < i → us[j]? = some x → vs[j]? = some y → x.xs = y.xs) ∧ RS (· < w.heap.size) w' aa ca us ∧ RS (· < w.heap.size) w' ab cb vs ∧ Chg Nob w w') (fun i => us.length - i) 0 ⟨rfl, rfl, rfl, rfl, rfl, trivial⟩ ⟨Nat.zero_le _, fun j x y h => absurd h (by omega), ha, hb, hw⟩ ?_
    clear ha hb hw
    rintro i w2 ⟨hi, hall, ha, hb, hw⟩
    refine WC.seq (WC.region (?_))
    refine WL.lss? rfl rfl rfl (fun h18 => ?_) (fun h18 => ?_)
    ·
      refine WL.nil (WX.then_normal (WC.seq (WC.cond_true rfl (WC.skip (WX.then_normal (WC.seq (WC.block (?_))))))))
      refine WC.seq (WC.region (WL.move rfl rfl (?_)))
      obtain ⟨x, hx⟩ : ∃ x, us[i]? = some x := ⟨_, List.getElem?_eq_getElem (by omega)⟩
      obtain ⟨y, hy⟩ : ∃ y, vs[i]? = some y := ⟨_, List.getElem?_eq_getElem (by omega)⟩
      refine WL.indexT Try.underlying22 Try.sizeOf23 ha.outer rfl rfl ⟨hx, rfl⟩ rfl ?_
      intro b_1 o_1 hc_1
      refine WL.load Try.isAgg23 rfl (hc_1 0 _ rfl) rfl (WL.assign rfl rfl (WL.assign rfl rfl (WL.nil (WX.then_normal (WC.seq (WC.region (WL.move rfl rfl (?_))))))))
      refine WL.move rfl rfl (?_)
      refine WL.indexT Try.underlying22 Try.sizeOf23 hb.outer rfl rfl ⟨hy, rfl⟩ rfl ?_
      intro b_2 o_2 hc_2
      refine WL.load Try.isAgg23 rfl (hc_2 0 _ rfl) rfl (WL.assign rfl rfl (WL.nil (WX.then_normal (WC.seq (WC.region (WL.move rfl rfl (WL.move rfl rfl (?_))))))))
      refine WL.move rfl rfl (?_)
      have hxr := ha.at hx
      have hyr := hb.at hy
      refine WL.callv eg_45 rfl rfl rfl (beq_calls hxr hyr) ?_
      rintro v w3 ⟨rfl, k⟩
      have zs_k := k.size
      replace ha := ha.pure k
      replace hb := hb.pure k
      replace hw := hw.pure k
      by_cases hxy : x.xs = y.xs
      ·
        rw [show decide (x.xs = y.xs) = true from decide_eq_true hxy]
        refine WL.not rfl rfl (WL.nil (WX.then_normal (WC.cond_false rfl (WC.skip (WX.block_normal (WX.then_normal (WC.region (?_))))))))
        refine WL.add64 rfl rfl (by first | omega | (constructor <;> omega)) rfl (WL.move rfl rfl (WL.nil (?_)))
        refine WX.loop_next (i + 1) ⟨rfl, rfl, rfl, rfl, rfl, trivial⟩ ⟨by omega, fun j x' y' h h1 h2 => ?_, ha, hb, hw⟩ (by show _ - _ < _ - _; omega)
        rcases Nat.lt_or_ge j i with h3 | h3
        ·
          exact hall j x' y' h3 h1 h2
        ·
          have hji : j = i := by omega
          subst hji
          rw [hx] at h1
          rw [hy] at h2
          injection h1 with h1
          injection h2 with h2
          rw [← h1, ← h2]
          exact hxy
      ·
        rw [show decide (x.xs = y.xs) = false from decide_eq_false hxy]
        refine WL.not rfl rfl (WL.nil (WX.then_normal (WC.cond_true rfl (WC.seq (WC.region (WL.assign rfl rfl (WL.nil (?_))))))))
        refine WX.then_normal (WC.ret (WX.block_ret (WX.then_ret (WX.then_ret (WX.block_ret (WX.then_ret (?_)))))))
        refine WX.ret1 (.inl rfl) Try.results44 rfl ?_
        first
          | (refine ⟨_, rfl, congrArg Value.bool (decide_eq_false (fun h => ?_)).symm, hw⟩
             have h1 : (xss us)[i]? = (xss vs)[i]? := by rw [h]
             rw [xss_at hx, xss_at hy] at h1
             injection h1 with h1
             exact hxy h1)
          | (refine ⟨_, rfl, congrArg Value.bool (decide_eq_false (fun h => ?_)).symm, hw⟩
             have h1 := congrArg List.length h
             rw [xss_len, xss_len] at h1
             omega)
          | (refine ⟨_, rfl, congrArg Value.bool (decide_eq_true ?_).symm, hw⟩
             apply List.ext_getElem?
             intro j
             rcases Nat.lt_or_ge j us.length with hj | hj
             ·
               obtain ⟨x, hx⟩ : ∃ x, us[j]? = some x := ⟨_, List.getElem?_eq_getElem hj⟩
               obtain ⟨y, hy⟩ : ∃ y, vs[j]? = some y := ⟨_, List.getElem?_eq_getElem (by omega)⟩
               rw [xss_at hx, xss_at hy, hall j x y (by omega) hx hy]
             ·
               rw [List.getElem?_eq_none (by rw [xss_len]; omega), List.getElem?_eq_none (by rw [xss_len]; omega)])
    ·
      refine WL.nil (WX.then_normal (WC.seq (WC.cond_false rfl (WC.exit (WX.then_exit (WX.then_exit (WX.block_here (?_))))))))
      refine WX.then_normal (WC.seq (WC.region (WL.assign rfl rfl (WL.nil (WX.then_normal (WC.ret (?_)))))))
      refine WX.ret1 (.inl rfl) Try.results44 rfl ?_
      first
        | (refine ⟨_, rfl, congrArg Value.bool (decide_eq_false (fun h => ?_)).symm, hw⟩
           have h1 : (xss us)[i]? = (xss vs)[i]? := by rw [h]
           rw [xss_at hx, xss_at hy] at h1
           injection h1 with h1
           exact hxy h1)
        | (refine ⟨_, rfl, congrArg Value.bool (decide_eq_false (fun h => ?_)).symm, hw⟩
           have h1 := congrArg List.length h
           rw [xss_len, xss_len] at h1
           omega)
        | (refine ⟨_, rfl, congrArg Value.bool (decide_eq_true ?_).symm, hw⟩
           apply List.ext_getElem?
           intro j
           rcases Nat.lt_or_ge j us.length with hj | hj
           ·
             obtain ⟨x, hx⟩ : ∃ x, us[j]? = some x := ⟨_, List.getElem?_eq_getElem hj⟩
             obtain ⟨y, hy⟩ : ∃ y, vs[j]? = some y := ⟨_, List.getElem?_eq_getElem (by omega)⟩
             rw [xss_at hx, xss_at hy, hall j x y (by omega) hx hy]
           ·
             rw [List.getElem?_eq_none (by rw [xss_len]; omega), List.getElem?_eq_none (by rw [xss_len]; omega)])
/-! what can be checked -/
def rightR (rs : List Rw) : Prop := 4 ≤ rs.length ∧ rs.length ≤ 16 ∧ 0 ≤ lenC (xss rs)
theorem right_good {S : Nat → Prop} {w : World} {ao : Option Addr} {c : Nat} {rs : List Rw} (hc : RS S w ao c rs) (h : rightR rs) :
    Calls Try.prog 38 [.slice ao rs.length c, .slice none 0 0].toArray w (Ret fun v w' => v = .tuple #[vi (lenC (xss rs)), vi 0] ∧ Chg Nob w w') := by
  replace hc := hc.old
  have hw := Chg.refl Nob w
  obtain ⟨h1, h2, h3⟩ := h
  refine Calls.of_WC Try.func38 rfl Try.ntmps38 (by simp) ?_
  refine WC.seq (WC.region (WL.assign rfl rfl (WL.assign rfl rfl (WL.nil (WX.then_normal (WC.seq (WC.seq (?_))))))))
  refine WC.region (WL.move rfl rfl (WL.len Try.underlying22 rfl rfl (?_)))
  refine WL.lss rfl rfl rfl ?_
  rw [show decide ((rs.length : Int) < 4) = false from decide_eq_false (by omega)]
  refine WL.move rfl rfl (WL.want rfl rfl rfl (WL.move rfl rfl (WL.want rfl rfl rfl (WL.len Try.underlying22 rfl rfl (WL.want rfl rfl rfl (?_))))))
  refine WL.gtr rfl rfl rfl ?_
  rw [show decide ((rs.length : Int) > 16) = false from decide_eq_false (by omega)]
  refine WL.pickF rfl rfl rfl (WL.nil (WX.then_normal (WC.cond_false rfl (WC.skip (WX.then_normal (WC.seq (WC.seq (?_))))))))
  refine WC.region (WL.move rfl rfl (WL.len Try.underlying33 rfl rfl (WL.move rfl rfl (WL.nil (WX.then_normal (WC.block (?_)))))))
  refine WC.loop (σ := Unit) (fun _ => [(0, .slice ao rs.length c), (1, .slice none 0 0), (17, .slice none 0 0), (18, vi 0), (19, vi 0)]) (fun _ w' => RS (· < w.heap.size) w' ao c rs ∧ Chg Nob w w') (fun _ => 0) () ⟨rfl, rfl, rfl, rfl, rfl, trivial⟩ ⟨hc, hw⟩ ?_
  clear hc hw
  rintro _ w2 ⟨hc, hw⟩
  refine WC.seq (WC.region (?_))
  refine WL.lss rfl rfl rfl ?_
  rw [show decide ((0 : Int) < 0) = false from rfl]
  refine WL.nil (WX.then_normal (WC.seq (WC.cond_false rfl (WC.exit (WX.then_exit (WX.then_exit (WX.block_here (?_))))))))
  refine WX.then_normal (WC.seq (WC.region (WL.move rfl rfl (WL.move rfl rfl (?_)))))
  refine WL.call eg_43 rfl rfl (length_calls hc (by omega)) ?_
  rintro v w1 ⟨rfl, k⟩
  have zs_k := k.size
  replace hc := hc.pure k
  replace hw := hw.pure k
  refine WL.assign rfl rfl (WL.nil (WX.then_normal (WC.seq (WC.block (WC.seq (WC.region (WL.move rfl rfl (?_))))))))
  refine WL.lss rfl rfl rfl ?_
  rw [show decide (lenC (xss rs) < 0) = false from decide_eq_false (by omega)]
  refine WL.assign rfl rfl (WL.nil (WX.then_normal (WC.cond_false rfl (WC.seq (WC.region (WL.move rfl rfl (WL.len Try.underlying33 rfl rfl (?_))))))))
  refine WL.gtr rfl rfl rfl ?_
  rw [show decide (((0 : Nat) : Int) > 3) = false from rfl]
  refine WL.assign rfl rfl (WL.nil (WX.then_normal (WC.cond_false rfl (WC.skip (WX.block_normal (WX.then_normal (WC.seq (?_))))))))
  refine WC.region (WL.move rfl rfl (WL.assign rfl rfl (WL.assign rfl rfl (WL.nil (WX.then_normal (WC.ret (?_)))))))
  refine WX.ret2 (.inl rfl) Try.results38 rfl rfl ?_
  exact ⟨_, rfl, rfl, hw⟩
theorem right_bad {S : Nat → Prop} {w : World} {ao : Option Addr} {c : Nat} {rs : List Rw} (hc : RS S w ao c rs) (hl : rs.length * 24 ≤ 140737488351232) (h : ¬ rightR rs) :
    Calls Try.prog 38 [.slice ao rs.length c, .slice none 0 0].toArray w (Ret fun v w' => v = .tuple #[vi 0, vi 1] ∧ Chg Nob w w') := by
  replace hc := hc.old
  have hw := Chg.refl Nob w
  refine Calls.of_WC Try.func38 rfl Try.ntmps38 (by simp) ?_
  refine WC.seq (WC.region (WL.assign rfl rfl (WL.assign rfl rfl (WL.nil (WX.then_normal (WC.seq (WC.seq (?_))))))))
  refine WC.region (WL.move rfl rfl (WL.len Try.underlying22 rfl rfl (?_)))
  refine WL.lss? rfl rfl rfl (fun h11 => ?_) (fun h11 => ?_)
  ·
    refine WL.move rfl rfl (WL.pass rfl rfl rfl rfl (WL.pass rfl rfl rfl rfl (WL.pass rfl rfl rfl rfl (WL.pickT rfl rfl rfl (WL.nil (WX.then_normal (WC.cond_true rfl (?_))))))))
    refine WC.seq (WC.region (WL.assign rfl rfl (WL.assign rfl rfl (WL.nil (WX.then_normal (WC.ret (WX.then_ret (?_))))))))
    refine WX.ret2 (.inl rfl) Try.results38 rfl rfl ?_
    exact ⟨_, rfl, rfl, hw⟩
  ·
    refine WL.move rfl rfl (WL.want rfl rfl rfl (WL.move rfl rfl (WL.want rfl rfl rfl (WL.len Try.underlying22 rfl rfl (WL.want rfl rfl rfl (?_))))))
    refine WL.gtr? rfl rfl rfl (fun h15 => ?_) (fun h15 => ?_)
    ·
      refine WL.pickF rfl rfl rfl (WL.nil (WX.then_normal (WC.cond_true rfl (WC.seq (WC.region (WL.assign rfl rfl (WL.assign rfl rfl (?_))))))))
      refine WL.nil (WX.then_normal (WC.ret (WX.then_ret (?_))))
      refine WX.ret2 (.inl rfl) Try.results38 rfl rfl ?_
      exact ⟨_, rfl, rfl, hw⟩
    ·
      refine WL.pickF rfl rfl rfl (WL.nil (WX.then_normal (WC.cond_false rfl (WC.skip (WX.then_normal (WC.seq (WC.seq (?_))))))))
      refine WC.region (WL.move rfl rfl (WL.len Try.underlying33 rfl rfl (WL.move rfl rfl (WL.nil (WX.then_normal (WC.block (?_)))))))
      refine WC.loop (σ := Unit) (fun _ => [(0, .slice ao rs.length c), (1, .slice none 0 0), (17, .slice none 0 0), (18, vi 0), (19, vi 0)]) (fun _ w' => RS (· < w.heap.size) w' ao c rs ∧ Chg Nob w w') (fun _ => 0) () ⟨rfl, rfl, rfl, rfl, rfl, trivial⟩ ⟨hc, hw⟩ ?_
      clear hc hw
      rintro _ w2 ⟨hc, hw⟩
      refine WC.seq (WC.region (?_))
      refine WL.lss rfl rfl rfl ?_
      rw [show decide ((0 : Int) < 0) = false from rfl]
      refine WL.nil (WX.then_normal (WC.seq (WC.cond_false rfl (WC.exit (WX.then_exit (WX.then_exit (WX.block_here (?_))))))))
      refine WX.then_normal (WC.seq (WC.region (WL.move rfl rfl (WL.move rfl rfl (?_)))))
      refine WL.call eg_43 rfl rfl (length_calls hc hl) ?_
      rintro v w1 ⟨rfl, k⟩
      have zs_k := k.size
      replace hc := hc.pure k
      replace hw := hw.pure k
      refine WL.assign rfl rfl (WL.nil (WX.then_normal (WC.seq (WC.block (WC.seq (WC.region (WL.move rfl rfl (?_))))))))
      refine WL.lss? rfl rfl rfl (fun h51 => ?_) (fun h51 => ?_)
      ·
        refine WL.assign rfl rfl (WL.nil (WX.then_normal (WC.cond_true rfl (WC.seq (WC.region (WL.assign rfl rfl (WL.assign rfl rfl (?_))))))))
        refine WL.nil (WX.then_normal (WC.ret (WX.block_ret (WX.then_ret (?_)))))
        refine WX.ret2 (.inl rfl) Try.results38 rfl rfl ?_
        exact ⟨_, rfl, rfl, hw⟩
      ·
        refine WL.assign rfl rfl (WL.nil (WX.then_normal (WC.cond_false rfl (WC.seq (WC.region (WL.move rfl rfl (WL.len Try.underlying33 rfl rfl (?_))))))))
        exfalso
        exact h ⟨by omega, by omega, by omega⟩
end Go.Proofs.Ytjdbjdgobhjbkaa
/-! plain: linear equations over the field -/
namespace Go.HL
theorem xor_self' (a : UInt8) : a ^^^ a = 0 := UInt8.xor_self
theorem xor_zero' (a : UInt8) : a ^^^ 0 = a := UInt8.xor_zero
theorem zero_xor' (a : UInt8) : 0 ^^^ a = a := UInt8.zero_xor
theorem xor_eq_zero {a b : UInt8} : a ^^^ b = 0 ↔ a = b := by
  constructor
  · intro h
    have : a ^^^ b ^^^ b = 0 ^^^ b := by rw [h]
    rwa [UInt8.xor_assoc, xor_self', xor_zero', zero_xor'] at this
  · rintro rfl; exact xor_self' a
theorem xor_mul (a b c : UInt8) : mul (a ^^^ b) c = mul a c ^^^ mul b c := by rw [mul_comm, mul_xor, mul_comm c a, mul_comm c b]
theorem one_mul' (a : UInt8) : mul 1 a = a := by rw [mul_comm, mul_one]
theorem mul_eq_zero {a b : UInt8} : mul a b = 0 ↔ a = 0 ∨ b = 0 := by
  constructor
  · intro h
    by_cases ha : a = 0
    · exact .inl ha
    · by_cases hb : b = 0
      · exact .inr hb
      · exact absurd h (mul_ne ha hb)
  · rintro (rfl | rfl)
    · exact mul_zero_l b
    · exact mul_zero_r a
def sumF : Nat → (Nat → UInt8) → UInt8
  | 0, _ => 0
  | n + 1, f => sumF n f ^^^ f n
theorem sumF_cong {n : Nat} {f g : Nat → UInt8} (h : ∀ i, i < n → f i = g i) : sumF n f = sumF n g := by
  induction n with
  | zero => rfl
  | succ n ih => rw [sumF, sumF, ih (fun i hi => h i (by omega)), h n (by omega)]
theorem sumF_zero {n : Nat} {f : Nat → UInt8} (h : ∀ i, i < n → f i = 0) : sumF n f = 0 := by
  induction n with
  | zero => rfl
  | succ n ih => rw [sumF, ih (fun i hi => h i (by omega)), h n (by omega)]; rfl
theorem sumF_xor (n : Nat) (f g : Nat → UInt8) : sumF n (fun i => f i ^^^ g i) = sumF n f ^^^ sumF n g := by
  induction n with
  | zero => show (0 : UInt8) = 0 ^^^ 0; decide
  | succ n ih => rw [sumF, sumF, sumF, ih, xor4]
theorem sumF_mul (n : Nat) (c : UInt8) (f : Nat → UInt8) : sumF n (fun i => mul c (f i)) = mul c (sumF n f) := by
  induction n with
  | zero => exact (mul_zero_r c).symm
  | succ n ih => rw [sumF, sumF, ih, mul_xor]
theorem sumF_single {n k : Nat} (hk : k < n) {f : Nat → UInt8} (h : ∀ i, i < n → i ≠ k → f i = 0) : sumF n f = f k := by
  induction n with
  | zero => omega
  | succ n ih =>
    rw [sumF]
    by_cases e : k = n
    · subst e
      rw [sumF_zero (fun i hi => h i (by omega) (by omega)), zero_xor']
    · rw [ih (by omega) (fun i hi hne => h i (by omega) hne), h n (by omega) (fun e2 => e e2.symm), xor_zero']
theorem sumF_two {n a b : Nat} (ha : a < n) (hb : b < n) (hab : a ≠ b) {f : Nat → UInt8} (h : ∀ i, i < n → i ≠ a → i ≠ b → f i = 0) : sumF n f = f a ^^^ f b := by
  have e : sumF n f = sumF n (fun i => (if i = a then f a else 0) ^^^ (if i = b then f b else 0)) := sumF_cong (fun i hi => by
    by_cases h1 : i = a
    · subst h1; rw [if_pos rfl, if_neg hab, xor_zero']
    · by_cases h2 : i = b
      · subst h2; rw [if_neg h1, if_pos rfl, zero_xor']
      · rw [if_neg h1, if_neg h2, h i hi h1 h2]; rfl)
  rw [e, sumF_xor, sumF_single ha (fun i _ hne => if_neg hne), sumF_single hb (fun i _ hne => if_neg hne), if_pos rfl, if_pos rfl]
/-- what a matrix sends to 0 -/
def Ker (n c : Nat) (m : Nat → Nat → UInt8) (y : Nat → UInt8) : Prop := ∀ i, i < n → sumF c (fun j => mul (m i j) (y j)) = 0
structure GE (n : Nat) (R m : Nat → Nat → UInt8) (k : Nat) : Prop where
  ker : ∀ y, Ker n (n + 1) R y ↔ Ker n (n + 1) m y
  unit : ∀ j, j < k → ∀ i, i < n → m i j = if i = j then 1 else 0
section
variable {n k : Nat} {R m m' : Nat → Nat → UInt8}
theorem GE.start (n : Nat) (R : Nat → Nat → UInt8) : GE n R R 0 := ⟨fun _ => Iff.rfl, fun j hj => absurd hj (Nat.not_lt_zero j)⟩
theorem GE.swap (h : GE n R m k) {a b : Nat} (ha : k ≤ a ∧ a < n) (hb : k ≤ b ∧ b < n) (hm : ∀ i j, i < n → m' i j = m (if i = a then b else if i = b then a else i) j) : GE n R m' k := by
  have hlt : ∀ i, i < n → (if i = a then b else if i = b then a else i) < n := fun i hi => by split; exact hb.2; split; exact ha.2; exact hi
  refine ⟨fun y => (h.ker y).trans ⟨fun hK i hi => ?_, fun hK i hi => ?_⟩, fun j hj i hi => ?_⟩
  · have := hK _ (hlt i hi)
    rw [← this]
    exact sumF_cong (fun j _ => by rw [hm i j hi])
  · have := hK _ (hlt i hi)
    rw [← this]
    refine sumF_cong (fun j _ => ?_)
    rw [hm _ j (hlt i hi)]
    congr 2
    by_cases e1 : i = a
    · rw [if_pos e1]
      by_cases e3 : b = a
      · rw [if_pos e3]; omega
      · rw [if_neg e3, if_pos rfl]; omega
    · rw [if_neg e1]
      by_cases e2 : i = b
      · rw [if_pos e2, if_pos rfl]; omega
      · rw [if_neg e2, if_neg e1, if_neg e2]
  · rw [hm i j hi, h.unit j hj _ (hlt i hi)]
    by_cases e1 : i = a
    · rw [if_pos e1, if_neg (by omega), if_neg (by omega)]
    · rw [if_neg e1]
      by_cases e2 : i = b
      · rw [if_pos e2, if_neg (by omega), if_neg (by omega)]
      · rw [if_neg e2]
theorem GE.scale (h : GE n R m k) {s : UInt8} (hs : s ≠ 0) (hk : k < n) (hm : ∀ i j, i < n → m' i j = if i = k then mul (m i j) s else m i j) : GE n R m' k := by
  have key : ∀ i, i < n → ∀ y : Nat → UInt8, sumF (n + 1) (fun j => mul (m' i j) (y j)) = mul (if i = k then s else 1) (sumF (n + 1) (fun j => mul (m i j) (y j))) := fun i hi y => by
    rw [← sumF_mul]
    refine sumF_cong (fun j _ => ?_)
    rw [hm i j hi]
    by_cases e : i = k
    · rw [if_pos e, if_pos e, mul_comm (m i j) s, mul_assoc]
    · rw [if_neg e, if_neg e, one_mul']
  refine ⟨fun y => (h.ker y).trans ⟨fun hK i hi => ?_, fun hK i hi => ?_⟩, fun j hj i hi => ?_⟩
  · rw [key i hi, hK i hi, mul_zero_r]
  · have h1 := hK i hi
    rw [key i hi, mul_eq_zero] at h1
    rcases h1 with h1 | h1
    · split at h1
      · exact absurd h1 hs
      · exact absurd h1 (by decide)
    · exact h1
  · rw [hm i j hi, h.unit j hj i hi]
    by_cases e : i = k
    · rw [if_pos e, if_neg (by omega), mul_zero_l]
    · rw [if_neg e]
theorem GE.add (h : GE n R m k) {a : Nat} (ha : a < n ∧ a ≠ k) (hk : k < n) (b : UInt8) (hm : ∀ i j, i < n → m' i j = if i = a then m i j ^^^ mul (m k j) b else m i j) : GE n R m' k := by
  have key : ∀ y : Nat → UInt8, sumF (n + 1) (fun j => mul (m' a j) (y j)) = sumF (n + 1) (fun j => mul (m a j) (y j)) ^^^ mul b (sumF (n + 1) (fun j => mul (m k j) (y j))) := fun y => by
    rw [← sumF_mul, ← sumF_xor]
    refine sumF_cong (fun j _ => ?_)
    rw [hm a j ha.1, if_pos rfl, xor_mul, mul_comm (m k j) b, mul_assoc]
  have same : ∀ i, i < n → i ≠ a → ∀ y : Nat → UInt8, sumF (n + 1) (fun j => mul (m' i j) (y j)) = sumF (n + 1) (fun j => mul (m i j) (y j)) := fun i hi hne y => sumF_cong (fun j _ => by rw [hm i j hi, if_neg hne])
  refine ⟨fun y => (h.ker y).trans ⟨fun hK i hi => ?_, fun hK i hi => ?_⟩, fun j hj i hi => ?_⟩
  · by_cases e : i = a
    · subst e; rw [key, hK i hi, hK k hk, mul_zero_r]; rfl
    · rw [same i hi e]; exact hK i hi
  · by_cases e : i = a
    · subst e
      have h1 := hK i hi
      rw [key, ← same k hk (fun e => ha.2 e.symm), hK k hk, mul_zero_r, xor_zero'] at h1
      exact h1
    · rw [← same i hi e]; exact hK i hi
  · rw [hm i j hi, h.unit j hj i hi, h.unit j hj k hk, if_neg (show ¬ k = j by omega), mul_zero_l, xor_zero']
    split <;> rfl
theorem GE.next (h : GE n R m k) (h1 : ∀ i, i < n → m i k = if i = k then 1 else 0) : GE n R m (k + 1) := ⟨h.ker, fun j hj i hi => by
  by_cases e : j = k
  · subst e; exact h1 i hi
  · exact h.unit j (by omega) i hi⟩
/-- all columns are done: one solution -/
theorem GE.done (h : GE n R m n) (z : Nat → UInt8) : (∀ i, i < n → sumF n (fun j => mul (R i j) (z j)) = R i n) ↔ ∀ i, i < n → z i = m i n := by
  obtain ⟨y, hy⟩ : ∃ y : Nat → UInt8, y = fun j => if j < n then z j else 1 := ⟨_, rfl⟩
  have e1 : ∀ (M : Nat → Nat → UInt8) i, sumF (n + 1) (fun j => mul (M i j) (y j)) = sumF n (fun j => mul (M i j) (z j)) ^^^ M i n := fun M i => by
    rw [sumF]
    congr 1
    · exact sumF_cong (fun j hj => by rw [hy]; simp only [if_pos hj])
    · rw [hy]; simp only [Nat.lt_irrefl, if_false, mul_one]
  have e2 : ∀ i, i < n → sumF n (fun j => mul (m i j) (z j)) = z i := fun i hi => by
    rw [sumF_single hi (fun j hj hne => by rw [h.unit j hj i hi, if_neg (fun e => hne e.symm), mul_zero_l]), h.unit i hi i hi, if_pos rfl, one_mul']
  have hK := h.ker y
  constructor
  · intro hs i hi
    have h1 := hK.1 (fun i hi => by rw [e1, xor_eq_zero]; exact hs i hi) i hi
    rw [e1, xor_eq_zero, e2 i hi] at h1
    exact h1
  · intro hs i hi
    have h1 := hK.2 (fun i hi => by rw [e1, xor_eq_zero, e2 i hi]; exact hs i hi) i hi
    rw [e1, xor_eq_zero] at h1
    exact h1
/-- a column without a pivot: no solution, or many -/
theorem GE.miss (h : GE n R m k) (hk : k < n) (h0 : ∀ i, k ≤ i → i < n → m i k = 0) : ∃ y : Nat → UInt8, (∃ j, j < n ∧ y j ≠ 0) ∧ Ker n n R y := by
  obtain ⟨y, hy⟩ : ∃ y : Nat → UInt8, y = fun j => if j < k then m j k else if j = k then 1 else 0 := ⟨_, rfl⟩
  have hyk : y k = 1 := by rw [hy]; simp
  have hyl : ∀ j, j < k → y j = m j k := fun j hj => by rw [hy]; simp [hj]
  have hyg : ∀ j, k < j → y j = 0 := fun j hj => by
    rw [hy]
    show (if j < k then _ else if j = k then (1 : UInt8) else 0) = 0
    rw [if_neg (by omega), if_neg (by omega)]
  have hK := (h.ker y).2 (fun i hi => by
    by_cases hik : i < k
    · rw [sumF_two (a := i) (b := k) (by omega) (by omega) (by omega) (fun j hj h1 h2 => by
        rcases Nat.lt_or_ge j k with h3 | h3
        · rw [h.unit j h3 i hi, if_neg (fun e => h1 e.symm), mul_zero_l]
        · rw [hyg j (by omega), mul_zero_r])]
      rw [h.unit i hik i hi, if_pos rfl, one_mul', hyl i hik, hyk, mul_one, xor_self']
    · refine sumF_zero (fun j hj => ?_)
      rcases Nat.lt_or_ge j k with h3 | h3
      · rw [h.unit j h3 i hi, if_neg (by omega), mul_zero_l]
      · by_cases e : j = k
        · subst e; rw [h0 i (by omega) hi, mul_zero_l]
        · rw [hyg j (by omega), mul_zero_r])
  refine ⟨y, ⟨k, hk, by rw [hyk]; decide⟩, fun i hi => ?_⟩
  have h1 := hK i hi
  rw [sumF, hyg n (by omega), mul_zero_r, xor_zero'] at h1
  exact h1
end
/-! as lists -/
def fn (m : List (List UInt8)) (i j : Nat) : UInt8 := (m.getD i []).getD j 0
theorem fn_set {m : List (List UInt8)} {k : Nat} (hk : k < m.length) (r : List UInt8) (i j : Nat) : fn (m.set k r) i j = if i = k then r.getD j 0 else fn m i j := by
  have e1 : (m.set k r).getD i [] = if i = k then r else m.getD i [] := by
    rw [List.getD_eq_getElem?_getD, List.getElem?_set]
    by_cases e : k = i
    · subst e
      rw [if_pos rfl, if_pos hk, if_pos rfl]
      rfl
    · rw [if_neg e, if_neg (fun e2 => e e2.symm), List.getD_eq_getElem?_getD]
  rw [fn, fn, e1]
  split <;> rfl
/-- what Solve answers -/
def ShapeOk (rows : List (List UInt8)) (right : List UInt8) : Prop := (1 ≤ rows.length ∧ rows.length ≤ 8) ∧ right.length = rows.length ∧ ∀ r ∈ rows, r.length = rows.length
def SolR (rows : List (List UInt8)) (right out : List UInt8) (e : Int) : Prop :=
  (¬ ShapeOk rows right ∧ out = [] ∧ e = 1) ∨
  (ShapeOk rows right ∧ e = 0 ∧ out.length = rows.length ∧ ∀ z : Nat → UInt8, (∀ i, i < rows.length → sumF rows.length (fun j => mul (fn rows i j) (z j)) = right.getD i 0) ↔ ∀ i, i < rows.length → z i = out.getD i 0) ∨
  (ShapeOk rows right ∧ e = 7 ∧ out = [] ∧ ∃ y : Nat → UInt8, (∃ j, j < rows.length ∧ y j ≠ 0) ∧ Ker rows.length rows.length (fn rows) y)
theorem getD_ext {a b : List UInt8} (h : a.length = b.length) (k : ∀ i, i < a.length → a.getD i 0 = b.getD i 0) : a = b := by
  apply List.ext_getElem h
  intro i h1 h2
  have := k i h1
  rw [List.getD_eq_getElem?_getD, List.getD_eq_getElem?_getD, List.getElem?_eq_getElem h1, List.getElem?_eq_getElem h2] at this
  exact this
theorem ker_uniq {n : Nat} {R : Nat → Nat → UInt8} {r : Nat → UInt8} {out : Nat → UInt8} (h : ∀ z : Nat → UInt8, (∀ i, i < n → sumF n (fun j => mul (R i j) (z j)) = r i) ↔ ∀ i, i < n → z i = out i) {y : Nat → UInt8} (hK : Ker n n R y) {j : Nat} (hj : j < n) : y j = 0 := by
  have h1 := (h (fun j => out j ^^^ y j)).1 (fun i hi => by
    have h2 := (h out).2 (fun _ _ => rfl) i hi
    have h3 := hK i hi
    rw [← h2, ← xor_zero' (sumF n fun j => mul (R i j) (out j)), ← h3, ← sumF_xor]
    exact sumF_cong (fun j _ => mul_xor _ _ _)) j hj
  have h2 : out j ^^^ y j = out j := h1
  have h3 : out j ^^^ (out j ^^^ y j) = out j ^^^ out j := by rw [h2]
  rwa [← UInt8.xor_assoc, xor_self', zero_xor'] at h3
theorem SolR.uniq {rows : List (List UInt8)} {right o1 o2 : List UInt8} {e1 e2 : Int} (h : SolR rows right o1 e1) (k : SolR rows right o2 e2) : o1 = o2 ∧ e1 = e2 := by
  rcases h with ⟨h0, rfl, rfl⟩ | ⟨h0, rfl, hl, h1⟩ | ⟨h0, rfl, rfl, y, ⟨j, hj, hy⟩, hK⟩ <;> rcases k with ⟨k0, rfl, rfl⟩ | ⟨k0, rfl, kl, k1⟩ | ⟨k0, rfl, rfl, y2, ⟨j2, hj2, hy2⟩, kK⟩
  · exact ⟨rfl, rfl⟩
  · exact absurd k0 h0
  · exact absurd k0 h0
  · exact absurd h0 k0
  · refine ⟨getD_ext (hl.trans kl.symm) (fun i hi => ?_), rfl⟩
    exact (k1 (fun i => o1.getD i 0)).1 ((h1 _).2 (fun _ _ => rfl)) i (by omega)
  · exact absurd (ker_uniq h1 kK hj2) hy2
  · exact absurd h0 k0
  · exact absurd (ker_uniq k1 hK hj) hy
  · exact ⟨rfl, rfl⟩
end Go.HL
/-! plain: determinants by the first row -/
namespace Go.HL
def sk (k j : Nat) : Nat := if j < k then j else j + 1
theorem sk_lt {k j : Nat} (h : j < k) : sk k j = j := if_pos h
theorem sk_ge {k j : Nat} (h : k ≤ j) : sk k j = j + 1 := if_neg (by omega)
theorem sk_ne (k j : Nat) : sk k j ≠ k := by unfold sk; split <;> omega
def minor (M : Nat → Nat → UInt8) (k : Nat) : Nat → Nat → UInt8 := fun i j => M (i + 1) (sk k j)
def det : Nat → (Nat → Nat → UInt8) → UInt8
  | 0, _ => 1
  | n + 1, M => sumF (n + 1) (fun k => mul (M 0 k) (det n (minor M k)))
def setc (M : Nat → Nat → UInt8) (c : Nat) (u : Nat → UInt8) : Nat → Nat → UInt8 := fun i j => if j = c then u i else M i j
theorem setc_same (M : Nat → Nat → UInt8) (c : Nat) (u : Nat → UInt8) (i : Nat) : setc M c u i c = u i := if_pos rfl
theorem setc_ne (M : Nat → Nat → UInt8) {c j : Nat} (u : Nat → UInt8) (i : Nat) (h : j ≠ c) : setc M c u i j = M i j := if_neg h
theorem det_cong {n : Nat} {M N : Nat → Nat → UInt8} (h : ∀ i j, i < n → j < n → M i j = N i j) : det n M = det n N := by
  induction n generalizing M N with
  | zero => rfl
  | succ n ih =>
    refine sumF_cong (fun k hk => ?_)
    have e : det n (minor M k) = det n (minor N k) := ih (fun i j hi hj => h (i + 1) (sk k j) (by omega) (by unfold sk; split <;> omega))
    rw [h 0 k (by omega) hk, e]
theorem minor_setc_eq (M : Nat → Nat → UInt8) (c : Nat) (u : Nat → UInt8) : minor (setc M c u) c = minor M c := by
  funext i j
  exact setc_ne M u _ (sk_ne c j)
theorem minor_setc_gt (M : Nat → Nat → UInt8) {c k : Nat} (h : c < k) (u : Nat → UInt8) : minor (setc M c u) k = setc (minor M k) c (fun i => u (i + 1)) := by
  funext i j
  show (if sk k j = c then _ else _) = if j = c then _ else _
  by_cases e : j = c
  · subst e; rw [sk_lt h, if_pos rfl, if_pos rfl]
  · rw [if_neg e, if_neg (by unfold sk; split <;> omega)]; rfl
theorem minor_setc_lt (M : Nat → Nat → UInt8) {c k : Nat} (h : k < c) (u : Nat → UInt8) : minor (setc M c u) k = setc (minor M k) (c - 1) (fun i => u (i + 1)) := by
  funext i j
  show (if sk k j = c then _ else _) = if j = c - 1 then _ else _
  by_cases e : j = c - 1
  · subst e; rw [sk_ge (by omega), if_pos (by omega), if_pos rfl]
  · rw [if_neg e, if_neg (by unfold sk; split <;> omega)]; rfl
theorem det_lin {n c : Nat} (hc : c < n) (M : Nat → Nat → UInt8) (u v : Nat → UInt8) : det n (setc M c (fun i => u i ^^^ v i)) = det n (setc M c u) ^^^ det n (setc M c v) := by
  induction n generalizing M c u v with
  | zero => omega
  | succ n ih =>
    rw [det, det, det, ← sumF_xor]
    refine sumF_cong (fun k hk => ?_)
    rcases Nat.lt_trichotomy c k with h | h | h
    · rw [setc_ne _ _ _ (by omega), setc_ne _ _ _ (by omega), setc_ne _ _ _ (by omega), minor_setc_gt _ h, minor_setc_gt _ h, minor_setc_gt _ h, ih (by omega), mul_xor]
    · subst h
      rw [setc_same, setc_same, setc_same, minor_setc_eq, minor_setc_eq, minor_setc_eq, xor_mul]
    · rw [setc_ne _ _ _ (by omega), setc_ne _ _ _ (by omega), setc_ne _ _ _ (by omega), minor_setc_lt _ h, minor_setc_lt _ h, minor_setc_lt _ h, ih (by omega), mul_xor]
theorem det_scale {n c : Nat} (hc : c < n) (M : Nat → Nat → UInt8) (s : UInt8) (u : Nat → UInt8) : det n (setc M c (fun i => mul s (u i))) = mul s (det n (setc M c u)) := by
  induction n generalizing M c u with
  | zero => omega
  | succ n ih =>
    rw [det, det, ← sumF_mul]
    refine sumF_cong (fun k hk => ?_)
    have sw : ∀ a b : UInt8, mul a (mul s b) = mul s (mul a b) := fun a b => by rw [mul_assoc, mul_comm a s, ← mul_assoc]
    rcases Nat.lt_trichotomy c k with h | h | h
    · rw [setc_ne _ _ _ (by omega), setc_ne _ _ _ (by omega), minor_setc_gt _ h, minor_setc_gt _ h, ih (by omega), sw]
    · subst h
      rw [setc_same, setc_same, minor_setc_eq, minor_setc_eq, mul_assoc]
    · rw [setc_ne _ _ _ (by omega), setc_ne _ _ _ (by omega), minor_setc_lt _ h, minor_setc_lt _ h, ih (by omega), sw]
theorem det_zero {n c : Nat} (hc : c < n) (M : Nat → Nat → UInt8) : det n (setc M c (fun _ => 0)) = 0 := by
  have h := det_scale hc M 0 (fun _ => 0)
  rw [mul_zero_l, mul_zero_l] at h
  exact h
theorem det_sum {n c : Nat} (hc : c < n) (M : Nat → Nat → UInt8) (p : Nat) (x : Nat → UInt8) (U : Nat → Nat → UInt8) : det n (setc M c (fun i => sumF p (fun j => mul (x j) (U j i)))) = sumF p (fun j => mul (x j) (det n (setc M c (U j)))) := by
  induction p with
  | zero => exact det_zero hc M
  | succ p ih =>
    rw [sumF, ← ih, ← det_scale hc, ← det_lin hc]
    rfl
theorem det_adj {n p : Nat} (hp : p + 1 < n) {M : Nat → Nat → UInt8} (h : ∀ i, i < n → M i p = M i (p + 1)) : det n M = 0 := by
  induction n generalizing M p with
  | zero => omega
  | succ n ih =>
    rw [det, sumF_two (a := p) (b := p + 1) (by omega) (by omega) (by omega) (fun k hk h1 h2 => ?_)]
    · rw [h 0 (by omega), xor_eq_zero]
      congr 1
      refine det_cong (fun i j hi hj => ?_)
      show M (i + 1) (sk p j) = M (i + 1) (sk (p + 1) j)
      rcases Nat.lt_trichotomy j p with h3 | h3 | h3
      · rw [sk_lt h3, sk_lt (by omega)]
      · subst h3; rw [sk_ge (Nat.le_refl _), sk_lt (by omega)]; exact (h (i + 1) (by omega)).symm
      · rw [sk_ge (by omega), sk_ge (by omega)]
    · rcases Nat.lt_or_ge k p with h3 | h3
      · rw [ih (p := p - 1) (by omega) (fun i hi => ?_), mul_zero_r]
        show M (i + 1) (sk k (p - 1)) = M (i + 1) (sk k (p - 1 + 1))
        rw [sk_ge (by omega), sk_ge (by omega), show p - 1 + 1 = p from by omega]
        exact h (i + 1) (by omega)
      · rw [ih (p := p) (by omega) (fun i hi => ?_), mul_zero_r]
        show M (i + 1) (sk k p) = M (i + 1) (sk k (p + 1))
        rw [sk_lt (by omega), sk_lt (by omega)]
        exact h (i + 1) (by omega)
theorem setc_comm (M : Nat → Nat → UInt8) {c d : Nat} (h : c ≠ d) (u v : Nat → UInt8) : setc (setc M c u) d v = setc (setc M d v) c u := by
  funext i j
  show (if j = d then _ else if j = c then _ else _) = if j = c then _ else if j = d then _ else _
  by_cases e1 : j = d
  · rw [if_pos e1, if_neg (by omega), if_pos e1]
  · rw [if_neg e1, if_neg e1]
theorem det_swap {n p : Nat} (hp : p + 1 < n) (M : Nat → Nat → UInt8) (a b : Nat → UInt8) : det n (setc (setc M p a) (p + 1) b) = det n (setc (setc M p b) (p + 1) a) := by
  have D0 : ∀ u : Nat → UInt8, det n (setc (setc M p u) (p + 1) u) = 0 := fun u => det_adj hp (fun i _ => by rw [setc_same, setc_ne _ _ _ (by omega), setc_same])
  have L2 : ∀ u v w : Nat → UInt8, det n (setc (setc M p u) (p + 1) (fun i => v i ^^^ w i)) = det n (setc (setc M p u) (p + 1) v) ^^^ det n (setc (setc M p u) (p + 1) w) := fun u v w => det_lin hp _ v w
  have L1 : ∀ u v w : Nat → UInt8, det n (setc (setc M p (fun i => u i ^^^ v i)) (p + 1) w) = det n (setc (setc M p u) (p + 1) w) ^^^ det n (setc (setc M p v) (p + 1) w) := fun u v w => by
    rw [setc_comm M (by omega), setc_comm M (c := p) (by omega) u, setc_comm M (c := p) (by omega) v]
    exact det_lin (by omega) _ u v
  have h := D0 (fun i => a i ^^^ b i)
  rw [L1, L2, L2, D0, D0, zero_xor', xor_zero', xor_eq_zero] at h
  exact h
theorem det_eqc {n p q : Nat} (hpq : p < q) (hq : q < n) {M : Nat → Nat → UInt8} (h : ∀ i, i < n → M i p = M i q) : det n M = 0 := by
  obtain ⟨d, rfl⟩ : ∃ d, q = p + 1 + d := ⟨q - p - 1, by omega⟩
  induction d generalizing M with
  | zero => exact det_adj (by omega) h
  | succ d ih =>
    have hs := det_swap (p := p + 1 + d) (by omega) M (fun i => M i (p + 1 + d)) (fun i => M i (p + 1 + d + 1))
    have e1 : det n (setc (setc M (p + 1 + d) (fun i => M i (p + 1 + d))) (p + 1 + d + 1) (fun i => M i (p + 1 + d + 1))) = det n M := det_cong (fun i j _ _ => by
      by_cases e : j = p + 1 + d + 1
      · subst e; rw [setc_same]
      · rw [setc_ne _ _ _ e]
        by_cases e2 : j = p + 1 + d
        · subst e2; rw [setc_same]
        · rw [setc_ne _ _ _ e2])
    rw [← e1, hs]
    refine ih (by omega) (by omega) (fun i hi => ?_)
    rw [setc_ne _ _ _ (by omega), setc_ne _ _ _ (by omega), setc_ne _ _ _ (by omega), setc_same]
    exact h i hi
theorem cramer {n c : Nat} (hc : c < n) {M : Nat → Nat → UInt8} {x r : Nat → UInt8} (h : ∀ i, i < n → sumF n (fun j => mul (M i j) (x j)) = r i) : det n (setc M c r) = mul (x c) (det n M) := by
  have e1 : det n (setc M c r) = det n (setc M c (fun i => sumF n (fun j => mul (x j) (M i j)))) := det_cong (fun i j hi _ => by
    by_cases e : j = c
    · subst e
      rw [setc_same, setc_same, ← h i hi]
      exact sumF_cong (fun k _ => mul_comm _ _)
    · rw [setc_ne _ _ _ e, setc_ne _ _ _ e])
  rw [e1, det_sum hc M n x (fun j i => M i j), sumF_single hc (fun j hj hne => ?_)]
  · congr 1
    refine det_cong (fun i j _ _ => ?_)
    by_cases e : j = c
    · subst e; rw [setc_same]
    · rw [setc_ne _ _ _ e]
  · have h0 : det n (setc M c (fun i => M i j)) = 0 := by
      rcases Nat.lt_or_ge j c with h1 | h1
      · exact det_eqc h1 hc (fun i _ => by rw [setc_same, setc_ne _ _ _ (by omega)])
      · exact det_eqc (show c < j by omega) hj (fun i _ => by rw [setc_same, setc_ne _ _ _ (by omega)])
    rw [h0, mul_zero_r]
theorem det_ker {n : Nat} {M : Nat → Nat → UInt8} {y : Nat → UInt8} (h : Ker n n M y) {k : Nat} (hk : k < n) (hy : y k ≠ 0) : det n M = 0 := by
  have h1 := cramer hk (r := fun _ => 0) h
  rw [det_zero hk] at h1
  rcases mul_eq_zero.1 h1.symm with h2 | h2
  · exact absurd h2 hy
  · exact h2
/-- equations have one solution, or what is sent to 0 is more than 0 -/
theorem gauss_col {n k : Nat} {R m : Nat → Nat → UInt8} (h : GE n R m k) (hk : k < n) : (∃ m', GE n R m' (k + 1)) ∨ (∃ y : Nat → UInt8, (∃ j, j < n ∧ y j ≠ 0) ∧ Ker n n R y) := by
  by_cases hp : ∃ a, (k ≤ a ∧ a < n) ∧ m a k ≠ 0
  · obtain ⟨a, ha, hne⟩ := hp
    left
    have h1 := h.swap (m' := fun i j => m (if i = k then a else if i = a then k else i) j) (a := k) (b := a) ⟨Nat.le_refl _, hk⟩ ha (fun i j _ => rfl)
    obtain ⟨m1, hm1⟩ : ∃ m1 : Nat → Nat → UInt8, m1 = fun i j => m (if i = k then a else if i = a then k else i) j := ⟨_, rfl⟩
    rw [← hm1] at h1
    have hp1 : m1 k k ≠ 0 := by
      rw [hm1]
      show m (if k = k then a else _) k ≠ 0
      rw [if_pos rfl]; exact hne
    have hinv : inv (m1 k k) ≠ 0 := fun e => by
      have := mul_inv hp1
      rw [e, mul_zero_r] at this
      exact absurd this (by decide)
    have h2 := h1.scale (m' := fun i j => if i = k then mul (m1 i j) (inv (m1 k k)) else m1 i j) hinv hk (fun i j _ => rfl)
    obtain ⟨m2, hm2⟩ : ∃ m2 : Nat → Nat → UInt8, m2 = fun i j => if i = k then mul (m1 i j) (inv (m1 k k)) else m1 i j := ⟨_, rfl⟩
    rw [← hm2] at h2
    have hp2 : m2 k k = 1 := by
      rw [hm2]
      show (if k = k then _ else _) = _
      rw [if_pos rfl]; exact mul_inv hp1
    have step : ∀ q, q ≤ n → ∃ m3, GE n R m3 k ∧ m3 k k = 1 ∧ ∀ i, i < q → i ≠ k → m3 i k = 0 := by
      intro q
      induction q with
      | zero => intro _; exact ⟨m2, h2, hp2, fun i hi => absurd hi (Nat.not_lt_zero i)⟩
      | succ q ih =>
        intro hq
        obtain ⟨m3, h3, h4, h5⟩ := ih (by omega)
        by_cases e : q = k
        · exact ⟨m3, h3, h4, fun i hi hne => h5 i (by omega) hne⟩
        · refine ⟨fun i j => if i = q then m3 i j ^^^ mul (m3 k j) (m3 q k) else m3 i j, h3.add ⟨by omega, e⟩ hk (m3 q k) (fun i j _ => rfl), ?_, fun i hi hne => ?_⟩
          · show (if k = q then _ else _) = _
            rw [if_neg (fun e2 => e e2.symm)]; exact h4
          · show (if i = q then _ else _) = _
            by_cases e2 : i = q
            · rw [if_pos e2, h4, one_mul', e2, xor_self']
            · rw [if_neg e2]; exact h5 i (by omega) hne
    obtain ⟨m3, h3, h4, h5⟩ := step n (Nat.le_refl _)
    refine ⟨m3, h3.next (fun i hi => ?_)⟩
    by_cases e : i = k
    · subst e; rw [if_pos rfl]; exact h4
    · rw [if_neg e]; exact h5 i hi e
  · right
    exact h.miss hk (fun i hi hin => Decidable.not_not.1 (fun h2 => hp ⟨i, ⟨hi, hin⟩, h2⟩))
theorem gauss (n : Nat) (R : Nat → Nat → UInt8) : (∃ x : Nat → UInt8, ∀ i, i < n → sumF n (fun j => mul (R i j) (x j)) = R i n) ∨ (∃ y : Nat → UInt8, (∃ j, j < n ∧ y j ≠ 0) ∧ Ker n n R y) := by
  have step : ∀ k, k ≤ n → (∃ m, GE n R m k) ∨ (∃ y : Nat → UInt8, (∃ j, j < n ∧ y j ≠ 0) ∧ Ker n n R y) := by
    intro k
    induction k with
    | zero => intro _; exact .inl ⟨R, GE.start n R⟩
    | succ k ih =>
      intro hk
      rcases ih (by omega) with ⟨m, hm⟩ | h
      · exact gauss_col hm (by omega)
      · exact .inr h
  rcases step n (Nat.le_refl _) with ⟨m, hm⟩ | h
  · exact .inl ⟨fun i => m i n, (hm.done _).2 (fun _ _ => rfl)⟩
  · exact .inr h
theorem sumF_sk {n k : Nat} (hk : k < n + 1) (f : Nat → UInt8) : sumF (n + 1) f = f k ^^^ sumF n (fun j => f (sk k j)) := by
  induction n generalizing k f with
  | zero =>
    rw [show k = 0 from by omega, sumF, sumF, sumF, UInt8.xor_comm]
  | succ n ih =>
    by_cases e : k = n + 1
    · subst e
      rw [sumF, UInt8.xor_comm]
      congr 1
      exact sumF_cong (fun j hj => by rw [sk_lt hj])
    · rw [sumF, ih (k := k) (by omega), UInt8.xor_assoc]
      congr 1
      rw [show sumF (n + 1) (fun j => f (sk k j)) = sumF n (fun j => f (sk k j)) ^^^ f (sk k n) from rfl, sk_ge (show k ≤ n by omega)]
theorem det_inj {n : Nat} {M : Nat → Nat → UInt8} (hinj : ∀ y, Ker n n M y → ∀ j, j < n → y j = 0) : det n M ≠ 0 := by
  induction n generalizing M with
  | zero => show (1 : UInt8) ≠ 0; decide
  | succ n ih =>
    intro hd
    obtain ⟨x, hx⟩ : ∃ x : Nat → UInt8, ∀ i, i < n + 1 → sumF (n + 1) (fun j => mul (M i j) (x j)) = if i = 0 then 1 else 0 := by
      rcases gauss (n + 1) (fun i j => if j < n + 1 then M i j else if i = 0 then 1 else 0) with ⟨x, hx⟩ | ⟨y, ⟨j, hj, hy⟩, hK⟩
      · refine ⟨x, fun i hi => ?_⟩
        have := hx i hi
        simp only [Nat.lt_irrefl, if_false] at this
        rw [← this]
        exact sumF_cong (fun j hj => by rw [if_pos hj])
      · refine absurd (hinj y (fun i hi => ?_) j hj) hy
        rw [← hK i hi]
        refine sumF_cong (fun j hj => ?_)
        show mul (M i j) (y j) = mul (if j < n + 1 then M i j else _) (y j)
        rw [if_pos hj]
    have hC : ∀ k, k < n + 1 → det n (minor M k) = 0 := fun k hk => by
      have h1 := cramer hk hx
      rw [hd, mul_zero_r, det, sumF_single hk (fun j hj hne => ?_)] at h1
      · rw [setc_same, if_pos rfl, one_mul', minor_setc_eq] at h1
        exact h1
      · have h2 : det n (minor (setc M k (fun i => if i = 0 then 1 else 0)) j) = 0 := by
          rcases Nat.lt_or_ge k j with h3 | h3
          · rw [minor_setc_gt _ h3]
            exact det_zero (by omega) _
          · rw [minor_setc_lt _ (show j < k by omega)]
            exact det_zero (by omega) _
        rw [h2, mul_zero_r]
    -- a vector that the other rows send to 0, without the part k
    have hU : ∀ k, k < n + 1 → ∃ U : Nat → UInt8, U k = 0 ∧ (∃ j, j < n + 1 ∧ U j ≠ 0) ∧ (∀ i, 1 ≤ i → i < n + 1 → sumF (n + 1) (fun j => mul (M i j) (U j)) = 0) ∧ sumF (n + 1) (fun j => mul (M 0 j) (U j)) ≠ 0 := fun k hk => by
      have h1 : ∃ u : Nat → UInt8, (∃ j, j < n ∧ u j ≠ 0) ∧ Ker n n (minor M k) u := by
        refine Classical.byContradiction (fun h2 => ih (M := minor M k) (fun y hy j hj => ?_) (hC k hk))
        exact Classical.byContradiction (fun h3 => h2 ⟨y, ⟨j, hj, h3⟩, hy⟩)
      obtain ⟨u, ⟨j, hj, hu⟩, hK⟩ := h1
      obtain ⟨U, hUd⟩ : ∃ U : Nat → UInt8, U = fun j => if j < k then u j else if j = k then 0 else u (j - 1) := ⟨_, rfl⟩
      have hUk : U k = 0 := by rw [hUd]; simp
      have hUs : ∀ j, U (sk k j) = u j := fun j => by
        rw [hUd]
        show (if sk k j < k then _ else if sk k j = k then _ else _) = _
        rcases Nat.lt_or_ge j k with h3 | h3
        · rw [sk_lt h3, if_pos h3]
        · rw [sk_ge h3, if_neg (by omega), if_neg (by omega), Nat.add_sub_cancel]
      have hne : U (sk k j) ≠ 0 := by rw [hUs]; exact hu
      have hjl : sk k j < n + 1 := by unfold sk; split <;> omega
      have hrow : ∀ i, 1 ≤ i → i < n + 1 → sumF (n + 1) (fun j => mul (M i j) (U j)) = 0 := fun i h3 h4 => by
        rw [sumF_sk hk, hUk, mul_zero_r, zero_xor']
        have h5 := hK (i - 1) (by omega)
        rw [← h5]
        refine sumF_cong (fun j _ => ?_)
        rw [hUs]
        show _ = mul (M (i - 1 + 1) (sk k j)) (u j)
        rw [show i - 1 + 1 = i from by omega]
      refine ⟨U, hUk, ⟨_, hjl, hne⟩, hrow, fun h0 => hne (hinj U (fun i hi => ?_) _ hjl)⟩
      by_cases e : i = 0
      · rw [e]; exact h0
      · exact hrow i (by omega) hi
    obtain ⟨U, _, ⟨k, hk, hUk⟩, hr, ha⟩ := hU 0 (by omega)
    obtain ⟨V, hV0, _, hs, hb⟩ := hU k hk
    obtain ⟨a, hae⟩ : ∃ a, a = sumF (n + 1) (fun j => mul (M 0 j) (U j)) := ⟨_, rfl⟩
    obtain ⟨b, hbe⟩ : ∃ b, b = sumF (n + 1) (fun j => mul (M 0 j) (V j)) := ⟨_, rfl⟩
    have e1 : ∀ i, sumF (n + 1) (fun j => mul (M i j) (mul a (V j) ^^^ mul b (U j))) = mul a (sumF (n + 1) (fun j => mul (M i j) (V j))) ^^^ mul b (sumF (n + 1) (fun j => mul (M i j) (U j))) := fun i => by
      rw [← sumF_mul, ← sumF_mul, ← sumF_xor]
      refine sumF_cong (fun j _ => ?_)
      rw [mul_xor, mul_assoc, mul_assoc, mul_comm (M i j) a, mul_comm (M i j) b, ← mul_assoc, ← mul_assoc]
    have h0 := hinj (fun j => mul a (V j) ^^^ mul b (U j)) (fun i hi => by
      rw [e1]
      by_cases e : i = 0
      · rw [e, ← hae, ← hbe, mul_comm b a, xor_self']
      · rw [hr i (by omega) hi, hs i (by omega) hi, mul_zero_r, mul_zero_r]; rfl) k hk
    have h2 : mul a (V k) ^^^ mul b (U k) = 0 := h0
    rw [hV0, mul_zero_r, zero_xor'] at h2
    rw [← hbe] at hb
    exact mul_ne hb hUk h2
end Go.HL
/-! plain: what is rebuilt of columns -/
namespace Go.HL
open Go.RowKit
/-- those columns that aren't bad have this one length -/
def EvenB (cols : List (List UInt8)) (bad : List Int) (m : Nat) : Prop := (1 ≤ m ∧ m ≤ 4096) ∧ (∃ (j : Nat) (x : List UInt8), cols[j]? = some x ∧ (j : Int) ∉ bad) ∧ ∀ (j : Nat) (x : List UInt8), cols[j]? = some x → (j : Int) ∉ bad → x.length = m
theorem EvenB.uniq {cols : List (List UInt8)} {bad : List Int} {m n : Nat} (h : EvenB cols bad m) (k : EvenB cols bad n) : m = n := by
  obtain ⟨_, ⟨j, x, hx, hj⟩, hm⟩ := h
  rw [← hm j x hx hj, ← k.2.2 j x hx hj]
open Classical in
noncomputable def lenB (cols : List (List UInt8)) (bad : List Int) : Int := if h : ∃ m, EvenB cols bad m then ((Classical.choose h : Nat) : Int) else -1
theorem lenB_of {cols : List (List UInt8)} {bad : List Int} {m : Nat} (h : EvenB cols bad m) : lenB cols bad = (m : Int) := by
  have h1 : ∃ m, EvenB cols bad m := ⟨m, h⟩
  rw [lenB, dif_pos h1, (Classical.choose_spec h1).uniq h]
theorem lenB_no {cols : List (List UInt8)} {bad : List Int} (h : ¬ ∃ m, EvenB cols bad m) : lenB cols bad = -1 := by rw [lenB, dif_neg h]
theorem lenB_some {cols : List (List UInt8)} {bad : List Int} (h : 0 ≤ lenB cols bad) : ∃ m : Nat, lenB cols bad = (m : Int) ∧ EvenB cols bad m := by
  by_cases h1 : ∃ m, EvenB cols bad m
  · obtain ⟨m, hm⟩ := h1
    exact ⟨m, lenB_of hm, hm⟩
  · rw [lenB_no h1] at h
    omega
/-- numbers of columns, one behind the other -/
def OkBad (n : Nat) (bad : List Int) : Prop := ∀ (i : Nat) (b : Int), bad[i]? = some b → (0 ≤ b ∧ b < n) ∧ ∀ c, 0 < i → bad[i - 1]? = some c → c < b
open Classical in
noncomputable def errB (cols : List (List UInt8)) (bad : List Int) : Int := if 4 ≤ cols.length ∧ cols.length ≤ 16 ∧ OkBad cols.length bad ∧ 0 ≤ lenB cols bad then (if bad.length ≤ 3 then 0 else 4) else 1
theorem errB_zero {cols : List (List UInt8)} {bad : List Int} (h : errB cols bad = 0) : (4 ≤ cols.length ∧ cols.length ≤ 16) ∧ OkBad cols.length bad ∧ bad.length ≤ 3 ∧ ∃ n : Nat, lenB cols bad = (n : Int) ∧ EvenB cols bad n := by
  unfold errB at h
  split at h
  · rename_i h1
    split at h
    · rename_i h2
      exact ⟨⟨h1.1, h1.2.1⟩, h1.2.2.1, h2, lenB_some h1.2.2.2⟩
    · omega
  · omega
/-! lost columns, and the parities that are used -/
def lostL (k : Nat) (bad : List Int) : List Nat := (List.range k).filter (fun i : Nat => decide ((i : Int) ∈ bad))
def fromL (k : Nat) (bad : List Int) : List Nat := ((List.range 3).filter (fun q : Nat => decide (((k + q : Nat) : Int) ∉ bad))).take (lostL k bad).length
theorem filter_le : ∀ (l : List Nat) (bad : List Int), l.Nodup → (l.filter (fun i : Nat => decide ((i : Int) ∈ bad))).length ≤ bad.length
  | [], _, _ => Nat.zero_le _
  | a :: t, bad, h => by
    obtain ⟨h1, h2⟩ := List.nodup_cons.1 h
    rw [List.filter_cons]
    by_cases hb : (a : Int) ∈ bad
    · rw [if_pos (by simpa using hb), List.length_cons]
      have ih := filter_le t (bad.erase (a : Int)) h2
      rw [List.length_erase_of_mem hb] at ih
      have hl := List.length_pos_of_mem hb
      have e : t.filter (fun i : Nat => decide ((i : Int) ∈ bad)) = t.filter (fun i : Nat => decide ((i : Int) ∈ bad.erase (a : Int))) := by
        apply List.filter_congr
        intro x hx
        have hne : (x : Int) ≠ (a : Int) := fun e => h1 (by have : x = a := by omega
                                                            rw [← this]; exact hx)
        exact decide_eq_decide.2 (List.mem_erase_of_ne hne).symm
      rw [e]
      omega
    · rw [if_neg (by simpa using hb)]
      exact filter_le t bad h2
theorem from_len (k : Nat) {bad : List Int} (h : bad.length ≤ 3) : (fromL k bad).length = (lostL k bad).length := by
  have h1 := filter_le (List.range (k + 3)) bad List.nodup_range
  rw [show k + 3 = k + 1 + 1 + 1 from rfl, List.range_succ, List.range_succ, List.range_succ] at h1
  simp only [List.filter_append, List.length_append] at h1
  have h2 : (List.range 3).filter (fun q => decide (((k + q : Nat) : Int) ∉ bad)) = [0, 1, 2].filter (fun q => decide (((k + q : Nat) : Int) ∉ bad)) := rfl
  rw [fromL, List.length_take, h2]
  rw [Nat.min_eq_left]
  have h3 : (lostL k bad).length = ((List.range k).filter (fun i : Nat => decide ((i : Int) ∈ bad))).length := rfl
  rw [h3]
  generalize ((List.range k).filter (fun i : Nat => decide ((i : Int) ∈ bad))).length = L at h1
  by_cases b0 : ((k : Nat) : Int) ∈ bad <;> by_cases b1 : ((k + 1 : Nat) : Int) ∈ bad <;> by_cases b2 : ((k + 1 + 1 : Nat) : Int) ∈ bad <;> simp [List.filter_cons, b0, b1, b2, -Int.natCast_add] at h1 ⊢ <;> omega
theorem lost_mem {k : Nat} {bad : List Int} {i : Nat} : i ∈ lostL k bad ↔ i < k ∧ (i : Int) ∈ bad := by
  rw [lostL, List.mem_filter, List.mem_range, decide_eq_true_iff]
theorem from_mem {k : Nat} {bad : List Int} {q : Nat} (h : q ∈ fromL k bad) : q < 3 ∧ ((k + q : Nat) : Int) ∉ bad := by
  have := List.mem_of_mem_take h
  rw [List.mem_filter, List.mem_range, decide_eq_true_iff] at this
  exact this
theorem lost_sorted (k : Nat) (bad : List Int) : (lostL k bad).Pairwise (· < ·) := List.Pairwise.filter _ List.pairwise_lt_range
theorem from_sorted (k : Nat) (bad : List Int) : (fromL k bad).Pairwise (· < ·) := List.Pairwise.sublist (List.take_sublist _ _) (List.Pairwise.filter _ List.pairwise_lt_range)
/-! sums of which only some count -/
theorem sumF_some {k : Nat} {p : Nat → Bool} {f : Nat → UInt8} (h : ∀ j, j < k → p j = false → f j = 0) : sumF k f = sumF ((List.range k).filter p).length (fun b => f (((List.range k).filter p).getD b 0)) := by
  induction k with
  | zero => rfl
  | succ k ih =>
    rw [sumF, List.range_succ, List.filter_append, ih (fun j hj => h j (by omega))]
    cases hp : p k with
    | false =>
      rw [show [k].filter p = [] from by rw [List.filter_cons, hp]; rfl, List.append_nil, h k (by omega) hp, xor_zero']
    | true =>
      rw [show [k].filter p = [k] from by rw [List.filter_cons, hp]; rfl, List.length_append, show ((List.range k).filter p).length + [k].length = ((List.range k).filter p).length + 1 from rfl, sumF]
      congr 1
      · exact sumF_cong (fun b hb => by rw [List.getD_eq_getElem?_getD, List.getD_eq_getElem?_getD, List.getElem?_append_left hb])
      · rw [List.getD_eq_getElem?_getD, List.getElem?_append_right (Nat.le_refl _), Nat.sub_self]
        rfl
theorem fn_opt {m m' : List (List UInt8)} {i : Nat} (h : m[i]? = m'[i]?) (j : Nat) : fn m i j = fn m' i j := by
  unfold fn
  rw [List.getD_eq_getElem?_getD (l := m), List.getD_eq_getElem?_getD (l := m'), h]
theorem fn_at1 {m : List (List UInt8)} {i : Nat} {r : List UInt8} (h : m[i]? = some r) (j : Nat) : fn m i j = r.getD j 0 := by
  unfold fn
  rw [List.getD_eq_getElem?_getD (l := m), h]
  rfl
theorem px_sumF (wt : Nat → UInt8) (cols : List (List UInt8)) (k : Nat) : ∀ i, px wt cols k i = sumF i (fun j => mul (wt j) (fn cols j k))
  | 0 => rfl
  | i + 1 => by rw [px, sumF, px_sumF wt cols k i]; rfl
/-! the equations have one solution -/
def wm (i0 i1 i2 q0 q1 q2 : Nat) (a b : Nat) : UInt8 := wtq (if a = 0 then q0 else if a = 1 then q1 else q2) (if b = 0 then i0 else if b = 1 then i1 else i2)
set_option maxRecDepth 100000 in
theorem van1 : ∀ q, q < 3 → ∀ i, i < 13 → det 1 (wm i 0 0 q 0 0) ≠ 0 := by decide +kernel
set_option maxRecDepth 100000 in
theorem van2a : ∀ i, i < 13 → ∀ j, j < 13 → i < j → det 2 (wm i j 0 0 1 0) ≠ 0 := by decide +kernel
set_option maxRecDepth 100000 in
theorem van2b : ∀ i, i < 13 → ∀ j, j < 13 → i < j → det 2 (wm i j 0 0 2 0) ≠ 0 := by decide +kernel
set_option maxRecDepth 100000 in
theorem van2c : ∀ i, i < 13 → ∀ j, j < 13 → i < j → det 2 (wm i j 0 1 2 0) ≠ 0 := by decide +kernel
theorem van2 (q : Nat) (hq : q < 3) (p : Nat) (hp : p < 3) (hqp : q < p) (i : Nat) (hi : i < 13) (j : Nat) (hj : j < 13) (hij : i < j) : det 2 (wm i j 0 q p 0) ≠ 0 := by
  have h : (q = 0 ∧ p = 1) ∨ (q = 0 ∧ p = 2) ∨ (q = 1 ∧ p = 2) := by omega
  rcases h with ⟨rfl, rfl⟩ | ⟨rfl, rfl⟩ | ⟨rfl, rfl⟩
  · exact van2a i hi j hj hij
  · exact van2b i hi j hj hij
  · exact van2c i hi j hj hij
set_option maxRecDepth 100000 in
theorem van3 : ∀ i, i < 13 → ∀ j, j < 13 → i < j → ∀ l, l < 13 → j < l → det 3 (wm i j l 0 1 2) ≠ 0 := by decide +kernel
theorem van {lost from' : List Nat} (hl : lost.length = from'.length) (h13 : ∀ i ∈ lost, i < 13) (h3 : ∀ q ∈ from', q < 3) (s1 : lost.Pairwise (· < ·)) (s2 : from'.Pairwise (· < ·)) {M : Nat → Nat → UInt8} (hM : ∀ a b, a < lost.length → b < lost.length → M a b = wtq (from'.getD a 0) (lost.getD b 0))
    {y : Nat → UInt8} (hK : Ker lost.length lost.length M y) {b : Nat} (hb : b < lost.length) : y b = 0 := by
  refine Classical.byContradiction fun hy => ?_
  have hd := det_ker hK hb hy
  match lost, from', hl with
  | [], [], _ => exact Nat.not_lt_zero _ hb
  | [i], [q], _ =>
    refine van1 q (h3 q (by simp)) i (h13 i (by simp)) ?_
    rw [← hd]
    refine det_cong (fun a b ha hb => ?_)
    have ha : a = 0 := by omega
    have hb : b = 0 := by omega
    subst ha; subst hb
    rw [hM 0 0 Nat.zero_lt_one Nat.zero_lt_one]
    rfl
  | [i, j], [q, p], _ =>
    have e1 : i < j := by have := List.pairwise_cons.1 s1; exact this.1 j (by simp)
    have e2 : q < p := by have := List.pairwise_cons.1 s2; exact this.1 p (by simp)
    refine van2 q (h3 q (by simp)) p (h3 p (by simp)) e2 i (h13 i (by simp)) j (h13 j (by simp)) e1 ?_
    rw [← hd]
    refine det_cong (fun a b ha hb => ?_)
    rw [hM a b ha hb]
    have ha : a = 0 ∨ a = 1 := by omega
    have hb : b = 0 ∨ b = 1 := by omega
    rcases ha with rfl | rfl <;> rcases hb with rfl | rfl <;> rfl
  | [i, j, l], [q, p, r], _ =>
    have e1 : i < j := by have := List.pairwise_cons.1 s1; exact this.1 j (by simp)
    have e3 : j < l := by have := List.pairwise_cons.1 (List.pairwise_cons.1 s1).2; exact this.1 l (by simp)
    have e2 : q < p := by have := List.pairwise_cons.1 s2; exact this.1 p (by simp)
    have e4 : p < r := by have := List.pairwise_cons.1 (List.pairwise_cons.1 s2).2; exact this.1 r (by simp)
    have hq := h3 q (by simp)
    have hp := h3 p (by simp)
    have hr := h3 r (by simp)
    obtain ⟨rfl, rfl, rfl⟩ : q = 0 ∧ p = 1 ∧ r = 2 := by omega
    refine van3 i (h13 i (by simp)) j (h13 j (by simp)) e1 l (h13 l (by simp)) e3 ?_
    rw [← hd]
    refine det_cong (fun a b ha hb => ?_)
    rw [hM a b ha hb]
    have ha : a = 0 ∨ a = 1 ∨ a = 2 := by omega
    have hb : b = 0 ∨ b = 1 ∨ b = 2 := by omega
    rcases ha with rfl | rfl | rfl <;> rcases hb with rfl | rfl | rfl <;> rfl
  | a :: b :: c :: d :: t, f, hl =>
    exfalso
    match f, hl with
    | q :: p :: r :: s :: u, _ =>
      have e2 : q < p := by have := List.pairwise_cons.1 s2; exact this.1 p (by simp)
      have e4 : p < r := by have := List.pairwise_cons.1 (List.pairwise_cons.1 s2).2; exact this.1 r (by simp)
      have e5 : r < s := by have := List.pairwise_cons.1 (List.pairwise_cons.1 (List.pairwise_cons.1 s2).2).2; exact this.1 s (by simp)
      have := h3 s (by simp)
      omega
/-! what Rebuild answers -/
structure RB (cols : List (List UInt8)) (bad : List Int) (k n : Nat) (res : List (List UInt8)) : Prop where
  len : res.length = k + 3
  all : ∀ x ∈ res, x.length = n
  keep : ∀ i, i < k + 3 → (i : Int) ∉ bad → res[i]? = cols[i]?
  par : ∀ q, q < 3 → (((k + q : Nat) : Int) ∈ bad ∨ q ∈ fromL k bad) → res[k + q]? = some (prow (wtq q) (res.take k) n k)
theorem RB.uniq {cols : List (List UInt8)} {bad : List Int} {k n : Nat} {r1 r2 : List (List UInt8)} (hk : k ≤ 13) (hb : bad.length ≤ 3) (h : RB cols bad k n r1) (g : RB cols bad k n r2) : r1 = r2 := by
  have l1 : (r1.take k).length = k := by rw [List.length_take, h.len]; omega
  have l2 : (r2.take k).length = k := by rw [List.length_take, g.len]; omega
  have a1 : ∀ d ∈ r1.take k, d.length = n := fun d hd => h.all d (List.mem_of_mem_take hd)
  have a2 : ∀ d ∈ r2.take k, d.length = n := fun d hd => g.all d (List.mem_of_mem_take hd)
  have key : ∀ at', at' < n → ∀ j, j < k → fn (r1.take k) j at' = fn (r2.take k) j at' := by
    intro at' hat
    have hd0 : ∀ j, j < k → (j : Int) ∉ bad → fn (r1.take k) j at' = fn (r2.take k) j at' := by
      intro j hj hjb
      have e1 := h.keep j (by omega) hjb
      have e2 := g.keep j (by omega) hjb
      exact fn_opt (by rw [List.getElem?_take_of_lt hj, List.getElem?_take_of_lt hj, e1, e2]) at'
    have hker : Ker (lostL k bad).length (lostL k bad).length (fun a b => wtq ((fromL k bad).getD a 0) ((lostL k bad).getD b 0)) (fun b => fn (r1.take k) ((lostL k bad).getD b 0) at' ^^^ fn (r2.take k) ((lostL k bad).getD b 0) at') := by
      intro a ha
      have hfl := from_len k hb
      obtain ⟨q, hq⟩ : ∃ q, (fromL k bad)[a]? = some q := ⟨_, List.getElem?_eq_getElem (by omega)⟩
      have hqm := List.mem_of_getElem? hq
      obtain ⟨hq3, hqb⟩ := from_mem hqm
      have p1 := h.par q hq3 (.inr hqm)
      have p2 := g.par q hq3 (.inr hqm)
      rw [h.keep (k + q) (by omega) hqb] at p1
      rw [g.keep (k + q) (by omega) hqb, p1] at p2
      injection p2 with p2
      have e1 := prow_at a1 hat (i := k) (wt := wtq q) (by omega)
      have e2 := prow_at a2 hat (i := k) (wt := wtq q) (by omega)
      rw [p2, e2] at e1
      injection e1 with e1
      rw [px_sumF, px_sumF] at e1
      have e3 : sumF k (fun j => mul (wtq q j) (fn (r1.take k) j at' ^^^ fn (r2.take k) j at')) = 0 := by
        rw [show (fun j => mul (wtq q j) (fn (r1.take k) j at' ^^^ fn (r2.take k) j at')) = (fun j => mul (wtq q j) (fn (r1.take k) j at') ^^^ mul (wtq q j) (fn (r2.take k) j at')) from funext (fun j => mul_xor _ _ _), sumF_xor, e1, xor_self']
      rw [sumF_some (p := fun i : Nat => decide ((i : Int) ∈ bad)) (fun j hj hp => by
        rw [hd0 j hj (by simpa using hp), xor_self', mul_zero_r])] at e3
      rw [← e3]
      refine sumF_cong (fun b _ => ?_)
      dsimp only
      rw [show (fromL k bad).getD a 0 = q from by rw [List.getD_eq_getElem?_getD, hq]; rfl]
      rfl
    intro j hj
    by_cases hjb : (j : Int) ∈ bad
    · obtain ⟨b, hbj⟩ := List.getElem?_of_mem (lost_mem.2 ⟨hj, hjb⟩)
      have hbl := (List.getElem?_eq_some_iff.1 hbj).1
      have := van (from_len k hb).symm (fun i hi => by have := (lost_mem.1 hi).1; omega) (fun q hq => (from_mem hq).1) (lost_sorted k bad) (from_sorted k bad) (fun _ _ _ _ => rfl) hker hbl
      simp only [List.getD_eq_getElem?_getD, hbj, Option.getD_some] at this
      exact xor_eq_zero.1 this
    · exact hd0 j hj hjb
  have htake : r1.take k = r2.take k := by
    apply List.ext_getElem?
    intro j
    rcases Nat.lt_or_ge j k with hj | hj
    · obtain ⟨x, hx⟩ : ∃ x, (r1.take k)[j]? = some x := ⟨_, List.getElem?_eq_getElem (by omega)⟩
      obtain ⟨y, hy⟩ : ∃ y, (r2.take k)[j]? = some y := ⟨_, List.getElem?_eq_getElem (by omega)⟩
      have xl := a1 x (List.mem_of_getElem? hx)
      have yl := a2 y (List.mem_of_getElem? hy)
      rw [hx, hy]
      congr 1
      refine getD_ext (by omega) (fun i hi => ?_)
      have := key i (by omega) j hj
      rw [fn_at1 hx, fn_at1 hy] at this
      exact this
    · rw [List.getElem?_eq_none (by omega), List.getElem?_eq_none (by omega)]
  apply List.ext_getElem?
  intro j
  rcases Nat.lt_or_ge j k with hj | hj
  · have := congrArg (fun l => l[j]?) htake
    simp only [List.getElem?_take_of_lt hj] at this
    exact this
  · rcases Nat.lt_or_ge j (k + 3) with hj3 | hj3
    · by_cases hjb : (j : Int) ∈ bad
      · have e : j = k + (j - k) := by omega
        have p1 := h.par (j - k) (by omega) (.inl (by rw [← e]; exact hjb))
        have p2 := g.par (j - k) (by omega) (.inl (by rw [← e]; exact hjb))
        rw [← e] at p1 p2
        rw [p1, p2, htake]
      · rw [h.keep j hj3 hjb, g.keep j hj3 hjb]
    · rw [List.getElem?_eq_none (by rw [h.len]; omega), List.getElem?_eq_none (by rw [g.len]; omega)]
end Go.HL
