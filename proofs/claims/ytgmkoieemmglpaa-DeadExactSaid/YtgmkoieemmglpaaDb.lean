import Derived.Test.YtgmkoieemmglpaaDa
namespace Go.Proofs.Ytgmkoieemmglpaa
open Go.RowKit Go.HL

/-- lines that have room to grow a little -/
structure Sm (k : Nat) (l : LnV) : Prop where
  snaps : l.snaps.length ≤ 4398046510976 + k
  dead : l.dead.length ≤ 3518437208780 + k
  inner : ∀ x ∈ l.snaps, x.dead.length ≤ 3518437208780 + k
/-! is a line in form? -/
set_option maxHeartbeats 1000000 in
theorem Check_calls {S : Nat → Prop} {w : World} {l : LnV} (h : LS S w l) (hs : Sm 60 l) : Calls Try.prog 9 [lval l].toArray w (Ret fun v w' => (∃ e : Int, v = vi e ∧ (e = 0 ∧ l.abs.Right ∨ e = 2 ∧ ¬ l.abs.Right)) ∧ Chg Nob w w') := by
  have hw := Chg.refl Nob w
  have hsn := hs.snaps
  have hsd := hs.dead
  replace h := h.old
  refine Calls.of_WC Try.func9 rfl Try.ntmps9 (by simp) ?_
  refine WC.seq (WC.region (?_))
  refine WL.box rfl rfl ?_
  intro g_1 w_1 hge_1 hlt_1 hb_1 k_1
  have zs_k_1 := k_1.size
  replace h := h.pure k_1
  replace hw := hw.pure k_1
  refine WL.assign rfl rfl (WL.nil (WX.then_normal (WC.seq (WC.seq (?_)))))
  have hb0 : Blk _ g_1 33 (lcells l) := hb_1
  refine WC.draw (Nob) [0, 1, 2, 3, 4, 5, 6, 7] [8, 9, 10] mixed rfl rfl (fun wd_2 kd_2 zd_2 => ?_)
  have zs_kd_2 := kd_2.size
  replace h := h.pure kd_2
  replace hw := hw.pure kd_2
  replace hb0 := hb0.pure kd_2
  apply DQ.step (E' := [(1, _)])
  case ho => rfl
  case hs => exact ⟨rfl, trivial⟩
  case hk => rfl
  case h1 =>
    intro wq_4 kq_4
    refine WL.fieldAddr (fld_33_0) rfl rfl (?_)
    refine WL.nil ?_
    exact WX.one ⟨rfl, by first | exact Chg.refl _ _ | assumption⟩
  apply DQ.step (E' := [(5, _)])
  case ho => rfl
  case hs => exact ⟨rfl, trivial⟩
  case hk => rfl
  case h1 =>
    intro wq_5 kq_5
    have zs_kq_5 := kq_5.size
    replace h := h.pure kq_5
    replace hw := hw.pure kq_5
    replace hb0 := hb0.pure kq_5
    refine WL.loadB Try.isAgg3 hb0 rfl rfl rfl (?_)
    refine WL.nil ?_
    exact WX.one ⟨rfl, by first | exact Chg.refl _ _ | assumption⟩
  apply DQ.split (E' := [(6, _)])
  case ho => rfl
  case hs => exact ⟨rfl, trivial⟩
  case hk => rfl
  case h1 =>
    intro wq_6 kq_6
    refine WL.lss rfl rfl rfl ?_
    refine WL.nil ?_
    exact WX.one ⟨rfl, by first | exact Chg.refl _ _ | assumption⟩
  case ht =>
    intro h7
    replace h7 := of_decide_eq_true h7
    apply DQ.step (E' := [(7, _)])
    case ho => rfl
    case hs => exact ⟨rfl, trivial⟩
    case hk => rfl
    case h1 =>
      intro wq_7 kq_7
      refine WL.move rfl rfl (?_)
      refine WL.nil ?_
      exact WX.one ⟨rfl, by first | exact Chg.refl _ _ | assumption⟩
    apply DQ.step (E' := [(1, _), (8, _)])
    case ho => rfl
    case hs => exact ⟨rfl, rfl, trivial⟩
    case hk => rfl
    case h1 =>
      intro wq_8 kq_8
      refine WL.pass rfl rfl rfl rfl (WL.nil (?_))
      exact WX.one ⟨rfl, by first | exact Chg.refl _ _ | assumption⟩
    apply DQ.step (E' := [(9, _), (8, _)])
    case ho => rfl
    case hs => exact ⟨rfl, rfl, trivial⟩
    case hk => rfl
    case h1 =>
      intro wq_9 kq_9
      have zs_kq_9 := kq_9.size
      replace h := h.pure kq_9
      replace hw := hw.pure kq_9
      replace hb0 := hb0.pure kq_9
      refine WL.pass rfl rfl rfl rfl (WL.nil (?_))
      exact WX.one ⟨rfl, by first | exact Chg.refl _ _ | assumption⟩
    apply DQ.step (E' := [(1, _), (8, _)])
    case ho => rfl
    case hs => exact ⟨rfl, rfl, trivial⟩
    case hk => rfl
    case h1 =>
      intro wq_10 kq_10
      have zs_kq_10 := kq_10.size
      replace h := h.pure kq_10
      replace hw := hw.pure kq_10
      replace hb0 := hb0.pure kq_10
      refine WL.pass rfl rfl rfl rfl (WL.nil (?_))
      exact WX.one ⟨rfl, by first | exact Chg.refl _ _ | assumption⟩
    apply DQ.step (E' := [(11, _), (8, _)])
    case ho => rfl
    case hs => exact ⟨rfl, rfl, trivial⟩
    case hk => rfl
    case h1 =>
      intro wq_11 kq_11
      have zs_kq_11 := kq_11.size
      replace h := h.pure kq_11
      replace hw := hw.pure kq_11
      replace hb0 := hb0.pure kq_11
      refine WL.pass rfl rfl rfl rfl (WL.nil (?_))
      exact WX.one ⟨rfl, by first | exact Chg.refl _ _ | assumption⟩
    refine DQ.done (fun hd_3 => ?_)
    refine DL.step [(12, _), (8, _)] rfl ⟨rfl, rfl, trivial⟩ rfl (fun wq_12 kq_12 => ?_)
    have zs_kq_12 := kq_12.size
    replace h := h.pure kq_12
    replace hw := hw.pure kq_12
    replace hb0 := hb0.pure kq_12
    replace hd_3 := hd_3.pure kq_12
    refine WL.pass rfl rfl rfl rfl (WL.nil (?_))
    refine WX.one ⟨hd_3, ?_⟩
    refine DL.step [(10, _), (13, _), (8, _)] rfl ⟨rfl, rfl, rfl, trivial⟩ rfl (fun wq_13 kq_13 => ?_)
    have zs_kq_13 := kq_13.size
    replace h := h.pure kq_13
    replace hw := hw.pure kq_13
    replace hb0 := hb0.pure kq_13
    replace hd_3 := hd_3.pure kq_13
    refine WL.pass rfl rfl rfl rfl (WL.nil (?_))
    refine WX.one ⟨hd_3, ?_⟩
    refine DL.step [(8, _), (14, _)] rfl ⟨rfl, rfl, trivial⟩ rfl (fun wq_14 kq_14 => ?_)
    have zs_kq_14 := kq_14.size
    replace h := h.pure kq_14
    replace hw := hw.pure kq_14
    replace hb0 := hb0.pure kq_14
    replace hd_3 := hd_3.pure kq_14
    refine WL.pickT rfl rfl rfl (?_)
    refine WL.nil ?_
    refine WX.one ⟨hd_3, ?_⟩
    refine DL.done (fun we_15 ke_15 => ?_)
    have zs_ke_15 := ke_15.size
    replace h := h.pure ke_15
    replace hw := hw.pure ke_15
    replace hb0 := hb0.pure ke_15
    replace hd_3 := hd_3.pure ke_15
    refine WX.then_normal (WC.cond_true rfl (WC.seq (WC.region (WL.assign rfl rfl (WL.nil (WX.then_normal (WC.ret (?_))))))))
    refine WX.then_ret (?_)
    refine WX.ret1 (.inl rfl) Try.results9 rfl ?_
    first
      | (have hh : x.txg ≤ l.abs.ahead i := h29
         refine ⟨_, rfl, ⟨_, rfl, .inr ⟨rfl, fun hR => ?_⟩⟩, hw⟩
         have := (hR.snaps i _ hxa).1
         have h2 : l.abs.ahead i < x.txg := this
         omega)
      | (have hh : b5 = true := hc38
         refine ⟨_, rfl, ⟨_, rfl, .inr ⟨rfl, fun hR => ?_⟩⟩, hw⟩
         obtain ⟨p, hp, hp2⟩ := hb5.1 hh
         have := (hR.snaps i _ hxa).2 p hp
         omega)
      | (have hh : b4 = true := hc15
         refine ⟨_, rfl, ⟨_, rfl, .inr ⟨rfl, fun hR => ?_⟩⟩, hw⟩
         obtain ⟨p, hp, hp2⟩ := hb4.1 hh
         have := hR.dead p hp
         rw [show l.abs.snaps.length = l.snaps.length from sabs_len _] at this
         omega)
      | (have hh : l.base < 0 := h7
         refine ⟨_, rfl, ⟨_, rfl, .inr ⟨rfl, fun hR => ?_⟩⟩, hw⟩
         have h2 : 0 ≤ l.base := hR.base
         omega)
      | (have hh : b4 = false := hc15
         refine ⟨_, rfl, ⟨_, rfl, .inl ⟨rfl, by show 0 ≤ l.base; omega, fun p hp => ?_, fun j y hy => ?_⟩⟩, hw⟩
         ·
           rw [show l.abs.snaps.length = l.snaps.length from sabs_len _]
           rcases Int.lt_or_le (l.abs.ahead l.snaps.length) p.b with h3 | h3
           ·
             rw [hb4.2 ⟨p, hp, h3⟩] at hh
             cases hh
           ·
             exact h3
         ·
           have hj := (List.getElem?_eq_some_iff.1 hy).1
           rw [show l.abs.snaps.length = l.snaps.length from sabs_len _] at hj
           exact hno j y (by omega) hy)
  case hf =>
    intro h7
    replace h7 := of_decide_eq_false h7
    apply DQ.step (E' := [(7, _)])
    case ho => rfl
    case hs => exact ⟨rfl, trivial⟩
    case hk => rfl
    case h1 =>
      intro wq_7 kq_7
      refine WL.move rfl rfl (?_)
      refine WL.nil ?_
      exact WX.one ⟨rfl, by first | exact Chg.refl _ _ | assumption⟩
    apply DQ.step (E' := [(1, _), (8, _)])
    case ho => rfl
    case hs => exact ⟨rfl, rfl, trivial⟩
    case hk => rfl
    case h1 =>
      intro wq_8 kq_8
      refine WL.want rfl rfl rfl (WL.fieldAddr (fld_33_2) rfl rfl (?_))
      refine WL.nil ?_
      exact WX.one ⟨rfl, by first | exact Chg.refl _ _ | assumption⟩
    apply DQ.step (E' := [(9, _), (8, _)])
    case ho => rfl
    case hs => exact ⟨rfl, rfl, trivial⟩
    case hk => rfl
    case h1 =>
      intro wq_9 kq_9
      have zs_kq_9 := kq_9.size
      replace h := h.pure kq_9
      replace hw := hw.pure kq_9
      replace hb0 := hb0.pure kq_9
      refine WL.want rfl rfl rfl (WL.loadB Try.isAgg23 hb0 rfl rfl rfl (?_))
      refine WL.nil ?_
      exact WX.one ⟨rfl, by first | exact Chg.refl _ _ | assumption⟩
    apply DQ.step (E' := [(1, _), (8, _)])
    case ho => rfl
    case hs => exact ⟨rfl, rfl, trivial⟩
    case hk => rfl
    case h1 =>
      intro wq_10 kq_10
      have zs_kq_10 := kq_10.size
      replace h := h.pure kq_10
      replace hw := hw.pure kq_10
      replace hb0 := hb0.pure kq_10
      refine WL.want rfl rfl rfl (?_)
      refine WL.loadsB Try.isAgg33 Try.sizeOf33 hb0 rfl rfl rfl ?_
      refine WL.nil ?_
      exact WX.one ⟨rfl, by first | exact Chg.refl _ _ | assumption⟩
    apply DQ.step (E' := [(11, _), (8, _)])
    case ho => rfl
    case hs => exact ⟨rfl, rfl, trivial⟩
    case hk => rfl
    case h1 =>
      intro wq_11 kq_11
      have zs_kq_11 := kq_11.size
      replace h := h.pure kq_11
      replace hw := hw.pure kq_11
      replace hb0 := hb0.pure kq_11
      refine WL.want rfl rfl rfl (?_)
      refine WL.call eg_25 rfl rfl (last_calls h (by omega)) ?_
      rintro v w2 ⟨rfl, k2⟩
      have zs_k2 := k2.size
      replace h := h.pure k2
      replace hw := hw.pure k2
      replace hb0 := hb0.pure k2
      refine WL.nil ?_
      exact WX.one ⟨rfl, by first | exact Chg.refl _ _ | assumption⟩
    refine DQ.done (fun hd_3 => ?_)
    refine DL.step [(12, _), (8, _)] rfl ⟨rfl, rfl, trivial⟩ rfl (fun wq_12 kq_12 => ?_)
    have zs_kq_12 := kq_12.size
    replace h := h.pure kq_12
    replace hw := hw.pure kq_12
    replace hb0 := hb0.pure kq_12
    replace hd_3 := hd_3.pure kq_12
    refine WL.want rfl rfl rfl (?_)
    refine WL.call eg_24 rfl rfl (later_calls _ (l.abs.ahead l.snaps.length)) ?_
    rintro v w3 ⟨⟨g3, rfl, hD, hg3⟩, k3⟩
    have zs_k3 := k3.size
    replace h := h.pure k3
    replace hw := hw.pure k3
    replace hb0 := hb0.pure k3
    replace hd_3 := hd_3.pure k3
    refine WL.nil ?_
    refine WX.one ⟨hd_3, ?_⟩
    refine DL.step [(10, _), (13, _), (8, _)] rfl ⟨rfl, rfl, rfl, trivial⟩ rfl (fun wq_13 kq_13 => ?_)
    have zs_kq_13 := kq_13.size
    replace h := h.pure kq_13
    replace hw := hw.pure kq_13
    replace hb0 := hb0.pure kq_13
    replace hd_3 := hd_3.pure kq_13
    replace hD := hD.pure kq_13
    refine WL.want rfl rfl rfl (?_)
    refine WL.call eg_23 rfl rfl (contains_calls hD h.dead (by omega)) ?_
    rintro v w4 ⟨⟨b4, rfl, hb4⟩, k4⟩
    have zs_k4 := k4.size
    replace h := h.pure k4
    replace hw := hw.pure k4
    replace hb0 := hb0.pure k4
    replace hd_3 := hd_3.pure k4
    refine WL.nil ?_
    refine WX.one ⟨hd_3, ?_⟩
    refine DL.step [(8, _), (14, _)] rfl ⟨rfl, rfl, trivial⟩ rfl (fun wq_14 kq_14 => ?_)
    have zs_kq_14 := kq_14.size
    replace h := h.pure kq_14
    replace hw := hw.pure kq_14
    replace hb0 := hb0.pure kq_14
    replace hd_3 := hd_3.pure kq_14
    refine WL.pickF rfl rfl rfl (?_)
    refine WL.nil ?_
    refine WX.one ⟨hd_3, ?_⟩
    refine DL.done (fun we_15 ke_15 => ?_)
    have zs_ke_15 := ke_15.size
    replace h := h.pure ke_15
    replace hw := hw.pure ke_15
    replace hb0 := hb0.pure ke_15
    replace hd_3 := hd_3.pure ke_15
    refine WX.then_normal (?_)
    first | refine WC.cond_dec rfl (fun hc15 => ?_) (fun hc15 => ?_) | refine WC.cond_split rfl (fun hc15 => ?_) (fun hc15 => ?_)
    ·
      refine WC.seq (WC.region (WL.assign rfl rfl (WL.nil (WX.then_normal (WC.ret (WX.then_ret (?_)))))))
      refine WX.ret1 (.inl rfl) Try.results9 rfl ?_
      first
        | (have hh : x.txg ≤ l.abs.ahead i := h29
           refine ⟨_, rfl, ⟨_, rfl, .inr ⟨rfl, fun hR => ?_⟩⟩, hw⟩
           have := (hR.snaps i _ hxa).1
           have h2 : l.abs.ahead i < x.txg := this
           omega)
        | (have hh : b5 = true := hc38
           refine ⟨_, rfl, ⟨_, rfl, .inr ⟨rfl, fun hR => ?_⟩⟩, hw⟩
           obtain ⟨p, hp, hp2⟩ := hb5.1 hh
           have := (hR.snaps i _ hxa).2 p hp
           omega)
        | (have hh : b4 = true := hc15
           refine ⟨_, rfl, ⟨_, rfl, .inr ⟨rfl, fun hR => ?_⟩⟩, hw⟩
           obtain ⟨p, hp, hp2⟩ := hb4.1 hh
           have := hR.dead p hp
           rw [show l.abs.snaps.length = l.snaps.length from sabs_len _] at this
           omega)
        | (have hh : l.base < 0 := h7
           refine ⟨_, rfl, ⟨_, rfl, .inr ⟨rfl, fun hR => ?_⟩⟩, hw⟩
           have h2 : 0 ≤ l.base := hR.base
           omega)
        | (have hh : b4 = false := hc15
           refine ⟨_, rfl, ⟨_, rfl, .inl ⟨rfl, by show 0 ≤ l.base; omega, fun p hp => ?_, fun j y hy => ?_⟩⟩, hw⟩
           ·
             rw [show l.abs.snaps.length = l.snaps.length from sabs_len _]
             rcases Int.lt_or_le (l.abs.ahead l.snaps.length) p.b with h3 | h3
             ·
               rw [hb4.2 ⟨p, hp, h3⟩] at hh
               cases hh
             ·
               exact h3
           ·
             have hj := (List.getElem?_eq_some_iff.1 hy).1
             rw [show l.abs.snaps.length = l.snaps.length from sabs_len _] at hj
             exact hno j y (by omega) hy)
    ·
      refine WC.skip (WX.then_normal (WC.seq (WC.seq (WC.region (WL.fieldAddr (fld_33_1) rfl rfl (WL.loadB Try.isAgg31 hb0 rfl rfl rfl (WL.len Try.underlying31 rfl rfl (?_))))))))
      refine WL.move rfl rfl (WL.nil (WX.then_normal (WC.block (?_))))
      refine WC.loop (σ := Nat) (fun i => [(1, gptr g_1), (17, .slice l.sao l.snaps.length l.scap), (18, vi l.snaps.length), (19, vi (i : Int))]) (fun i w' => i ≤ l.snaps.length ∧ Blk w' g_1 33 (lcells l) ∧ LS (· < w.heap.size) w' l ∧ Chg Nob w w' ∧ w.heap.size ≤ w'.heap.size ∧ ∀ j x, j < i → l.abs.snaps[j]? = some x → l.abs.ahead j < x.1 ∧ ∀ p ∈ x.2, p.b ≤ l.abs.ahead j) (fun i => l.snaps.length - i) 0 ⟨rfl, rfl, rfl, rfl, trivial⟩ ⟨Nat.zero_le _, hb0, h, hw, hw.size, fun j x hj => by omega⟩ ?_
      clear h hw hb0
      rintro i w1 ⟨hi, hb0, h, hw, zw, hno⟩
      have lg1 := hb0.lt
      refine WC.seq (WC.region (?_))
      refine WL.lss? rfl rfl rfl (fun h20 => ?_) (fun h20 => ?_)
      ·
        refine WL.nil (WX.then_normal (WC.seq (WC.cond_true rfl (WC.skip (WX.then_normal (WC.seq (WC.block (?_))))))))
        refine WC.seq (WC.region (WL.move rfl rfl (?_)))
        obtain ⟨x, hx⟩ : ∃ x, l.snaps[i]? = some x := ⟨_, List.getElem?_eq_getElem (by omega)⟩
        have hxa := sabs_at hx
        have hxm := List.mem_of_getElem? hx
        refine WL.indexT (e := esn) Try.underlying31 Try.sizeOf65 h.snaps rfl rfl ⟨hx, rfl⟩ rfl ?_
        intro bb oo hcc
        refine WL.loads _ Try.isAgg65 Try.sizeOf65 rfl hcc rfl rfl (?_)
        refine WL.alloc Try.zeroValue65 rfl ?_
        intro gs ws hges hlts hbs ks
        have zs_ks := ks.size
        replace hb0 := hb0.pure ks
        replace h := h.pure ks
        replace hw := hw.pure ks
        refine WL.assign rfl rfl (?_)
        refine WL.stores Try.sizeOf65 hbs rfl rfl (by first | (simp; done) | (simp; omega) | rfl) (by first | exact Enc.one _ _ | (intro u hu; obtain ⟨x, _, rfl⟩ := List.mem_map.1 hu; rfl) | (simp [Value.oneCell']; done) | (simp [Value.oneCell', Value.cells]; done)) (by first | (simp; done) | (simp; omega) | (simp [Value.cells]; done) | (simp [Value.cells]; omega) | exact Nat.le_of_ble_eq_true rfl) rfl ?_
        intro w_16 hs_16 hn_16 k_16
        have zs_k_16 := k_16.size
        replace hb0 := hb0.chg k_16 (by first | (intro x h1 h2; have h3 : _ = _ := h2; exfalso; omega) | (intro b h1 h2 h3; have h4 : _ = _ := h3; (try dsimp only at h2); exfalso; omega) | (intro h1; have h2 : _ = _ := h1; exfalso; omega))
        replace h := h.chg k_16 (by first | (intro x h1 h2; have h3 : _ = _ := h2; exfalso; omega) | (intro b h1 h2 h3; have h4 : _ = _ := h3; (try dsimp only at h2); exfalso; omega) | (intro h1; have h2 : _ = _ := h1; exfalso; omega))
        replace hw := hw.chg k_16 (by first | (intro x h1 h2; have h3 : _ = _ := h2; exfalso; omega) | (intro b h1 h2 h3; have h4 : _ = _ := h3; (try dsimp only at h2); exfalso; omega) | (intro h1; have h2 : _ = _ := h1; exfalso; omega))
        replace hbs := hn_16
        refine WL.nil (WX.then_normal (WC.seq (?_)))
        have hb8 : Blk _ gs 65 [vi x.txg, .slice x.ao x.dead.length x.cap] := hbs
        refine WC.draw (Nob) [0, 1, 2, 3, 4, 5, 6, 7, 8, 9, 10, 11] [12, 13, 14] mixed rfl rfl (fun wd_17 kd_17 zd_17 => ?_)
        have zs_kd_17 := kd_17.size
        replace hb0 := hb0.pure kd_17
        replace h := h.pure kd_17
        replace hw := hw.pure kd_17
        replace hb8 := hb8.pure kd_17
        apply DQ.step (E' := [(4, _)])
        case ho => rfl
        case hs => exact ⟨rfl, trivial⟩
        case hk => rfl
        case h1 =>
          intro wq_19 kq_19
          refine WL.fieldAddr (fld_65_0) rfl rfl (?_)
          refine WL.nil ?_
          exact WX.one ⟨rfl, by first | exact Chg.refl _ _ | assumption⟩
        apply DQ.step (E' := [(24, _)])
        case ho => rfl
        case hs => exact ⟨rfl, trivial⟩
        case hk => rfl
        case h1 =>
          intro wq_20 kq_20
          have zs_kq_20 := kq_20.size
          replace hb0 := hb0.pure kq_20
          replace h := h.pure kq_20
          replace hw := hw.pure kq_20
          replace hb8 := hb8.pure kq_20
          refine WL.loadB Try.isAgg3 hb8 rfl rfl rfl (?_)
          refine WL.nil ?_
          exact WX.one ⟨rfl, by first | exact Chg.refl _ _ | assumption⟩
        apply DQ.step (E' := [(1, _)])
        case ho => rfl
        case hs => exact ⟨rfl, trivial⟩
        case hk => rfl
        case h1 =>
          intro wq_21 kq_21
          have zs_kq_21 := kq_21.size
          replace hb0 := hb0.pure kq_21
          replace h := h.pure kq_21
          replace hw := hw.pure kq_21
          replace hb8 := hb8.pure kq_21
          refine WL.loadsB Try.isAgg33 Try.sizeOf33 hb0 rfl rfl rfl ?_
          refine WL.nil ?_
          exact WX.one ⟨rfl, by first | exact Chg.refl _ _ | assumption⟩
        apply DQ.step (E' := [(3, _)])
        case ho => rfl
        case hs => exact ⟨rfl, trivial⟩
        case hk => rfl
        case h1 =>
          intro wq_22 kq_22
          refine WL.move rfl rfl (?_)
          refine WL.nil ?_
          exact WX.one ⟨rfl, by first | exact Chg.refl _ _ | assumption⟩
        apply DQ.step (E' := [(26, _), (27, _)])
        case ho => rfl
        case hs => exact ⟨rfl, rfl, trivial⟩
        case hk => rfl
        case h1 =>
          intro wq_23 kq_23
          have zs_kq_23 := kq_23.size
          replace hb0 := hb0.pure kq_23
          replace h := h.pure kq_23
          replace hw := hw.pure kq_23
          replace hb8 := hb8.pure kq_23
          refine WL.call eg_26 rfl rfl (ahead_calls h.snaps (by omega) i hi) ?_
          rintro v w2 ⟨rfl, k2⟩
          have zs_k2 := k2.size
          replace hb0 := hb0.pure k2
          replace h := h.pure k2
          replace hw := hw.pure k2
          replace hb8 := hb8.pure k2
          refine WL.nil ?_
          exact WX.one ⟨rfl, by first | exact Chg.refl _ _ | assumption⟩
        apply DQ.split (E' := [(25, _), (28, _)])
        case ho => rfl
        case hs => exact ⟨rfl, rfl, trivial⟩
        case hk => rfl
        case h1 =>
          intro wq_24 kq_24
          refine WL.leq rfl rfl rfl ?_
          refine WL.nil ?_
          exact WX.one ⟨rfl, by first | exact Chg.refl _ _ | assumption⟩
        case ht =>
          intro h29
          replace h29 := of_decide_eq_true h29
          apply DQ.step (E' := [(29, _)])
          case ho => rfl
          case hs => exact ⟨rfl, trivial⟩
          case hk => rfl
          case h1 =>
            intro wq_25 kq_25
            refine WL.move rfl rfl (?_)
            refine WL.nil ?_
            exact WX.one ⟨rfl, by first | exact Chg.refl _ _ | assumption⟩
          apply DQ.step (E' := [(4, _), (30, _)])
          case ho => rfl
          case hs => exact ⟨rfl, rfl, trivial⟩
          case hk => rfl
          case h1 =>
            intro wq_26 kq_26
            refine WL.pass rfl rfl rfl rfl (WL.nil (?_))
            exact WX.one ⟨rfl, by first | exact Chg.refl _ _ | assumption⟩
          apply DQ.step (E' := [(31, _), (30, _)])
          case ho => rfl
          case hs => exact ⟨rfl, rfl, trivial⟩
          case hk => rfl
          case h1 =>
            intro wq_27 kq_27
            have zs_kq_27 := kq_27.size
            replace hb0 := hb0.pure kq_27
            replace h := h.pure kq_27
            replace hw := hw.pure kq_27
            replace hb8 := hb8.pure kq_27
            refine WL.pass rfl rfl rfl rfl (WL.nil (?_))
            exact WX.one ⟨rfl, by first | exact Chg.refl _ _ | assumption⟩
          apply DQ.step (E' := [(1, _), (30, _)])
          case ho => rfl
          case hs => exact ⟨rfl, rfl, trivial⟩
          case hk => rfl
          case h1 =>
            intro wq_28 kq_28
            have zs_kq_28 := kq_28.size
            replace hb0 := hb0.pure kq_28
            replace h := h.pure kq_28
            replace hw := hw.pure kq_28
            replace hb8 := hb8.pure kq_28
            refine WL.pass rfl rfl rfl rfl (WL.nil (?_))
            exact WX.one ⟨rfl, by first | exact Chg.refl _ _ | assumption⟩
          apply DQ.step (E' := [(3, _), (30, _)])
          case ho => rfl
          case hs => exact ⟨rfl, rfl, trivial⟩
          case hk => rfl
          case h1 =>
            intro wq_29 kq_29
            refine WL.pass rfl rfl rfl rfl (WL.nil (?_))
            exact WX.one ⟨rfl, by first | exact Chg.refl _ _ | assumption⟩
          apply DQ.step (E' := [(33, _), (34, _), (30, _)])
          case ho => rfl
          case hs => exact ⟨rfl, rfl, rfl, trivial⟩
          case hk => rfl
          case h1 =>
            intro wq_30 kq_30
            have zs_kq_30 := kq_30.size
            replace hb0 := hb0.pure kq_30
            replace h := h.pure kq_30
            replace hw := hw.pure kq_30
            replace hb8 := hb8.pure kq_30
            refine WL.pass rfl rfl rfl rfl (WL.nil (?_))
            exact WX.one ⟨rfl, by first | exact Chg.refl _ _ | assumption⟩
          refine DQ.done (fun hd_18 => ?_)
          refine DL.step [(35, _), (30, _)] rfl ⟨rfl, rfl, trivial⟩ rfl (fun wq_31 kq_31 => ?_)
          have zs_kq_31 := kq_31.size
          replace hb0 := hb0.pure kq_31
          replace h := h.pure kq_31
          replace hw := hw.pure kq_31
          replace hb8 := hb8.pure kq_31
          replace hd_18 := hd_18.pure kq_31
          refine WL.pass rfl rfl rfl rfl (WL.nil (?_))
          refine WX.one ⟨hd_18, ?_⟩
          refine DL.step [(32, _), (36, _), (30, _)] rfl ⟨rfl, rfl, rfl, trivial⟩ rfl (fun wq_32 kq_32 => ?_)
          have zs_kq_32 := kq_32.size
          replace hb0 := hb0.pure kq_32
          replace h := h.pure kq_32
          replace hw := hw.pure kq_32
          replace hb8 := hb8.pure kq_32
          replace hd_18 := hd_18.pure kq_32
          refine WL.pass rfl rfl rfl rfl (WL.nil (?_))
          refine WX.one ⟨hd_18, ?_⟩
          refine DL.step [(30, _), (37, _)] rfl ⟨rfl, rfl, trivial⟩ rfl (fun wq_33 kq_33 => ?_)
          have zs_kq_33 := kq_33.size
          replace hb0 := hb0.pure kq_33
          replace h := h.pure kq_33
          replace hw := hw.pure kq_33
          replace hb8 := hb8.pure kq_33
          replace hd_18 := hd_18.pure kq_33
          refine WL.pickT rfl rfl rfl (?_)
          refine WL.nil ?_
          refine WX.one ⟨hd_18, ?_⟩
          refine DL.done (fun we_34 ke_34 => ?_)
          have zs_ke_34 := ke_34.size
          replace hb0 := hb0.pure ke_34
          replace h := h.pure ke_34
          replace hw := hw.pure ke_34
          replace hb8 := hb8.pure ke_34
          replace hd_18 := hd_18.pure ke_34
          refine WX.then_normal (WC.cond_true rfl (WC.seq (WC.region (WL.assign rfl rfl (WL.nil (WX.then_normal (WC.ret (?_))))))))
          refine WX.block_ret (WX.then_ret (WX.then_ret (WX.block_ret (WX.then_ret (?_)))))
          refine WX.ret1 (.inl rfl) Try.results9 rfl ?_
          first
            | (have hh : x.txg ≤ l.abs.ahead i := h29
               refine ⟨_, rfl, ⟨_, rfl, .inr ⟨rfl, fun hR => ?_⟩⟩, hw⟩
               have := (hR.snaps i _ hxa).1
               have h2 : l.abs.ahead i < x.txg := this
               omega)
            | (have hh : b5 = true := hc38
               refine ⟨_, rfl, ⟨_, rfl, .inr ⟨rfl, fun hR => ?_⟩⟩, hw⟩
               obtain ⟨p, hp, hp2⟩ := hb5.1 hh
               have := (hR.snaps i _ hxa).2 p hp
               omega)
            | (have hh : b4 = true := hc15
               refine ⟨_, rfl, ⟨_, rfl, .inr ⟨rfl, fun hR => ?_⟩⟩, hw⟩
               obtain ⟨p, hp, hp2⟩ := hb4.1 hh
               have := hR.dead p hp
               rw [show l.abs.snaps.length = l.snaps.length from sabs_len _] at this
               omega)
            | (have hh : l.base < 0 := h7
               refine ⟨_, rfl, ⟨_, rfl, .inr ⟨rfl, fun hR => ?_⟩⟩, hw⟩
               have h2 : 0 ≤ l.base := hR.base
               omega)
            | (have hh : b4 = false := hc15
               refine ⟨_, rfl, ⟨_, rfl, .inl ⟨rfl, by show 0 ≤ l.base; omega, fun p hp => ?_, fun j y hy => ?_⟩⟩, hw⟩
               ·
                 rw [show l.abs.snaps.length = l.snaps.length from sabs_len _]
                 rcases Int.lt_or_le (l.abs.ahead l.snaps.length) p.b with h3 | h3
                 ·
                   rw [hb4.2 ⟨p, hp, h3⟩] at hh
                   cases hh
                 ·
                   exact h3
               ·
                 have hj := (List.getElem?_eq_some_iff.1 hy).1
                 rw [show l.abs.snaps.length = l.snaps.length from sabs_len _] at hj
                 exact hno j y (by omega) hy)
        case hf =>
          intro h29
          replace h29 := of_decide_eq_false h29
          apply DQ.step (E' := [(29, _)])
          case ho => rfl
          case hs => exact ⟨rfl, trivial⟩
          case hk => rfl
          case h1 =>
            intro wq_25 kq_25
            refine WL.move rfl rfl (?_)
            refine WL.nil ?_
            exact WX.one ⟨rfl, by first | exact Chg.refl _ _ | assumption⟩
          apply DQ.step (E' := [(4, _), (30, _)])
          case ho => rfl
          case hs => exact ⟨rfl, rfl, trivial⟩
          case hk => rfl
          case h1 =>
            intro wq_26 kq_26
            refine WL.want rfl rfl rfl (WL.fieldAddr (fld_65_1) rfl rfl (?_))
            refine WL.nil ?_
            exact WX.one ⟨rfl, by first | exact Chg.refl _ _ | assumption⟩
          apply DQ.step (E' := [(31, _), (30, _)])
          case ho => rfl
          case hs => exact ⟨rfl, rfl, trivial⟩
          case hk => rfl
          case h1 =>
            intro wq_27 kq_27
            have zs_kq_27 := kq_27.size
            replace hb0 := hb0.pure kq_27
            replace h := h.pure kq_27
            replace hw := hw.pure kq_27
            replace hb8 := hb8.pure kq_27
            refine WL.want rfl rfl rfl (WL.loadB Try.isAgg23 hb8 rfl rfl rfl (?_))
            refine WL.nil ?_
            exact WX.one ⟨rfl, by first | exact Chg.refl _ _ | assumption⟩
          apply DQ.step (E' := [(1, _), (30, _)])
          case ho => rfl
          case hs => exact ⟨rfl, rfl, trivial⟩
          case hk => rfl
          case h1 =>
            intro wq_28 kq_28
            have zs_kq_28 := kq_28.size
            replace hb0 := hb0.pure kq_28
            replace h := h.pure kq_28
            replace hw := hw.pure kq_28
            replace hb8 := hb8.pure kq_28
            refine WL.want rfl rfl rfl (?_)
            refine WL.loadsB Try.isAgg33 Try.sizeOf33 hb0 rfl rfl rfl ?_
            refine WL.nil ?_
            exact WX.one ⟨rfl, by first | exact Chg.refl _ _ | assumption⟩
          apply DQ.step (E' := [(3, _), (30, _)])
          case ho => rfl
          case hs => exact ⟨rfl, rfl, trivial⟩
          case hk => rfl
          case h1 =>
            intro wq_29 kq_29
            refine WL.want rfl rfl rfl (WL.move rfl rfl (?_))
            refine WL.nil ?_
            exact WX.one ⟨rfl, by first | exact Chg.refl _ _ | assumption⟩
          apply DQ.step (E' := [(33, _), (34, _), (30, _)])
          case ho => rfl
          case hs => exact ⟨rfl, rfl, rfl, trivial⟩
          case hk => rfl
          case h1 =>
            intro wq_30 kq_30
            have zs_kq_30 := kq_30.size
            replace hb0 := hb0.pure kq_30
            replace h := h.pure kq_30
            replace hw := hw.pure kq_30
            replace hb8 := hb8.pure kq_30
            refine WL.want rfl rfl rfl (?_)
            refine WL.call eg_26 rfl rfl (ahead_calls h.snaps (by omega) i hi) ?_
            rintro v w2 ⟨rfl, k2⟩
            have zs_k2 := k2.size
            replace hb0 := hb0.pure k2
            replace h := h.pure k2
            replace hw := hw.pure k2
            replace hb8 := hb8.pure k2
            refine WL.nil ?_
            exact WX.one ⟨rfl, by first | exact Chg.refl _ _ | assumption⟩
          refine DQ.done (fun hd_18 => ?_)
          refine DL.step [(35, _), (30, _)] rfl ⟨rfl, rfl, trivial⟩ rfl (fun wq_31 kq_31 => ?_)
          have zs_kq_31 := kq_31.size
          replace hb0 := hb0.pure kq_31
          replace h := h.pure kq_31
          replace hw := hw.pure kq_31
          replace hb8 := hb8.pure kq_31
          replace hd_18 := hd_18.pure kq_31
          refine WL.want rfl rfl rfl (?_)
          refine WL.call eg_24 rfl rfl (later_calls _ (l.abs.ahead i)) ?_
          rintro v w3 ⟨⟨g3, rfl, hD, hg3⟩, k3⟩
          have zs_k3 := k3.size
          replace hb0 := hb0.pure k3
          replace h := h.pure k3
          replace hw := hw.pure k3
          replace hb8 := hb8.pure k3
          replace hd_18 := hd_18.pure k3
          refine WL.nil ?_
          refine WX.one ⟨hd_18, ?_⟩
          refine DL.step [(32, _), (36, _), (30, _)] rfl ⟨rfl, rfl, rfl, trivial⟩ rfl (fun wq_32 kq_32 => ?_)
          have zs_kq_32 := kq_32.size
          replace hb0 := hb0.pure kq_32
          replace h := h.pure kq_32
          replace hw := hw.pure kq_32
          replace hb8 := hb8.pure kq_32
          replace hd_18 := hd_18.pure kq_32
          replace hD := hD.pure kq_32
          refine WL.want rfl rfl rfl (?_)
          refine WL.call eg_23 rfl rfl (contains_calls hD (h.inner x hxm) (by have := hs.inner x hxm; omega)) ?_
          rintro v w4 ⟨⟨b5, rfl, hb5⟩, k4⟩
          have zs_k4 := k4.size
          replace hb0 := hb0.pure k4
          replace h := h.pure k4
          replace hw := hw.pure k4
          replace hb8 := hb8.pure k4
          replace hd_18 := hd_18.pure k4
          refine WL.nil ?_
          refine WX.one ⟨hd_18, ?_⟩
          refine DL.step [(30, _), (37, _)] rfl ⟨rfl, rfl, trivial⟩ rfl (fun wq_33 kq_33 => ?_)
          have zs_kq_33 := kq_33.size
          replace hb0 := hb0.pure kq_33
          replace h := h.pure kq_33
          replace hw := hw.pure kq_33
          replace hb8 := hb8.pure kq_33
          replace hd_18 := hd_18.pure kq_33
          refine WL.pickF rfl rfl rfl (?_)
          refine WL.nil ?_
          refine WX.one ⟨hd_18, ?_⟩
          refine DL.done (fun we_34 ke_34 => ?_)
          have zs_ke_34 := ke_34.size
          replace hb0 := hb0.pure ke_34
          replace h := h.pure ke_34
          replace hw := hw.pure ke_34
          replace hb8 := hb8.pure ke_34
          replace hd_18 := hd_18.pure ke_34
          refine WX.then_normal (?_)
          first | refine WC.cond_dec rfl (fun hc38 => ?_) (fun hc38 => ?_) | refine WC.cond_split rfl (fun hc38 => ?_) (fun hc38 => ?_)
          ·
            refine WC.seq (WC.region (WL.assign rfl rfl (WL.nil (WX.then_normal (WC.ret (WX.block_ret (WX.then_ret (?_))))))))
            refine WX.then_ret (WX.block_ret (WX.then_ret (?_)))
            refine WX.ret1 (.inl rfl) Try.results9 rfl ?_
            first
              | (have hh : x.txg ≤ l.abs.ahead i := h29
                 refine ⟨_, rfl, ⟨_, rfl, .inr ⟨rfl, fun hR => ?_⟩⟩, hw⟩
                 have := (hR.snaps i _ hxa).1
                 have h2 : l.abs.ahead i < x.txg := this
                 omega)
              | (have hh : b5 = true := hc38
                 refine ⟨_, rfl, ⟨_, rfl, .inr ⟨rfl, fun hR => ?_⟩⟩, hw⟩
                 obtain ⟨p, hp, hp2⟩ := hb5.1 hh
                 have := (hR.snaps i _ hxa).2 p hp
                 omega)
              | (have hh : b4 = true := hc15
                 refine ⟨_, rfl, ⟨_, rfl, .inr ⟨rfl, fun hR => ?_⟩⟩, hw⟩
                 obtain ⟨p, hp, hp2⟩ := hb4.1 hh
                 have := hR.dead p hp
                 rw [show l.abs.snaps.length = l.snaps.length from sabs_len _] at this
                 omega)
              | (have hh : l.base < 0 := h7
                 refine ⟨_, rfl, ⟨_, rfl, .inr ⟨rfl, fun hR => ?_⟩⟩, hw⟩
                 have h2 : 0 ≤ l.base := hR.base
                 omega)
              | (have hh : b4 = false := hc15
                 refine ⟨_, rfl, ⟨_, rfl, .inl ⟨rfl, by show 0 ≤ l.base; omega, fun p hp => ?_, fun j y hy => ?_⟩⟩, hw⟩
                 ·
                   rw [show l.abs.snaps.length = l.snaps.length from sabs_len _]
                   rcases Int.lt_or_le (l.abs.ahead l.snaps.length) p.b with h3 | h3
                   ·
                     rw [hb4.2 ⟨p, hp, h3⟩] at hh
                     cases hh
                   ·
                     exact h3
                 ·
                   have hj := (List.getElem?_eq_some_iff.1 hy).1
                   rw [show l.abs.snaps.length = l.snaps.length from sabs_len _] at hj
                   exact hno j y (by omega) hy)
          ·
            refine WC.skip (WX.block_normal (WX.then_normal (WC.region (WL.add64 rfl rfl (by first | omega | (constructor <;> omega)) rfl (WL.move rfl rfl (WL.nil (?_)))))))
            refine WX.loop_next (i + 1) ⟨rfl, rfl, rfl, rfl, trivial⟩ ⟨by omega, hb0, h, hw, by omega, fun j y hj hy => ?_⟩ (by omega)
            rcases Nat.lt_or_ge j i with h1 | h1
            ·
              exact hno j y h1 hy
            ·
              have h2 : j = i := by omega
              subst h2
              rw [show l.abs.snaps = sabs l.snaps from rfl, hxa] at hy
              injection hy with hy
              subst hy
              refine ⟨by show l.abs.ahead j < x.txg; omega, fun p hp => ?_⟩
              rcases Int.lt_or_le (l.abs.ahead j) p.b with h3 | h3
              ·
                rw [hb5.2 ⟨p, hp, h3⟩] at hc38
                cases hc38
              ·
                exact h3
      ·
        refine WL.nil (WX.then_normal (WC.seq (WC.cond_false rfl (WC.exit (WX.then_exit (WX.then_exit (WX.block_here (?_))))))))
        refine WX.then_normal (WC.seq (WC.region (WL.assign rfl rfl (WL.nil (WX.then_normal (WC.ret (?_)))))))
        refine WX.ret1 (.inl rfl) Try.results9 rfl ?_
        first
          | (have hh : x.txg ≤ l.abs.ahead i := h29
             refine ⟨_, rfl, ⟨_, rfl, .inr ⟨rfl, fun hR => ?_⟩⟩, hw⟩
             have := (hR.snaps i _ hxa).1
             have h2 : l.abs.ahead i < x.txg := this
             omega)
          | (have hh : b5 = true := hc38
             refine ⟨_, rfl, ⟨_, rfl, .inr ⟨rfl, fun hR => ?_⟩⟩, hw⟩
             obtain ⟨p, hp, hp2⟩ := hb5.1 hh
             have := (hR.snaps i _ hxa).2 p hp
             omega)
          | (have hh : b4 = true := hc15
             refine ⟨_, rfl, ⟨_, rfl, .inr ⟨rfl, fun hR => ?_⟩⟩, hw⟩
             obtain ⟨p, hp, hp2⟩ := hb4.1 hh
             have := hR.dead p hp
             rw [show l.abs.snaps.length = l.snaps.length from sabs_len _] at this
             omega)
          | (have hh : l.base < 0 := h7
             refine ⟨_, rfl, ⟨_, rfl, .inr ⟨rfl, fun hR => ?_⟩⟩, hw⟩
             have h2 : 0 ≤ l.base := hR.base
             omega)
          | (have hh : b4 = false := hc15
             refine ⟨_, rfl, ⟨_, rfl, .inl ⟨rfl, by show 0 ≤ l.base; omega, fun p hp => ?_, fun j y hy => ?_⟩⟩, hw⟩
             ·
               rw [show l.abs.snaps.length = l.snaps.length from sabs_len _]
               rcases Int.lt_or_le (l.abs.ahead l.snaps.length) p.b with h3 | h3
               ·
                 rw [hb4.2 ⟨p, hp, h3⟩] at hh
                 cases hh
               ·
                 exact h3
             ·
               have hj := (List.getElem?_eq_some_iff.1 hy).1
               rw [show l.abs.snaps.length = l.snaps.length from sabs_len _] at hj
               exact hno j y (by omega) hy)
end Go.Proofs.Ytgmkoieemmglpaa
