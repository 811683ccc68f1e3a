import Derived.Test.YtgmkoieemmglpaaDc
namespace Go.Proofs.Ytgmkoieemmglpaa
open Go.RowKit Go.HL

section
variable {S S' : Nat → Prop} {w w' : World} {T : TypeId} {l : LnV}
/-- the line's own list has turned -/
theorem LOi.setDead (h : LO S w T l) (hT : T ≠ 27) {ao2 : Option Addr} {c2 : Nat} {dead2 : List PtV} (hr : Row S w' 27 ept ao2 c2 dead2) (g : Grow S' w l.dao w' ao2) : LO S w' T { l with dao := ao2, dcap := c2, dead := dead2 } := by
  have hin : ∀ j x, j < l.snaps.length → l.snaps[j]? = some x → Row (fun b => S b ∧ ¬ Eqb l.dao b) w 27 ept x.ao x.cap x.dead := fun j x hj hx => by
    have h1 := h.inner j x hj hx
    refine ⟨fun a ea => ⟨h1.at_ a ea, fun hb => ?_⟩, h1.own⟩
    obtain ⟨b, eb, e⟩ := hb
    exact h.ap1 j x hj hx a b ea eb e
  refine ⟨h.snaps.chgK g.chg (fun b _ hb e => ?_), hr, fun j x hj hx => ((hin j x hj hx).chg g.chg (fun b _ h1 h2 => h1.2 h2.1)).mono (fun b hb => hb.1), fun j x hj hx => ?_, h.ap2⟩
  · have h1 := (h.dead.kb.at_.eqb hb.1).2
    rw [h1] at e
    injection e with e
    injection e with e
    exact hT e.symm
  · rcases g.fr with e | e
    · show Ap x.ao ao2
      rw [e]
      exact h.ap1 j x hj hx
    · exact Ap.of (h.inner j x hj hx).lt.at_ e (fun b h1 h2 => by have := h1.2; omega)
/-- one snapshot more, which takes the line's own list -/
theorem LOi.snap (h : LO S w T l) (hT : T ≠ 27) {t : Int} {sa2 : Option Addr} {sc2 : Nat} (hr : Row S w' T esn sa2 sc2 (l.snaps ++ [⟨t, l.dao, l.dcap, l.dead⟩])) (g : Grow S' w l.sao w' sa2) :
    LO S w' T { l with sao := sa2, scap := sc2, snaps := l.snaps ++ [⟨t, l.dao, l.dcap, l.dead⟩], dao := none, dcap := 0, dead := [] } := by
  have hd : ∀ b, b < w.heap.size → (Eqb l.sao b ∧ S' b) → kb w b ≠ some (some 27) := fun b _ hb e => by
    have h1 := (h.snaps.kb.at_.eqb hb.1).2
    rw [h1] at e
    injection e with e
    injection e with e
    exact hT e
  have old : ∀ j x, j < l.snaps.length → (l.snaps ++ [⟨t, l.dao, l.dcap, l.dead⟩])[j]? = some x → l.snaps[j]? = some x := fun j x hj hx => by
    rwa [List.getElem?_append_left hj] at hx
  have new : ∀ j x, ¬ j < l.snaps.length → (l.snaps ++ [⟨t, l.dao, l.dcap, l.dead⟩])[j]? = some x → x = ⟨t, l.dao, l.dcap, l.dead⟩ ∧ j = l.snaps.length := fun j x hj hx => by
    have h1 := (List.getElem?_eq_some_iff.1 hx).1
    simp at h1
    rw [List.getElem?_append_right (by omega), show j - l.snaps.length = 0 from by omega] at hx
    simp at hx
    exact ⟨hx.symm, by omega⟩
  refine ⟨hr, Row.nil _ _ _ _, fun j x hj hx => ?_, fun j x hj hx => Ap.none _, fun j k x y hj hk hx hy => ?_⟩
  · by_cases h1 : j < l.snaps.length
    · exact (h.inner j x h1 (old j x h1 hx)).chgK g.chg hd
    · obtain ⟨rfl, _⟩ := new j x h1 hx
      exact h.dead.chgK g.chg hd
  · have hk' : k < (l.snaps ++ [(⟨t, l.dao, l.dcap, l.dead⟩ : SnV)]).length := hk
    have hjl : j < l.snaps.length := by simp at hk'; omega
    by_cases h1 : k < l.snaps.length
    · exact h.ap2 j k x y hj h1 (old j x hjl hx) (old k y h1 hy)
    · obtain ⟨rfl, _⟩ := new k y h1 hy
      exact h.ap1 j x hjl (old j x hjl hx)
theorem LOi.zero (S : Nat → Prop) (w : World) (T : TypeId) : LO S w T ⟨0, none, 0, [], none, 0, []⟩ := ⟨Row.nil _ _ _ _, Row.nil _ _ _ _, (fun j x hj => by cases hj), (fun j x hj => by cases hj), (fun j k x y hj hk => by cases hk)⟩
end
/-- what the calls answer -/
def LA.zero : LA := ⟨0, [], []⟩
def KillR (L : LA) (p : PtV) (L' : LA) (b : Bool) (e : Int) : Prop :=
  (¬ L.Right ∧ L' = LA.zero ∧ b = false ∧ e = 2) ∨ (L.Right ∧ L.ahead L.snaps.length < p.b ∧ L' = L ∧ b = true ∧ e = 0) ∨ (L.Right ∧ p.b ≤ L.ahead L.snaps.length ∧ L' = { L with dead := L.dead ++ [p] } ∧ b = false ∧ e = 0)
theorem KillR.uniq {L : LA} {p : PtV} {L1 L2 : LA} {b1 b2 : Bool} {e1 e2 : Int} (h : KillR L p L1 b1 e1) (k : KillR L p L2 b2 e2) : L1 = L2 ∧ b1 = b2 ∧ e1 = e2 := by
  rcases h with ⟨h1, h2, h3, h4⟩ | ⟨h1, h5, h2, h3, h4⟩ | ⟨h1, h5, h2, h3, h4⟩ <;> rcases k with ⟨k1, k2, k3, k4⟩ | ⟨k1, k5, k2, k3, k4⟩ | ⟨k1, k5, k2, k3, k4⟩
  all_goals first
    | exact ⟨h2.trans k2.symm, h3.trans k3.symm, h4.trans k4.symm⟩
    | exact absurd k1 h1
    | exact absurd h1 k1
    | (exfalso; omega)
def SnapR (L : LA) (t : Int) (L' : LA) (e : Int) : Prop :=
  (¬ L.Right ∧ L' = LA.zero ∧ e = 2) ∨ (L.Right ∧ t ≤ L.ahead L.snaps.length ∧ L' = LA.zero ∧ e = 1) ∨ (L.Right ∧ L.ahead L.snaps.length < t ∧ L' = { L with snaps := L.snaps ++ [(t, L.dead)], dead := [] } ∧ e = 0)
theorem SnapR.uniq {L : LA} {t : Int} {L1 L2 : LA} {e1 e2 : Int} (h : SnapR L t L1 e1) (k : SnapR L t L2 e2) : L1 = L2 ∧ e1 = e2 := by
  rcases h with ⟨h1, h2, h4⟩ | ⟨h1, h5, h2, h4⟩ | ⟨h1, h5, h2, h4⟩ <;> rcases k with ⟨k1, k2, k4⟩ | ⟨k1, k5, k2, k4⟩ | ⟨k1, k5, k2, k4⟩
  all_goals first
    | exact ⟨h2.trans k2.symm, h4.trans k4.symm⟩
    | exact absurd k1 h1
    | exact absurd h1 k1
    | (exfalso; omega)
theorem abs_len {l l' : LnV} (h : l'.abs = l.abs) : l'.snaps.length = l.snaps.length := by
  have := congrArg (fun L : LA => L.snaps.length) h
  simpa [LnV.abs, sabs_len] using this
theorem abs_dead {l l' : LnV} (h : l'.abs = l.abs) : l'.dead = l.dead := congrArg LA.dead h
set_option maxHeartbeats 1000000 in
theorem Kill_calls {S : Nat → Prop} {w : World} {l : LnV} (h : LS S w l) (hs : Sm 50 l) (p : PtV) : Calls Try.prog 13 [lval l, .agg (ept.f p).toArray].toArray w (Ret fun v w' => (∃ l' b e, v = .tuple #[lval l', .bool b, vi e] ∧ KillR l.abs p l'.abs b e ∧ LO (w.heap.size ≤ ·) w' 65 l') ∧ Chg Nob w w') := by
  have hw := Chg.refl Nob w
  have hsn := hs.snaps
  have hsd := hs.dead
  have hs6 : Sm 60 l := ⟨by omega, by omega, fun x hx => by have := hs.inner x hx; omega⟩
  replace h := h.old
  refine Calls.of_WC Try.func13 rfl Try.ntmps13 (by simp) ?_
  refine WC.seq (WC.region (?_))
  refine WL.box rfl rfl ?_
  intro g_1 w_1 hge_1 hlt_1 hb_1 k_1
  have zs_k_1 := k_1.size
  replace h := h.pure k_1
  replace hw := hw.pure k_1
  refine WL.box rfl rfl ?_
  intro g_2 w_2 hge_2 hlt_2 hb_2 k_2
  have zs_k_2 := k_2.size
  replace h := h.pure k_2
  replace hw := hw.pure k_2
  replace hb_1 := hb_1.pure k_2
  refine WL.alloc Try.zeroValue33 rfl ?_
  intro g_3 w_3 hge_3 hlt_3 hb_3 k_3
  have zs_k_3 := k_3.size
  replace h := h.pure k_3
  replace hw := hw.pure k_3
  replace hb_1 := hb_1.pure k_3
  replace hb_2 := hb_2.pure k_3
  refine WL.assign rfl rfl (WL.assign rfl rfl (WL.nil (WX.then_normal (WC.seq (WC.seq (WC.region (WL.loadsB Try.isAgg33 Try.sizeOf33 hb_1 rfl (by first | (simp; done) | (simp; omega) | rfl) rfl (?_))))))))
  refine WL.call eg_9 rfl rfl (Check_calls h hs6) ?_
  rintro v w2 ⟨⟨e, rfl, he⟩, k2⟩
  have zs_k2 := k2.size
  replace h := h.pure k2
  replace hw := hw.pure k2
  replace hb_1 := hb_1.pure k2
  replace hb_2 := hb_2.pure k2
  replace hb_3 := hb_3.pure k2
  refine WL.assign rfl rfl (WL.nil (WX.then_normal (WC.seq (WC.region (WL.move rfl rfl (?_))))))
  refine WL.neq? rfl rfl rfl (fun h11 => ?_) (fun h11 => ?_)
  ·
    refine WL.nil (WX.then_normal (WC.cond_true rfl (WC.seq (WC.region (WL.bld rfl (bld_33_z) rfl (WL.move rfl rfl (?_)))))))
    refine WL.stores Try.sizeOf33 hb_3 rfl rfl (by first | (simp; done) | (simp; omega) | rfl) (by first | exact Enc.one _ _ | (intro u hu; obtain ⟨x, _, rfl⟩ := List.mem_map.1 hu; rfl) | (simp [Value.oneCell']; done) | (simp [Value.oneCell', Value.cells]; done)) (by first | (simp; done) | (simp; omega) | (simp [Value.cells]; done) | (simp [Value.cells]; omega) | exact Nat.le_of_ble_eq_true rfl) rfl ?_
    intro w_4 hs_4 hn_4 k_4
    have zs_k_4 := k_4.size
    replace h := h.chg k_4 (by first | (intro x h1 h2; have h3 : _ = _ := h2; exfalso; omega) | (intro b h1 h2 h3; have h4 : _ = _ := h3; (try dsimp only at h2); exfalso; omega) | (intro h1; have h2 : _ = _ := h1; exfalso; omega) | (intros; exfalso; (try dsimp only at *); omega) | (intro h1; exfalso; have h4 := h1.2; (try dsimp only at *); omega))
    replace hw := hw.chg k_4 (by first | (intro x h1 h2; have h3 : _ = _ := h2; exfalso; omega) | (intro b h1 h2 h3; have h4 : _ = _ := h3; (try dsimp only at h2); exfalso; omega) | (intro h1; have h2 : _ = _ := h1; exfalso; omega) | (intros; exfalso; (try dsimp only at *); omega) | (intro h1; exfalso; have h4 := h1.2; (try dsimp only at *); omega))
    replace hb_1 := hb_1.chg k_4 (by first | (intro x h1 h2; have h3 : _ = _ := h2; exfalso; omega) | (intro b h1 h2 h3; have h4 : _ = _ := h3; (try dsimp only at h2); exfalso; omega) | (intro h1; have h2 : _ = _ := h1; exfalso; omega) | (intros; exfalso; (try dsimp only at *); omega) | (intro h1; exfalso; have h4 := h1.2; (try dsimp only at *); omega))
    replace hb_2 := hb_2.chg k_4 (by first | (intro x h1 h2; have h3 : _ = _ := h2; exfalso; omega) | (intro b h1 h2 h3; have h4 : _ = _ := h3; (try dsimp only at h2); exfalso; omega) | (intro h1; have h2 : _ = _ := h1; exfalso; omega) | (intros; exfalso; (try dsimp only at *); omega) | (intro h1; exfalso; have h4 := h1.2; (try dsimp only at *); omega))
    replace hb_3 := hn_4
    refine WL.assign rfl rfl (WL.assign rfl rfl (WL.nil (WX.then_normal (WC.ret (WX.then_ret (?_))))))
    refine WX.ret3c (.inl rfl) Try.results13 Try.isAgg33 Try.sizeOf33 hb_3 rfl (by first | (simp; done) | (simp; omega) | rfl) rfl rfl ?_
    first
      | (have hh : e ≠ 0 := h11
         have h2 : e = 2 ∧ ¬ l.abs.Right := by
           rcases he with ⟨h1, _⟩ | h1
           ·
             exact absurd h1 hh
           ·
             exact h1
         obtain ⟨rfl, hn⟩ := h2
         exact ⟨_, rfl, ⟨⟨0, none, 0, [], none, 0, []⟩, false, 2, rfl, .inl ⟨hn, rfl, rfl, rfl⟩, LOi.zero _ _ _⟩, hw⟩)
      | (have hh' : ¬ l1.abs.ahead l1.snaps.length < p.b := h20
         have hh : p.b ≤ l1.abs.ahead l1.snaps.length := by omega
         refine ⟨_, rfl, ⟨{ l1 with dao := ao9, dcap := c9, dead := l1.dead ++ [p] }, false, 0, rfl, .inr (.inr ⟨hR, ?_, ?_, rfl, rfl⟩), hO9.mono (fun x hx => hx.1)⟩, hw⟩
         ·
           rw [← ha, show l1.abs.snaps.length = l1.snaps.length from sabs_len _]
           exact hh
         ·
           rw [← ha]
           rfl)
      | (have hh : l1.abs.ahead l1.snaps.length < p.b := h20
         refine ⟨_, rfl, ⟨l1, true, 0, rfl, .inr (.inl ⟨hR, ?_, ha, rfl, rfl⟩), hO.mono (fun x hx => hx.1)⟩, hw⟩
         rw [← ha, show l1.abs.snaps.length = l1.snaps.length from sabs_len _]
         exact hh)
  ·
    refine WL.nil (WX.then_normal (WC.cond_false rfl (WC.skip (WX.then_normal (WC.seq (WC.region (WL.loadsB Try.isAgg33 Try.sizeOf33 hb_1 rfl (by first | (simp; done) | (simp; omega) | rfl) rfl (?_))))))))
    have hR : l.abs.Right := by
      rcases he with ⟨_, h1⟩ | ⟨h1, _⟩
      ·
        exact h1
      ·
        omega
    refine WL.call eg_30 rfl rfl (lclone_calls h hs6) ?_
    rintro v w3 ⟨⟨l1, rfl, hO, ha⟩, k3⟩
    have hll := abs_len ha
    have hld := congrArg List.length (abs_dead ha)
    have zs_k3 := k3.size
    replace hw := hw.pure k3
    replace hb_1 := hb_1.pure k3
    replace hb_2 := hb_2.pure k3
    replace hb_3 := hb_3.pure k3
    replace hO := LOi.mono (S' := fun x => w.heap.size ≤ x ∧ x ≠ g_1 ∧ x ≠ g_2 ∧ x ≠ g_3) hO (fun x hx => by omega)
    refine WL.stores Try.sizeOf33 hb_1 rfl rfl (by first | (simp; done) | (simp; omega) | rfl) (by first | exact Enc.one _ _ | (intro u hu; obtain ⟨x, _, rfl⟩ := List.mem_map.1 hu; rfl) | (simp [Value.oneCell']; done) | (simp [Value.oneCell', Value.cells]; done)) (by first | (simp; done) | (simp; omega) | (simp [Value.cells]; done) | (simp [Value.cells]; omega) | exact Nat.le_of_ble_eq_true rfl) rfl ?_
    intro w_4 hs_4 hn_4 k_4
    have zs_k_4 := k_4.size
    replace hw := hw.chg k_4 (by first | (intro x h1 h2; have h3 : _ = _ := h2; exfalso; omega) | (intro b h1 h2 h3; have h4 : _ = _ := h3; (try dsimp only at h2); exfalso; omega) | (intro h1; have h2 : _ = _ := h1; exfalso; omega) | (intros; exfalso; (try dsimp only at *); omega) | (intro h1; exfalso; have h4 := h1.2; (try dsimp only at *); omega))
    replace hb_2 := hb_2.chg k_4 (by first | (intro x h1 h2; have h3 : _ = _ := h2; exfalso; omega) | (intro b h1 h2 h3; have h4 : _ = _ := h3; (try dsimp only at h2); exfalso; omega) | (intro h1; have h2 : _ = _ := h1; exfalso; omega) | (intros; exfalso; (try dsimp only at *); omega) | (intro h1; exfalso; have h4 := h1.2; (try dsimp only at *); omega))
    replace hb_3 := hb_3.chg k_4 (by first | (intro x h1 h2; have h3 : _ = _ := h2; exfalso; omega) | (intro b h1 h2 h3; have h4 : _ = _ := h3; (try dsimp only at h2); exfalso; omega) | (intro h1; have h2 : _ = _ := h1; exfalso; omega) | (intros; exfalso; (try dsimp only at *); omega) | (intro h1; exfalso; have h4 := h1.2; (try dsimp only at *); omega))
    replace hO := hO.chg k_4 (by first | (intro x h1 h2; have h3 : _ = _ := h2; exfalso; omega) | (intro b h1 h2 h3; have h4 : _ = _ := h3; (try dsimp only at h2); exfalso; omega) | (intro h1; have h2 : _ = _ := h1; exfalso; omega) | (intros; exfalso; (try dsimp only at *); omega) | (intro h1; exfalso; have h4 := h1.2; (try dsimp only at *); omega))
    replace hb_1 := hn_4
    refine WL.nil (WX.then_normal (WC.seq (WC.seq (?_))))
    have hb4 : Blk _ g_1 33 (lcells l1) := hb_1
    refine WC.draw (Nob) [0, 1, 2, 3, 4] [] mixed rfl rfl (fun wd_5 kd_5 zd_5 => ?_)
    have zs_kd_5 := kd_5.size
    replace hw := hw.pure kd_5
    replace hb_2 := hb_2.pure kd_5
    replace hb_3 := hb_3.pure kd_5
    replace hO := hO.pure kd_5
    replace hb4 := hb4.pure kd_5
    apply DQ.step (E' := [(3, _)])
    case ho => rfl
    case hs => exact ⟨rfl, trivial⟩
    case hk => rfl
    case h1 =>
      intro wq_6 kq_6
      refine WL.fieldAddr (fld_27_2) rfl rfl (?_)
      refine WL.nil ?_
      exact WX.one ⟨rfl, by first | exact Chg.refl _ _ | assumption⟩
    apply DQ.step (E' := [(16, _)])
    case ho => rfl
    case hs => exact ⟨rfl, trivial⟩
    case hk => rfl
    case h1 =>
      intro wq_7 kq_7
      have zs_kq_7 := kq_7.size
      replace hw := hw.pure kq_7
      replace hb_2 := hb_2.pure kq_7
      replace hb_3 := hb_3.pure kq_7
      replace hO := hO.pure kq_7
      replace hb4 := hb4.pure kq_7
      refine WL.loadB Try.isAgg3 hb_2 rfl rfl rfl (?_)
      refine WL.nil ?_
      exact WX.one ⟨rfl, by first | exact Chg.refl _ _ | assumption⟩
    apply DQ.step (E' := [(2, _)])
    case ho => rfl
    case hs => exact ⟨rfl, trivial⟩
    case hk => rfl
    case h1 =>
      intro wq_8 kq_8
      have zs_kq_8 := kq_8.size
      replace hw := hw.pure kq_8
      replace hb_2 := hb_2.pure kq_8
      replace hb_3 := hb_3.pure kq_8
      replace hO := hO.pure kq_8
      replace hb4 := hb4.pure kq_8
      refine WL.loadsB Try.isAgg33 Try.sizeOf33 hb4 rfl (by first | (simp; done) | (simp; omega) | rfl) rfl (?_)
      refine WL.nil ?_
      exact WX.one ⟨rfl, by first | exact Chg.refl _ _ | assumption⟩
    apply DQ.step (E' := [(18, _)])
    case ho => rfl
    case hs => exact ⟨rfl, trivial⟩
    case hk => rfl
    case h1 =>
      intro wq_9 kq_9
      have zs_kq_9 := kq_9.size
      replace hw := hw.pure kq_9
      replace hb_2 := hb_2.pure kq_9
      replace hb_3 := hb_3.pure kq_9
      replace hO := hO.pure kq_9
      replace hb4 := hb4.pure kq_9
      refine WL.call eg_25 rfl rfl (last_calls hO.ls (by omega)) ?_
      rintro v w4 ⟨rfl, k4⟩
      have zs_k4 := k4.size
      replace hw := hw.pure k4
      replace hb_2 := hb_2.pure k4
      replace hb_3 := hb_3.pure k4
      replace hO := hO.pure k4
      replace hb4 := hb4.pure k4
      refine WL.nil ?_
      exact WX.one ⟨rfl, by first | exact Chg.refl _ _ | assumption⟩
    apply DQ.split (E' := [(17, _), (19, _)])
    case ho => rfl
    case hs => exact ⟨rfl, rfl, trivial⟩
    case hk => rfl
    case h1 =>
      intro wq_10 kq_10
      refine WL.gtr rfl rfl rfl ?_
      refine WL.nil ?_
      exact WX.one ⟨rfl, by first | exact Chg.refl _ _ | assumption⟩
    case ht =>
      intro h20
      replace h20 := of_decide_eq_true h20
      refine DQ.done (fun _ => ?_)
      refine DL.done (fun we_11 ke_11 => ?_)
      have zs_ke_11 := ke_11.size
      replace hw := hw.pure ke_11
      replace hb_2 := hb_2.pure ke_11
      replace hb_3 := hb_3.pure ke_11
      replace hO := hO.pure ke_11
      replace hb4 := hb4.pure ke_11
      refine WX.then_normal (WC.cond_true rfl (WC.seq (WC.region (WL.loadsB Try.isAgg33 Try.sizeOf33 hb4 rfl (by first | (simp; done) | (simp; omega) | rfl) rfl (?_)))))
      refine WL.stores Try.sizeOf33 hb_3 rfl rfl (by first | (simp; done) | (simp; omega) | rfl) (by first | exact Enc.one _ _ | (intro u hu; obtain ⟨x, _, rfl⟩ := List.mem_map.1 hu; rfl) | (simp [Value.oneCell']; done) | (simp [Value.oneCell', Value.cells]; done)) (by first | (simp; done) | (simp; omega) | (simp [Value.cells]; done) | (simp [Value.cells]; omega) | exact Nat.le_of_ble_eq_true rfl) rfl ?_
      intro w_12 hs_12 hn_12 k_12
      have zs_k_12 := k_12.size
      replace hw := hw.chg k_12 (by first | (intro x h1 h2; have h3 : _ = _ := h2; exfalso; omega) | (intro b h1 h2 h3; have h4 : _ = _ := h3; (try dsimp only at h2); exfalso; omega) | (intro h1; have h2 : _ = _ := h1; exfalso; omega) | (intros; exfalso; (try dsimp only at *); omega) | (intro h1; exfalso; have h4 := h1.2; (try dsimp only at *); omega))
      replace hb_2 := hb_2.chg k_12 (by first | (intro x h1 h2; have h3 : _ = _ := h2; exfalso; omega) | (intro b h1 h2 h3; have h4 : _ = _ := h3; (try dsimp only at h2); exfalso; omega) | (intro h1; have h2 : _ = _ := h1; exfalso; omega) | (intros; exfalso; (try dsimp only at *); omega) | (intro h1; exfalso; have h4 := h1.2; (try dsimp only at *); omega))
      replace hO := hO.chg k_12 (by first | (intro x h1 h2; have h3 : _ = _ := h2; exfalso; omega) | (intro b h1 h2 h3; have h4 : _ = _ := h3; (try dsimp only at h2); exfalso; omega) | (intro h1; have h2 : _ = _ := h1; exfalso; omega) | (intros; exfalso; (try dsimp only at *); omega) | (intro h1; exfalso; have h4 := h1.2; (try dsimp only at *); omega))
      replace hb4 := hb4.chg k_12 (by first | (intro x h1 h2; have h3 : _ = _ := h2; exfalso; omega) | (intro b h1 h2 h3; have h4 : _ = _ := h3; (try dsimp only at h2); exfalso; omega) | (intro h1; have h2 : _ = _ := h1; exfalso; omega) | (intros; exfalso; (try dsimp only at *); omega) | (intro h1; exfalso; have h4 := h1.2; (try dsimp only at *); omega))
      replace hb_3 := hn_12
      refine WL.assign rfl rfl (WL.assign rfl rfl (WL.nil (WX.then_normal (WC.ret (WX.then_ret (?_))))))
      refine WX.ret3c (.inl rfl) Try.results13 Try.isAgg33 Try.sizeOf33 hb_3 rfl (by first | (simp; done) | (simp; omega) | rfl) rfl rfl ?_
      first
        | (have hh : e ≠ 0 := h11
           have h2 : e = 2 ∧ ¬ l.abs.Right := by
             rcases he with ⟨h1, _⟩ | h1
             ·
               exact absurd h1 hh
             ·
               exact h1
           obtain ⟨rfl, hn⟩ := h2
           exact ⟨_, rfl, ⟨⟨0, none, 0, [], none, 0, []⟩, false, 2, rfl, .inl ⟨hn, rfl, rfl, rfl⟩, LOi.zero _ _ _⟩, hw⟩)
        | (have hh' : ¬ l1.abs.ahead l1.snaps.length < p.b := h20
           have hh : p.b ≤ l1.abs.ahead l1.snaps.length := by omega
           refine ⟨_, rfl, ⟨{ l1 with dao := ao9, dcap := c9, dead := l1.dead ++ [p] }, false, 0, rfl, .inr (.inr ⟨hR, ?_, ?_, rfl, rfl⟩), hO9.mono (fun x hx => hx.1)⟩, hw⟩
           ·
             rw [← ha, show l1.abs.snaps.length = l1.snaps.length from sabs_len _]
             exact hh
           ·
             rw [← ha]
             rfl)
        | (have hh : l1.abs.ahead l1.snaps.length < p.b := h20
           refine ⟨_, rfl, ⟨l1, true, 0, rfl, .inr (.inl ⟨hR, ?_, ha, rfl, rfl⟩), hO.mono (fun x hx => hx.1)⟩, hw⟩
           rw [← ha, show l1.abs.snaps.length = l1.snaps.length from sabs_len _]
           exact hh)
    case hf =>
      intro h20
      replace h20 := of_decide_eq_false h20
      refine DQ.done (fun _ => ?_)
      refine DL.done (fun we_11 ke_11 => ?_)
      have zs_ke_11 := ke_11.size
      replace hw := hw.pure ke_11
      replace hb_2 := hb_2.pure ke_11
      replace hb_3 := hb_3.pure ke_11
      replace hO := hO.pure ke_11
      replace hb4 := hb4.pure ke_11
      refine WX.then_normal (WC.cond_false rfl (WC.skip (WX.then_normal (WC.seq (WC.region (WL.fieldAddr (fld_33_2) rfl rfl (WL.loadB Try.isAgg23 hb4 rfl rfl rfl (?_))))))))
      refine WL.loadsB Try.isAgg27 Try.sizeOf27 hb_2 rfl (by first | (simp; done) | (simp; omega) | rfl) rfl (?_)
      refine WL.build (e := ept) [p] Try.underlying23 Try.sizeOf27 Try.zeroValue27 rfl rfl rfl (by first | (simp [Value.cells]; done) | (simp [Value.cells] <;> rfl) | (simp [Value.cells, eb, ei, es, ebool, e32, e64]; done)) (by decide) rfl ?_
      intro a_hq w_hq hq l_hq z_hq k_hq
      have zs_k_hq := k_hq.size
      replace hw := hw.pure k_hq
      replace hb_2 := hb_2.pure k_hq
      replace hb_3 := hb_3.pure k_hq
      replace hO := hO.pure k_hq
      replace hb4 := hb4.pure k_hq
      refine WL.append (e := ept) info_27 rfl Try.underlying23 rfl rfl hO.dead (hq.rsl.src Try.underlying23) (by constructor <;> (simp only [List.length_cons, List.length_nil]; omega)) (fun x hx => by omega) rfl ?_
      intro ao9 c9 w9 hb9 gg9 n9
      have hO9 := LOi.setDead hO (by decide) hb9 gg9
      have gk : Chg (fun x => w.heap.size ≤ x ∧ x ≠ g_1 ∧ x ≠ g_2 ∧ x ≠ g_3) _ w9 := gg9.chg.mono (fun x _ hx => hx.2)
      have zs_gk := gk.size
      replace hw := hw.chg gk (by first | (intro x h1 h2; have h3 : _ = _ := h2; exfalso; omega) | (intro b h1 h2 h3; have h4 : _ = _ := h3; (try dsimp only at h2); exfalso; omega) | (intro h1; have h2 : _ = _ := h1; exfalso; omega) | (intros; exfalso; (try dsimp only at *); omega) | (intro h1; exfalso; have h4 := h1.2; (try dsimp only at *); omega))
      replace hb_2 := hb_2.chg gk (by first | (intro x h1 h2; have h3 : _ = _ := h2; exfalso; omega) | (intro b h1 h2 h3; have h4 : _ = _ := h3; (try dsimp only at h2); exfalso; omega) | (intro h1; have h2 : _ = _ := h1; exfalso; omega) | (intros; exfalso; (try dsimp only at *); omega) | (intro h1; exfalso; have h4 := h1.2; (try dsimp only at *); omega))
      replace hb_3 := hb_3.chg gk (by first | (intro x h1 h2; have h3 : _ = _ := h2; exfalso; omega) | (intro b h1 h2 h3; have h4 : _ = _ := h3; (try dsimp only at h2); exfalso; omega) | (intro h1; have h2 : _ = _ := h1; exfalso; omega) | (intros; exfalso; (try dsimp only at *); omega) | (intro h1; exfalso; have h4 := h1.2; (try dsimp only at *); omega))
      replace hb4 := hb4.chg gk (by first | (intro x h1 h2; have h3 : _ = _ := h2; exfalso; omega) | (intro b h1 h2 h3; have h4 : _ = _ := h3; (try dsimp only at h2); exfalso; omega) | (intro h1; have h2 : _ = _ := h1; exfalso; omega) | (intros; exfalso; (try dsimp only at *); omega) | (intro h1; exfalso; have h4 := h1.2; (try dsimp only at *); omega))
      refine WL.fieldAddr (fld_33_2) rfl rfl (?_)
      refine WL.store Try.sizeOf23 hb4 rfl rfl rfl rfl ?_
      intro w_12 hs_12 hn_12 k_12
      have zs_k_12 := k_12.size
      replace hw := hw.chg k_12 (by first | (intro x h1 h2; have h3 : _ = _ := h2; exfalso; omega) | (intro b h1 h2 h3; have h4 : _ = _ := h3; (try dsimp only at h2); exfalso; omega) | (intro h1; have h2 : _ = _ := h1; exfalso; omega) | (intros; exfalso; (try dsimp only at *); omega) | (intro h1; exfalso; have h4 := h1.2; (try dsimp only at *); omega))
      replace hb_2 := hb_2.chg k_12 (by first | (intro x h1 h2; have h3 : _ = _ := h2; exfalso; omega) | (intro b h1 h2 h3; have h4 : _ = _ := h3; (try dsimp only at h2); exfalso; omega) | (intro h1; have h2 : _ = _ := h1; exfalso; omega) | (intros; exfalso; (try dsimp only at *); omega) | (intro h1; exfalso; have h4 := h1.2; (try dsimp only at *); omega))
      replace hb_3 := hb_3.chg k_12 (by first | (intro x h1 h2; have h3 : _ = _ := h2; exfalso; omega) | (intro b h1 h2 h3; have h4 : _ = _ := h3; (try dsimp only at h2); exfalso; omega) | (intro h1; have h2 : _ = _ := h1; exfalso; omega) | (intros; exfalso; (try dsimp only at *); omega) | (intro h1; exfalso; have h4 := h1.2; (try dsimp only at *); omega))
      replace hO9 := hO9.chg k_12 (by first | (intro x h1 h2; have h3 : _ = _ := h2; exfalso; omega) | (intro b h1 h2 h3; have h4 : _ = _ := h3; (try dsimp only at h2); exfalso; omega) | (intro h1; have h2 : _ = _ := h1; exfalso; omega) | (intros; exfalso; (try dsimp only at *); omega) | (intro h1; exfalso; have h4 := h1.2; (try dsimp only at *); omega))
      replace hb4 := hn_12
      refine WL.nil (WX.then_normal (WC.seq (WC.region (WL.loadsB Try.isAgg33 Try.sizeOf33 hb4 rfl (by first | (simp; done) | (simp; omega) | rfl) rfl (?_)))))
      refine WL.stores Try.sizeOf33 hb_3 rfl rfl (by first | (simp; done) | (simp; omega) | rfl) (by first | exact Enc.one _ _ | (intro u hu; obtain ⟨x, _, rfl⟩ := List.mem_map.1 hu; rfl) | (simp [Value.oneCell']; done) | (simp [Value.oneCell', Value.cells]; done)) (by first | (simp; done) | (simp; omega) | (simp [Value.cells]; done) | (simp [Value.cells]; omega) | exact Nat.le_of_ble_eq_true rfl) rfl ?_
      intro w_13 hs_13 hn_13 k_13
      have zs_k_13 := k_13.size
      replace hw := hw.chg k_13 (by first | (intro x h1 h2; have h3 : _ = _ := h2; exfalso; omega) | (intro b h1 h2 h3; have h4 : _ = _ := h3; (try dsimp only at h2); exfalso; omega) | (intro h1; have h2 : _ = _ := h1; exfalso; omega) | (intros; exfalso; (try dsimp only at *); omega) | (intro h1; exfalso; have h4 := h1.2; (try dsimp only at *); omega))
      replace hb_2 := hb_2.chg k_13 (by first | (intro x h1 h2; have h3 : _ = _ := h2; exfalso; omega) | (intro b h1 h2 h3; have h4 : _ = _ := h3; (try dsimp only at h2); exfalso; omega) | (intro h1; have h2 : _ = _ := h1; exfalso; omega) | (intros; exfalso; (try dsimp only at *); omega) | (intro h1; exfalso; have h4 := h1.2; (try dsimp only at *); omega))
      replace hb4 := hb4.chg k_13 (by first | (intro x h1 h2; have h3 : _ = _ := h2; exfalso; omega) | (intro b h1 h2 h3; have h4 : _ = _ := h3; (try dsimp only at h2); exfalso; omega) | (intro h1; have h2 : _ = _ := h1; exfalso; omega) | (intros; exfalso; (try dsimp only at *); omega) | (intro h1; exfalso; have h4 := h1.2; (try dsimp only at *); omega))
      replace hO9 := hO9.chg k_13 (by first | (intro x h1 h2; have h3 : _ = _ := h2; exfalso; omega) | (intro b h1 h2 h3; have h4 : _ = _ := h3; (try dsimp only at h2); exfalso; omega) | (intro h1; have h2 : _ = _ := h1; exfalso; omega) | (intros; exfalso; (try dsimp only at *); omega) | (intro h1; exfalso; have h4 := h1.2; (try dsimp only at *); omega))
      replace hb_3 := hn_13
      refine WL.assign rfl rfl (WL.assign rfl rfl (WL.nil (WX.then_normal (WC.ret (?_)))))
      refine WX.ret3c (.inl rfl) Try.results13 Try.isAgg33 Try.sizeOf33 hb_3 rfl (by first | (simp; done) | (simp; omega) | rfl) rfl rfl ?_
      first
        | (have hh : e ≠ 0 := h11
           have h2 : e = 2 ∧ ¬ l.abs.Right := by
             rcases he with ⟨h1, _⟩ | h1
             ·
               exact absurd h1 hh
             ·
               exact h1
           obtain ⟨rfl, hn⟩ := h2
           exact ⟨_, rfl, ⟨⟨0, none, 0, [], none, 0, []⟩, false, 2, rfl, .inl ⟨hn, rfl, rfl, rfl⟩, LOi.zero _ _ _⟩, hw⟩)
        | (have hh' : ¬ l1.abs.ahead l1.snaps.length < p.b := h20
           have hh : p.b ≤ l1.abs.ahead l1.snaps.length := by omega
           refine ⟨_, rfl, ⟨{ l1 with dao := ao9, dcap := c9, dead := l1.dead ++ [p] }, false, 0, rfl, .inr (.inr ⟨hR, ?_, ?_, rfl, rfl⟩), hO9.mono (fun x hx => hx.1)⟩, hw⟩
           ·
             rw [← ha, show l1.abs.snaps.length = l1.snaps.length from sabs_len _]
             exact hh
           ·
             rw [← ha]
             rfl)
        | (have hh : l1.abs.ahead l1.snaps.length < p.b := h20
           refine ⟨_, rfl, ⟨l1, true, 0, rfl, .inr (.inl ⟨hR, ?_, ha, rfl, rfl⟩), hO.mono (fun x hx => hx.1)⟩, hw⟩
           rw [← ha, show l1.abs.snaps.length = l1.snaps.length from sabs_len _]
           exact hh)
set_option maxHeartbeats 1000000 in
theorem Snapshot_calls {S : Nat → Prop} {w : World} {l : LnV} (h : LS S w l) (hs : Sm 50 l) (t : Int) : Calls Try.prog 17 [lval l, vi t].toArray w (Ret fun v w' => (∃ l' e, v = .tuple #[lval l', vi e] ∧ SnapR l.abs t l'.abs e ∧ LO (w.heap.size ≤ ·) w' 65 l') ∧ Chg Nob w w') := by
  have hw := Chg.refl Nob w
  have hsn := hs.snaps
  have hsd := hs.dead
  have hs6 : Sm 60 l := ⟨by omega, by omega, fun x hx => by have := hs.inner x hx; omega⟩
  replace h := h.old
  refine Calls.of_WC Try.func17 rfl Try.ntmps17 (by simp) ?_
  refine WC.seq (WC.region (?_))
  refine WL.box rfl rfl ?_
  intro g_1 w_1 hge_1 hlt_1 hb_1 k_1
  have zs_k_1 := k_1.size
  replace h := h.pure k_1
  replace hw := hw.pure k_1
  refine WL.alloc Try.zeroValue33 rfl ?_
  intro g_2 w_2 hge_2 hlt_2 hb_2 k_2
  have zs_k_2 := k_2.size
  replace h := h.pure k_2
  replace hw := hw.pure k_2
  replace hb_1 := hb_1.pure k_2
  refine WL.assign rfl rfl (WL.nil (WX.then_normal (WC.seq (WC.block (WC.seq (WC.region (WL.loadsB Try.isAgg33 Try.sizeOf33 hb_1 rfl (by first | (simp; done) | (simp; omega) | rfl) rfl (?_))))))))
  refine WL.call eg_9 rfl rfl (Check_calls h hs6) ?_
  rintro v w2 ⟨⟨e, rfl, he⟩, k2⟩
  have zs_k2 := k2.size
  replace h := h.pure k2
  replace hw := hw.pure k2
  replace hb_1 := hb_1.pure k2
  replace hb_2 := hb_2.pure k2
  refine WL.neq? rfl rfl rfl (fun h9 => ?_) (fun h9 => ?_)
  ·
    refine WL.assign rfl rfl (WL.nil (WX.then_normal (WC.cond_true rfl (WC.seq (WC.region (WL.bld rfl (bld_33_z) rfl (?_)))))))
    refine WL.stores Try.sizeOf33 hb_2 rfl rfl (by first | (simp; done) | (simp; omega) | rfl) (by first | exact Enc.one _ _ | (intro u hu; obtain ⟨x, _, rfl⟩ := List.mem_map.1 hu; rfl) | (simp [Value.oneCell']; done) | (simp [Value.oneCell', Value.cells]; done)) (by first | (simp; done) | (simp; omega) | (simp [Value.cells]; done) | (simp [Value.cells]; omega) | exact Nat.le_of_ble_eq_true rfl) rfl ?_
    intro w_3 hs_3 hn_3 k_3
    have zs_k_3 := k_3.size
    replace h := h.chg k_3 (by first | (intro x h1 h2; have h3 : _ = _ := h2; exfalso; omega) | (intro b h1 h2 h3; have h4 : _ = _ := h3; (try dsimp only at h2); exfalso; omega) | (intro h1; have h2 : _ = _ := h1; exfalso; omega) | (intros; exfalso; (try dsimp only at *); omega) | (intro h1; exfalso; have h4 := h1.2; (try dsimp only at *); omega))
    replace hw := hw.chg k_3 (by first | (intro x h1 h2; have h3 : _ = _ := h2; exfalso; omega) | (intro b h1 h2 h3; have h4 : _ = _ := h3; (try dsimp only at h2); exfalso; omega) | (intro h1; have h2 : _ = _ := h1; exfalso; omega) | (intros; exfalso; (try dsimp only at *); omega) | (intro h1; exfalso; have h4 := h1.2; (try dsimp only at *); omega))
    replace hb_1 := hb_1.chg k_3 (by first | (intro x h1 h2; have h3 : _ = _ := h2; exfalso; omega) | (intro b h1 h2 h3; have h4 : _ = _ := h3; (try dsimp only at h2); exfalso; omega) | (intro h1; have h2 : _ = _ := h1; exfalso; omega) | (intros; exfalso; (try dsimp only at *); omega) | (intro h1; exfalso; have h4 := h1.2; (try dsimp only at *); omega))
    replace hb_2 := hn_3
    refine WL.assign rfl rfl (WL.nil (WX.then_normal (WC.ret (WX.block_ret (WX.then_ret (?_))))))
    refine WX.ret2c (.inl rfl) Try.results17 Try.isAgg33 Try.sizeOf33 hb_2 rfl (by first | (simp; done) | (simp; omega) | rfl) rfl ?_
    first
      | (have hh : e ≠ 0 := h9
         have h2 : e = 2 ∧ ¬ l.abs.Right := by
           rcases he with ⟨h1, _⟩ | h1
           ·
             exact absurd h1 hh
           ·
             exact h1
         obtain ⟨rfl, hn⟩ := h2
         exact ⟨_, rfl, ⟨⟨0, none, 0, [], none, 0, []⟩, 2, rfl, .inl ⟨hn, rfl, rfl⟩, LOi.zero _ _ _⟩, hw⟩)
      | (have hh : t ≤ l.abs.ahead l.snaps.length := h15
         refine ⟨_, rfl, ⟨⟨0, none, 0, [], none, 0, []⟩, 1, rfl, .inr (.inl ⟨hR, ?_, rfl, rfl⟩), LOi.zero _ _ _⟩, hw⟩
         rw [show l.abs.snaps.length = l.snaps.length from sabs_len _]
         exact hh)
      | (have hh : l.abs.ahead l.snaps.length < t := h15
         refine ⟨_, rfl, ⟨{ l1 with sao := ao9, scap := c9, snaps := l1.snaps ++ [⟨t, l1.dao, l1.dcap, l1.dead⟩], dao := none, dcap := 0, dead := [] }, 0, rfl, .inr (.inr ⟨hR, ?_, ?_, rfl⟩), hO9.mono (fun x hx => hx.1)⟩, hw⟩
         ·
           rw [show l.abs.snaps.length = l.snaps.length from sabs_len _]
           exact hh
         ·
           rw [← ha]
           simp [LnV.abs, sabs])
  ·
    refine WL.assign rfl rfl (WL.nil (WX.then_normal (WC.cond_false rfl (WC.seq (WC.region (WL.move rfl rfl (WL.loadsB Try.isAgg33 Try.sizeOf33 hb_1 rfl (by first | (simp; done) | (simp; omega) | rfl) rfl (?_))))))))
    have hR : l.abs.Right := by
      rcases he with ⟨_, h1⟩ | ⟨h1, _⟩
      ·
        exact h1
      ·
        omega
    refine WL.call eg_25 rfl rfl (last_calls h (by omega)) ?_
    rintro v w4 ⟨rfl, k4⟩
    have zs_k4 := k4.size
    replace h := h.pure k4
    replace hw := hw.pure k4
    replace hb_1 := hb_1.pure k4
    replace hb_2 := hb_2.pure k4
    refine WL.leq? rfl rfl rfl (fun h15 => ?_) (fun h15 => ?_)
    ·
      refine WL.assign rfl rfl (WL.nil (WX.then_normal (WC.cond_true rfl (WC.seq (WC.region (WL.bld rfl (bld_33_z) rfl (?_)))))))
      refine WL.stores Try.sizeOf33 hb_2 rfl rfl (by first | (simp; done) | (simp; omega) | rfl) (by first | exact Enc.one _ _ | (intro u hu; obtain ⟨x, _, rfl⟩ := List.mem_map.1 hu; rfl) | (simp [Value.oneCell']; done) | (simp [Value.oneCell', Value.cells]; done)) (by first | (simp; done) | (simp; omega) | (simp [Value.cells]; done) | (simp [Value.cells]; omega) | exact Nat.le_of_ble_eq_true rfl) rfl ?_
      intro w_3 hs_3 hn_3 k_3
      have zs_k_3 := k_3.size
      replace h := h.chg k_3 (by first | (intro x h1 h2; have h3 : _ = _ := h2; exfalso; omega) | (intro b h1 h2 h3; have h4 : _ = _ := h3; (try dsimp only at h2); exfalso; omega) | (intro h1; have h2 : _ = _ := h1; exfalso; omega) | (intros; exfalso; (try dsimp only at *); omega) | (intro h1; exfalso; have h4 := h1.2; (try dsimp only at *); omega))
      replace hw := hw.chg k_3 (by first | (intro x h1 h2; have h3 : _ = _ := h2; exfalso; omega) | (intro b h1 h2 h3; have h4 : _ = _ := h3; (try dsimp only at h2); exfalso; omega) | (intro h1; have h2 : _ = _ := h1; exfalso; omega) | (intros; exfalso; (try dsimp only at *); omega) | (intro h1; exfalso; have h4 := h1.2; (try dsimp only at *); omega))
      replace hb_1 := hb_1.chg k_3 (by first | (intro x h1 h2; have h3 : _ = _ := h2; exfalso; omega) | (intro b h1 h2 h3; have h4 : _ = _ := h3; (try dsimp only at h2); exfalso; omega) | (intro h1; have h2 : _ = _ := h1; exfalso; omega) | (intros; exfalso; (try dsimp only at *); omega) | (intro h1; exfalso; have h4 := h1.2; (try dsimp only at *); omega))
      replace hb_2 := hn_3
      refine WL.assign rfl rfl (WL.nil (WX.then_normal (WC.ret (WX.block_ret (WX.then_ret (?_))))))
      refine WX.ret2c (.inl rfl) Try.results17 Try.isAgg33 Try.sizeOf33 hb_2 rfl (by first | (simp; done) | (simp; omega) | rfl) rfl ?_
      first
        | (have hh : e ≠ 0 := h9
           have h2 : e = 2 ∧ ¬ l.abs.Right := by
             rcases he with ⟨h1, _⟩ | h1
             ·
               exact absurd h1 hh
             ·
               exact h1
           obtain ⟨rfl, hn⟩ := h2
           exact ⟨_, rfl, ⟨⟨0, none, 0, [], none, 0, []⟩, 2, rfl, .inl ⟨hn, rfl, rfl⟩, LOi.zero _ _ _⟩, hw⟩)
        | (have hh : t ≤ l.abs.ahead l.snaps.length := h15
           refine ⟨_, rfl, ⟨⟨0, none, 0, [], none, 0, []⟩, 1, rfl, .inr (.inl ⟨hR, ?_, rfl, rfl⟩), LOi.zero _ _ _⟩, hw⟩
           rw [show l.abs.snaps.length = l.snaps.length from sabs_len _]
           exact hh)
        | (have hh : l.abs.ahead l.snaps.length < t := h15
           refine ⟨_, rfl, ⟨{ l1 with sao := ao9, scap := c9, snaps := l1.snaps ++ [⟨t, l1.dao, l1.dcap, l1.dead⟩], dao := none, dcap := 0, dead := [] }, 0, rfl, .inr (.inr ⟨hR, ?_, ?_, rfl⟩), hO9.mono (fun x hx => hx.1)⟩, hw⟩
           ·
             rw [show l.abs.snaps.length = l.snaps.length from sabs_len _]
             exact hh
           ·
             rw [← ha]
             simp [LnV.abs, sabs])
    ·
      refine WL.assign rfl rfl (WL.nil (WX.then_normal (WC.cond_false rfl (WC.skip (WX.block_normal (WX.then_normal (WC.seq (?_))))))))
      refine WC.region (WL.loadsB Try.isAgg33 Try.sizeOf33 hb_1 rfl (by first | (simp; done) | (simp; omega) | rfl) rfl (?_))
      refine WL.call eg_30 rfl rfl (lclone_calls h hs6) ?_
      rintro v w3 ⟨⟨l1, rfl, hO, ha⟩, k3⟩
      have hll := abs_len ha
      have hld := congrArg List.length (abs_dead ha)
      have zs_k3 := k3.size
      replace hw := hw.pure k3
      replace hb_1 := hb_1.pure k3
      replace hb_2 := hb_2.pure k3
      replace hO := LOi.mono (S' := fun x => w.heap.size ≤ x ∧ x ≠ g_1 ∧ x ≠ g_2) hO (fun x hx => by omega)
      refine WL.stores Try.sizeOf33 hb_1 rfl rfl (by first | (simp; done) | (simp; omega) | rfl) (by first | exact Enc.one _ _ | (intro u hu; obtain ⟨x, _, rfl⟩ := List.mem_map.1 hu; rfl) | (simp [Value.oneCell']; done) | (simp [Value.oneCell', Value.cells]; done)) (by first | (simp; done) | (simp; omega) | (simp [Value.cells]; done) | (simp [Value.cells]; omega) | exact Nat.le_of_ble_eq_true rfl) rfl ?_
      intro w_3 hs_3 hn_3 k_3
      have zs_k_3 := k_3.size
      replace hw := hw.chg k_3 (by first | (intro x h1 h2; have h3 : _ = _ := h2; exfalso; omega) | (intro b h1 h2 h3; have h4 : _ = _ := h3; (try dsimp only at h2); exfalso; omega) | (intro h1; have h2 : _ = _ := h1; exfalso; omega) | (intros; exfalso; (try dsimp only at *); omega) | (intro h1; exfalso; have h4 := h1.2; (try dsimp only at *); omega))
      replace hb_2 := hb_2.chg k_3 (by first | (intro x h1 h2; have h3 : _ = _ := h2; exfalso; omega) | (intro b h1 h2 h3; have h4 : _ = _ := h3; (try dsimp only at h2); exfalso; omega) | (intro h1; have h2 : _ = _ := h1; exfalso; omega) | (intros; exfalso; (try dsimp only at *); omega) | (intro h1; exfalso; have h4 := h1.2; (try dsimp only at *); omega))
      replace hO := hO.chg k_3 (by first | (intro x h1 h2; have h3 : _ = _ := h2; exfalso; omega) | (intro b h1 h2 h3; have h4 : _ = _ := h3; (try dsimp only at h2); exfalso; omega) | (intro h1; have h2 : _ = _ := h1; exfalso; omega) | (intros; exfalso; (try dsimp only at *); omega) | (intro h1; exfalso; have h4 := h1.2; (try dsimp only at *); omega))
      replace hb_1 := hn_3
      refine WL.nil (WX.then_normal (WC.seq (WC.region (?_))))
      have hb4 : Blk _ g_1 33 (lcells l1) := hb_1
      refine WL.fieldAddr fld_33_1 rfl rfl ?_
      refine WL.loadB Try.isAgg31 hb4 rfl rfl rfl (WL.move rfl rfl (WL.fieldAddr (fld_33_2) rfl rfl (WL.loadB Try.isAgg23 hb4 rfl rfl rfl (WL.bld rfl (bld_65_0_1 _ _ _ _) rfl (?_)))))
      refine WL.build (e := esn) [⟨t, l1.dao, l1.dcap, l1.dead⟩] Try.underlying31 Try.sizeOf65 Try.zeroValue65 rfl rfl rfl (by first | (simp [Value.cells]; done) | (simp [Value.cells] <;> rfl) | (simp [Value.cells, eb, ei, es, ebool, e32, e64]; done)) (by decide) rfl ?_
      intro a_hq w_hq hq l_hq z_hq k_hq
      have zs_k_hq := k_hq.size
      replace hw := hw.pure k_hq
      replace hb_2 := hb_2.pure k_hq
      replace hO := hO.pure k_hq
      replace hb4 := hb4.pure k_hq
      refine WL.append (e := esn) info_65 rfl Try.underlying31 rfl rfl hO.snaps (hq.rsl.src Try.underlying31) (by constructor <;> (simp only [List.length_cons, List.length_nil]; omega)) (fun x hx => by omega) rfl ?_
      intro ao9 c9 w9 hb9 gg9 n9
      have hO9 := LOi.snap hO (by decide) hb9 gg9
      have gk : Chg (fun x => w.heap.size ≤ x ∧ x ≠ g_1 ∧ x ≠ g_2) _ w9 := gg9.chg.mono (fun x _ hx => hx.2)
      have zs_gk := gk.size
      replace hw := hw.chg gk (by first | (intro x h1 h2; have h3 : _ = _ := h2; exfalso; omega) | (intro b h1 h2 h3; have h4 : _ = _ := h3; (try dsimp only at h2); exfalso; omega) | (intro h1; have h2 : _ = _ := h1; exfalso; omega) | (intros; exfalso; (try dsimp only at *); omega) | (intro h1; exfalso; have h4 := h1.2; (try dsimp only at *); omega))
      replace hb_2 := hb_2.chg gk (by first | (intro x h1 h2; have h3 : _ = _ := h2; exfalso; omega) | (intro b h1 h2 h3; have h4 : _ = _ := h3; (try dsimp only at h2); exfalso; omega) | (intro h1; have h2 : _ = _ := h1; exfalso; omega) | (intros; exfalso; (try dsimp only at *); omega) | (intro h1; exfalso; have h4 := h1.2; (try dsimp only at *); omega))
      replace hb4 := hb4.chg gk (by first | (intro x h1 h2; have h3 : _ = _ := h2; exfalso; omega) | (intro b h1 h2 h3; have h4 : _ = _ := h3; (try dsimp only at h2); exfalso; omega) | (intro h1; have h2 : _ = _ := h1; exfalso; omega) | (intros; exfalso; (try dsimp only at *); omega) | (intro h1; exfalso; have h4 := h1.2; (try dsimp only at *); omega))
      refine WL.fieldAddr (fld_33_1) rfl rfl (?_)
      refine WL.store Try.sizeOf31 hb4 rfl rfl rfl rfl ?_
      intro w_4 hs_4 hn_4 k_4
      have zs_k_4 := k_4.size
      replace hw := hw.chg k_4 (by first | (intro x h1 h2; have h3 : _ = _ := h2; exfalso; omega) | (intro b h1 h2 h3; have h4 : _ = _ := h3; (try dsimp only at h2); exfalso; omega) | (intro h1; have h2 : _ = _ := h1; exfalso; omega) | (intros; exfalso; (try dsimp only at *); omega) | (intro h1; exfalso; have h4 := h1.2; (try dsimp only at *); omega))
      replace hb_2 := hb_2.chg k_4 (by first | (intro x h1 h2; have h3 : _ = _ := h2; exfalso; omega) | (intro b h1 h2 h3; have h4 : _ = _ := h3; (try dsimp only at h2); exfalso; omega) | (intro h1; have h2 : _ = _ := h1; exfalso; omega) | (intros; exfalso; (try dsimp only at *); omega) | (intro h1; exfalso; have h4 := h1.2; (try dsimp only at *); omega))
      replace hO9 := hO9.chg k_4 (by first | (intro x h1 h2; have h3 : _ = _ := h2; exfalso; omega) | (intro b h1 h2 h3; have h4 : _ = _ := h3; (try dsimp only at h2); exfalso; omega) | (intro h1; have h2 : _ = _ := h1; exfalso; omega) | (intros; exfalso; (try dsimp only at *); omega) | (intro h1; exfalso; have h4 := h1.2; (try dsimp only at *); omega))
      replace hb4 := hn_4
      refine WL.fieldAddr (fld_33_2) rfl rfl (?_)
      refine WL.store Try.sizeOf23 hb4 rfl rfl rfl rfl ?_
      intro w_5 hs_5 hn_5 k_5
      have zs_k_5 := k_5.size
      replace hw := hw.chg k_5 (by first | (intro x h1 h2; have h3 : _ = _ := h2; exfalso; omega) | (intro b h1 h2 h3; have h4 : _ = _ := h3; (try dsimp only at h2); exfalso; omega) | (intro h1; have h2 : _ = _ := h1; exfalso; omega) | (intros; exfalso; (try dsimp only at *); omega) | (intro h1; exfalso; have h4 := h1.2; (try dsimp only at *); omega))
      replace hb_2 := hb_2.chg k_5 (by first | (intro x h1 h2; have h3 : _ = _ := h2; exfalso; omega) | (intro b h1 h2 h3; have h4 : _ = _ := h3; (try dsimp only at h2); exfalso; omega) | (intro h1; have h2 : _ = _ := h1; exfalso; omega) | (intros; exfalso; (try dsimp only at *); omega) | (intro h1; exfalso; have h4 := h1.2; (try dsimp only at *); omega))
      replace hO9 := hO9.chg k_5 (by first | (intro x h1 h2; have h3 : _ = _ := h2; exfalso; omega) | (intro b h1 h2 h3; have h4 : _ = _ := h3; (try dsimp only at h2); exfalso; omega) | (intro h1; have h2 : _ = _ := h1; exfalso; omega) | (intros; exfalso; (try dsimp only at *); omega) | (intro h1; exfalso; have h4 := h1.2; (try dsimp only at *); omega))
      replace hb4 := hn_5
      refine WL.nil (WX.then_normal (WC.seq (WC.region (WL.loadsB Try.isAgg33 Try.sizeOf33 hb4 rfl (by first | (simp; done) | (simp; omega) | rfl) rfl (?_)))))
      refine WL.stores Try.sizeOf33 hb_2 rfl rfl (by first | (simp; done) | (simp; omega) | rfl) (by first | exact Enc.one _ _ | (intro u hu; obtain ⟨x, _, rfl⟩ := List.mem_map.1 hu; rfl) | (simp [Value.oneCell']; done) | (simp [Value.oneCell', Value.cells]; done)) (by first | (simp; done) | (simp; omega) | (simp [Value.cells]; done) | (simp [Value.cells]; omega) | exact Nat.le_of_ble_eq_true rfl) rfl ?_
      intro w_6 hs_6 hn_6 k_6
      have zs_k_6 := k_6.size
      replace hw := hw.chg k_6 (by first | (intro x h1 h2; have h3 : _ = _ := h2; exfalso; omega) | (intro b h1 h2 h3; have h4 : _ = _ := h3; (try dsimp only at h2); exfalso; omega) | (intro h1; have h2 : _ = _ := h1; exfalso; omega) | (intros; exfalso; (try dsimp only at *); omega) | (intro h1; exfalso; have h4 := h1.2; (try dsimp only at *); omega))
      replace hb4 := hb4.chg k_6 (by first | (intro x h1 h2; have h3 : _ = _ := h2; exfalso; omega) | (intro b h1 h2 h3; have h4 : _ = _ := h3; (try dsimp only at h2); exfalso; omega) | (intro h1; have h2 : _ = _ := h1; exfalso; omega) | (intros; exfalso; (try dsimp only at *); omega) | (intro h1; exfalso; have h4 := h1.2; (try dsimp only at *); omega))
      replace hO9 := hO9.chg k_6 (by first | (intro x h1 h2; have h3 : _ = _ := h2; exfalso; omega) | (intro b h1 h2 h3; have h4 : _ = _ := h3; (try dsimp only at h2); exfalso; omega) | (intro h1; have h2 : _ = _ := h1; exfalso; omega) | (intros; exfalso; (try dsimp only at *); omega) | (intro h1; exfalso; have h4 := h1.2; (try dsimp only at *); omega))
      replace hb_2 := hn_6
      refine WL.assign rfl rfl (WL.nil (WX.then_normal (WC.ret (?_))))
      refine WX.ret2c (.inl rfl) Try.results17 Try.isAgg33 Try.sizeOf33 hb_2 rfl (by first | (simp; done) | (simp; omega) | rfl) rfl ?_
      first
        | (have hh : e ≠ 0 := h9
           have h2 : e = 2 ∧ ¬ l.abs.Right := by
             rcases he with ⟨h1, _⟩ | h1
             ·
               exact absurd h1 hh
             ·
               exact h1
           obtain ⟨rfl, hn⟩ := h2
           exact ⟨_, rfl, ⟨⟨0, none, 0, [], none, 0, []⟩, 2, rfl, .inl ⟨hn, rfl, rfl⟩, LOi.zero _ _ _⟩, hw⟩)
        | (have hh : t ≤ l.abs.ahead l.snaps.length := h15
           refine ⟨_, rfl, ⟨⟨0, none, 0, [], none, 0, []⟩, 1, rfl, .inr (.inl ⟨hR, ?_, rfl, rfl⟩), LOi.zero _ _ _⟩, hw⟩
           rw [show l.abs.snaps.length = l.snaps.length from sabs_len _]
           exact hh)
        | (have hh : l.abs.ahead l.snaps.length < t := h15
           refine ⟨_, rfl, ⟨{ l1 with sao := ao9, scap := c9, snaps := l1.snaps ++ [⟨t, l1.dao, l1.dcap, l1.dead⟩], dao := none, dcap := 0, dead := [] }, 0, rfl, .inr (.inr ⟨hR, ?_, ?_, rfl⟩), hO9.mono (fun x hx => hx.1)⟩, hw⟩
           ·
             rw [show l.abs.snaps.length = l.snaps.length from sabs_len _]
             exact hh
           ·
             rw [← ha]
             simp [LnV.abs, sabs])
end Go.Proofs.Ytgmkoieemmglpaa
