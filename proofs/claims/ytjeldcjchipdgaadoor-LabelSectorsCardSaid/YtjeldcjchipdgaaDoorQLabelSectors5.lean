import Derived.Test.YtjeldcjchipdgaaDoorQLabelSectors4
namespace Go.Proofs.YtjeldcjchipdgaaDoor
open Go.RowKit Go.HL
set_option maxRecDepth 100000

def V8.cells (v : V8) : List Value := [v32 v.a, v32 v.b, v32 v.c, v32 v.d, v32 v.e, v32 v.f, v32 v.g, v32 v.h]
theorem begin_calls (w : World) : Calls Tryd.prog 103 [].toArray w (Ret fun v w' => v = .agg (st0.cells).toArray ∧ Chg Nob w w') := by
  have hw := Chg.refl Nob w
  refine Calls.of_WC Tryd.func103 rfl Tryd.ntmps103 (by simp) ?_
  refine WC.seq (WC.region (?_))
  refine WL.alloc Tryd.zeroValue161 rfl ?_
  intro g_1 w_1 hge_1 hlt_1 hb_1 k_1
  have zs_k_1 := k_1.size
  replace hw := hw.pure k_1
  refine WL.nil (WX.then_normal (WC.seq (WC.region (WL.bld rfl (bld_161_0_1_2_3_4_5_6_7 _ _ _ _ _ _ _ _) rfl (?_)))))
  refine WL.stores Tryd.sizeOf161 hb_1 rfl rfl (by simp; done) (by simp [Value.oneCell']; done) (by simp [Value.cells]; done) rfl ?_
  intro w_2 hs_2 hn_2 k_2
  have zs_k_2 := k_2.size
  replace hw := hw.chg k_2 (by intro x h1 h2; have h3 : _ = _ := h2; exfalso; omega)
  replace hb_1 := hn_2
  refine WL.nil (WX.then_normal (WC.ret (?_)))
  refine WX.ret1c (.inl rfl) Tryd.results103 Tryd.isAgg161 Tryd.sizeOf161 hb_1 rfl (by rfl) ?_
  exact ⟨_, rfl, rfl, hw⟩
theorem rounds_calls (w : World) : Calls Tryd.prog 104 [].toArray w (Ret fun v w' => v = .agg (K256.map v32).toArray ∧ Chg Nob w w') := by
  have hw := Chg.refl Nob w
  refine Calls.of_WC Tryd.func104 rfl Tryd.ntmps104 (by simp) ?_
  refine WC.seq (WC.region (?_))
  refine WL.alloc Tryd.zeroValue163 rfl ?_
  intro g_1 w_1 hge_1 hlt_1 hb_1 k_1
  have zs_k_1 := k_1.size
  replace hw := hw.pure k_1
  refine WL.nil (WX.then_normal (WC.seq (WC.region (?_))))
  refine WL.buildArr (K256.map v32) Tryd.underlying163 Tryd.sizeOf159 Tryd.zeroValue163 rfl rfl rfl (by intro v hv; obtain ⟨x, _, rfl⟩ := List.mem_map.1 hv; rfl) rfl ?_
  refine WL.stores Tryd.sizeOf163 hb_1 rfl rfl (by rfl) (by intro u hu; obtain ⟨x, _, rfl⟩ := List.mem_map.1 hu; rfl) (by exact Nat.le_of_ble_eq_true rfl) rfl ?_
  intro w_2 hs_2 hn_2 k_2
  have zs_k_2 := k_2.size
  replace hw := hw.chg k_2 (by intro x h1 h2; have h3 : _ = _ := h2; exfalso; omega)
  replace hb_1 := hn_2
  refine WL.nil (WX.then_normal (WC.ret (?_)))
  refine WX.ret1c (.inl rfl) Tryd.results104 Tryd.isAgg163 Tryd.sizeOf163 hb_1 rfl (by rfl) ?_
  exact ⟨_, rfl, rfl, hw⟩
end Go.Proofs.YtjeldcjchipdgaaDoor
namespace Go.Proofs.YtjeldcjchipdgaaDoor
open Go.RowKit Go.HL
set_option maxRecDepth 100000

theorem sch_len (b : List UInt8) (t : Nat) : (sch b t).length = t := by
  induction t with
  | zero => rfl
  | succ t ih => simp [sch, ih]
theorem sch_at {b : List UInt8} {t i : Nat} (h : i < t) : (sch b t ++ List.replicate (64 - t) 0)[i]? = some ((sch b t).getD i 0) := by
  have hl := sch_len b t
  rw [List.getElem?_append_left (by omega), List.getD_eq_getElem?_getD, List.getElem?_eq_getElem (by omega)]
  rfl
theorem sch_set {b : List UInt8} {t : Nat} (h : t < 64) : ((sch b t ++ List.replicate (64 - t) 0).map v32).set t (v32 (nextW b (sch b t) t)) = (sch b (t + 1) ++ List.replicate (64 - (t + 1)) 0).map v32 := by
  have hl := sch_len b t
  rw [← List.map_set]
  congr 1
  rw [List.set_append_right _ _ (by omega), hl, Nat.sub_self, show 64 - t = (64 - (t + 1)) + 1 from by omega, List.replicate_succ, List.set_cons_zero]
  simp [sch]
theorem byte_at {b : List UInt8} {i : Nat} (h : i < b.length) : b[i]? = some (b.getD i 0) := by
  rw [List.getD_eq_getElem?_getD, List.getElem?_eq_getElem h]
  rfl
def JS (b : List UInt8) (t g : Nat) (w' : World) : Prop := ∃ cs, Blk w' g 163 cs ∧ ∀ j, j < t → cs[j]? = some (v32 ((sch b t).getD j 0))
theorem JS.pure {b : List UInt8} {t g : Nat} (w1 w2 : World) (h : JS b t g w1) (k : Chg Nob w1 w2) : JS b t g w2 := by
  obtain ⟨cs, h1, h2⟩ := h
  exact ⟨cs, h1.pure k, h2⟩
theorem JS.init {b : List UInt8} {t g : Nat} {w1 : World} (h : Blk w1 g 163 ((sch b t ++ List.replicate (64 - t) 0).map v32)) : JS b t g w1 := ⟨_, h, fun j hj => map_at _ (sch_at hj)⟩
theorem JS.set {b : List UInt8} {t g : Nat} {w1 : World} {v : Value} (h : Blk w1 g 163 (((sch b t ++ List.replicate (64 - t) 0).map v32).set t v)) : JS b t g w1 := ⟨_, h, fun j hj => by
  rw [List.getElem?_set_ne (by omega)]
  exact map_at _ (sch_at hj)⟩
set_option maxHeartbeats 1000000 in
theorem schedule_calls {S : Nat → Prop} {w : World} {ao : Option Addr} {c : Nat} {b : List UInt8} (hr : RSl S w eb ao c b) (hl : b.length = 64) :
    Calls Tryd.prog 113 [.slice ao b.length c].toArray w (Ret fun v w' => v = .agg ((sch b 64).map v32).toArray ∧ Chg Nob w w') := by
  replace hr := hr.old
  have hw := Chg.refl Nob w
  obtain ⟨bp, op, rfl⟩ := hr.place (byte_at (b := b) (i := 0) (by omega))
  refine Calls.of_WC Tryd.func113 rfl Tryd.ntmps113 (by simp) ?_
  refine WC.seq (WC.region (?_))
  refine WL.alloc Tryd.zeroValue163 rfl ?_
  intro g_1 w_1 hge_1 hlt_1 hb_1 k_1
  have zs_k_1 := k_1.size
  replace hr := hr.pure k_1
  replace hw := hw.pure k_1
  refine WL.nil (WX.then_normal (WC.seq (WC.region (?_))))
  refine WL.alloc Tryd.zeroValue163 rfl ?_
  intro g_2 w_2 hge_2 hlt_2 hb_2 k_2
  have zs_k_2 := k_2.size
  replace hr := hr.pure k_2
  replace hw := hw.pure k_2
  replace hb_1 := hb_1.pure k_2
  refine WL.nil (WX.then_normal (WC.seq (WC.seq (WC.region (WL.move rfl rfl (WL.nil (WX.then_normal (?_))))))))
  refine WC.block (?_)
  refine WC.loop (σ := Nat) (fun t => [(0, .slice (some ⟨bp, op, none⟩) b.length c), (2, .pointer (some ⟨g_1, 0, none⟩)), (3, .pointer (some ⟨g_2, 0, none⟩)), (7, vi t)])
    (fun t w' => t ≤ 64 ∧ RSl (· < w.heap.size) w' eb (some ⟨bp, op, none⟩) c b ∧ Blk w' g_1 163 ((List.replicate 64 0).map v32) ∧ Blk w' g_2 163 ((sch b t ++ List.replicate (64 - t) 0).map v32) ∧ Chg Nob w w') (fun t => 64 - t) 0 ⟨rfl, rfl, rfl, rfl, trivial⟩ ⟨by omega, hr, hb_1, hb_2, hw⟩ ?_
  clear hr hb_1 hb_2 hw
  rintro t w3 ⟨ht, hr, hb1, hb2, hw⟩
  have hsl := sch_len b t
  refine WC.seq (WC.region (?_))
  refine WL.lss? rfl rfl rfl (fun h8 => ?_) (fun h8 => ?_)
  ·
    refine WL.nil (WX.then_normal (WC.seq (WC.cond_true rfl (WC.skip (WX.then_normal (WC.seq (WC.block (?_))))))))
    refine WC.seq (WC.region (WL.move rfl rfl (WL.assign rfl rfl (WL.nil (WX.then_normal (WC.seq (WC.seq (?_))))))))
    refine WC.region (WL.move rfl rfl (?_))
    refine WL.lss? rfl rfl rfl (fun h11 => ?_) (fun h11 => ?_)
    ·
      refine WL.nil (WX.then_normal (WC.cond_true rfl (WC.seq (?_))))
      have e0 := byte_at (b := b) (i := 4 * t) (by omega)
      have e1 := byte_at (b := b) (i := 4 * t + 1) (by omega)
      have e2 := byte_at (b := b) (i := 4 * t + 2) (by omega)
      have e3 := byte_at (b := b) (i := 4 * t + 3) (by omega)
      refine WC.draw (fun x => x = g_2) [0, 1, 2, 3, 4, 5, 6, 7, 8, 9, 10, 11, 12, 13, 14, 15, 16, 17, 18, 19, 20, 21, 22, 23, 24, 25, 26, 27, 28, 29, 30, 31, 32, 33, 34] [35] mixed rfl rfl (fun wd_3 kd_3 zd_3 => ?_)
      have zs_kd_3 := kd_3.size
      replace hr := hr.pure kd_3
      replace hb1 := hb1.pure kd_3
      replace hb2 := hb2.pure kd_3
      replace hw := hw.pure kd_3
      apply DQ.step (E' := [(4, _)])
      case ho => rfl
      case hs => exact ⟨rfl, trivial⟩
      case hk => rfl
      case h1 =>
        intro wq_5 kq_5
        refine WL.move rfl rfl (?_)
        refine WL.nil ?_
        exact WX.one ⟨rfl, by exact Chg.refl _ _⟩
      apply DQ.step (E' := [(0, _)])
      case ho => rfl
      case hs => exact ⟨rfl, trivial⟩
      case hk => rfl
      case h1 =>
        intro wq_6 kq_6
        refine WL.move rfl rfl (?_)
        refine WL.nil ?_
        exact WX.one ⟨rfl, by exact Chg.refl _ _⟩
      apply DQ.step (E' := [(4, _)])
      case ho => rfl
      case hs => exact ⟨rfl, trivial⟩
      case hk => rfl
      case h1 =>
        intro wq_7 kq_7
        refine WL.move rfl rfl (?_)
        refine WL.nil ?_
        exact WX.one ⟨rfl, by exact Chg.refl _ _⟩
      apply DQ.step (E' := [(14, _)])
      case ho => rfl
      case hs => exact ⟨rfl, trivial⟩
      case hk => rfl
      case h1 =>
        intro wq_8 kq_8
        refine WL.mul64 rfl rfl (by omega) rfl (?_)
        refine WL.nil ?_
        exact WX.one ⟨rfl, by exact Chg.refl _ _⟩
      apply DQ.step (E' := [(13, _), (15, _)])
      case ho => rfl
      case hs => exact ⟨rfl, rfl, trivial⟩
      case hk => rfl
      case h1 =>
        intro wq_9 kq_9
        have zs_kq_9 := kq_9.size
        replace hr := hr.chg kq_9 (by intro b h1 h2 h3; have h4 : _ = _ := h3; (try dsimp only at h2); exfalso; omega)
        replace hb1 := hb1.chg kq_9 (by intro h1; have h2 : _ = _ := h1; exfalso; omega)
        replace hw := hw.chg kq_9 (by intro x h1 h2; have h3 : _ = _ := h2; exfalso; omega)
        refine WL.indexC hr Tryd.underlying26 Tryd.sizeOf5 rfl rfl ⟨e0, rfl⟩ rfl ?_
        refine WL.nil ?_
        exact WX.one ⟨rfl, by exact Chg.refl _ _⟩
      apply DQ.step (E' := [(16, _)])
      case ho => rfl
      case hs => exact ⟨rfl, trivial⟩
      case hk => rfl
      case h1 =>
        intro wq_10 kq_10
        have zs_kq_10 := kq_10.size
        replace hr := hr.chg kq_10 (by intro b h1 h2 h3; have h4 : _ = _ := h3; (try dsimp only at h2); exfalso; omega)
        replace hb1 := hb1.chg kq_10 (by intro h1; have h2 : _ = _ := h1; exfalso; omega)
        replace hw := hw.chg kq_10 (by intro x h1 h2; have h3 : _ = _ := h2; exfalso; omega)
        refine WL.load Tryd.isAgg5 rfl ((hr.cellsAt e0) 0 _ rfl) rfl (?_)
        refine WL.nil ?_
        exact WX.one ⟨rfl, by exact Chg.refl _ _⟩
      apply DQ.step (E' := [(17, _)])
      case ho => rfl
      case hs => exact ⟨rfl, trivial⟩
      case hk => rfl
      case h1 =>
        intro wq_11 kq_11
        have zs_kq_11 := kq_11.size
        replace hr := hr.chg kq_11 (by intro b h1 h2 h3; have h4 : _ = _ := h3; (try dsimp only at h2); exfalso; omega)
        replace hb1 := hb1.chg kq_11 (by intro h1; have h2 : _ = _ := h1; exfalso; omega)
        replace hw := hw.chg kq_11 (by intro x h1 h2; have h3 : _ = _ := h2; exfalso; omega)
        refine WL.c_u8_u32 Tryd.underlying5 Tryd.underlying159 rfl rfl (?_)
        refine WL.nil ?_
        exact WX.one ⟨rfl, by exact Chg.refl _ _⟩
      apply DQ.step (E' := [(18, _)])
      case ho => rfl
      case hs => exact ⟨rfl, trivial⟩
      case hk => rfl
      case h1 =>
        intro wq_12 kq_12
        refine WL.num rfl rfl (n_shl32 _ _ _ _ 24 (by decide)) rfl (?_)
        refine WL.nil ?_
        exact WX.one ⟨rfl, by exact Chg.refl _ _⟩
      apply DQ.step (E' := [(0, _)])
      case ho => rfl
      case hs => exact ⟨rfl, trivial⟩
      case hk => rfl
      case h1 =>
        intro wq_13 kq_13
        refine WL.move rfl rfl (?_)
        refine WL.nil ?_
        exact WX.one ⟨rfl, by exact Chg.refl _ _⟩
      apply DQ.step (E' := [(4, _)])
      case ho => rfl
      case hs => exact ⟨rfl, trivial⟩
      case hk => rfl
      case h1 =>
        intro wq_14 kq_14
        refine WL.move rfl rfl (?_)
        refine WL.nil ?_
        exact WX.one ⟨rfl, by exact Chg.refl _ _⟩
      apply DQ.step (E' := [(21, _)])
      case ho => rfl
      case hs => exact ⟨rfl, trivial⟩
      case hk => rfl
      case h1 =>
        intro wq_15 kq_15
        refine WL.mul64 rfl rfl (by omega) rfl (?_)
        refine WL.nil ?_
        exact WX.one ⟨rfl, by exact Chg.refl _ _⟩
      apply DQ.step (E' := [(22, _)])
      case ho => rfl
      case hs => exact ⟨rfl, trivial⟩
      case hk => rfl
      case h1 =>
        intro wq_16 kq_16
        refine WL.add64 rfl rfl (by omega) rfl (?_)
        refine WL.nil ?_
        exact WX.one ⟨rfl, by exact Chg.refl _ _⟩
      apply DQ.step (E' := [(20, _), (23, _)])
      case ho => rfl
      case hs => exact ⟨rfl, rfl, trivial⟩
      case hk => rfl
      case h1 =>
        intro wq_17 kq_17
        have zs_kq_17 := kq_17.size
        replace hr := hr.chg kq_17 (by intro b h1 h2 h3; have h4 : _ = _ := h3; (try dsimp only at h2); exfalso; omega)
        replace hb1 := hb1.chg kq_17 (by intro h1; have h2 : _ = _ := h1; exfalso; omega)
        replace hw := hw.chg kq_17 (by intro x h1 h2; have h3 : _ = _ := h2; exfalso; omega)
        refine WL.indexC hr Tryd.underlying26 Tryd.sizeOf5 rfl rfl ⟨e1, rfl⟩ rfl ?_
        refine WL.nil ?_
        exact WX.one ⟨rfl, by exact Chg.refl _ _⟩
      apply DQ.step (E' := [(24, _)])
      case ho => rfl
      case hs => exact ⟨rfl, trivial⟩
      case hk => rfl
      case h1 =>
        intro wq_18 kq_18
        have zs_kq_18 := kq_18.size
        replace hr := hr.chg kq_18 (by intro b h1 h2 h3; have h4 : _ = _ := h3; (try dsimp only at h2); exfalso; omega)
        replace hb1 := hb1.chg kq_18 (by intro h1; have h2 : _ = _ := h1; exfalso; omega)
        replace hw := hw.chg kq_18 (by intro x h1 h2; have h3 : _ = _ := h2; exfalso; omega)
        refine WL.load Tryd.isAgg5 rfl ((hr.cellsAt e1) 0 _ rfl) rfl (?_)
        refine WL.nil ?_
        exact WX.one ⟨rfl, by exact Chg.refl _ _⟩
      apply DQ.step (E' := [(25, _)])
      case ho => rfl
      case hs => exact ⟨rfl, trivial⟩
      case hk => rfl
      case h1 =>
        intro wq_19 kq_19
        have zs_kq_19 := kq_19.size
        replace hr := hr.chg kq_19 (by intro b h1 h2 h3; have h4 : _ = _ := h3; (try dsimp only at h2); exfalso; omega)
        replace hb1 := hb1.chg kq_19 (by intro h1; have h2 : _ = _ := h1; exfalso; omega)
        replace hw := hw.chg kq_19 (by intro x h1 h2; have h3 : _ = _ := h2; exfalso; omega)
        refine WL.c_u8_u32 Tryd.underlying5 Tryd.underlying159 rfl rfl (?_)
        refine WL.nil ?_
        exact WX.one ⟨rfl, by exact Chg.refl _ _⟩
      apply DQ.step (E' := [(26, _)])
      case ho => rfl
      case hs => exact ⟨rfl, trivial⟩
      case hk => rfl
      case h1 =>
        intro wq_20 kq_20
        refine WL.num rfl rfl (n_shl32 _ _ _ _ 16 (by decide)) rfl (?_)
        refine WL.nil ?_
        exact WX.one ⟨rfl, by exact Chg.refl _ _⟩
      apply DQ.step (E' := [(19, _), (27, _)])
      case ho => rfl
      case hs => exact ⟨rfl, rfl, trivial⟩
      case hk => rfl
      case h1 =>
        intro wq_21 kq_21
        refine WL.num rfl rfl (n_or32 _ _ _ _) rfl (?_)
        refine WL.nil ?_
        exact WX.one ⟨rfl, by exact Chg.refl _ _⟩
      apply DQ.step (E' := [(0, _)])
      case ho => rfl
      case hs => exact ⟨rfl, trivial⟩
      case hk => rfl
      case h1 =>
        intro wq_22 kq_22
        refine WL.move rfl rfl (?_)
        refine WL.nil ?_
        exact WX.one ⟨rfl, by exact Chg.refl _ _⟩
      apply DQ.step (E' := [(4, _)])
      case ho => rfl
      case hs => exact ⟨rfl, trivial⟩
      case hk => rfl
      case h1 =>
        intro wq_23 kq_23
        refine WL.move rfl rfl (?_)
        refine WL.nil ?_
        exact WX.one ⟨rfl, by exact Chg.refl _ _⟩
      apply DQ.step (E' := [(30, _)])
      case ho => rfl
      case hs => exact ⟨rfl, trivial⟩
      case hk => rfl
      case h1 =>
        intro wq_24 kq_24
        refine WL.mul64 rfl rfl (by omega) rfl (?_)
        refine WL.nil ?_
        exact WX.one ⟨rfl, by exact Chg.refl _ _⟩
      apply DQ.step (E' := [(31, _)])
      case ho => rfl
      case hs => exact ⟨rfl, trivial⟩
      case hk => rfl
      case h1 =>
        intro wq_25 kq_25
        refine WL.add64 rfl rfl (by omega) rfl (?_)
        refine WL.nil ?_
        exact WX.one ⟨rfl, by exact Chg.refl _ _⟩
      apply DQ.step (E' := [(29, _), (32, _)])
      case ho => rfl
      case hs => exact ⟨rfl, rfl, trivial⟩
      case hk => rfl
      case h1 =>
        intro wq_26 kq_26
        have zs_kq_26 := kq_26.size
        replace hr := hr.chg kq_26 (by intro b h1 h2 h3; have h4 : _ = _ := h3; (try dsimp only at h2); exfalso; omega)
        replace hb1 := hb1.chg kq_26 (by intro h1; have h2 : _ = _ := h1; exfalso; omega)
        replace hw := hw.chg kq_26 (by intro x h1 h2; have h3 : _ = _ := h2; exfalso; omega)
        refine WL.indexC hr Tryd.underlying26 Tryd.sizeOf5 rfl rfl ⟨e2, rfl⟩ rfl ?_
        refine WL.nil ?_
        exact WX.one ⟨rfl, by exact Chg.refl _ _⟩
      apply DQ.step (E' := [(33, _)])
      case ho => rfl
      case hs => exact ⟨rfl, trivial⟩
      case hk => rfl
      case h1 =>
        intro wq_27 kq_27
        have zs_kq_27 := kq_27.size
        replace hr := hr.chg kq_27 (by intro b h1 h2 h3; have h4 : _ = _ := h3; (try dsimp only at h2); exfalso; omega)
        replace hb1 := hb1.chg kq_27 (by intro h1; have h2 : _ = _ := h1; exfalso; omega)
        replace hw := hw.chg kq_27 (by intro x h1 h2; have h3 : _ = _ := h2; exfalso; omega)
        refine WL.load Tryd.isAgg5 rfl ((hr.cellsAt e2) 0 _ rfl) rfl (?_)
        refine WL.nil ?_
        exact WX.one ⟨rfl, by exact Chg.refl _ _⟩
      apply DQ.step (E' := [(34, _)])
      case ho => rfl
      case hs => exact ⟨rfl, trivial⟩
      case hk => rfl
      case h1 =>
        intro wq_28 kq_28
        have zs_kq_28 := kq_28.size
        replace hr := hr.chg kq_28 (by intro b h1 h2 h3; have h4 : _ = _ := h3; (try dsimp only at h2); exfalso; omega)
        replace hb1 := hb1.chg kq_28 (by intro h1; have h2 : _ = _ := h1; exfalso; omega)
        replace hw := hw.chg kq_28 (by intro x h1 h2; have h3 : _ = _ := h2; exfalso; omega)
        refine WL.c_u8_u32 Tryd.underlying5 Tryd.underlying159 rfl rfl (?_)
        refine WL.nil ?_
        exact WX.one ⟨rfl, by exact Chg.refl _ _⟩
      apply DQ.step (E' := [(35, _)])
      case ho => rfl
      case hs => exact ⟨rfl, trivial⟩
      case hk => rfl
      case h1 =>
        intro wq_29 kq_29
        refine WL.num rfl rfl (n_shl32 _ _ _ _ 8 (by decide)) rfl (?_)
        refine WL.nil ?_
        exact WX.one ⟨rfl, by exact Chg.refl _ _⟩
      apply DQ.step (E' := [(28, _), (36, _)])
      case ho => rfl
      case hs => exact ⟨rfl, rfl, trivial⟩
      case hk => rfl
      case h1 =>
        intro wq_30 kq_30
        refine WL.num rfl rfl (n_or32 _ _ _ _) rfl (?_)
        refine WL.nil ?_
        exact WX.one ⟨rfl, by exact Chg.refl _ _⟩
      apply DQ.step (E' := [(0, _)])
      case ho => rfl
      case hs => exact ⟨rfl, trivial⟩
      case hk => rfl
      case h1 =>
        intro wq_31 kq_31
        refine WL.move rfl rfl (?_)
        refine WL.nil ?_
        exact WX.one ⟨rfl, by exact Chg.refl _ _⟩
      apply DQ.step (E' := [(4, _)])
      case ho => rfl
      case hs => exact ⟨rfl, trivial⟩
      case hk => rfl
      case h1 =>
        intro wq_32 kq_32
        refine WL.move rfl rfl (?_)
        refine WL.nil ?_
        exact WX.one ⟨rfl, by exact Chg.refl _ _⟩
      apply DQ.step (E' := [(39, _)])
      case ho => rfl
      case hs => exact ⟨rfl, trivial⟩
      case hk => rfl
      case h1 =>
        intro wq_33 kq_33
        refine WL.mul64 rfl rfl (by omega) rfl (?_)
        refine WL.nil ?_
        exact WX.one ⟨rfl, by exact Chg.refl _ _⟩
      apply DQ.step (E' := [(40, _)])
      case ho => rfl
      case hs => exact ⟨rfl, trivial⟩
      case hk => rfl
      case h1 =>
        intro wq_34 kq_34
        refine WL.add64 rfl rfl (by omega) rfl (?_)
        refine WL.nil ?_
        exact WX.one ⟨rfl, by exact Chg.refl _ _⟩
      apply DQ.step (E' := [(38, _), (41, _)])
      case ho => rfl
      case hs => exact ⟨rfl, rfl, trivial⟩
      case hk => rfl
      case h1 =>
        intro wq_35 kq_35
        have zs_kq_35 := kq_35.size
        replace hr := hr.chg kq_35 (by intro b h1 h2 h3; have h4 : _ = _ := h3; (try dsimp only at h2); exfalso; omega)
        replace hb1 := hb1.chg kq_35 (by intro h1; have h2 : _ = _ := h1; exfalso; omega)
        replace hw := hw.chg kq_35 (by intro x h1 h2; have h3 : _ = _ := h2; exfalso; omega)
        refine WL.indexC hr Tryd.underlying26 Tryd.sizeOf5 rfl rfl ⟨e3, rfl⟩ rfl ?_
        refine WL.nil ?_
        exact WX.one ⟨rfl, by exact Chg.refl _ _⟩
      apply DQ.step (E' := [(42, _)])
      case ho => rfl
      case hs => exact ⟨rfl, trivial⟩
      case hk => rfl
      case h1 =>
        intro wq_36 kq_36
        have zs_kq_36 := kq_36.size
        replace hr := hr.chg kq_36 (by intro b h1 h2 h3; have h4 : _ = _ := h3; (try dsimp only at h2); exfalso; omega)
        replace hb1 := hb1.chg kq_36 (by intro h1; have h2 : _ = _ := h1; exfalso; omega)
        replace hw := hw.chg kq_36 (by intro x h1 h2; have h3 : _ = _ := h2; exfalso; omega)
        refine WL.load Tryd.isAgg5 rfl ((hr.cellsAt e3) 0 _ rfl) rfl (?_)
        refine WL.nil ?_
        exact WX.one ⟨rfl, by exact Chg.refl _ _⟩
      apply DQ.step (E' := [(43, _)])
      case ho => rfl
      case hs => exact ⟨rfl, trivial⟩
      case hk => rfl
      case h1 =>
        intro wq_37 kq_37
        have zs_kq_37 := kq_37.size
        replace hr := hr.chg kq_37 (by intro b h1 h2 h3; have h4 : _ = _ := h3; (try dsimp only at h2); exfalso; omega)
        replace hb1 := hb1.chg kq_37 (by intro h1; have h2 : _ = _ := h1; exfalso; omega)
        replace hw := hw.chg kq_37 (by intro x h1 h2; have h3 : _ = _ := h2; exfalso; omega)
        refine WL.c_u8_u32 Tryd.underlying5 Tryd.underlying159 rfl rfl (?_)
        refine WL.nil ?_
        exact WX.one ⟨rfl, by exact Chg.refl _ _⟩
      apply DQ.step (E' := [(37, _), (44, _)])
      case ho => rfl
      case hs => exact ⟨rfl, rfl, trivial⟩
      case hk => rfl
      case h1 =>
        intro wq_38 kq_38
        refine WL.num rfl rfl (n_or32 _ _ _ _) rfl (?_)
        refine WL.nil ?_
        exact WX.one ⟨rfl, by exact Chg.refl _ _⟩
      apply DQ.step (E' := [(3, _), (12, _)])
      case ho => rfl
      case hs => exact ⟨rfl, rfl, trivial⟩
      case hk => rfl
      case h1 =>
        intro wq_39 kq_39
        have zs_kq_39 := kq_39.size
        replace hr := hr.chg kq_39 (by intro b h1 h2 h3; have h4 : _ = _ := h3; (try dsimp only at h2); exfalso; omega)
        replace hb1 := hb1.chg kq_39 (by intro h1; have h2 : _ = _ := h1; exfalso; omega)
        replace hw := hw.chg kq_39 (by intro x h1 h2; have h3 : _ = _ := h2; exfalso; omega)
        refine WL.indexArr (t) Tryd.underlying163 Tryd.sizeOf159 rfl rfl ⟨by omega, by omega⟩ rfl ?_
        refine WL.nil ?_
        exact WX.one ⟨rfl, by exact Chg.refl _ _⟩
      refine DQ.done (fun hd_4 => ?_)
      refine DL.step [(46, _), (45, _)] rfl ⟨rfl, rfl, trivial⟩ rfl (fun wq_40 kq_40 => ?_)
      have zs_kq_40 := kq_40.size
      replace hr := hr.pure kq_40
      replace hb1 := hb1.pure kq_40
      replace hb2 := hb2.pure kq_40
      replace hw := hw.pure kq_40
      replace hd_4 := hd_4.pure kq_40
      refine WL.store Tryd.sizeOf159 hb2 rfl rfl rfl (by simp; omega) ?_
      intro w_41 hs_41 hn_41 k_41
      have zs_k_41 := k_41.size
      replace hr := hr.chg k_41 (by intro b h1 h2 h3; have h4 : _ = _ := h3; (try dsimp only at h2); exfalso; omega)
      replace hb1 := hb1.chg k_41 (by intro h1; have h2 : _ = _ := h1; exfalso; omega)
      replace hw := hw.chg k_41 (by intro x h1 h2; have h3 : _ = _ := h2; exfalso; omega)
      replace hd_4 := hd_4.chg k_41 (by intro x h1 h2; exact h2)
      replace hb2 := hn_41
      refine WL.nil ?_
      refine WX.one0 (v := undef) ⟨hd_4, ?_⟩
      refine DL.done (fun we_42 ke_42 => ?_)
      have zs_ke_42 := ke_42.size
      replace hr := hr.pure ke_42
      replace hb1 := hb1.pure ke_42
      replace hb2 := hb2.pure ke_42
      replace hw := hw.pure ke_42
      replace hd_4 := hd_4.pure ke_42
      refine WX.then_normal (WC.exit (WX.then_exit (WX.block_here (WX.then_normal (WC.region (WL.add64 rfl rfl (by omega) rfl (WL.move rfl rfl (?_))))))))
      refine WL.nil (?_)
      refine WX.loop_next (t + 1) ⟨rfl, rfl, rfl, rfl, trivial⟩ ⟨by omega, hr, hb1, ?_, hw⟩ (by show _ - _ < _ - _; omega)
      rw [← sch_set (b := b) (t := t) (by omega)]
      first
        | (rw [nextW, if_pos (by omega)]; exact hb2)
        | (rw [nextW, if_neg (by omega)]; exact hb2)
    ·
      refine WL.nil (WX.then_normal (WC.cond_false rfl (WC.skip (WX.then_normal (WC.seq (?_))))))
      have f15 := sch_at (b := b) (t := t) (i := t - 15) (by omega)
      have f2 := sch_at (b := b) (t := t) (i := t - 2) (by omega)
      refine WC.draw (Nob) [0, 1, 2, 3, 4, 5, 6, 7, 8, 9] [] mixed rfl rfl (fun wd_3 kd_3 zd_3 => ?_)
      have zs_kd_3 := kd_3.size
      replace hr := hr.pure kd_3
      replace hb1 := hb1.pure kd_3
      replace hb2 := hb2.pure kd_3
      replace hw := hw.pure kd_3
      apply DQ.step (E' := [(4, _)])
      case ho => rfl
      case hs => exact ⟨rfl, trivial⟩
      case hk => rfl
      case h1 =>
        intro wq_4 kq_4
        refine WL.move rfl rfl (?_)
        refine WL.nil ?_
        exact WX.one ⟨rfl, by exact Chg.refl _ _⟩
      apply DQ.step (E' := [(47, _)])
      case ho => rfl
      case hs => exact ⟨rfl, trivial⟩
      case hk => rfl
      case h1 =>
        intro wq_5 kq_5
        refine WL.sub64 rfl rfl (by omega) rfl (?_)
        refine WL.nil ?_
        exact WX.one ⟨rfl, by exact Chg.refl _ _⟩
      apply DQ.step (E' := [(3, _), (48, _)])
      case ho => rfl
      case hs => exact ⟨rfl, rfl, trivial⟩
      case hk => rfl
      case h1 =>
        intro wq_6 kq_6
        have zs_kq_6 := kq_6.size
        replace hr := hr.pure kq_6
        replace hb1 := hb1.pure kq_6
        replace hb2 := hb2.pure kq_6
        replace hw := hw.pure kq_6
        refine WL.indexArr (t - 15) Tryd.underlying163 Tryd.sizeOf159 rfl rfl ⟨by omega, by omega⟩ rfl ?_
        refine WL.nil ?_
        exact WX.one ⟨rfl, by exact Chg.refl _ _⟩
      apply DQ.step (E' := [(49, _)])
      case ho => rfl
      case hs => exact ⟨rfl, trivial⟩
      case hk => rfl
      case h1 =>
        intro wq_7 kq_7
        have zs_kq_7 := kq_7.size
        replace hr := hr.pure kq_7
        replace hb1 := hb1.pure kq_7
        replace hb2 := hb2.pure kq_7
        replace hw := hw.pure kq_7
        refine WL.loadB Tryd.isAgg159 hb2 rfl (map_at _ f15) rfl (?_)
        refine WL.nil ?_
        exact WX.one ⟨rfl, by exact Chg.refl _ _⟩
      apply DQ.step (E' := [(4, _)])
      case ho => rfl
      case hs => exact ⟨rfl, trivial⟩
      case hk => rfl
      case h1 =>
        intro wq_8 kq_8
        refine WL.move rfl rfl (?_)
        refine WL.nil ?_
        exact WX.one ⟨rfl, by exact Chg.refl _ _⟩
      apply DQ.step (E' := [(51, _)])
      case ho => rfl
      case hs => exact ⟨rfl, trivial⟩
      case hk => rfl
      case h1 =>
        intro wq_9 kq_9
        refine WL.sub64 rfl rfl (by omega) rfl (?_)
        refine WL.nil ?_
        exact WX.one ⟨rfl, by exact Chg.refl _ _⟩
      apply DQ.step (E' := [(3, _), (52, _)])
      case ho => rfl
      case hs => exact ⟨rfl, rfl, trivial⟩
      case hk => rfl
      case h1 =>
        intro wq_10 kq_10
        have zs_kq_10 := kq_10.size
        replace hr := hr.pure kq_10
        replace hb1 := hb1.pure kq_10
        replace hb2 := hb2.pure kq_10
        replace hw := hw.pure kq_10
        refine WL.indexArr (t - 2) Tryd.underlying163 Tryd.sizeOf159 rfl rfl ⟨by omega, by omega⟩ rfl ?_
        refine WL.nil ?_
        exact WX.one ⟨rfl, by exact Chg.refl _ _⟩
      apply DQ.step (E' := [(53, _)])
      case ho => rfl
      case hs => exact ⟨rfl, trivial⟩
      case hk => rfl
      case h1 =>
        intro wq_11 kq_11
        have zs_kq_11 := kq_11.size
        replace hr := hr.pure kq_11
        replace hb1 := hb1.pure kq_11
        replace hb2 := hb2.pure kq_11
        replace hw := hw.pure kq_11
        refine WL.loadB Tryd.isAgg159 hb2 rfl (map_at _ f2) rfl (?_)
        refine WL.nil ?_
        exact WX.one ⟨rfl, by exact Chg.refl _ _⟩
      apply DQ.step (E' := [(50, _)])
      case ho => rfl
      case hs => exact ⟨rfl, trivial⟩
      case hk => rfl
      case h1 =>
        intro wq_12 kq_12
        refine WL.assign rfl rfl (?_)
        refine WL.nil ?_
        exact WX.one ⟨rfl, by exact Chg.refl _ _⟩
      apply DQ.step (E' := [(54, _)])
      case ho => rfl
      case hs => exact ⟨rfl, trivial⟩
      case hk => rfl
      case h1 =>
        intro wq_13 kq_13
        refine WL.assign rfl rfl (?_)
        refine WL.nil ?_
        exact WX.one ⟨rfl, by exact Chg.refl _ _⟩
      refine DQ.done (fun _ => ?_)
      refine DL.done (fun we_14 ke_14 => ?_)
      have zs_ke_14 := ke_14.size
      replace hr := hr.pure ke_14
      replace hb1 := hb1.pure ke_14
      replace hb2 := hb2.pure ke_14
      replace hw := hw.pure ke_14
      refine WX.then_normal (?_)
      refine WC.drawJ (fun x => x = g_2) (JS b t g_2) JS.pure [0, 1, 2, 3, 4, 5, 6, 7, 8, 9, 10, 11, 12, 13, 14, 15, 16, 17, 18, 19, 20, 21, 22, 23, 24, 25, 26, 27, 28] [29] mixed rfl rfl (JS.init hb2) (fun wd_15 kd_15 zd_15 => ?_)
      have zs_kd_15 := kd_15.size
      replace hr := hr.pure kd_15
      replace hb1 := hb1.pure kd_15
      replace hb2 := hb2.pure kd_15
      replace hw := hw.pure kd_15
      apply DQ.step (E' := [(4, _)])
      case ho => rfl
      case hs => exact ⟨rfl, trivial⟩
      case hk => rfl
      case h1 =>
        rintro wq_17 ⟨kq_17, jq⟩
        refine WL.move rfl rfl (?_)
        refine WL.nil ?_
        exact WX.one ⟨rfl, by exact Chg.refl _ _⟩
      apply DQ.step (E' := [(4, _)])
      case ho => rfl
      case hs => exact ⟨rfl, trivial⟩
      case hk => rfl
      case h1 =>
        rintro wq_18 ⟨kq_18, jq⟩
        refine WL.move rfl rfl (?_)
        refine WL.nil ?_
        exact WX.one ⟨rfl, by exact Chg.refl _ _⟩
      apply DQ.step (E' := [(56, _)])
      case ho => rfl
      case hs => exact ⟨rfl, trivial⟩
      case hk => rfl
      case h1 =>
        rintro wq_19 ⟨kq_19, jq⟩
        refine WL.sub64 rfl rfl (by omega) rfl (?_)
        refine WL.nil ?_
        exact WX.one ⟨rfl, by exact Chg.refl _ _⟩
      apply DQ.step (E' := [(3, _), (57, _)])
      case ho => rfl
      case hs => exact ⟨rfl, rfl, trivial⟩
      case hk => rfl
      case h1 =>
        rintro wq_20 ⟨kq_20, jq⟩
        have zs_kq_20 := kq_20.size
        replace hr := hr.chg kq_20 (by intro b h1 h2 h3; have h4 : _ = _ := h3; (try dsimp only at h2); exfalso; omega)
        replace hb1 := hb1.chg kq_20 (by intro h1; have h2 : _ = _ := h1; exfalso; omega)
        replace hw := hw.chg kq_20 (by intro x h1 h2; have h3 : _ = _ := h2; exfalso; omega)
        refine WL.indexArr (t - 16) Tryd.underlying163 Tryd.sizeOf159 rfl rfl ⟨by omega, by omega⟩ rfl ?_
        refine WL.nil ?_
        exact WX.one ⟨rfl, by exact Chg.refl _ _⟩
      apply DQ.step (E' := [(58, _)])
      case ho => rfl
      case hs => exact ⟨rfl, trivial⟩
      case hk => rfl
      case h1 =>
        rintro wq_21 ⟨kq_21, jq⟩
        have zs_kq_21 := kq_21.size
        replace hr := hr.chg kq_21 (by intro b h1 h2 h3; have h4 : _ = _ := h3; (try dsimp only at h2); exfalso; omega)
        replace hb1 := hb1.chg kq_21 (by intro h1; have h2 : _ = _ := h1; exfalso; omega)
        replace hw := hw.chg kq_21 (by intro x h1 h2; have h3 : _ = _ := h2; exfalso; omega)
        obtain ⟨cs, hq, hcs⟩ := jq
        refine WL.loadB Tryd.isAgg159 hq rfl (hcs (t - 16) (by omega)) rfl ?_
        refine WL.nil ?_
        exact WX.one ⟨rfl, by exact Chg.refl _ _⟩
      apply DQ.step (E' := [(5, _)])
      case ho => rfl
      case hs => exact ⟨rfl, trivial⟩
      case hk => rfl
      case h1 =>
        rintro wq_22 ⟨kq_22, jq⟩
        refine WL.move rfl rfl (?_)
        refine WL.nil ?_
        exact WX.one ⟨rfl, by exact Chg.refl _ _⟩
      apply DQ.step (E' := [(60, _)])
      case ho => rfl
      case hs => exact ⟨rfl, trivial⟩
      case hk => rfl
      case h1 =>
        rintro wq_23 ⟨kq_23, jq⟩
        have zs_kq_23 := kq_23.size
        replace hr := hr.chg kq_23 (by intro b h1 h2 h3; have h4 : _ = _ := h3; (try dsimp only at h2); exfalso; omega)
        replace hb1 := hb1.chg kq_23 (by intro h1; have h2 : _ = _ := h1; exfalso; omega)
        replace hw := hw.chg kq_23 (by intro x h1 h2; have h3 : _ = _ := h2; exfalso; omega)
        refine WL.call eg_114 rfl rfl (ror_calls ((sch b t).getD (t - 15) 0) 7 _ (by decide)) ?_
        rintro v w4 ⟨rfl, k4⟩
        have zs_k4 := k4.size
        replace hr := hr.pure k4
        replace hb1 := hb1.pure k4
        replace hw := hw.pure k4
        refine WL.nil ?_
        exact WX.one ⟨rfl, by assumption⟩
      apply DQ.step (E' := [(5, _)])
      case ho => rfl
      case hs => exact ⟨rfl, trivial⟩
      case hk => rfl
      case h1 =>
        rintro wq_24 ⟨kq_24, jq⟩
        refine WL.move rfl rfl (?_)
        refine WL.nil ?_
        exact WX.one ⟨rfl, by exact Chg.refl _ _⟩
      apply DQ.step (E' := [(62, _)])
      case ho => rfl
      case hs => exact ⟨rfl, trivial⟩
      case hk => rfl
      case h1 =>
        rintro wq_25 ⟨kq_25, jq⟩
        have zs_kq_25 := kq_25.size
        replace hr := hr.chg kq_25 (by intro b h1 h2 h3; have h4 : _ = _ := h3; (try dsimp only at h2); exfalso; omega)
        replace hb1 := hb1.chg kq_25 (by intro h1; have h2 : _ = _ := h1; exfalso; omega)
        replace hw := hw.chg kq_25 (by intro x h1 h2; have h3 : _ = _ := h2; exfalso; omega)
        refine WL.call eg_114 rfl rfl (ror_calls ((sch b t).getD (t - 15) 0) 18 _ (by decide)) ?_
        rintro v w4 ⟨rfl, k4⟩
        have zs_k4 := k4.size
        replace hr := hr.pure k4
        replace hb1 := hb1.pure k4
        replace hw := hw.pure k4
        refine WL.nil ?_
        exact WX.one ⟨rfl, by assumption⟩
      apply DQ.step (E' := [(61, _), (63, _)])
      case ho => rfl
      case hs => exact ⟨rfl, rfl, trivial⟩
      case hk => rfl
      case h1 =>
        rintro wq_26 ⟨kq_26, jq⟩
        refine WL.num rfl rfl (n_xor32 _ _ _ _) rfl (?_)
        refine WL.nil ?_
        exact WX.one ⟨rfl, by exact Chg.refl _ _⟩
      apply DQ.step (E' := [(5, _)])
      case ho => rfl
      case hs => exact ⟨rfl, trivial⟩
      case hk => rfl
      case h1 =>
        rintro wq_27 ⟨kq_27, jq⟩
        refine WL.move rfl rfl (?_)
        refine WL.nil ?_
        exact WX.one ⟨rfl, by exact Chg.refl _ _⟩
      apply DQ.step (E' := [(65, _)])
      case ho => rfl
      case hs => exact ⟨rfl, trivial⟩
      case hk => rfl
      case h1 =>
        rintro wq_28 ⟨kq_28, jq⟩
        refine WL.num rfl rfl (n_shr32 _ _ _ _ 3 (by decide)) rfl (?_)
        refine WL.nil ?_
        exact WX.one ⟨rfl, by exact Chg.refl _ _⟩
      apply DQ.step (E' := [(64, _), (66, _)])
      case ho => rfl
      case hs => exact ⟨rfl, rfl, trivial⟩
      case hk => rfl
      case h1 =>
        rintro wq_29 ⟨kq_29, jq⟩
        refine WL.num rfl rfl (n_xor32 _ _ _ _) rfl (?_)
        refine WL.nil ?_
        exact WX.one ⟨rfl, by exact Chg.refl _ _⟩
      apply DQ.step (E' := [(59, _), (67, _)])
      case ho => rfl
      case hs => exact ⟨rfl, rfl, trivial⟩
      case hk => rfl
      case h1 =>
        rintro wq_30 ⟨kq_30, jq⟩
        refine WL.num rfl rfl (n_add32 _ _ _ _) rfl (?_)
        refine WL.nil ?_
        exact WX.one ⟨rfl, by exact Chg.refl _ _⟩
      apply DQ.step (E' := [(4, _)])
      case ho => rfl
      case hs => exact ⟨rfl, trivial⟩
      case hk => rfl
      case h1 =>
        rintro wq_31 ⟨kq_31, jq⟩
        refine WL.move rfl rfl (?_)
        refine WL.nil ?_
        exact WX.one ⟨rfl, by exact Chg.refl _ _⟩
      apply DQ.step (E' := [(69, _)])
      case ho => rfl
      case hs => exact ⟨rfl, trivial⟩
      case hk => rfl
      case h1 =>
        rintro wq_32 ⟨kq_32, jq⟩
        refine WL.sub64 rfl rfl (by omega) rfl (?_)
        refine WL.nil ?_
        exact WX.one ⟨rfl, by exact Chg.refl _ _⟩
      apply DQ.step (E' := [(3, _), (70, _)])
      case ho => rfl
      case hs => exact ⟨rfl, rfl, trivial⟩
      case hk => rfl
      case h1 =>
        rintro wq_33 ⟨kq_33, jq⟩
        have zs_kq_33 := kq_33.size
        replace hr := hr.chg kq_33 (by intro b h1 h2 h3; have h4 : _ = _ := h3; (try dsimp only at h2); exfalso; omega)
        replace hb1 := hb1.chg kq_33 (by intro h1; have h2 : _ = _ := h1; exfalso; omega)
        replace hw := hw.chg kq_33 (by intro x h1 h2; have h3 : _ = _ := h2; exfalso; omega)
        refine WL.indexArr (t - 7) Tryd.underlying163 Tryd.sizeOf159 rfl rfl ⟨by omega, by omega⟩ rfl ?_
        refine WL.nil ?_
        exact WX.one ⟨rfl, by exact Chg.refl _ _⟩
      apply DQ.step (E' := [(71, _)])
      case ho => rfl
      case hs => exact ⟨rfl, trivial⟩
      case hk => rfl
      case h1 =>
        rintro wq_34 ⟨kq_34, jq⟩
        have zs_kq_34 := kq_34.size
        replace hr := hr.chg kq_34 (by intro b h1 h2 h3; have h4 : _ = _ := h3; (try dsimp only at h2); exfalso; omega)
        replace hb1 := hb1.chg kq_34 (by intro h1; have h2 : _ = _ := h1; exfalso; omega)
        replace hw := hw.chg kq_34 (by intro x h1 h2; have h3 : _ = _ := h2; exfalso; omega)
        obtain ⟨cs, hq, hcs⟩ := jq
        refine WL.loadB Tryd.isAgg159 hq rfl (hcs (t - 7) (by omega)) rfl ?_
        refine WL.nil ?_
        exact WX.one ⟨rfl, by exact Chg.refl _ _⟩
      apply DQ.step (E' := [(68, _), (72, _)])
      case ho => rfl
      case hs => exact ⟨rfl, rfl, trivial⟩
      case hk => rfl
      case h1 =>
        rintro wq_35 ⟨kq_35, jq⟩
        refine WL.num rfl rfl (n_add32 _ _ _ _) rfl (?_)
        refine WL.nil ?_
        exact WX.one ⟨rfl, by exact Chg.refl _ _⟩
      apply DQ.step (E' := [(6, _)])
      case ho => rfl
      case hs => exact ⟨rfl, trivial⟩
      case hk => rfl
      case h1 =>
        rintro wq_36 ⟨kq_36, jq⟩
        refine WL.move rfl rfl (?_)
        refine WL.nil ?_
        exact WX.one ⟨rfl, by exact Chg.refl _ _⟩
      apply DQ.step (E' := [(74, _)])
      case ho => rfl
      case hs => exact ⟨rfl, trivial⟩
      case hk => rfl
      case h1 =>
        rintro wq_37 ⟨kq_37, jq⟩
        have zs_kq_37 := kq_37.size
        replace hr := hr.chg kq_37 (by intro b h1 h2 h3; have h4 : _ = _ := h3; (try dsimp only at h2); exfalso; omega)
        replace hb1 := hb1.chg kq_37 (by intro h1; have h2 : _ = _ := h1; exfalso; omega)
        replace hw := hw.chg kq_37 (by intro x h1 h2; have h3 : _ = _ := h2; exfalso; omega)
        refine WL.call eg_114 rfl rfl (ror_calls ((sch b t).getD (t - 2) 0) 17 _ (by decide)) ?_
        rintro v w4 ⟨rfl, k4⟩
        have zs_k4 := k4.size
        replace hr := hr.pure k4
        replace hb1 := hb1.pure k4
        replace hw := hw.pure k4
        refine WL.nil ?_
        exact WX.one ⟨rfl, by assumption⟩
      apply DQ.step (E' := [(6, _)])
      case ho => rfl
      case hs => exact ⟨rfl, trivial⟩
      case hk => rfl
      case h1 =>
        rintro wq_38 ⟨kq_38, jq⟩
        refine WL.move rfl rfl (?_)
        refine WL.nil ?_
        exact WX.one ⟨rfl, by exact Chg.refl _ _⟩
      apply DQ.step (E' := [(76, _)])
      case ho => rfl
      case hs => exact ⟨rfl, trivial⟩
      case hk => rfl
      case h1 =>
        rintro wq_39 ⟨kq_39, jq⟩
        have zs_kq_39 := kq_39.size
        replace hr := hr.chg kq_39 (by intro b h1 h2 h3; have h4 : _ = _ := h3; (try dsimp only at h2); exfalso; omega)
        replace hb1 := hb1.chg kq_39 (by intro h1; have h2 : _ = _ := h1; exfalso; omega)
        replace hw := hw.chg kq_39 (by intro x h1 h2; have h3 : _ = _ := h2; exfalso; omega)
        refine WL.call eg_114 rfl rfl (ror_calls ((sch b t).getD (t - 2) 0) 19 _ (by decide)) ?_
        rintro v w4 ⟨rfl, k4⟩
        have zs_k4 := k4.size
        replace hr := hr.pure k4
        replace hb1 := hb1.pure k4
        replace hw := hw.pure k4
        refine WL.nil ?_
        exact WX.one ⟨rfl, by assumption⟩
      apply DQ.step (E' := [(75, _), (77, _)])
      case ho => rfl
      case hs => exact ⟨rfl, rfl, trivial⟩
      case hk => rfl
      case h1 =>
        rintro wq_40 ⟨kq_40, jq⟩
        refine WL.num rfl rfl (n_xor32 _ _ _ _) rfl (?_)
        refine WL.nil ?_
        exact WX.one ⟨rfl, by exact Chg.refl _ _⟩
      apply DQ.step (E' := [(6, _)])
      case ho => rfl
      case hs => exact ⟨rfl, trivial⟩
      case hk => rfl
      case h1 =>
        rintro wq_41 ⟨kq_41, jq⟩
        refine WL.move rfl rfl (?_)
        refine WL.nil ?_
        exact WX.one ⟨rfl, by exact Chg.refl _ _⟩
      apply DQ.step (E' := [(79, _)])
      case ho => rfl
      case hs => exact ⟨rfl, trivial⟩
      case hk => rfl
      case h1 =>
        rintro wq_42 ⟨kq_42, jq⟩
        refine WL.num rfl rfl (n_shr32 _ _ _ _ 10 (by decide)) rfl (?_)
        refine WL.nil ?_
        exact WX.one ⟨rfl, by exact Chg.refl _ _⟩
      apply DQ.step (E' := [(78, _), (80, _)])
      case ho => rfl
      case hs => exact ⟨rfl, rfl, trivial⟩
      case hk => rfl
      case h1 =>
        rintro wq_43 ⟨kq_43, jq⟩
        refine WL.num rfl rfl (n_xor32 _ _ _ _) rfl (?_)
        refine WL.nil ?_
        exact WX.one ⟨rfl, by exact Chg.refl _ _⟩
      apply DQ.step (E' := [(73, _), (81, _)])
      case ho => rfl
      case hs => exact ⟨rfl, rfl, trivial⟩
      case hk => rfl
      case h1 =>
        rintro wq_44 ⟨kq_44, jq⟩
        refine WL.num rfl rfl (n_add32 _ _ _ _) rfl (?_)
        refine WL.nil ?_
        exact WX.one ⟨rfl, by exact Chg.refl _ _⟩
      apply DQ.step (E' := [(3, _), (55, _)])
      case ho => rfl
      case hs => exact ⟨rfl, rfl, trivial⟩
      case hk => rfl
      case h1 =>
        rintro wq_45 ⟨kq_45, jq⟩
        have zs_kq_45 := kq_45.size
        replace hr := hr.chg kq_45 (by intro b h1 h2 h3; have h4 : _ = _ := h3; (try dsimp only at h2); exfalso; omega)
        replace hb1 := hb1.chg kq_45 (by intro h1; have h2 : _ = _ := h1; exfalso; omega)
        replace hw := hw.chg kq_45 (by intro x h1 h2; have h3 : _ = _ := h2; exfalso; omega)
        refine WL.indexArr (t) Tryd.underlying163 Tryd.sizeOf159 rfl rfl ⟨by omega, by omega⟩ rfl ?_
        refine WL.nil ?_
        exact WX.one ⟨rfl, by exact Chg.refl _ _⟩
      refine DQ.doneJ (fun hd_16 => ?_)
      refine DL.step [(83, _), (82, _)] rfl ⟨rfl, rfl, trivial⟩ rfl (fun wq_46 kq_46 => ?_)
      have zs_kq_46 := kq_46.size
      replace hr := hr.pure kq_46
      replace hb1 := hb1.pure kq_46
      replace hb2 := hb2.pure kq_46
      replace hw := hw.pure kq_46
      replace hd_16 := hd_16.pure kq_46
      refine WL.store Tryd.sizeOf159 hb2 rfl rfl rfl (by simp; omega) ?_
      intro w_47 hs_47 hn_47 k_47
      have zs_k_47 := k_47.size
      replace hr := hr.chg k_47 (by intro b h1 h2 h3; have h4 : _ = _ := h3; (try dsimp only at h2); exfalso; omega)
      replace hb1 := hb1.chg k_47 (by intro h1; have h2 : _ = _ := h1; exfalso; omega)
      replace hw := hw.chg k_47 (by intro x h1 h2; have h3 : _ = _ := h2; exfalso; omega)
      replace hd_16 := hd_16.chg k_47 (by intro x h1 h2; exact h2)
      replace hb2 := hn_47
      refine WL.nil ?_
      refine WX.one0 (v := undef) ⟨⟨hd_16, (by exact JS.set hb2)⟩, ?_⟩
      refine DL.done (fun we_48 ke_48 => ?_)
      have zs_ke_48 := ke_48.size
      replace hr := hr.pure ke_48
      replace hb1 := hb1.pure ke_48
      replace hb2 := hb2.pure ke_48
      replace hw := hw.pure ke_48
      replace hd_16 := hd_16.pure ke_48
      refine WX.block_normal (WX.then_normal (WC.region (WL.add64 rfl rfl (by omega) rfl (WL.move rfl rfl (WL.nil (?_))))))
      refine WX.loop_next (t + 1) ⟨rfl, rfl, rfl, rfl, trivial⟩ ⟨by omega, hr, hb1, ?_, hw⟩ (by show _ - _ < _ - _; omega)
      rw [← sch_set (b := b) (t := t) (by omega)]
      first
        | (rw [nextW, if_pos (by omega)]; exact hb2)
        | (rw [nextW, if_neg (by omega)]; exact hb2)
  ·
    refine WL.nil (WX.then_normal (WC.seq (WC.cond_false rfl (WC.exit (WX.then_exit (WX.then_exit (WX.block_here (?_))))))))
    refine WX.then_normal (WC.seq (WC.region (WL.loadsB Tryd.isAgg163 Tryd.sizeOf163 hb2 rfl (by simp; omega) rfl (?_))))
    refine WL.stores Tryd.sizeOf163 hb1 rfl rfl (by simp; omega) (by intro u hu; obtain ⟨x, _, rfl⟩ := List.mem_map.1 hu; rfl) (by simp; omega) rfl ?_
    intro w_3 hs_3 hn_3 k_3
    have zs_k_3 := k_3.size
    replace hr := hr.chg k_3 (by intro b h1 h2 h3; have h4 : _ = _ := h3; (try dsimp only at h2); exfalso; omega)
    replace hb2 := hb2.chg k_3 (by intro h1; have h2 : _ = _ := h1; exfalso; omega)
    replace hw := hw.chg k_3 (by intro x h1 h2; have h3 : _ = _ := h2; exfalso; omega)
    replace hb1 := hn_3
    refine WL.nil (WX.then_normal (WC.ret (?_)))
    refine WX.ret1c (.inl rfl) Tryd.results113 Tryd.isAgg163 Tryd.sizeOf163 hb1 rfl (by simp; omega) ?_
    have ht64 : t = 64 := by omega
    subst ht64
    refine ⟨_, rfl, ?_, hw⟩
    simp
    omega
end Go.Proofs.YtjeldcjchipdgaaDoor
namespace Go.Proofs.YtjeldcjchipdgaaDoor
open Go.RowKit Go.HL
set_option maxRecDepth 100000

def V8.add (s v : V8) : V8 := ⟨s.a + v.a, s.b + v.b, s.c + v.c, s.d + v.d, s.e + v.e, s.f + v.f, s.g + v.g, s.h + v.h⟩
def V8.list (v : V8) : List UInt32 := [v.a, v.b, v.c, v.d, v.e, v.f, v.g, v.h]
theorem V8.cells_eq (v : V8) : v.cells = v.list.map v32 := rfl
theorem mix_eq (s : V8) (b : List UInt8) : mix s b = s.add (roundsN (sch b 64) s 64) := rfl
/-- the first i parts are added -/
def addTo (s v : V8) (i : Nat) : List UInt32 := (s.add v).list.take i ++ s.list.drop i
theorem addTo_len (s v : V8) (i : Nat) (h : i ≤ 8) : (addTo s v i).length = 8 := by
  simp [addTo, V8.list]
  omega
theorem addTo_at {s v : V8} {i : Nat} (h : i < 8) : (addTo s v i)[i]? = some (s.list.getD i 0) ∧ v.list[i]? = some (v.list.getD i 0) ∧ (addTo s v i).set i (s.list.getD i 0 + v.list.getD i 0) = addTo s v (i + 1) := by
  have h8 : i = 0 ∨ i = 1 ∨ i = 2 ∨ i = 3 ∨ i = 4 ∨ i = 5 ∨ i = 6 ∨ i = 7 := by omega
  rcases h8 with rfl | rfl | rfl | rfl | rfl | rfl | rfl | rfl <;> exact ⟨rfl, rfl, rfl⟩
theorem getD_at {xs : List UInt32} {i : Nat} (h : i < xs.length) : xs[i]? = some (xs.getD i 0) := by
  rw [List.getD_eq_getElem?_getD, List.getElem?_eq_getElem h]
  rfl
set_option maxHeartbeats 1000000 in
theorem mix_calls {S : Nat → Prop} {w : World} {gs gk : Nat} {s : V8} {ao : Option Addr} {c : Nat} {b : List UInt8} (hs : Blk w gs 161 s.cells) (hk : Blk w gk 163 (K256.map v32)) (hr : RSl S w eb ao c b) (hl : b.length = 64) (hsk : gs ≠ gk) :
    Calls Tryd.prog 106 [.pointer (some ⟨gs, 0, none⟩), .slice ao b.length c, .pointer (some ⟨gk, 0, none⟩)].toArray w (Ret fun v w' => v = .tuple #[] ∧ Blk w' gs 161 (mix s b).cells ∧ Chg (fun x => x = gs) w w') := by
  have hw := Chg.refl Nob w
  replace hs : Blk w gs 161 [v32 s.a, v32 s.b, v32 s.c, v32 s.d, v32 s.e, v32 s.f, v32 s.g, v32 s.h] := hs
  have ls := hs.lt
  have lk := hk.lt
  refine Calls.of_WC Tryd.func106 rfl Tryd.ntmps106 (by simp) ?_
  refine WC.seq (WC.region (WL.move rfl rfl (?_)))
  refine WL.call eg_113 rfl rfl (schedule_calls hr hl) ?_
  rintro v w1 ⟨rfl, k⟩
  obtain ⟨ws, hws⟩ : ∃ ws, ws = sch b 64 := ⟨_, rfl⟩
  have hsl : ws.length = 64 := by rw [hws]; exact sch_len b 64
  rw [← hws]
  have zs_k := k.size
  replace hs := hs.pure k
  replace hk := hk.pure k
  replace hw := hw.pure k
  refine WL.alloc Tryd.zeroValue163 rfl ?_
  intro g_1 w_1 hge_1 hlt_1 hb_1 k_1
  have zs_k_1 := k_1.size
  replace hs := hs.pure k_1
  replace hk := hk.pure k_1
  replace hw := hw.pure k_1
  refine WL.stores Tryd.sizeOf163 hb_1 rfl rfl (by simp; omega) (by intro u hu; obtain ⟨x, _, rfl⟩ := List.mem_map.1 hu; rfl) (by simp [Value.cells]; omega) rfl ?_
  intro w_2 hs_2 hn_2 k_2
  have zs_k_2 := k_2.size
  replace hs := hs.chg k_2 (by intro h1; have h2 : _ = _ := h1; exfalso; omega)
  replace hk := hk.chg k_2 (by intro h1; have h2 : _ = _ := h1; exfalso; omega)
  replace hw := hw.chg k_2 (by intro x h1 h2; have h3 : _ = _ := h2; exfalso; omega)
  replace hb_1 := hn_2
  refine WL.nil (WX.then_normal (WC.seq (WC.region (WL.move rfl rfl (WL.nilCheck rfl rfl (WL.loadsB Tryd.isAgg161 Tryd.sizeOf161 hs rfl (by simp; done) rfl (?_)))))))
  refine WL.alloc Tryd.zeroValue161 rfl ?_
  intro g_3 w_3 hge_3 hlt_3 hb_3 k_3
  have zs_k_3 := k_3.size
  replace hs := hs.pure k_3
  replace hk := hk.pure k_3
  replace hw := hw.pure k_3
  replace hb_1 := hb_1.pure k_3
  refine WL.stores Tryd.sizeOf161 hb_3 rfl rfl (by simp; done) (by simp [Value.oneCell']; done) (by simp [Value.cells]; done) rfl ?_
  intro w_4 hs_4 hn_4 k_4
  have zs_k_4 := k_4.size
  replace hs := hs.chg k_4 (by intro h1; have h2 : _ = _ := h1; exfalso; omega)
  replace hk := hk.chg k_4 (by intro h1; have h2 : _ = _ := h1; exfalso; omega)
  replace hw := hw.chg k_4 (by intro x h1 h2; have h3 : _ = _ := h2; exfalso; omega)
  replace hb_1 := hb_1.chg k_4 (by intro h1; have h2 : _ = _ := h1; exfalso; omega)
  replace hb_3 := hn_4
  refine WL.nil (WX.then_normal (WC.seq (WC.seq (WC.region (WL.move rfl rfl (WL.nil (WX.then_normal (?_))))))))
  refine WC.block (?_)
  have e6 : ∀ zs : List Value, zs.length = 64 → List.take 0 zs ++ List.map v32 ws ++ List.drop (0 + (List.map v32 ws).length) zs = List.map v32 ws := by
    intro zs hz
    rw [List.drop_eq_nil_of_le (by simp; omega)]
    simp
  rw [e6 _ rfl] at hb_1
  refine WC.loop (σ := Nat) (fun t => [(0, .pointer (some ⟨gs, 0, none⟩)), (2, .pointer (some ⟨gk, 0, none⟩)), (6, .pointer (some ⟨g_1, 0, none⟩)), (7, .pointer (some ⟨g_3, 0, none⟩)), (19, vi t)])
    (fun t w' => t ≤ 64 ∧ Blk w' gs 161 [v32 s.a, v32 s.b, v32 s.c, v32 s.d, v32 s.e, v32 s.f, v32 s.g, v32 s.h] ∧ Blk w' gk 163 (K256.map v32) ∧ Blk w' g_1 163 (ws.map v32) ∧ Blk w' g_3 161 (roundsN ws s t).cells ∧ Chg Nob w w') (fun t => 64 - t) 0 ⟨rfl, rfl, rfl, rfl, rfl, trivial⟩ ⟨by omega, hs, hk, ?_, hb_3, hw⟩ ?_
  ·
    exact hb_1
  clear hs hk hb_1 hb_3 hw
  rintro t w9 ⟨ht, hs, hk, h6, h7, hw⟩
  obtain ⟨V, hV⟩ : ∃ V, V = roundsN ws s t := ⟨_, rfl⟩
  rw [← hV] at h7
  replace h7 : Blk w9 g_3 161 [v32 V.a, v32 V.b, v32 V.c, v32 V.d, v32 V.e, v32 V.f, v32 V.g, v32 V.h] := h7
  refine WC.seq (WC.region (?_))
  refine WL.lss? rfl rfl rfl (fun h20 => ?_) (fun h20 => ?_)
  ·
    refine WL.nil (WX.then_normal (WC.seq (WC.cond_true rfl (WC.skip (WX.then_normal (WC.seq (WC.block (?_))))))))
    refine WC.seq (WC.region (WL.move rfl rfl (WL.assign rfl rfl (WL.nil (WX.then_normal (WC.seq (?_)))))))
    refine WC.draw (Nob) [0, 1, 2, 3, 4, 5] [] mixed rfl rfl (fun wd_5 kd_5 zd_5 => ?_)
    have zs_kd_5 := kd_5.size
    replace hs := hs.pure kd_5
    replace hk := hk.pure kd_5
    replace h6 := h6.pure kd_5
    replace h7 := h7.pure kd_5
    replace hw := hw.pure kd_5
    apply DQ.step (E' := [(7, _)])
    case ho => rfl
    case hs => exact ⟨rfl, trivial⟩
    case hk => rfl
    case h1 =>
      intro wq_6 kq_6
      have zs_kq_6 := kq_6.size
      replace hs := hs.pure kq_6
      replace hk := hk.pure kq_6
      replace h6 := h6.pure kq_6
      replace h7 := h7.pure kq_6
      replace hw := hw.pure kq_6
      refine WL.indexArr 4 Tryd.underlying161 Tryd.sizeOf159 rfl rfl ⟨rfl, by decide⟩ rfl (?_)
      refine WL.nil ?_
      exact WX.one ⟨rfl, by exact Chg.refl _ _⟩
    apply DQ.step (E' := [(22, _)])
    case ho => rfl
    case hs => exact ⟨rfl, trivial⟩
    case hk => rfl
    case h1 =>
      intro wq_7 kq_7
      have zs_kq_7 := kq_7.size
      replace hs := hs.pure kq_7
      replace hk := hk.pure kq_7
      replace h6 := h6.pure kq_7
      replace h7 := h7.pure kq_7
      replace hw := hw.pure kq_7
      refine WL.loadB Tryd.isAgg159 h7 rfl rfl rfl (?_)
      refine WL.nil ?_
      exact WX.one ⟨rfl, by exact Chg.refl _ _⟩
    apply DQ.step (E' := [(7, _)])
    case ho => rfl
    case hs => exact ⟨rfl, trivial⟩
    case hk => rfl
    case h1 =>
      intro wq_8 kq_8
      have zs_kq_8 := kq_8.size
      replace hs := hs.pure kq_8
      replace hk := hk.pure kq_8
      replace h6 := h6.pure kq_8
      replace h7 := h7.pure kq_8
      replace hw := hw.pure kq_8
      refine WL.indexArr 0 Tryd.underlying161 Tryd.sizeOf159 rfl rfl ⟨rfl, by decide⟩ rfl (?_)
      refine WL.nil ?_
      exact WX.one ⟨rfl, by exact Chg.refl _ _⟩
    apply DQ.step (E' := [(24, _)])
    case ho => rfl
    case hs => exact ⟨rfl, trivial⟩
    case hk => rfl
    case h1 =>
      intro wq_9 kq_9
      have zs_kq_9 := kq_9.size
      replace hs := hs.pure kq_9
      replace hk := hk.pure kq_9
      replace h6 := h6.pure kq_9
      replace h7 := h7.pure kq_9
      replace hw := hw.pure kq_9
      refine WL.loadB Tryd.isAgg159 h7 rfl rfl rfl (?_)
      refine WL.nil ?_
      exact WX.one ⟨rfl, by exact Chg.refl _ _⟩
    apply DQ.step (E' := [(23, _)])
    case ho => rfl
    case hs => exact ⟨rfl, trivial⟩
    case hk => rfl
    case h1 =>
      intro wq_10 kq_10
      refine WL.assign rfl rfl (?_)
      refine WL.nil ?_
      exact WX.one ⟨rfl, by exact Chg.refl _ _⟩
    apply DQ.step (E' := [(25, _)])
    case ho => rfl
    case hs => exact ⟨rfl, trivial⟩
    case hk => rfl
    case h1 =>
      intro wq_11 kq_11
      refine WL.assign rfl rfl (?_)
      refine WL.nil ?_
      exact WX.one ⟨rfl, by exact Chg.refl _ _⟩
    refine DQ.done (fun _ => ?_)
    refine DL.done (fun we_12 ke_12 => ?_)
    have zs_ke_12 := ke_12.size
    replace hs := hs.pure ke_12
    replace hk := hk.pure ke_12
    replace h6 := h6.pure ke_12
    replace h7 := h7.pure ke_12
    replace hw := hw.pure ke_12
    refine WX.then_normal (WC.seq (?_))
    have fk := getD_at (xs := K256) (i := t) (by show t < 64; omega)
    have fw := getD_at (xs := ws) (i := t) (by omega)
    refine WC.draw (Nob) [0, 1, 2, 3, 4, 5, 6, 7, 8, 9, 10, 11, 12, 13, 14, 15, 16, 17, 18, 19, 20, 21, 22, 23, 24, 25, 26, 27, 28, 29, 30, 31, 32] [] mixed rfl rfl (fun wd_13 kd_13 zd_13 => ?_)
    have zs_kd_13 := kd_13.size
    replace hs := hs.pure kd_13
    replace hk := hk.pure kd_13
    replace h6 := h6.pure kd_13
    replace h7 := h7.pure kd_13
    replace hw := hw.pure kd_13
    apply DQ.step (E' := [(7, _)])
    case ho => rfl
    case hs => exact ⟨rfl, trivial⟩
    case hk => rfl
    case h1 =>
      intro wq_14 kq_14
      have zs_kq_14 := kq_14.size
      replace hs := hs.pure kq_14
      replace hk := hk.pure kq_14
      replace h6 := h6.pure kq_14
      replace h7 := h7.pure kq_14
      replace hw := hw.pure kq_14
      refine WL.indexArr 7 Tryd.underlying161 Tryd.sizeOf159 rfl rfl ⟨rfl, by decide⟩ rfl (?_)
      refine WL.nil ?_
      exact WX.one ⟨rfl, by exact Chg.refl _ _⟩
    apply DQ.step (E' := [(26, _)])
    case ho => rfl
    case hs => exact ⟨rfl, trivial⟩
    case hk => rfl
    case h1 =>
      intro wq_15 kq_15
      have zs_kq_15 := kq_15.size
      replace hs := hs.pure kq_15
      replace hk := hk.pure kq_15
      replace h6 := h6.pure kq_15
      replace h7 := h7.pure kq_15
      replace hw := hw.pure kq_15
      refine WL.loadB Tryd.isAgg159 h7 rfl rfl rfl (?_)
      refine WL.nil ?_
      exact WX.one ⟨rfl, by exact Chg.refl _ _⟩
    apply DQ.step (E' := [(9, _)])
    case ho => rfl
    case hs => exact ⟨rfl, trivial⟩
    case hk => rfl
    case h1 =>
      intro wq_16 kq_16
      refine WL.move rfl rfl (?_)
      refine WL.nil ?_
      exact WX.one ⟨rfl, by exact Chg.refl _ _⟩
    apply DQ.step (E' := [(28, _)])
    case ho => rfl
    case hs => exact ⟨rfl, trivial⟩
    case hk => rfl
    case h1 =>
      intro wq_17 kq_17
      have zs_kq_17 := kq_17.size
      replace hs := hs.pure kq_17
      replace hk := hk.pure kq_17
      replace h6 := h6.pure kq_17
      replace h7 := h7.pure kq_17
      replace hw := hw.pure kq_17
      refine WL.call eg_114 rfl rfl (ror_calls V.e 6 _ (by decide)) ?_
      rintro v w4 ⟨rfl, k4⟩
      have zs_k4 := k4.size
      replace hs := hs.pure k4
      replace hk := hk.pure k4
      replace h6 := h6.pure k4
      replace h7 := h7.pure k4
      replace hw := hw.pure k4
      refine WL.nil ?_
      exact WX.one ⟨rfl, by assumption⟩
    apply DQ.step (E' := [(9, _)])
    case ho => rfl
    case hs => exact ⟨rfl, trivial⟩
    case hk => rfl
    case h1 =>
      intro wq_18 kq_18
      refine WL.move rfl rfl (?_)
      refine WL.nil ?_
      exact WX.one ⟨rfl, by exact Chg.refl _ _⟩
    apply DQ.step (E' := [(30, _)])
    case ho => rfl
    case hs => exact ⟨rfl, trivial⟩
    case hk => rfl
    case h1 =>
      intro wq_19 kq_19
      have zs_kq_19 := kq_19.size
      replace hs := hs.pure kq_19
      replace hk := hk.pure kq_19
      replace h6 := h6.pure kq_19
      replace h7 := h7.pure kq_19
      replace hw := hw.pure kq_19
      refine WL.call eg_114 rfl rfl (ror_calls V.e 11 _ (by decide)) ?_
      rintro v w4 ⟨rfl, k4⟩
      have zs_k4 := k4.size
      replace hs := hs.pure k4
      replace hk := hk.pure k4
      replace h6 := h6.pure k4
      replace h7 := h7.pure k4
      replace hw := hw.pure k4
      refine WL.nil ?_
      exact WX.one ⟨rfl, by assumption⟩
    apply DQ.step (E' := [(29, _), (31, _)])
    case ho => rfl
    case hs => exact ⟨rfl, rfl, trivial⟩
    case hk => rfl
    case h1 =>
      intro wq_20 kq_20
      refine WL.num rfl rfl (n_xor32 _ _ _ _) rfl (?_)
      refine WL.nil ?_
      exact WX.one ⟨rfl, by exact Chg.refl _ _⟩
    apply DQ.step (E' := [(9, _)])
    case ho => rfl
    case hs => exact ⟨rfl, trivial⟩
    case hk => rfl
    case h1 =>
      intro wq_21 kq_21
      refine WL.move rfl rfl (?_)
      refine WL.nil ?_
      exact WX.one ⟨rfl, by exact Chg.refl _ _⟩
    apply DQ.step (E' := [(33, _)])
    case ho => rfl
    case hs => exact ⟨rfl, trivial⟩
    case hk => rfl
    case h1 =>
      intro wq_22 kq_22
      have zs_kq_22 := kq_22.size
      replace hs := hs.pure kq_22
      replace hk := hk.pure kq_22
      replace h6 := h6.pure kq_22
      replace h7 := h7.pure kq_22
      replace hw := hw.pure kq_22
      refine WL.call eg_114 rfl rfl (ror_calls V.e 25 _ (by decide)) ?_
      rintro v w4 ⟨rfl, k4⟩
      have zs_k4 := k4.size
      replace hs := hs.pure k4
      replace hk := hk.pure k4
      replace h6 := h6.pure k4
      replace h7 := h7.pure k4
      replace hw := hw.pure k4
      refine WL.nil ?_
      exact WX.one ⟨rfl, by assumption⟩
    apply DQ.step (E' := [(32, _), (34, _)])
    case ho => rfl
    case hs => exact ⟨rfl, rfl, trivial⟩
    case hk => rfl
    case h1 =>
      intro wq_23 kq_23
      refine WL.num rfl rfl (n_xor32 _ _ _ _) rfl (?_)
      refine WL.nil ?_
      exact WX.one ⟨rfl, by exact Chg.refl _ _⟩
    apply DQ.step (E' := [(27, _), (35, _)])
    case ho => rfl
    case hs => exact ⟨rfl, rfl, trivial⟩
    case hk => rfl
    case h1 =>
      intro wq_24 kq_24
      refine WL.num rfl rfl (n_add32 _ _ _ _) rfl (?_)
      refine WL.nil ?_
      exact WX.one ⟨rfl, by exact Chg.refl _ _⟩
    apply DQ.step (E' := [(9, _)])
    case ho => rfl
    case hs => exact ⟨rfl, trivial⟩
    case hk => rfl
    case h1 =>
      intro wq_25 kq_25
      refine WL.move rfl rfl (?_)
      refine WL.nil ?_
      exact WX.one ⟨rfl, by exact Chg.refl _ _⟩
    apply DQ.step (E' := [(7, _)])
    case ho => rfl
    case hs => exact ⟨rfl, trivial⟩
    case hk => rfl
    case h1 =>
      intro wq_26 kq_26
      have zs_kq_26 := kq_26.size
      replace hs := hs.pure kq_26
      replace hk := hk.pure kq_26
      replace h6 := h6.pure kq_26
      replace h7 := h7.pure kq_26
      replace hw := hw.pure kq_26
      refine WL.indexArr 5 Tryd.underlying161 Tryd.sizeOf159 rfl rfl ⟨rfl, by decide⟩ rfl (?_)
      refine WL.nil ?_
      exact WX.one ⟨rfl, by exact Chg.refl _ _⟩
    apply DQ.step (E' := [(38, _)])
    case ho => rfl
    case hs => exact ⟨rfl, trivial⟩
    case hk => rfl
    case h1 =>
      intro wq_27 kq_27
      have zs_kq_27 := kq_27.size
      replace hs := hs.pure kq_27
      replace hk := hk.pure kq_27
      replace h6 := h6.pure kq_27
      replace h7 := h7.pure kq_27
      replace hw := hw.pure kq_27
      refine WL.loadB Tryd.isAgg159 h7 rfl rfl rfl (?_)
      refine WL.nil ?_
      exact WX.one ⟨rfl, by exact Chg.refl _ _⟩
    apply DQ.step (E' := [(37, _), (39, _)])
    case ho => rfl
    case hs => exact ⟨rfl, rfl, trivial⟩
    case hk => rfl
    case h1 =>
      intro wq_28 kq_28
      refine WL.num rfl rfl (n_and32 _ _ _ _) rfl (?_)
      refine WL.nil ?_
      exact WX.one ⟨rfl, by exact Chg.refl _ _⟩
    apply DQ.step (E' := [(9, _)])
    case ho => rfl
    case hs => exact ⟨rfl, trivial⟩
    case hk => rfl
    case h1 =>
      intro wq_29 kq_29
      refine WL.move rfl rfl (?_)
      refine WL.nil ?_
      exact WX.one ⟨rfl, by exact Chg.refl _ _⟩
    apply DQ.step (E' := [(41, _)])
    case ho => rfl
    case hs => exact ⟨rfl, trivial⟩
    case hk => rfl
    case h1 =>
      intro wq_30 kq_30
      refine WL.not32 rfl rfl (?_)
      refine WL.nil ?_
      exact WX.one ⟨rfl, by exact Chg.refl _ _⟩
    apply DQ.step (E' := [(7, _)])
    case ho => rfl
    case hs => exact ⟨rfl, trivial⟩
    case hk => rfl
    case h1 =>
      intro wq_31 kq_31
      have zs_kq_31 := kq_31.size
      replace hs := hs.pure kq_31
      replace hk := hk.pure kq_31
      replace h6 := h6.pure kq_31
      replace h7 := h7.pure kq_31
      replace hw := hw.pure kq_31
      refine WL.indexArr 6 Tryd.underlying161 Tryd.sizeOf159 rfl rfl ⟨rfl, by decide⟩ rfl (?_)
      refine WL.nil ?_
      exact WX.one ⟨rfl, by exact Chg.refl _ _⟩
    apply DQ.step (E' := [(43, _)])
    case ho => rfl
    case hs => exact ⟨rfl, trivial⟩
    case hk => rfl
    case h1 =>
      intro wq_32 kq_32
      have zs_kq_32 := kq_32.size
      replace hs := hs.pure kq_32
      replace hk := hk.pure kq_32
      replace h6 := h6.pure kq_32
      replace h7 := h7.pure kq_32
      replace hw := hw.pure kq_32
      refine WL.loadB Tryd.isAgg159 h7 rfl rfl rfl (?_)
      refine WL.nil ?_
      exact WX.one ⟨rfl, by exact Chg.refl _ _⟩
    apply DQ.step (E' := [(42, _), (44, _)])
    case ho => rfl
    case hs => exact ⟨rfl, rfl, trivial⟩
    case hk => rfl
    case h1 =>
      intro wq_33 kq_33
      refine WL.num rfl rfl (n_and32 _ _ _ _) rfl (?_)
      refine WL.nil ?_
      exact WX.one ⟨rfl, by exact Chg.refl _ _⟩
    apply DQ.step (E' := [(40, _), (45, _)])
    case ho => rfl
    case hs => exact ⟨rfl, rfl, trivial⟩
    case hk => rfl
    case h1 =>
      intro wq_34 kq_34
      refine WL.num rfl rfl (n_xor32 _ _ _ _) rfl (?_)
      refine WL.nil ?_
      exact WX.one ⟨rfl, by exact Chg.refl _ _⟩
    apply DQ.step (E' := [(36, _), (46, _)])
    case ho => rfl
    case hs => exact ⟨rfl, rfl, trivial⟩
    case hk => rfl
    case h1 =>
      intro wq_35 kq_35
      refine WL.num rfl rfl (n_add32 _ _ _ _) rfl (?_)
      refine WL.nil ?_
      exact WX.one ⟨rfl, by exact Chg.refl _ _⟩
    apply DQ.step (E' := [(2, _)])
    case ho => rfl
    case hs => exact ⟨rfl, trivial⟩
    case hk => rfl
    case h1 =>
      intro wq_36 kq_36
      refine WL.move rfl rfl (?_)
      refine WL.nil ?_
      exact WX.one ⟨rfl, by exact Chg.refl _ _⟩
    apply DQ.step (E' := [(8, _)])
    case ho => rfl
    case hs => exact ⟨rfl, trivial⟩
    case hk => rfl
    case h1 =>
      intro wq_37 kq_37
      refine WL.move rfl rfl (?_)
      refine WL.nil ?_
      exact WX.one ⟨rfl, by exact Chg.refl _ _⟩
    apply DQ.step (E' := [(48, _)])
    case ho => rfl
    case hs => exact ⟨rfl, trivial⟩
    case hk => rfl
    case h1 =>
      intro wq_38 kq_38
      refine WL.nilCheck rfl rfl (?_)
      refine WL.nil ?_
      exact WX.one ⟨rfl, by exact Chg.refl _ _⟩
    apply DQ.step (E' := [(50, _), (49, _)])
    case ho => rfl
    case hs => exact ⟨rfl, rfl, trivial⟩
    case hk => rfl
    case h1 =>
      intro wq_39 kq_39
      have zs_kq_39 := kq_39.size
      replace hs := hs.pure kq_39
      replace hk := hk.pure kq_39
      replace h6 := h6.pure kq_39
      replace h7 := h7.pure kq_39
      replace hw := hw.pure kq_39
      refine WL.indexArr (t) Tryd.underlying163 Tryd.sizeOf159 rfl rfl ⟨by omega, by omega⟩ rfl ?_
      refine WL.nil ?_
      exact WX.one ⟨rfl, by exact Chg.refl _ _⟩
    apply DQ.step (E' := [(51, _)])
    case ho => rfl
    case hs => exact ⟨rfl, trivial⟩
    case hk => rfl
    case h1 =>
      intro wq_40 kq_40
      have zs_kq_40 := kq_40.size
      replace hs := hs.pure kq_40
      replace hk := hk.pure kq_40
      replace h6 := h6.pure kq_40
      replace h7 := h7.pure kq_40
      replace hw := hw.pure kq_40
      refine WL.loadB Tryd.isAgg159 hk rfl (map_at _ fk) rfl (?_)
      refine WL.nil ?_
      exact WX.one ⟨rfl, by exact Chg.refl _ _⟩
    apply DQ.step (E' := [(47, _), (52, _)])
    case ho => rfl
    case hs => exact ⟨rfl, rfl, trivial⟩
    case hk => rfl
    case h1 =>
      intro wq_41 kq_41
      refine WL.num rfl rfl (n_add32 _ _ _ _) rfl (?_)
      refine WL.nil ?_
      exact WX.one ⟨rfl, by exact Chg.refl _ _⟩
    apply DQ.step (E' := [(8, _)])
    case ho => rfl
    case hs => exact ⟨rfl, trivial⟩
    case hk => rfl
    case h1 =>
      intro wq_42 kq_42
      refine WL.move rfl rfl (?_)
      refine WL.nil ?_
      exact WX.one ⟨rfl, by exact Chg.refl _ _⟩
    apply DQ.step (E' := [(6, _), (54, _)])
    case ho => rfl
    case hs => exact ⟨rfl, rfl, trivial⟩
    case hk => rfl
    case h1 =>
      intro wq_43 kq_43
      have zs_kq_43 := kq_43.size
      replace hs := hs.pure kq_43
      replace hk := hk.pure kq_43
      replace h6 := h6.pure kq_43
      replace h7 := h7.pure kq_43
      replace hw := hw.pure kq_43
      refine WL.indexArr (t) Tryd.underlying163 Tryd.sizeOf159 rfl rfl ⟨by omega, by omega⟩ rfl ?_
      refine WL.nil ?_
      exact WX.one ⟨rfl, by exact Chg.refl _ _⟩
    apply DQ.step (E' := [(55, _)])
    case ho => rfl
    case hs => exact ⟨rfl, trivial⟩
    case hk => rfl
    case h1 =>
      intro wq_44 kq_44
      have zs_kq_44 := kq_44.size
      replace hs := hs.pure kq_44
      replace hk := hk.pure kq_44
      replace h6 := h6.pure kq_44
      replace h7 := h7.pure kq_44
      replace hw := hw.pure kq_44
      refine WL.loadB Tryd.isAgg159 h6 rfl (map_at _ fw) rfl (?_)
      refine WL.nil ?_
      exact WX.one ⟨rfl, by exact Chg.refl _ _⟩
    apply DQ.step (E' := [(53, _), (56, _)])
    case ho => rfl
    case hs => exact ⟨rfl, rfl, trivial⟩
    case hk => rfl
    case h1 =>
      intro wq_45 kq_45
      refine WL.num rfl rfl (n_add32 _ _ _ _) rfl (?_)
      refine WL.nil ?_
      exact WX.one ⟨rfl, by exact Chg.refl _ _⟩
    apply DQ.step (E' := [(57, _)])
    case ho => rfl
    case hs => exact ⟨rfl, trivial⟩
    case hk => rfl
    case h1 =>
      intro wq_46 kq_46
      refine WL.assign rfl rfl (?_)
      refine WL.nil ?_
      exact WX.one ⟨rfl, by exact Chg.refl _ _⟩
    refine DQ.done (fun _ => ?_)
    refine DL.done (fun we_47 ke_47 => ?_)
    have zs_ke_47 := ke_47.size
    replace hs := hs.pure ke_47
    replace hk := hk.pure ke_47
    replace h6 := h6.pure ke_47
    replace h7 := h7.pure ke_47
    replace hw := hw.pure ke_47
    refine WX.then_normal (WC.seq (?_))
    refine WC.draw (Nob) [0, 1, 2, 3, 4, 5, 6, 7, 8, 9, 10, 11, 12, 13, 14, 15, 16, 17, 18, 19, 20, 21, 22, 23, 24] [] mixed rfl rfl (fun wd_48 kd_48 zd_48 => ?_)
    have zs_kd_48 := kd_48.size
    replace hs := hs.pure kd_48
    replace hk := hk.pure kd_48
    replace h6 := h6.pure kd_48
    replace h7 := h7.pure kd_48
    replace hw := hw.pure kd_48
    apply DQ.step (E' := [(10, _)])
    case ho => rfl
    case hs => exact ⟨rfl, trivial⟩
    case hk => rfl
    case h1 =>
      intro wq_49 kq_49
      refine WL.move rfl rfl (?_)
      refine WL.nil ?_
      exact WX.one ⟨rfl, by exact Chg.refl _ _⟩
    apply DQ.step (E' := [(58, _)])
    case ho => rfl
    case hs => exact ⟨rfl, trivial⟩
    case hk => rfl
    case h1 =>
      intro wq_50 kq_50
      have zs_kq_50 := kq_50.size
      replace hs := hs.pure kq_50
      replace hk := hk.pure kq_50
      replace h6 := h6.pure kq_50
      replace h7 := h7.pure kq_50
      replace hw := hw.pure kq_50
      refine WL.call eg_114 rfl rfl (ror_calls V.a 2 _ (by decide)) ?_
      rintro v w4 ⟨rfl, k4⟩
      have zs_k4 := k4.size
      replace hs := hs.pure k4
      replace hk := hk.pure k4
      replace h6 := h6.pure k4
      replace h7 := h7.pure k4
      replace hw := hw.pure k4
      refine WL.nil ?_
      exact WX.one ⟨rfl, by assumption⟩
    apply DQ.step (E' := [(10, _)])
    case ho => rfl
    case hs => exact ⟨rfl, trivial⟩
    case hk => rfl
    case h1 =>
      intro wq_51 kq_51
      refine WL.move rfl rfl (?_)
      refine WL.nil ?_
      exact WX.one ⟨rfl, by exact Chg.refl _ _⟩
    apply DQ.step (E' := [(60, _)])
    case ho => rfl
    case hs => exact ⟨rfl, trivial⟩
    case hk => rfl
    case h1 =>
      intro wq_52 kq_52
      have zs_kq_52 := kq_52.size
      replace hs := hs.pure kq_52
      replace hk := hk.pure kq_52
      replace h6 := h6.pure kq_52
      replace h7 := h7.pure kq_52
      replace hw := hw.pure kq_52
      refine WL.call eg_114 rfl rfl (ror_calls V.a 13 _ (by decide)) ?_
      rintro v w4 ⟨rfl, k4⟩
      have zs_k4 := k4.size
      replace hs := hs.pure k4
      replace hk := hk.pure k4
      replace h6 := h6.pure k4
      replace h7 := h7.pure k4
      replace hw := hw.pure k4
      refine WL.nil ?_
      exact WX.one ⟨rfl, by assumption⟩
    apply DQ.step (E' := [(59, _), (61, _)])
    case ho => rfl
    case hs => exact ⟨rfl, rfl, trivial⟩
    case hk => rfl
    case h1 =>
      intro wq_53 kq_53
      refine WL.num rfl rfl (n_xor32 _ _ _ _) rfl (?_)
      refine WL.nil ?_
      exact WX.one ⟨rfl, by exact Chg.refl _ _⟩
    apply DQ.step (E' := [(10, _)])
    case ho => rfl
    case hs => exact ⟨rfl, trivial⟩
    case hk => rfl
    case h1 =>
      intro wq_54 kq_54
      refine WL.move rfl rfl (?_)
      refine WL.nil ?_
      exact WX.one ⟨rfl, by exact Chg.refl _ _⟩
    apply DQ.step (E' := [(63, _)])
    case ho => rfl
    case hs => exact ⟨rfl, trivial⟩
    case hk => rfl
    case h1 =>
      intro wq_55 kq_55
      have zs_kq_55 := kq_55.size
      replace hs := hs.pure kq_55
      replace hk := hk.pure kq_55
      replace h6 := h6.pure kq_55
      replace h7 := h7.pure kq_55
      replace hw := hw.pure kq_55
      refine WL.call eg_114 rfl rfl (ror_calls V.a 22 _ (by decide)) ?_
      rintro v w4 ⟨rfl, k4⟩
      have zs_k4 := k4.size
      replace hs := hs.pure k4
      replace hk := hk.pure k4
      replace h6 := h6.pure k4
      replace h7 := h7.pure k4
      replace hw := hw.pure k4
      refine WL.nil ?_
      exact WX.one ⟨rfl, by assumption⟩
    apply DQ.step (E' := [(62, _), (64, _)])
    case ho => rfl
    case hs => exact ⟨rfl, rfl, trivial⟩
    case hk => rfl
    case h1 =>
      intro wq_56 kq_56
      refine WL.num rfl rfl (n_xor32 _ _ _ _) rfl (?_)
      refine WL.nil ?_
      exact WX.one ⟨rfl, by exact Chg.refl _ _⟩
    apply DQ.step (E' := [(10, _)])
    case ho => rfl
    case hs => exact ⟨rfl, trivial⟩
    case hk => rfl
    case h1 =>
      intro wq_57 kq_57
      refine WL.move rfl rfl (?_)
      refine WL.nil ?_
      exact WX.one ⟨rfl, by exact Chg.refl _ _⟩
    apply DQ.step (E' := [(7, _)])
    case ho => rfl
    case hs => exact ⟨rfl, trivial⟩
    case hk => rfl
    case h1 =>
      intro wq_58 kq_58
      have zs_kq_58 := kq_58.size
      replace hs := hs.pure kq_58
      replace hk := hk.pure kq_58
      replace h6 := h6.pure kq_58
      replace h7 := h7.pure kq_58
      replace hw := hw.pure kq_58
      refine WL.indexArr 1 Tryd.underlying161 Tryd.sizeOf159 rfl rfl ⟨rfl, by decide⟩ rfl (?_)
      refine WL.nil ?_
      exact WX.one ⟨rfl, by exact Chg.refl _ _⟩
    apply DQ.step (E' := [(67, _)])
    case ho => rfl
    case hs => exact ⟨rfl, trivial⟩
    case hk => rfl
    case h1 =>
      intro wq_59 kq_59
      have zs_kq_59 := kq_59.size
      replace hs := hs.pure kq_59
      replace hk := hk.pure kq_59
      replace h6 := h6.pure kq_59
      replace h7 := h7.pure kq_59
      replace hw := hw.pure kq_59
      refine WL.loadB Tryd.isAgg159 h7 rfl rfl rfl (?_)
      refine WL.nil ?_
      exact WX.one ⟨rfl, by exact Chg.refl _ _⟩
    apply DQ.step (E' := [(66, _), (68, _)])
    case ho => rfl
    case hs => exact ⟨rfl, rfl, trivial⟩
    case hk => rfl
    case h1 =>
      intro wq_60 kq_60
      refine WL.num rfl rfl (n_and32 _ _ _ _) rfl (?_)
      refine WL.nil ?_
      exact WX.one ⟨rfl, by exact Chg.refl _ _⟩
    apply DQ.step (E' := [(10, _)])
    case ho => rfl
    case hs => exact ⟨rfl, trivial⟩
    case hk => rfl
    case h1 =>
      intro wq_61 kq_61
      refine WL.move rfl rfl (?_)
      refine WL.nil ?_
      exact WX.one ⟨rfl, by exact Chg.refl _ _⟩
    apply DQ.step (E' := [(7, _)])
    case ho => rfl
    case hs => exact ⟨rfl, trivial⟩
    case hk => rfl
    case h1 =>
      intro wq_62 kq_62
      have zs_kq_62 := kq_62.size
      replace hs := hs.pure kq_62
      replace hk := hk.pure kq_62
      replace h6 := h6.pure kq_62
      replace h7 := h7.pure kq_62
      replace hw := hw.pure kq_62
      refine WL.indexArr 2 Tryd.underlying161 Tryd.sizeOf159 rfl rfl ⟨rfl, by decide⟩ rfl (?_)
      refine WL.nil ?_
      exact WX.one ⟨rfl, by exact Chg.refl _ _⟩
    apply DQ.step (E' := [(71, _)])
    case ho => rfl
    case hs => exact ⟨rfl, trivial⟩
    case hk => rfl
    case h1 =>
      intro wq_63 kq_63
      have zs_kq_63 := kq_63.size
      replace hs := hs.pure kq_63
      replace hk := hk.pure kq_63
      replace h6 := h6.pure kq_63
      replace h7 := h7.pure kq_63
      replace hw := hw.pure kq_63
      refine WL.loadB Tryd.isAgg159 h7 rfl rfl rfl (?_)
      refine WL.nil ?_
      exact WX.one ⟨rfl, by exact Chg.refl _ _⟩
    apply DQ.step (E' := [(70, _), (72, _)])
    case ho => rfl
    case hs => exact ⟨rfl, rfl, trivial⟩
    case hk => rfl
    case h1 =>
      intro wq_64 kq_64
      refine WL.num rfl rfl (n_and32 _ _ _ _) rfl (?_)
      refine WL.nil ?_
      exact WX.one ⟨rfl, by exact Chg.refl _ _⟩
    apply DQ.step (E' := [(69, _), (73, _)])
    case ho => rfl
    case hs => exact ⟨rfl, rfl, trivial⟩
    case hk => rfl
    case h1 =>
      intro wq_65 kq_65
      refine WL.num rfl rfl (n_xor32 _ _ _ _) rfl (?_)
      refine WL.nil ?_
      exact WX.one ⟨rfl, by exact Chg.refl _ _⟩
    apply DQ.step (E' := [(7, _)])
    case ho => rfl
    case hs => exact ⟨rfl, trivial⟩
    case hk => rfl
    case h1 =>
      intro wq_66 kq_66
      have zs_kq_66 := kq_66.size
      replace hs := hs.pure kq_66
      replace hk := hk.pure kq_66
      replace h6 := h6.pure kq_66
      replace h7 := h7.pure kq_66
      replace hw := hw.pure kq_66
      refine WL.indexArr 1 Tryd.underlying161 Tryd.sizeOf159 rfl rfl ⟨rfl, by decide⟩ rfl (?_)
      refine WL.nil ?_
      exact WX.one ⟨rfl, by exact Chg.refl _ _⟩
    apply DQ.step (E' := [(75, _)])
    case ho => rfl
    case hs => exact ⟨rfl, trivial⟩
    case hk => rfl
    case h1 =>
      intro wq_67 kq_67
      have zs_kq_67 := kq_67.size
      replace hs := hs.pure kq_67
      replace hk := hk.pure kq_67
      replace h6 := h6.pure kq_67
      replace h7 := h7.pure kq_67
      replace hw := hw.pure kq_67
      refine WL.loadB Tryd.isAgg159 h7 rfl rfl rfl (?_)
      refine WL.nil ?_
      exact WX.one ⟨rfl, by exact Chg.refl _ _⟩
    apply DQ.step (E' := [(7, _)])
    case ho => rfl
    case hs => exact ⟨rfl, trivial⟩
    case hk => rfl
    case h1 =>
      intro wq_68 kq_68
      have zs_kq_68 := kq_68.size
      replace hs := hs.pure kq_68
      replace hk := hk.pure kq_68
      replace h6 := h6.pure kq_68
      replace h7 := h7.pure kq_68
      replace hw := hw.pure kq_68
      refine WL.indexArr 2 Tryd.underlying161 Tryd.sizeOf159 rfl rfl ⟨rfl, by decide⟩ rfl (?_)
      refine WL.nil ?_
      exact WX.one ⟨rfl, by exact Chg.refl _ _⟩
    apply DQ.step (E' := [(77, _)])
    case ho => rfl
    case hs => exact ⟨rfl, trivial⟩
    case hk => rfl
    case h1 =>
      intro wq_69 kq_69
      have zs_kq_69 := kq_69.size
      replace hs := hs.pure kq_69
      replace hk := hk.pure kq_69
      replace h6 := h6.pure kq_69
      replace h7 := h7.pure kq_69
      replace hw := hw.pure kq_69
      refine WL.loadB Tryd.isAgg159 h7 rfl rfl rfl (?_)
      refine WL.nil ?_
      exact WX.one ⟨rfl, by exact Chg.refl _ _⟩
    apply DQ.step (E' := [(76, _), (78, _)])
    case ho => rfl
    case hs => exact ⟨rfl, rfl, trivial⟩
    case hk => rfl
    case h1 =>
      intro wq_70 kq_70
      refine WL.num rfl rfl (n_and32 _ _ _ _) rfl (?_)
      refine WL.nil ?_
      exact WX.one ⟨rfl, by exact Chg.refl _ _⟩
    apply DQ.step (E' := [(74, _), (79, _)])
    case ho => rfl
    case hs => exact ⟨rfl, rfl, trivial⟩
    case hk => rfl
    case h1 =>
      intro wq_71 kq_71
      refine WL.num rfl rfl (n_xor32 _ _ _ _) rfl (?_)
      refine WL.nil ?_
      exact WX.one ⟨rfl, by exact Chg.refl _ _⟩
    apply DQ.step (E' := [(65, _), (80, _)])
    case ho => rfl
    case hs => exact ⟨rfl, rfl, trivial⟩
    case hk => rfl
    case h1 =>
      intro wq_72 kq_72
      refine WL.num rfl rfl (n_add32 _ _ _ _) rfl (?_)
      refine WL.nil ?_
      exact WX.one ⟨rfl, by exact Chg.refl _ _⟩
    apply DQ.step (E' := [(81, _)])
    case ho => rfl
    case hs => exact ⟨rfl, trivial⟩
    case hk => rfl
    case h1 =>
      intro wq_73 kq_73
      refine WL.assign rfl rfl (?_)
      refine WL.nil ?_
      exact WX.one ⟨rfl, by exact Chg.refl _ _⟩
    refine DQ.done (fun _ => ?_)
    refine DL.done (fun we_74 ke_74 => ?_)
    have zs_ke_74 := ke_74.size
    replace hs := hs.pure ke_74
    replace hk := hk.pure ke_74
    replace h6 := h6.pure ke_74
    replace h7 := h7.pure ke_74
    replace hw := hw.pure ke_74
    refine WX.then_normal (WC.region (WL.move rfl rfl (WL.move rfl rfl (WL.num rfl rfl (n_add32 _ _ _ _) rfl (WL.indexArr 0 Tryd.underlying161 Tryd.sizeOf159 rfl rfl ⟨rfl, by decide⟩ rfl (WL.loadB Tryd.isAgg159 h7 rfl rfl rfl (WL.indexArr 1 Tryd.underlying161 Tryd.sizeOf159 rfl rfl ⟨rfl, by decide⟩ rfl (?_))))))))
    refine WL.loadB Tryd.isAgg159 h7 rfl rfl rfl (WL.indexArr 2 Tryd.underlying161 Tryd.sizeOf159 rfl rfl ⟨rfl, by decide⟩ rfl (WL.loadB Tryd.isAgg159 h7 rfl rfl rfl (WL.indexArr 3 Tryd.underlying161 Tryd.sizeOf159 rfl rfl ⟨rfl, by decide⟩ rfl (WL.loadB Tryd.isAgg159 h7 rfl rfl rfl (WL.move rfl rfl (WL.num rfl rfl (n_add32 _ _ _ _) rfl (WL.indexArr 4 Tryd.underlying161 Tryd.sizeOf159 rfl rfl ⟨rfl, by decide⟩ rfl (?_))))))))
    refine WL.loadB Tryd.isAgg159 h7 rfl rfl rfl (WL.indexArr 5 Tryd.underlying161 Tryd.sizeOf159 rfl rfl ⟨rfl, by decide⟩ rfl (WL.loadB Tryd.isAgg159 h7 rfl rfl rfl (WL.indexArr 6 Tryd.underlying161 Tryd.sizeOf159 rfl rfl ⟨rfl, by decide⟩ rfl (WL.loadB Tryd.isAgg159 h7 rfl rfl rfl (WL.bld rfl (bld_161_0_1_2_3_4_5_6_7 _ _ _ _ _ _ _ _) rfl (?_))))))
    refine WL.stores Tryd.sizeOf161 h7 rfl rfl (by simp; done) (by simp [Value.oneCell']; done) (by simp; done) rfl ?_
    intro w_75 hs_75 hn_75 k_75
    have zs_k_75 := k_75.size
    replace hs := hs.chg k_75 (by intro h1; have h2 : _ = _ := h1; exfalso; omega)
    replace hk := hk.chg k_75 (by intro h1; have h2 : _ = _ := h1; exfalso; omega)
    replace h6 := h6.chg k_75 (by intro h1; have h2 : _ = _ := h1; exfalso; omega)
    replace hw := hw.chg k_75 (by intro x h1 h2; have h3 : _ = _ := h2; exfalso; omega)
    replace h7 := hn_75
    refine WL.nil (WX.block_normal (WX.then_normal (WC.region (WL.add64 rfl rfl (by omega) rfl (WL.move rfl rfl (WL.nil (?_)))))))
    first
      | (refine WX.loop_next (t + 1) ⟨rfl, rfl, rfl, rfl, rfl, trivial⟩ ⟨by omega, hs, hk, h6, ?_, hw⟩ (by show _ - _ < _ - _; omega)
         rw [roundsN, ← hV]
         exact h7)
      | (refine WX.loop_next (i + 1) ⟨rfl, rfl, rfl, trivial⟩ ⟨by omega, ?_, h7, hw⟩ (by show _ - _ < _ - _; omega)
         rw [← f3, List.map_set]
         exact hs)
  ·
    refine WL.nil (WX.then_normal (WC.seq (WC.cond_false rfl (WC.exit (WX.then_exit (WX.then_exit (WX.block_here (?_))))))))
    refine WX.then_normal (WC.seq (WC.region (WL.move rfl rfl (WL.nil (WX.then_normal (WC.block (?_)))))))
    have ht64 : t = 64 := by omega
    rw [ht64] at hV
    refine WC.loop (σ := Nat) (fun i => [(0, .pointer (some ⟨gs, 0, none⟩)), (7, .pointer (some ⟨g_3, 0, none⟩)), (103, vi i)])
      (fun i w' => i ≤ 8 ∧ Blk w' gs 161 ((addTo s V i).map v32) ∧ Blk w' g_3 161 (V.list.map v32) ∧ Chg (fun x => x = gs) w w') (fun i => 8 - i) 0 ⟨rfl, rfl, rfl, trivial⟩ ⟨by omega, hs, h7, hw.mono (fun _ _ h => h.elim)⟩ ?_
    clear hs hk h6 h7 hw
    rintro i w9 ⟨hi, hs, h7, hw⟩
    refine WC.seq (WC.region (?_))
    refine WL.lss? rfl rfl rfl (fun h104 => ?_) (fun h104 => ?_)
    ·
      refine WL.nil (WX.then_normal (WC.seq (WC.cond_true rfl (WC.skip (WX.then_normal (WC.seq (WC.block (?_))))))))
      refine WC.seq (WC.region (WL.move rfl rfl (WL.assign rfl rfl (WL.nil (WX.then_normal (?_))))))
      obtain ⟨f1, f2, f3⟩ := addTo_at (s := s) (v := V) (i := i) (by omega)
      have hal := addTo_len s V i (by omega)
      refine WC.draw (fun x => x = gs) [0, 1, 2, 3, 5, 6, 7, 9, 10] [4, 8, 11] mixed rfl rfl (fun wd_5 kd_5 zd_5 => ?_)
      have zs_kd_5 := kd_5.size
      replace hs := hs.pure kd_5
      replace h7 := h7.pure kd_5
      replace hw := hw.pure kd_5
      apply DQ.step (E' := [(0, _)])
      case ho => rfl
      case hs => exact ⟨rfl, trivial⟩
      case hk => rfl
      case h1 =>
        intro wq_7 kq_7
        refine WL.move rfl rfl (?_)
        refine WL.nil ?_
        exact WX.one ⟨rfl, by exact Chg.refl _ _⟩
      apply DQ.step (E' := [(13, _)])
      case ho => rfl
      case hs => exact ⟨rfl, trivial⟩
      case hk => rfl
      case h1 =>
        intro wq_8 kq_8
        refine WL.move rfl rfl (?_)
        refine WL.nil ?_
        exact WX.one ⟨rfl, by exact Chg.refl _ _⟩
      apply DQ.step (E' := [(106, _)])
      case ho => rfl
      case hs => exact ⟨rfl, trivial⟩
      case hk => rfl
      case h1 =>
        intro wq_9 kq_9
        refine WL.nilCheck rfl rfl (?_)
        refine WL.nil ?_
        exact WX.one ⟨rfl, by exact Chg.refl _ _⟩
      apply DQ.step (E' := [(108, _), (107, _)])
      case ho => rfl
      case hs => exact ⟨rfl, rfl, trivial⟩
      case hk => rfl
      case h1 =>
        intro wq_10 kq_10
        have zs_kq_10 := kq_10.size
        replace h7 := h7.chg kq_10 (by intro h1; have h2 : _ = _ := h1; exfalso; omega)
        refine WL.indexArr (i) Tryd.underlying161 Tryd.sizeOf159 rfl rfl ⟨by omega, by omega⟩ rfl ?_
        refine WL.nil ?_
        exact WX.one ⟨rfl, by exact Chg.refl _ _⟩
      apply DQ.step (E' := [(13, _)])
      case ho => rfl
      case hs => exact ⟨rfl, trivial⟩
      case hk => rfl
      case h1 =>
        intro wq_11 kq_11
        refine WL.move rfl rfl (?_)
        refine WL.nil ?_
        exact WX.one ⟨rfl, by exact Chg.refl _ _⟩
      apply DQ.step (E' := [(7, _), (111, _)])
      case ho => rfl
      case hs => exact ⟨rfl, rfl, trivial⟩
      case hk => rfl
      case h1 =>
        intro wq_12 kq_12
        have zs_kq_12 := kq_12.size
        replace h7 := h7.chg kq_12 (by intro h1; have h2 : _ = _ := h1; exfalso; omega)
        refine WL.indexArr (i) Tryd.underlying161 Tryd.sizeOf159 rfl rfl ⟨by omega, by omega⟩ rfl ?_
        refine WL.nil ?_
        exact WX.one ⟨rfl, by exact Chg.refl _ _⟩
      apply DQ.step (E' := [(112, _)])
      case ho => rfl
      case hs => exact ⟨rfl, trivial⟩
      case hk => rfl
      case h1 =>
        intro wq_13 kq_13
        have zs_kq_13 := kq_13.size
        replace h7 := h7.chg kq_13 (by intro h1; have h2 : _ = _ := h1; exfalso; omega)
        refine WL.loadB Tryd.isAgg159 h7 rfl (map_at _ f2) rfl (?_)
        refine WL.nil ?_
        exact WX.one ⟨rfl, by exact Chg.refl _ _⟩
      apply DQ.step (E' := [(106, _)])
      case ho => rfl
      case hs => exact ⟨rfl, trivial⟩
      case hk => rfl
      case h1 =>
        intro wq_14 kq_14
        refine WL.nilCheck rfl rfl (?_)
        refine WL.nil ?_
        exact WX.one ⟨rfl, by exact Chg.refl _ _⟩
      apply DQ.step (E' := [(115, _), (107, _)])
      case ho => rfl
      case hs => exact ⟨rfl, rfl, trivial⟩
      case hk => rfl
      case h1 =>
        intro wq_15 kq_15
        have zs_kq_15 := kq_15.size
        replace h7 := h7.chg kq_15 (by intro h1; have h2 : _ = _ := h1; exfalso; omega)
        refine WL.indexArr (i) Tryd.underlying161 Tryd.sizeOf159 rfl rfl ⟨by omega, by omega⟩ rfl ?_
        refine WL.nil ?_
        exact WX.one ⟨rfl, by exact Chg.refl _ _⟩
      refine DQ.done (fun hd_6 => ?_)
      refine DL.step [(109, _)] rfl ⟨rfl, trivial⟩ rfl (fun wq_16 kq_16 => ?_)
      have zs_kq_16 := kq_16.size
      replace hs := hs.pure kq_16
      replace h7 := h7.pure kq_16
      replace hw := hw.pure kq_16
      replace hd_6 := hd_6.pure kq_16
      refine WL.loadB Tryd.isAgg159 hs rfl (map_at _ f1) rfl (?_)
      refine WL.nil ?_
      refine WX.one ⟨hd_6, ?_⟩
      refine DL.step [(110, _), (113, _)] rfl ⟨rfl, rfl, trivial⟩ rfl (fun wq_17 kq_17 => ?_)
      have zs_kq_17 := kq_17.size
      replace hs := hs.pure kq_17
      replace h7 := h7.pure kq_17
      replace hw := hw.pure kq_17
      replace hd_6 := hd_6.pure kq_17
      refine WL.num rfl rfl (n_add32 _ _ _ _) rfl (?_)
      refine WL.nil ?_
      refine WX.one ⟨hd_6, ?_⟩
      refine DL.step [(116, _), (114, _)] rfl ⟨rfl, rfl, trivial⟩ rfl (fun wq_18 kq_18 => ?_)
      have zs_kq_18 := kq_18.size
      replace hs := hs.pure kq_18
      replace h7 := h7.pure kq_18
      replace hw := hw.pure kq_18
      replace hd_6 := hd_6.pure kq_18
      refine WL.store Tryd.sizeOf159 hs rfl rfl rfl (by simp; omega) ?_
      intro w_19 hs_19 hn_19 k_19
      have zs_k_19 := k_19.size
      replace h7 := h7.chg k_19 (by intro h1; have h2 : _ = _ := h1; exfalso; omega)
      replace hw := hw.chg k_19 (by intro x h1 h2; exact h2)
      replace hd_6 := hd_6.chg k_19 (by intro x h1 h2; exact h2)
      replace hs := hn_19
      refine WL.nil ?_
      refine WX.one0 (v := undef) ⟨hd_6, ?_⟩
      refine DL.done (fun we_20 ke_20 => ?_)
      have zs_ke_20 := ke_20.size
      replace hs := hs.pure ke_20
      replace h7 := h7.pure ke_20
      replace hw := hw.pure ke_20
      replace hd_6 := hd_6.pure ke_20
      refine WX.block_normal (WX.then_normal (WC.region (WL.add64 rfl rfl (by omega) rfl (WL.move rfl rfl (WL.nil (?_))))))
      first
        | (refine WX.loop_next (t + 1) ⟨rfl, rfl, rfl, rfl, rfl, trivial⟩ ⟨by omega, hs, hk, h6, ?_, hw⟩ (by show _ - _ < _ - _; omega)
           rw [roundsN, ← hV]
           exact h7)
        | (refine WX.loop_next (i + 1) ⟨rfl, rfl, rfl, trivial⟩ ⟨by omega, ?_, h7, hw⟩ (by show _ - _ < _ - _; omega)
           rw [← f3, List.map_set]
           exact hs)
    ·
      refine WL.nil (WX.then_normal (WC.seq (WC.cond_false rfl (WC.exit (WX.then_exit (WX.then_exit (WX.block_here (?_))))))))
      refine WX.ret0 (.inr rfl) Tryd.results106 ?_
      have hi8 : i = 8 := by omega
      subst hi8
      refine ⟨_, rfl, rfl, ?_, hw⟩
      rw [mix_eq, ← hws, ← hV]
      exact hs
end Go.Proofs.YtjeldcjchipdgaaDoor
namespace Go.Proofs.YtjeldcjchipdgaaDoor
open Go.RowKit Go.HL
set_option maxRecDepth 100000

/-- block after block -/
def comp (s : V8) (ms : List UInt8) : V8 := if 64 ≤ ms.length then comp (mix s (ms.take 64)) (ms.drop 64) else s
termination_by ms.length
decreasing_by simp; omega
theorem comp_more {s : V8} {ms : List UInt8} (h : 64 ≤ ms.length) : comp s ms = comp (mix s (ms.take 64)) (ms.drop 64) := by rw [comp, if_pos h]
theorem comp_end {s : V8} {ms : List UInt8} (h : ms.length < 64) : comp s ms = s := by rw [comp, if_neg (by omega)]
def bytes4 (x : UInt32) : List UInt8 := [(x >>> UInt32.ofNat 24).toUInt8, (x >>> UInt32.ofNat 16).toUInt8, (x >>> UInt32.ofNat 8).toUInt8, x.toUInt8]
def sumB (b : List UInt8) : List UInt8 := (comp st0 (padded b)).list.flatMap bytes4
theorem sumB_len (b : List UInt8) : (sumB b).length = 32 := by simp [sumB, V8.list, bytes4]
theorem padded_len (b : List UInt8) : (padded b).length % 64 = 0 := by
  simp [padded, be8]
  omega
set_option maxHeartbeats 1000000 in
theorem sum_calls {S : Nat → Prop} {w : World} {ao : Option Addr} {c : Nat} {b : List UInt8} (hr : RSl S w eb ao c b) (hl : b.length ≤ 140737488351232) :
    Calls Tryd.prog 86 [.slice ao b.length c].toArray w (Ret fun v w' => v = .string ⟨(sumB b).toArray⟩ ∧ Chg Nob w w') := by
  replace hr := hr.old
  have hw := Chg.refl Nob w
  refine Calls.of_WC Tryd.func86 rfl Tryd.ntmps86 (by simp) ?_
  refine WC.seq (WC.region (WL.assign rfl rfl (WL.nil (WX.then_normal (WC.seq (WC.region (?_)))))))
  refine WL.call eg_103 rfl rfl (begin_calls _) ?_
  rintro v w1 ⟨rfl, k⟩
  rw [V8.cells_eq]
  have zs_k := k.size
  replace hr := hr.pure k
  replace hw := hw.pure k
  refine WL.call eg_104 rfl rfl (rounds_calls _) ?_
  rintro v w1 ⟨rfl, k⟩
  have zs_k := k.size
  replace hr := hr.pure k
  replace hw := hw.pure k
  refine WL.alloc Tryd.zeroValue161 rfl ?_
  intro g_1 w_1 hge_1 hlt_1 hb_1 k_1
  have zs_k_1 := k_1.size
  replace hr := hr.pure k_1
  replace hw := hw.pure k_1
  refine WL.alloc Tryd.zeroValue163 rfl ?_
  intro g_2 w_2 hge_2 hlt_2 hb_2 k_2
  have zs_k_2 := k_2.size
  replace hr := hr.pure k_2
  replace hw := hw.pure k_2
  replace hb_1 := hb_1.pure k_2
  refine WL.stores Tryd.sizeOf161 hb_1 rfl rfl (by rfl) (by intro u hu; obtain ⟨x, _, rfl⟩ := List.mem_map.1 hu; rfl) (by exact Nat.le_of_ble_eq_true rfl) rfl ?_
  intro w_3 hs_3 hn_3 k_3
  have zs_k_3 := k_3.size
  replace hr := hr.chg k_3 (by intro b h1 h2 h3; have h4 : _ = _ := h3; (try dsimp only at h2); exfalso; omega)
  replace hw := hw.chg k_3 (by intro x h1 h2; have h3 : _ = _ := h2; exfalso; omega)
  replace hb_2 := hb_2.chg k_3 (by intro h1; have h2 : _ = _ := h1; exfalso; omega)
  replace hb_1 := hn_3
  refine WL.stores Tryd.sizeOf163 hb_2 rfl rfl (by rfl) (by intro u hu; obtain ⟨x, _, rfl⟩ := List.mem_map.1 hu; rfl) (by exact Nat.le_of_ble_eq_true rfl) rfl ?_
  intro w_4 hs_4 hn_4 k_4
  have zs_k_4 := k_4.size
  replace hr := hr.chg k_4 (by intro b h1 h2 h3; have h4 : _ = _ := h3; (try dsimp only at h2); exfalso; omega)
  replace hw := hw.chg k_4 (by intro x h1 h2; have h3 : _ = _ := h2; exfalso; omega)
  replace hb_1 := hb_1.chg k_4 (by intro h1; have h2 : _ = _ := h1; exfalso; omega)
  replace hb_2 := hn_4
  refine WL.nil (WX.then_normal (WC.seq (WC.seq (WC.region (WL.move rfl rfl (?_))))))
  have hr2 := hr.old
  refine WL.call eg_105 rfl rfl (pad_calls hr2 hl) ?_
  rintro v w1 ⟨⟨a1, c1, rfl, hq⟩, k⟩
  have zs_k := k.size
  replace hw := hw.pure k
  replace hb_1 := hb_1.pure k
  replace hb_2 := hb_2.pure k
  refine WL.assign rfl rfl (WL.nil (WX.then_normal (WC.block (?_))))
  have e6 : ∀ zs : List Value, zs.length = 64 → List.take 0 zs ++ List.map v32 K256 ++ List.drop (0 + (List.map v32 K256).length) zs = List.map v32 K256 := by
    intro zs hz
    rw [List.drop_eq_nil_of_le (by simp [K256]; omega)]
    simp
  rw [e6 _ rfl] at hb_2
  have hm : RSl (fun x => g_1 < x ∧ g_2 < x) _ eb a1 c1 (padded b) := hq.rsl.mono (fun x h => by constructor <;> omega)
  refine WC.loop (σ := V8 × List UInt8 × Option Addr × Nat) (fun q => [(3, .pointer (some ⟨g_1, 0, none⟩)), (4, .pointer (some ⟨g_2, 0, none⟩)), (5, .slice q.2.2.1 q.2.1.length q.2.2.2)])
    (fun q w' => comp q.1 q.2.1 = comp st0 (padded b) ∧ q.2.1.length % 64 = 0 ∧ q.2.1.length ≤ 140737488355328 ∧ Blk w' g_1 161 q.1.cells ∧ Blk w' g_2 163 (K256.map v32) ∧ RSl (fun x => g_1 < x ∧ g_2 < x) w' eb q.2.2.1 q.2.2.2 q.2.1 ∧ Chg Nob w w') (fun q => q.2.1.length) (st0, padded b, a1, c1) ⟨rfl, rfl, rfl, trivial⟩ ⟨rfl, padded_len b, by simp [padded, be8]; omega, hb_1, hb_2, hm, hw⟩ ?_
  clear hr hw hq hm hb_1 hb_2
  rintro ⟨s, ms, am, cm⟩ w9 ⟨hcm, hm64, hmle, hb1, hb2, hm, hw⟩
  dsimp only at hcm hm64 hmle hb1 hb2 hm hw ⊢
  refine WC.seq (WC.seq (WC.region (WL.move rfl rfl (WL.len Tryd.underlying26 rfl rfl (?_)))))
  refine WL.gtr? rfl rfl rfl (fun h15 => ?_) (fun h15 => ?_)
  ·
    refine WL.nil (WX.then_normal (WC.cond_true rfl (WC.skip (WX.then_normal (WC.seq (WC.block (WC.region (?_))))))))
    refine WL.move rfl rfl (?_)
    refine WL.slice (l := 0) (h := 64) (k := .i64) Tryd.underlying26 Tryd.sizeOf5 hm rfl (.inr ⟨rfl, rfl⟩) (.inl rfl) (by constructor <;> omega) rfl ?_
    intro a_hc c_hc hc n_hc
    rw [List.drop_zero] at hc ⊢
    refine WL.call eg_106 rfl rfl (mix_calls hb1 hb2 hc (by simp; omega) (by omega)) ?_
    rintro v w1 ⟨rfl, hb1', k⟩
    have zs_k := k.size
    replace hb2 := hb2.chg k (by intro h1; have h2 : _ = _ := h1; exfalso; omega)
    replace hm := hm.chg k (by intro b h1 h2 h3; have h4 : _ = _ := h3; (try dsimp only at h2); exfalso; omega)
    replace hw := hw.chg k (by intro x h1 h2; have h3 : _ = _ := h2; exfalso; omega)
    replace hb1 := hb1'
    refine WL.nil (WX.block_normal (WX.then_normal (WC.region (WL.move rfl rfl (?_)))))
    refine WL.slice (l := 64) (h := ms.length) (j := .i64) Tryd.underlying26 Tryd.sizeOf5 hm rfl (.inl rfl) (.inr ⟨rfl, rfl⟩) (by constructor <;> omega) rfl ?_
    intro a_hm2 c_hm2 hm2 n_hm2
    refine WL.assign rfl rfl (WL.nil (?_))
    first
      | (rw [List.take_length] at hm2 ⊢
         have hml : 64 ≤ ms.length := by omega
         refine WX.loop_next (mix s (ms.take 64), ms.drop 64, a_hm2, c_hm2) ⟨rfl, rfl, rfl, trivial⟩ ⟨by rw [← hcm, comp_more hml], by simp; omega, by simp; omega, hb1, hb2, hm2, hw⟩ (by show (ms.drop 64).length < ms.length; simp; omega))
      | (have e1 : (s.list.take (i + 1)).flatMap bytes4 = (s.list.take i).flatMap bytes4 ++ bytes4 (s.list.getD i 0) := by
           rw [List.take_add_one, fv, List.flatMap_append]
           simp
         refine WX.loop_next (i + 1, a_hq2, c_hq2) ⟨rfl, rfl, ?_, trivial⟩ ⟨by dsimp only; omega, ?_, hw⟩ (by show _ - _ < _ - _; omega)
         ·
           dsimp only; rw [e1]; rfl
         ·
           dsimp only; rw [e1]; exact hq2)
  ·
    refine WL.nil (WX.then_normal (WC.cond_false rfl (WC.exit (WX.then_exit (WX.then_exit (WX.block_here (WX.then_normal (?_))))))))
    refine WC.seq (WC.region (?_))
    have zw9 := hw.size
    refine WL.make (e := eb) (0 : UInt8) 0 32 Tryd.underlying26 info_5 rfl rfl rfl ⟨rfl, rfl, by decide⟩ (by decide) rfl ?_
    intro gq wq hq kq zq eq_
    rw [show List.replicate 0 (0 : UInt8) = [] from rfl] at hq ⊢
    have zs_kq := kq.size
    replace hb1 := hb1.pure kq
    replace hb2 := hb2.pure kq
    replace hm := hm.pure kq
    replace hw := hw.pure kq
    refine WL.assign rfl rfl (WL.nil (WX.then_normal (WC.seq (WC.seq (WC.region (WL.loadsB Tryd.isAgg161 Tryd.sizeOf161 hb1 rfl (by rfl) rfl (WL.move rfl rfl (?_))))))))
    refine WL.nil (WX.then_normal (WC.block (?_)))
    have hs0 : s = comp st0 (padded b) := by rw [← hcm, comp_end (by omega)]
    have hq0 : Row (w.heap.size ≤ ·) wq 5 eb (some ⟨gq, 0, none⟩) 32 ([] : List UInt8) := hq.mono (fun b h => by omega)
    refine WC.loop (σ := Nat × Option Addr × Nat) (fun q => [(22, .agg s.cells.toArray), (23, vi q.1), (6, .slice q.2.1 ((s.list.take q.1).flatMap bytes4).length q.2.2)])
      (fun q w' => q.1 ≤ 8 ∧ Row (w.heap.size ≤ ·) w' 5 eb q.2.1 q.2.2 ((s.list.take q.1).flatMap bytes4) ∧ Chg Nob w w') (fun q => 8 - q.1) (0, some ⟨gq, 0, none⟩, 32) ⟨rfl, rfl, rfl, trivial⟩ ⟨by simp, by simpa using hq0, hw⟩ ?_
    clear hm hb1 hb2 hq hw hq0
    rintro ⟨i, ai, ci⟩ w8 ⟨hi, hq, hw⟩
    dsimp only at hi hq hw ⊢
    have zw := hw.size
    have hlen : ((s.list.take i).flatMap bytes4).length = 4 * i := by
      have h9 : i = 0 ∨ i = 1 ∨ i = 2 ∨ i = 3 ∨ i = 4 ∨ i = 5 ∨ i = 6 ∨ i = 7 ∨ i = 8 := by omega
      rcases h9 with rfl | rfl | rfl | rfl | rfl | rfl | rfl | rfl | rfl <;> rfl
    refine WC.seq (WC.region (?_))
    refine WL.lss? rfl rfl rfl (fun h24 => ?_) (fun h24 => ?_)
    ·
      refine WL.nil (WX.then_normal (WC.seq (WC.cond_true rfl (WC.skip (WX.then_normal (WC.seq (WC.block (?_))))))))
      refine WC.seq (WC.region (?_))
      have fv := getD_at (xs := s.list) (i := i) (by show i < 8; omega)
      refine WL.indexV i Tryd.underlying161 Tryd.sizeOf159 Tryd.isAgg159 rfl rfl ⟨rfl, by omega⟩ (map_at v32 fv) rfl ?_
      refine WL.assign rfl rfl (WL.nil (WX.then_normal (WC.region (WL.move rfl rfl (WL.move rfl rfl (WL.num rfl rfl (n_shr32 _ _ _ _ 24 (by decide)) rfl (WL.c_u32_u8 Tryd.underlying159 Tryd.underlying5 rfl rfl (?_))))))))
      refine WL.move rfl rfl (WL.num rfl rfl (n_shr32 _ _ _ _ 16 (by decide)) rfl (WL.c_u32_u8 Tryd.underlying159 Tryd.underlying5 rfl rfl (WL.move rfl rfl (WL.num rfl rfl (n_shr32 _ _ _ _ 8 (by decide)) rfl (WL.c_u32_u8 Tryd.underlying159 Tryd.underlying5 rfl rfl (WL.move rfl rfl (WL.c_u32_u8 Tryd.underlying159 Tryd.underlying5 rfl rfl (?_))))))))
      refine WL.build (e := eb) (bytes4 (s.list.getD i 0)) Tryd.underlying26 Tryd.sizeOf5 Tryd.zeroValue5 rfl rfl rfl (by simp [Value.cells] <;> rfl) (by decide) rfl ?_
      intro a_hn w_hn hn l_hn z_hn k_hn
      have zs_k_hn := k_hn.size
      replace hq := hq.pure k_hn
      replace hw := hw.pure k_hn
      refine WL.append (e := eb) info_5 rfl Tryd.underlying26 rfl rfl hq (hn.rsl.src Tryd.underlying26) (by (try simp only [List.length_append, List.length_cons, List.length_nil] at *); omega) (by intro b hb; first | (apply hS; omega) | ((try dsimp only); omega)) rfl ?_
      intro a_hq2 c_hq2 w_hq2 hq2 g_hq2 n_hq2
      have z_hq2 := g_hq2.chg.size
      have zs_g_hq2_chg := g_hq2.chg.size
      replace hw := hw.chg g_hq2.chg (by intros; exfalso; (try dsimp only at *); omega)
      refine WL.assign rfl rfl (WL.nil (WX.block_normal (WX.then_normal (WC.region (WL.add64 rfl rfl (by omega) rfl (WL.move rfl rfl (WL.nil (?_))))))))
      first
        | (rw [List.take_length] at hm2 ⊢
           have hml : 64 ≤ ms.length := by omega
           refine WX.loop_next (mix s (ms.take 64), ms.drop 64, a_hm2, c_hm2) ⟨rfl, rfl, rfl, trivial⟩ ⟨by rw [← hcm, comp_more hml], by simp; omega, by simp; omega, hb1, hb2, hm2, hw⟩ (by show (ms.drop 64).length < ms.length; simp; omega))
        | (have e1 : (s.list.take (i + 1)).flatMap bytes4 = (s.list.take i).flatMap bytes4 ++ bytes4 (s.list.getD i 0) := by
             rw [List.take_add_one, fv, List.flatMap_append]
             simp
           refine WX.loop_next (i + 1, a_hq2, c_hq2) ⟨rfl, rfl, ?_, trivial⟩ ⟨by dsimp only; omega, ?_, hw⟩ (by show _ - _ < _ - _; omega)
           ·
             dsimp only; rw [e1]; rfl
           ·
             dsimp only; rw [e1]; exact hq2)
    ·
      refine WL.nil (WX.then_normal (WC.seq (WC.cond_false rfl (WC.exit (WX.then_exit (WX.then_exit (WX.block_here (?_))))))))
      refine WX.then_normal (WC.seq (WC.region (WL.move rfl rfl (WL.toStr Tryd.underlying26 Tryd.underlying5 Tryd.underlying9 hq.rsl rfl rfl (WL.assign rfl rfl (WL.nil (WX.then_normal (?_))))))))
      refine WC.ret (?_)
      refine WX.ret1 (.inl rfl) Tryd.results86 rfl ?_
      have h8 : i = 8 := by omega
      subst h8
      rw [hs0]
      exact ⟨_, rfl, rfl, hw⟩
end Go.Proofs.YtjeldcjchipdgaaDoor
namespace Go.Proofs.YtjeldcjchipdgaaDoor
open Go.RowKit Go.HL
set_option maxRecDepth 100000

/-! digits -/
/-! sealed and opened -/
theorem sum_calls' {S : Nat → Prop} {w : World} {ao : Option Addr} {c : Nat} {b : List UInt8} (hr : RSl S w eb ao c b) (hl : b.length ≤ 4000) :
    Calls Tryd.prog 86 [.slice ao b.length c].toArray w (Ret fun v w' => v = .string ⟨(sumB b).toArray⟩ ∧ Chg Nob w w') := sum_calls hr (by omega)
theorem seal_calls {S : Nat → Prop} {w : World} {ao : Option Addr} {c : Nat} {b : List UInt8} (hr : RSl S w eb ao c b) (hl : b.length ≤ 4000) :
    Calls Tryd.prog 65 [.slice ao b.length c].toArray w (Ret fun v w' => (∃ (ao' : Option Addr) (c' : Nat), v = .slice ao' (b ++ sumB b).length c' ∧ Row (w.heap.size ≤ ·) w' 5 eb ao' c' (b ++ sumB b)) ∧ Chg Nob w w') := by
  replace hr := hr.old
  have hw := Chg.refl Nob w
  have hsl := sumB_len b
  refine Calls.of_WC Tryd.func65 rfl Tryd.ntmps65 (by simp) ?_
  refine WC.seq (WC.region (WL.assign rfl rfl (WL.nil (WX.then_normal (WC.seq (WC.region (WL.move rfl rfl (?_))))))))
  refine WL.call eg_85 rfl rfl (clone_calls hr (by omega)) ?_
  rintro v w1 ⟨⟨a1, c1, rfl, hq⟩, k⟩
  have zs_k := k.size
  replace hr := hr.pure k
  replace hw := hw.pure k
  refine WL.move rfl rfl (?_)
  have hr2 := hr.old
  refine WL.call eg_86 rfl rfl (sum_calls' hr2 hl) ?_
  rintro v w2 ⟨rfl, k⟩
  have zs_k := k.size
  replace hr := hr.pure k
  replace hw := hw.pure k
  replace hq := hq.pure k
  refine WL.append (e := eb) info_5 rfl Tryd.underlying26 rfl rfl hq (src_string _ Tryd.underlying9) (by (try simp only [List.length_append, List.length_cons, List.length_nil] at *); omega) (by intro b hb; first | (apply hS; omega) | ((try dsimp only); omega)) rfl ?_
  intro a_hq2 c_hq2 w_hq2 hq2 g_hq2 n_hq2
  have z_hq2 := g_hq2.chg.size
  have zs_g_hq2_chg := g_hq2.chg.size
  replace hr := hr.chg g_hq2.chg (by intros; exfalso; (try dsimp only at *); omega)
  replace hw := hw.chg g_hq2.chg (by intros; exfalso; (try dsimp only at *); omega)
  refine WL.assign rfl rfl (WL.nil (WX.then_normal (WC.ret (?_))))
  refine WX.ret1 (.inl rfl) Tryd.results65 rfl ?_
  exact ⟨_, rfl, ⟨_, _, rfl, hq2⟩, hw⟩
def openR (b : List UInt8) : List UInt8 × Int := if 32 ≤ b.length ∧ sumB (b.take (b.length - 32)) = b.drop (b.length - 32) then (b.take (b.length - 32), 0) else ([], 2)
theorem open_bad {S : Nat → Prop} {w : World} {ao : Option Addr} {c : Nat} {b : List UInt8} (hr : RSl S w eb ao c b) (hl : b.length < 32) :
    Calls Tryd.prog 69 [.slice ao b.length c].toArray w (Ret fun v w' => (∃ (ao' : Option Addr) (c' : Nat), v = .tuple #[.slice ao' (openR b).1.length c', vi (openR b).2] ∧ Row (w.heap.size ≤ ·) w' 5 eb ao' c' (openR b).1) ∧ Chg Nob w w') := by
  replace hr := hr.old
  have hw := Chg.refl Nob w
  refine Calls.of_WC Tryd.func69 rfl Tryd.ntmps69 (by simp) ?_
  refine WC.seq (WC.region (WL.assign rfl rfl (WL.assign rfl rfl (WL.nil (WX.then_normal (WC.seq (WC.region (?_))))))))
  refine WL.move rfl rfl (WL.len Tryd.underlying26 rfl rfl (WL.sub64 rfl rfl (by omega) rfl (WL.assign rfl rfl (WL.nil (WX.then_normal (WC.seq (WC.seq (?_))))))))
  refine WC.draw (Nob) [0, 1, 2, 3, 4, 5, 6, 7, 8, 9, 10, 11, 12] [] mixed rfl rfl (fun wd_1 kd_1 zd_1 => ?_)
  have zs_kd_1 := kd_1.size
  replace hr := hr.pure kd_1
  replace hw := hw.pure kd_1
  apply DQ.step (E' := [(4, _)])
  case ho => rfl
  case hs => exact ⟨rfl, trivial⟩
  case hk => rfl
  case h1 =>
    intro wq_2 kq_2
    refine WL.move rfl rfl (?_)
    refine WL.nil ?_
    exact WX.one ⟨rfl, by exact Chg.refl _ _⟩
  apply DQ.step (E' := [(8, _)])
  case ho => rfl
  case hs => exact ⟨rfl, trivial⟩
  case hk => rfl
  case h1 =>
    intro wq_3 kq_3
    refine WL.lss rfl rfl rfl ?_
    rw [show decide ((b.length : Int) - 32 < 0) = true from decide_eq_true (by omega)]
    refine WL.nil ?_
    exact WX.one ⟨rfl, by exact Chg.refl _ _⟩
  apply DQ.step (E' := [(9, _)])
  case ho => rfl
  case hs => exact ⟨rfl, trivial⟩
  case hk => rfl
  case h1 =>
    intro wq_4 kq_4
    refine WL.move rfl rfl (?_)
    refine WL.nil ?_
    exact WX.one ⟨rfl, by exact Chg.refl _ _⟩
  apply DQ.step (E' := [(0, _), (10, _)])
  case ho => rfl
  case hs => exact ⟨rfl, rfl, trivial⟩
  case hk => rfl
  case h1 =>
    intro wq_5 kq_5
    refine WL.pass rfl rfl rfl rfl (WL.nil (?_))
    exact WX.one ⟨rfl, by exact Chg.refl _ _⟩
  apply DQ.step (E' := [(4, _), (10, _)])
  case ho => rfl
  case hs => exact ⟨rfl, rfl, trivial⟩
  case hk => rfl
  case h1 =>
    intro wq_6 kq_6
    refine WL.pass rfl rfl rfl rfl (WL.nil (?_))
    exact WX.one ⟨rfl, by exact Chg.refl _ _⟩
  apply DQ.step (E' := [(11, _), (12, _), (10, _)])
  case ho => rfl
  case hs => exact ⟨rfl, rfl, rfl, trivial⟩
  case hk => rfl
  case h1 =>
    intro wq_7 kq_7
    have zs_kq_7 := kq_7.size
    replace hr := hr.pure kq_7
    replace hw := hw.pure kq_7
    refine WL.pass rfl rfl rfl rfl (WL.nil (?_))
    exact WX.one ⟨rfl, by exact Chg.refl _ _⟩
  apply DQ.step (E' := [(13, _), (10, _)])
  case ho => rfl
  case hs => exact ⟨rfl, rfl, trivial⟩
  case hk => rfl
  case h1 =>
    intro wq_8 kq_8
    have zs_kq_8 := kq_8.size
    replace hr := hr.pure kq_8
    replace hw := hw.pure kq_8
    refine WL.pass rfl rfl rfl rfl (WL.nil (?_))
    exact WX.one ⟨rfl, by exact Chg.refl _ _⟩
  apply DQ.step (E' := [(0, _), (10, _)])
  case ho => rfl
  case hs => exact ⟨rfl, rfl, trivial⟩
  case hk => rfl
  case h1 =>
    intro wq_9 kq_9
    refine WL.pass rfl rfl rfl rfl (WL.nil (?_))
    exact WX.one ⟨rfl, by exact Chg.refl _ _⟩
  apply DQ.step (E' := [(4, _), (10, _)])
  case ho => rfl
  case hs => exact ⟨rfl, rfl, trivial⟩
  case hk => rfl
  case h1 =>
    intro wq_10 kq_10
    refine WL.pass rfl rfl rfl rfl (WL.nil (?_))
    exact WX.one ⟨rfl, by exact Chg.refl _ _⟩
  apply DQ.step (E' := [(15, _), (16, _), (10, _)])
  case ho => rfl
  case hs => exact ⟨rfl, rfl, rfl, trivial⟩
  case hk => rfl
  case h1 =>
    intro wq_11 kq_11
    have zs_kq_11 := kq_11.size
    replace hr := hr.pure kq_11
    replace hw := hw.pure kq_11
    refine WL.pass rfl rfl rfl rfl (WL.nil (?_))
    exact WX.one ⟨rfl, by exact Chg.refl _ _⟩
  apply DQ.step (E' := [(17, _), (10, _)])
  case ho => rfl
  case hs => exact ⟨rfl, rfl, trivial⟩
  case hk => rfl
  case h1 =>
    intro wq_12 kq_12
    have zs_kq_12 := kq_12.size
    replace hr := hr.pure kq_12
    replace hw := hw.pure kq_12
    refine WL.pass rfl rfl rfl rfl (WL.nil (?_))
    exact WX.one ⟨rfl, by exact Chg.refl _ _⟩
  apply DQ.step (E' := [(14, _), (18, _), (10, _)])
  case ho => rfl
  case hs => exact ⟨rfl, rfl, rfl, trivial⟩
  case hk => rfl
  case h1 =>
    intro wq_13 kq_13
    refine WL.pass rfl rfl rfl rfl (WL.nil (?_))
    exact WX.one ⟨rfl, by exact Chg.refl _ _⟩
  apply DQ.step (E' := [(10, _), (19, _)])
  case ho => rfl
  case hs => exact ⟨rfl, rfl, trivial⟩
  case hk => rfl
  case h1 =>
    intro wq_14 kq_14
    refine WL.pickT rfl rfl rfl (?_)
    refine WL.nil ?_
    exact WX.one ⟨rfl, by exact Chg.refl _ _⟩
  refine DQ.done (fun _ => ?_)
  refine DL.done (fun we_15 ke_15 => ?_)
  have zs_ke_15 := ke_15.size
  replace hr := hr.pure ke_15
  replace hw := hw.pure ke_15
  refine WX.then_normal (WC.cond_true rfl (WC.seq (WC.region (WL.assign rfl rfl (WL.assign rfl rfl (WL.nil (WX.then_normal (?_))))))))
  refine WC.ret (WX.then_ret (?_))
  refine WX.ret2 (.inl rfl) Tryd.results69 rfl rfl ?_
  rw [openR, if_neg (by omega)]
  exact ⟨_, rfl, ⟨none, 0, rfl, Row.nil _ _ _ _⟩, hw⟩
theorem open_good {S : Nat → Prop} {w : World} {ao : Option Addr} {c : Nat} {b : List UInt8} (hr : RSl S w eb ao c b) (n : Nat) (hn : b.length = n + 32) (hl : b.length ≤ 4000) :
    Calls Tryd.prog 69 [.slice ao b.length c].toArray w (Ret fun v w' => (∃ (ao' : Option Addr) (c' : Nat), v = .tuple #[.slice ao' (openR b).1.length c', vi (openR b).2] ∧ Row (w.heap.size ≤ ·) w' 5 eb ao' c' (openR b).1) ∧ Chg Nob w w') := by
  replace hr := hr.old
  have hw := Chg.refl Nob w
  have hc1 := hr.cut 0 n ⟨by omega, by omega⟩
  have hc2 := hr.cut n b.length ⟨by omega, by omega⟩
  have e1 : (b.take n).drop 0 = b.take n := by simp
  have e2 : (b.take b.length).drop n = b.drop n := by simp
  have e3 : b.length - 32 = n := by omega
  refine Calls.of_WC Tryd.func69 rfl Tryd.ntmps69 (by simp) ?_
  refine WC.seq (WC.region (WL.assign rfl rfl (WL.assign rfl rfl (WL.nil (WX.then_normal (WC.seq (WC.region (?_))))))))
  refine WL.move rfl rfl (WL.len Tryd.underlying26 rfl rfl (?_))
  refine WL.sub64 rfl rfl (by constructor <;> omega) rfl ?_
  rw [show ((b.length : Int) - 32) = (n : Int) from by omega]
  refine WL.assign rfl rfl (WL.nil (WX.then_normal (WC.seq (WC.seq (?_)))))
  refine WC.draw (Nob) [0, 1, 2, 3, 4, 5, 6, 7, 8, 9, 10, 11, 12] [] mixed rfl rfl (fun wd_1 kd_1 zd_1 => ?_)
  have zs_kd_1 := kd_1.size
  replace hr := hr.pure kd_1
  replace hc1 := hc1.pure kd_1
  replace hc2 := hc2.pure kd_1
  replace hw := hw.pure kd_1
  apply DQ.step (E' := [(4, _)])
  case ho => rfl
  case hs => exact ⟨rfl, trivial⟩
  case hk => rfl
  case h1 =>
    intro wq_2 kq_2
    refine WL.move rfl rfl (?_)
    refine WL.nil ?_
    exact WX.one ⟨rfl, by exact Chg.refl _ _⟩
  apply DQ.step (E' := [(8, _)])
  case ho => rfl
  case hs => exact ⟨rfl, trivial⟩
  case hk => rfl
  case h1 =>
    intro wq_3 kq_3
    refine WL.lss rfl rfl rfl ?_
    rw [show decide ((n : Int) < 0) = false from decide_eq_false (by omega)]
    refine WL.nil ?_
    exact WX.one ⟨rfl, by exact Chg.refl _ _⟩
  apply DQ.step (E' := [(9, _)])
  case ho => rfl
  case hs => exact ⟨rfl, trivial⟩
  case hk => rfl
  case h1 =>
    intro wq_4 kq_4
    refine WL.move rfl rfl (?_)
    refine WL.nil ?_
    exact WX.one ⟨rfl, by exact Chg.refl _ _⟩
  apply DQ.step (E' := [(0, _), (10, _)])
  case ho => rfl
  case hs => exact ⟨rfl, rfl, trivial⟩
  case hk => rfl
  case h1 =>
    intro wq_5 kq_5
    refine WL.want rfl rfl rfl (WL.move rfl rfl (?_))
    refine WL.nil ?_
    exact WX.one ⟨rfl, by exact Chg.refl _ _⟩
  apply DQ.step (E' := [(4, _), (10, _)])
  case ho => rfl
  case hs => exact ⟨rfl, rfl, trivial⟩
  case hk => rfl
  case h1 =>
    intro wq_6 kq_6
    refine WL.want rfl rfl rfl (WL.move rfl rfl (?_))
    refine WL.nil ?_
    exact WX.one ⟨rfl, by exact Chg.refl _ _⟩
  apply DQ.step (E' := [(11, _), (12, _), (10, _)])
  case ho => rfl
  case hs => exact ⟨rfl, rfl, rfl, trivial⟩
  case hk => rfl
  case h1 =>
    intro wq_7 kq_7
    have zs_kq_7 := kq_7.size
    replace hr := hr.pure kq_7
    replace hc1 := hc1.pure kq_7
    replace hc2 := hc2.pure kq_7
    replace hw := hw.pure kq_7
    refine WL.want rfl rfl rfl (?_)
    refine WL.sliceC (l := 0) (h := n) (k := .i64) Tryd.underlying26 Tryd.sizeOf5 hr rfl (.inr ⟨rfl, rfl⟩) (.inl rfl) (by constructor <;> omega) rfl ?_
    refine WL.nil ?_
    exact WX.one ⟨rfl, by exact Chg.refl _ _⟩
  apply DQ.step (E' := [(13, _), (10, _)])
  case ho => rfl
  case hs => exact ⟨rfl, rfl, trivial⟩
  case hk => rfl
  case h1 =>
    intro wq_8 kq_8
    have zs_kq_8 := kq_8.size
    replace hr := hr.pure kq_8
    replace hc1 := hc1.pure kq_8
    replace hc2 := hc2.pure kq_8
    replace hw := hw.pure kq_8
    refine WL.want rfl rfl rfl (?_)
    have hc3 := hc1.old
    refine WL.call eg_86 rfl rfl (sum_calls' hc3 (by simp; omega)) ?_
    rintro v w2 ⟨rfl, k⟩
    have zs_k := k.size
    replace hr := hr.pure k
    replace hc1 := hc1.pure k
    replace hc2 := hc2.pure k
    replace hw := hw.pure k
    refine WL.nil ?_
    exact WX.one ⟨rfl, by assumption⟩
  apply DQ.step (E' := [(0, _), (10, _)])
  case ho => rfl
  case hs => exact ⟨rfl, rfl, trivial⟩
  case hk => rfl
  case h1 =>
    intro wq_9 kq_9
    refine WL.want rfl rfl rfl (WL.move rfl rfl (?_))
    refine WL.nil ?_
    exact WX.one ⟨rfl, by exact Chg.refl _ _⟩
  apply DQ.step (E' := [(4, _), (10, _)])
  case ho => rfl
  case hs => exact ⟨rfl, rfl, trivial⟩
  case hk => rfl
  case h1 =>
    intro wq_10 kq_10
    refine WL.want rfl rfl rfl (WL.move rfl rfl (?_))
    refine WL.nil ?_
    exact WX.one ⟨rfl, by exact Chg.refl _ _⟩
  apply DQ.step (E' := [(15, _), (16, _), (10, _)])
  case ho => rfl
  case hs => exact ⟨rfl, rfl, rfl, trivial⟩
  case hk => rfl
  case h1 =>
    intro wq_11 kq_11
    have zs_kq_11 := kq_11.size
    replace hr := hr.pure kq_11
    replace hc1 := hc1.pure kq_11
    replace hc2 := hc2.pure kq_11
    replace hw := hw.pure kq_11
    refine WL.want rfl rfl rfl (?_)
    refine WL.sliceC (l := n) (h := b.length) (j := .i64) Tryd.underlying26 Tryd.sizeOf5 hr rfl (.inl rfl) (.inr ⟨rfl, rfl⟩) (by constructor <;> omega) rfl ?_
    refine WL.nil ?_
    exact WX.one ⟨rfl, by exact Chg.refl _ _⟩
  apply DQ.step (E' := [(17, _), (10, _)])
  case ho => rfl
  case hs => exact ⟨rfl, rfl, trivial⟩
  case hk => rfl
  case h1 =>
    intro wq_12 kq_12
    have zs_kq_12 := kq_12.size
    replace hr := hr.pure kq_12
    replace hc1 := hc1.pure kq_12
    replace hc2 := hc2.pure kq_12
    replace hw := hw.pure kq_12
    refine WL.want rfl rfl rfl (?_)
    refine WL.toStr Tryd.underlying26 Tryd.underlying5 Tryd.underlying9 hc2 rfl rfl ?_
    refine WL.nil ?_
    exact WX.one ⟨rfl, by exact Chg.refl _ _⟩
  apply DQ.split (E' := [(14, _), (18, _), (10, _)])
  case ho => rfl
  case hs => exact ⟨rfl, rfl, rfl, trivial⟩
  case hk => rfl
  case h1 =>
    intro wq_13 kq_13
    refine WL.want rfl rfl rfl (?_)
    refine WL.sneq rfl rfl rfl ?_
    refine WL.nil ?_
    exact WX.one ⟨rfl, by exact Chg.refl _ _⟩
  case ht =>
    intro h19
    replace h19 := of_decide_eq_true h19
    apply DQ.step (E' := [(10, _), (19, _)])
    case ho => rfl
    case hs => exact ⟨rfl, rfl, trivial⟩
    case hk => rfl
    case h1 =>
      intro wq_14 kq_14
      refine WL.pickF rfl rfl rfl (?_)
      refine WL.nil ?_
      exact WX.one ⟨rfl, by exact Chg.refl _ _⟩
    refine DQ.done (fun _ => ?_)
    refine DL.done (fun we_15 ke_15 => ?_)
    have zs_ke_15 := ke_15.size
    replace hr := hr.pure ke_15
    replace hc1 := hc1.pure ke_15
    replace hc2 := hc2.pure ke_15
    replace hw := hw.pure ke_15
    refine WX.then_normal (WC.cond_true rfl (WC.seq (WC.region (WL.assign rfl rfl (WL.assign rfl rfl (WL.nil (WX.then_normal (?_))))))))
    refine WC.ret (WX.then_ret (?_))
    refine WX.ret2 (.inl rfl) Tryd.results69 rfl rfl ?_
    simp only [openR, e3]
    first
      | (have h2 : sumB (b.take n) = b.drop n := by
           have h3 := congrArg (fun s : ByteArray => s.data.toList) (Classical.not_not.1 h19)
           rw [e1, e2] at h3
           exact h3
         rw [e1] at hq
         rw [if_pos ⟨by omega, h2⟩]
         exact ⟨_, rfl, ⟨_, _, by rw [e1], hq.mono (fun x hx => by omega)⟩, hw⟩)
      | (have h2 : ¬ sumB (b.take n) = b.drop n := fun h => h19 (by rw [e1, e2, h])
         rw [if_neg (fun h => h2 h.2)]
         exact ⟨_, rfl, ⟨none, 0, rfl, Row.nil _ _ _ _⟩, hw⟩)
  case hf =>
    intro h19
    replace h19 := of_decide_eq_false h19
    apply DQ.step (E' := [(10, _), (19, _)])
    case ho => rfl
    case hs => exact ⟨rfl, rfl, trivial⟩
    case hk => rfl
    case h1 =>
      intro wq_14 kq_14
      refine WL.pickF rfl rfl rfl (?_)
      refine WL.nil ?_
      exact WX.one ⟨rfl, by exact Chg.refl _ _⟩
    refine DQ.done (fun _ => ?_)
    refine DL.done (fun we_15 ke_15 => ?_)
    have zs_ke_15 := ke_15.size
    replace hr := hr.pure ke_15
    replace hc1 := hc1.pure ke_15
    replace hc2 := hc2.pure ke_15
    replace hw := hw.pure ke_15
    refine WX.then_normal (WC.cond_false rfl (WC.skip (WX.then_normal (WC.seq (WC.region (WL.move rfl rfl (WL.move rfl rfl (?_))))))))
    refine WL.slice (l := 0) (h := n) (k := .i64) Tryd.underlying26 Tryd.sizeOf5 hr rfl (.inr ⟨rfl, rfl⟩) (.inl rfl) (by constructor <;> omega) rfl ?_
    intro a_hx c_hx hx n_hx
    have hx2 := hx.old
    refine WL.call eg_85 rfl rfl (clone_calls hx2 (by simp; omega)) ?_
    rintro v w1 ⟨⟨a1, c1, rfl, hq⟩, k⟩
    have zs_k := k.size
    replace hr := hr.pure k
    replace hc1 := hc1.pure k
    replace hc2 := hc2.pure k
    replace hw := hw.pure k
    replace hx := hx.pure k
    refine WL.assign rfl rfl (WL.assign rfl rfl (WL.nil (WX.then_normal (WC.ret (?_)))))
    refine WX.ret2 (.inl rfl) Tryd.results69 rfl rfl ?_
    simp only [openR, e3]
    first
      | (have h2 : sumB (b.take n) = b.drop n := by
           have h3 := congrArg (fun s : ByteArray => s.data.toList) (Classical.not_not.1 h19)
           rw [e1, e2] at h3
           exact h3
         rw [e1] at hq
         rw [if_pos ⟨by omega, h2⟩]
         exact ⟨_, rfl, ⟨_, _, by rw [e1], hq.mono (fun x hx => by omega)⟩, hw⟩)
      | (have h2 : ¬ sumB (b.take n) = b.drop n := fun h => h19 (by rw [e1, e2, h])
         rw [if_neg (fun h => h2 h.2)]
         exact ⟨_, rfl, ⟨none, 0, rfl, Row.nil _ _ _ _⟩, hw⟩)
theorem open_calls {S : Nat → Prop} {w : World} {ao : Option Addr} {c : Nat} {b : List UInt8} (hr : RSl S w eb ao c b) (hl : b.length ≤ 4000) :
    Calls Tryd.prog 69 [.slice ao b.length c].toArray w (Ret fun v w' => (∃ (ao' : Option Addr) (c' : Nat), v = .tuple #[.slice ao' (openR b).1.length c', vi (openR b).2] ∧ Row (w.heap.size ≤ ·) w' 5 eb ao' c' (openR b).1) ∧ Chg Nob w w') := by
  rcases Nat.lt_or_ge b.length 32 with h | h
  · exact open_bad hr h
  · exact open_good hr (b.length - 32) (by omega) hl
/-! the sum of three letters -/
end Go.Proofs.YtjeldcjchipdgaaDoor
