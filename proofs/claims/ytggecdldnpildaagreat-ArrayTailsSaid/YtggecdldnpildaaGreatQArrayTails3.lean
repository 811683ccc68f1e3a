import Derived.MapKept
import Derived.Test.YtggecdldnpildaaGreatQArrayTails2
namespace Go.Proofs.YtggecdldnpildaaGreat
open Go.RowKit Go.HL
set_option maxRecDepth 100000

theorem wt_at {i r : Nat} (h : r < 3) : [wtq 0 i, wtq 1 i, wtq 2 i][r]? = some (wtq r i) := by
  have h3 : r = 0 ∨ r = 1 ∨ r = 2 := by omega
  rcases h3 with rfl | rfl | rfl <;> rfl
set_option maxHeartbeats 4000000 in
theorem add_calls {w : World} {gf go n : Nat} {gs : List Nat} {ys : List (List UInt8)} {ac : Option Addr} {cc : Nat} {col : List UInt8} (hF : Fld w gf) (hO : OR w 26 5 go 3 gs n ys []) (hg3 : gs.length = 3) (hys : ∀ y ∈ ys, y.length = n) (hr : RSl (fun b => b < gf) w eb ac cc col) (hcl : col.length = n) (hgg : gf < go) (i : Nat) (hn : n ≤ 4096) :
    Calls Tryz.prog 93 [.pointer (some ⟨gf, 0, none⟩), .slice (some ⟨go, 0, none⟩) 3 3, vi i, .slice ac col.length cc].toArray w (Ret fun v w' => v = .tuple #[] ∧ Blk w' gf 146 FR ∧ OR w' 26 5 go 3 gs n (updR ys col i 3) [] ∧ Chg (fun x => gf ≤ x) w w') := by
  have hw := Chg.refl (fun x => gf ≤ x) w
  have hy3 : ys.length = 3 := by rw [← hO.len, hg3]
  have lgf := hF.lt
  have lgo := hO.lto
  have lgs : ∀ (j g : Nat), gs[j]? = some g → g < w.heap.size := fun j g h => hO.lt h
  refine Calls.of_WC Tryz.func93 rfl Tryz.ntmps93 (by simp) ?_
  refine WC.seq (WC.region (WL.move rfl rfl (WL.move rfl rfl (?_))))
  refine WL.call eg_100 rfl rfl (weights_calls hF i) ?_
  rintro v w1 ⟨rfl, hR, k⟩
  have zs_k := k.size
  replace hr := hr.chg k (by intro b h1 h2 h3; have h4 : _ = _ := h3; (try dsimp only at h2); exfalso; omega)
  replace hO := hO.chg k ⟨by omega, fun j g hg => by have := hO.above j g hg; omega⟩
  replace hw := hw.chg k (fun x _ h => by omega)
  refine WL.alloc Tryz.zeroValue167 rfl ?_
  intro g_1 w_1 hge_1 hlt_1 hb_1 k_1
  have zs_k_1 := k_1.size
  replace hr := hr.pure k_1
  replace hR := hR.pure k_1
  replace hw := hw.pure k_1
  refine WL.stores Tryz.sizeOf167 hb_1 rfl rfl (by simp; done) (by intro u hu; obtain ⟨x, _, rfl⟩ := List.mem_map.1 hu; rfl) (by simp [Value.cells]; done) rfl ?_
  intro w_2 hs_2 hn_2 k_2
  have zs_k_2 := k_2.size
  replace hr := hr.chg k_2 (by intro b h1 h2 h3; have h4 : _ = _ := h3; (try dsimp only at h2); exfalso; omega)
  replace hR := hR.chg k_2 (by intro h1; have h2 : _ = _ := h1; exfalso; omega)
  replace hw := hw.chg k_2 (by intro x h1 h2; have h3 : _ = _ := h2; exfalso; omega)
  replace hb_1 := hn_2
  refine WL.nil (WX.then_normal (WC.seq (WC.region (WL.move rfl rfl (WL.len Tryz.underlying87 rfl rfl (WL.move rfl rfl (WL.nil (?_))))))))
  refine WX.then_normal (WC.block (?_))
  replace hO := (hO.pure k_1).chg k_2 ⟨by omega, fun j g hg => by have := lgs j g hg; omega⟩
  have hst : Chg (fun x => gf ≤ x) w _ := hw
  replace hb_1 : Blk _ g_1 167 ([wtq 0 i, wtq 1 i, wtq 2 i].map v8) := hb_1
  refine WC.loop (σ := Nat) (fun r => [(0, .pointer (some ⟨gf, 0, none⟩)), (3, .slice ac col.length cc), (8, .pointer (some ⟨g_1, 0, none⟩)), (16, .slice (some ⟨go, 0, none⟩) 3 3), (17, vi 3), (18, vi r)])
    (fun r w' => r ≤ 3 ∧ Blk w' gf 146 FR ∧ Blk w' g_1 167 ([wtq 0 i, wtq 1 i, wtq 2 i].map v8) ∧ OR w' 26 5 go 3 gs n (updR ys col i r) [] ∧ (∀ (j g : Nat), gs[j]? = some g → g < g_1) ∧ RSl (fun b => b < gf) w' eb ac cc col ∧ Chg (fun x => gf ≤ x) w w') (fun r => 3 - r) 0 ⟨rfl, rfl, rfl, rfl, rfl, rfl, trivial⟩ ⟨Nat.zero_le _, hR, hb_1, hO, ?_, hr, hw⟩ ?_
  ·
    clear hR hb_1 hr hw hst
    intro j g hg
    have := lgs j g hg
    omega
  clear hR hb_1 hO hr hw hst
  rintro r w8 ⟨hr3, hR, hb1, hO, hlt, hr, hw⟩
  refine WC.seq (WC.region (?_))
  refine WL.lss? rfl rfl rfl (fun h19 => ?_) (fun h19 => ?_)
  ·
    refine WL.nil (WX.then_normal (WC.seq (WC.cond_true rfl (WC.skip (WX.then_normal (WC.seq (WC.block (?_))))))))
    refine WC.seq (WC.region (WL.move rfl rfl (?_)))
    obtain ⟨g, hgr⟩ : ∃ g, gs[r]? = some g := ⟨_, List.getElem?_eq_getElem (by omega)⟩
    obtain ⟨x, hx0⟩ : ∃ x, ys[r]? = some x := ⟨_, List.getElem?_eq_getElem (by omega)⟩
    have hxr : (updR ys col i r)[r]? = some x := by rw [updR_at ys col i r r (Nat.le_refl _)]; exact hx0
    have hxl : x.length = n := hys x (List.mem_of_getElem? hx0)
    have hgo := hO.above r g hgr
    have hg1 := hlt r g hgr
    refine WL.index (sz := 1) Tryz.underlying87 Tryz.sizeOf26 rfl rfl rfl (by omega) rfl ?_
    refine WL.load Tryz.isAgg26 rfl ((hO.outer.rsl.cellsAt (orows_at hgr hxr)) 0 _ rfl) rfl ?_
    refine WL.assign rfl rfl (WL.assign rfl rfl (WL.nil (WX.then_normal (WC.seq (WC.region (WL.move rfl rfl (WL.len Tryz.underlying26 rfl rfl (?_))))))))
    refine WL.move rfl rfl (WL.nil (WX.then_normal (WC.block (?_))))
    have hp : Row (fun b => b = g) w8 5 eb (some ⟨g, 0, none⟩) n x := hO.inner r g x hgr hxr
    have hk := Chg.refl (fun b => b = g) w8
    refine WC.loop (σ := Nat) (fun k => [(0, .pointer (some ⟨gf, 0, none⟩)), (3, .slice ac col.length cc), (8, .pointer (some ⟨g_1, 0, none⟩)), (9, vi r), (10, .slice (some ⟨g, 0, none⟩) x.length n), (16, .slice (some ⟨go, 0, none⟩) 3 3), (17, vi 3), (18, vi r), (23, .slice ac col.length cc), (24, vi col.length), (25, vi k)])
      (fun k w' => k ≤ n ∧ Row (fun b => b = g) w' 5 eb (some ⟨g, 0, none⟩) n (addTo' x col (wtq r i) k) ∧ Blk w' gf 146 FR ∧ Blk w' g_1 167 ([wtq 0 i, wtq 1 i, wtq 2 i].map v8) ∧ RSl (fun b => b < gf) w' eb ac cc col ∧ Chg (fun b => b = g) w8 w') (fun k => n - k) 0 ⟨rfl, rfl, rfl, rfl, rfl, rfl, rfl, rfl, rfl, rfl, rfl, trivial⟩ ⟨Nat.zero_le _, by simpa [addTo'] using hp, hR, hb1, hr, hk⟩ ?_
    clear hR hb1 hr hk hp
    rintro k w9 ⟨hkn, hp, hR, hb1, hr, hk⟩
    have hal : (addTo' x col (wtq r i) k).length = n := by rw [addTo'_len (by omega) (by omega)]; exact hxl
    refine WC.seq (WC.region (?_))
    refine WL.lss? rfl rfl rfl (fun h26 => ?_) (fun h26 => ?_)
    ·
      refine WL.nil (WX.then_normal (WC.seq (WC.cond_true rfl (WC.skip (WX.then_normal (WC.seq (WC.block (?_))))))))
      refine WC.seq (WC.region (WL.move rfl rfl (?_)))
      obtain ⟨p, c0, hp0, hc0, fp, fset⟩ := addTo'_at (acc := x) (col := col) (m := wtq r i) (k := k) (by omega) (by omega)
      refine WL.indexT Tryz.underlying26 Tryz.sizeOf5 hr rfl rfl ⟨hc0, rfl⟩ rfl ?_
      intro b_3 o_3 hc_3
      refine WL.load Tryz.isAgg5 rfl (hc_3 0 _ rfl) rfl (WL.assign rfl rfl (WL.assign rfl rfl (WL.nil (WX.then_normal (?_)))))
      have fw := wt_at (i := i) (r := r) (by omega)
      refine WC.draw (fun b => b = g) [0, 1, 2, 4, 5, 6, 7, 8, 9, 11] [3, 10, 12] mixed rfl rfl (fun wd_4 kd_4 zd_4 => ?_)
      have zs_kd_4 := kd_4.size
      replace hp := hp.pure kd_4
      replace hR := hR.pure kd_4
      replace hb1 := hb1.pure kd_4
      replace hr := hr.pure kd_4
      replace hk := hk.pure kd_4
      apply DQ.step (E' := [(10, _)])
      case ho => rfl
      case hs => exact ⟨rfl, trivial⟩
      case hk => rfl
      case h1 =>
        intro wq_6 kq_6
        refine WL.move rfl rfl (?_)
        refine WL.nil ?_
        exact WX.one ⟨rfl, by exact Chg.refl _ _⟩
      apply DQ.step (E' := [(11, _)])
      case ho => rfl
      case hs => exact ⟨rfl, trivial⟩
      case hk => rfl
      case h1 =>
        intro wq_7 kq_7
        refine WL.move rfl rfl (?_)
        refine WL.nil ?_
        exact WX.one ⟨rfl, by exact Chg.refl _ _⟩
      apply DQ.step (E' := [(30, _), (31, _)])
      case ho => rfl
      case hs => exact ⟨rfl, rfl, trivial⟩
      case hk => rfl
      case h1 =>
        intro wq_8 kq_8
        have zs_kq_8 := kq_8.size
        replace hR := hR.chg kq_8 (by intro h1; have h2 : _ = _ := h1; exfalso; omega)
        replace hb1 := hb1.chg kq_8 (by intro h1; have h2 : _ = _ := h1; exfalso; omega)
        replace hr := hr.chg kq_8 (by intro b h1 h2 h3; have h4 : _ = _ := h3; (try dsimp only at h2); exfalso; omega)
        refine WL.index (sz := 1) Tryz.underlying26 Tryz.sizeOf5 rfl rfl rfl (by omega) rfl ?_
        refine WL.nil ?_
        exact WX.one ⟨rfl, by exact Chg.refl _ _⟩
      apply DQ.step (E' := [(0, _)])
      case ho => rfl
      case hs => exact ⟨rfl, trivial⟩
      case hk => rfl
      case h1 =>
        intro wq_9 kq_9
        refine WL.move rfl rfl (?_)
        refine WL.nil ?_
        exact WX.one ⟨rfl, by exact Chg.refl _ _⟩
      apply DQ.step (E' := [(9, _)])
      case ho => rfl
      case hs => exact ⟨rfl, trivial⟩
      case hk => rfl
      case h1 =>
        intro wq_10 kq_10
        refine WL.move rfl rfl (?_)
        refine WL.nil ?_
        exact WX.one ⟨rfl, by exact Chg.refl _ _⟩
      apply DQ.step (E' := [(8, _), (35, _)])
      case ho => rfl
      case hs => exact ⟨rfl, rfl, trivial⟩
      case hk => rfl
      case h1 =>
        intro wq_11 kq_11
        have zs_kq_11 := kq_11.size
        replace hR := hR.chg kq_11 (by intro h1; have h2 : _ = _ := h1; exfalso; omega)
        replace hb1 := hb1.chg kq_11 (by intro h1; have h2 : _ = _ := h1; exfalso; omega)
        replace hr := hr.chg kq_11 (by intro b h1 h2 h3; have h4 : _ = _ := h3; (try dsimp only at h2); exfalso; omega)
        refine WL.indexArr (r) Tryz.underlying167 Tryz.sizeOf5 rfl rfl ⟨by omega, by omega⟩ rfl ?_
        refine WL.nil ?_
        exact WX.one ⟨rfl, by exact Chg.refl _ _⟩
      apply DQ.step (E' := [(36, _)])
      case ho => rfl
      case hs => exact ⟨rfl, trivial⟩
      case hk => rfl
      case h1 =>
        intro wq_12 kq_12
        have zs_kq_12 := kq_12.size
        replace hR := hR.chg kq_12 (by intro h1; have h2 : _ = _ := h1; exfalso; omega)
        replace hb1 := hb1.chg kq_12 (by intro h1; have h2 : _ = _ := h1; exfalso; omega)
        replace hr := hr.chg kq_12 (by intro b h1 h2 h3; have h4 : _ = _ := h3; (try dsimp only at h2); exfalso; omega)
        refine WL.loadB Tryz.isAgg5 hb1 rfl (map_at _ fw) rfl (?_)
        refine WL.nil ?_
        exact WX.one ⟨rfl, by exact Chg.refl _ _⟩
      apply DQ.step (E' := [(12, _)])
      case ho => rfl
      case hs => exact ⟨rfl, trivial⟩
      case hk => rfl
      case h1 =>
        intro wq_13 kq_13
        refine WL.move rfl rfl (?_)
        refine WL.nil ?_
        exact WX.one ⟨rfl, by exact Chg.refl _ _⟩
      apply DQ.step (E' := [(34, _), (37, _), (38, _)])
      case ho => rfl
      case hs => exact ⟨rfl, rfl, rfl, trivial⟩
      case hk => rfl
      case h1 =>
        intro wq_14 kq_14
        have zs_kq_14 := kq_14.size
        replace hR := hR.chg kq_14 (by intro h1; have h2 : _ = _ := h1; exfalso; omega)
        replace hb1 := hb1.chg kq_14 (by intro h1; have h2 : _ = _ := h1; exfalso; omega)
        replace hr := hr.chg kq_14 (by intro b h1 h2 h3; have h4 : _ = _ := h3; (try dsimp only at h2); exfalso; omega)
        refine WL.call eg_102 rfl rfl (mulR_calls hR _ _) ?_
        rintro v w4 ⟨rfl, k4⟩
        have zs_k4 := k4.size
        replace hR := hR.pure k4
        replace hb1 := hb1.pure k4
        replace hr := hr.pure k4
        refine WL.nil ?_
        exact WX.one ⟨rfl, by assumption⟩
      apply DQ.step (E' := [(30, _), (31, _)])
      case ho => rfl
      case hs => exact ⟨rfl, rfl, trivial⟩
      case hk => rfl
      case h1 =>
        intro wq_15 kq_15
        have zs_kq_15 := kq_15.size
        replace hR := hR.chg kq_15 (by intro h1; have h2 : _ = _ := h1; exfalso; omega)
        replace hb1 := hb1.chg kq_15 (by intro h1; have h2 : _ = _ := h1; exfalso; omega)
        replace hr := hr.chg kq_15 (by intro b h1 h2 h3; have h4 : _ = _ := h3; (try dsimp only at h2); exfalso; omega)
        refine WL.index (sz := 1) Tryz.underlying26 Tryz.sizeOf5 rfl rfl rfl (by omega) rfl ?_
        refine WL.nil ?_
        exact WX.one ⟨rfl, by exact Chg.refl _ _⟩
      refine DQ.done (fun hd_5 => ?_)
      refine DL.step [(32, _)] rfl ⟨rfl, trivial⟩ rfl (fun wq_16 kq_16 => ?_)
      have zs_kq_16 := kq_16.size
      replace hp := hp.pure kq_16
      replace hR := hR.pure kq_16
      replace hb1 := hb1.pure kq_16
      replace hr := hr.pure kq_16
      replace hk := hk.pure kq_16
      replace hd_5 := hd_5.pure kq_16
      refine WL.load Tryz.isAgg5 rfl ((hp.rsl.cellsAt fp) 0 _ rfl) rfl ?_
      refine WL.nil ?_
      refine WX.one ⟨hd_5, ?_⟩
      refine DL.step [(33, _), (39, _)] rfl ⟨rfl, rfl, trivial⟩ rfl (fun wq_17 kq_17 => ?_)
      have zs_kq_17 := kq_17.size
      replace hp := hp.pure kq_17
      replace hR := hR.pure kq_17
      replace hb1 := hb1.pure kq_17
      replace hr := hr.pure kq_17
      replace hk := hk.pure kq_17
      replace hd_5 := hd_5.pure kq_17
      refine WL.num rfl rfl (n_xor8 _ _ _ _) rfl (?_)
      refine WL.nil ?_
      refine WX.one ⟨hd_5, ?_⟩
      refine DL.step [(41, _), (40, _)] rfl ⟨rfl, rfl, trivial⟩ rfl (fun wq_18 kq_18 => ?_)
      have zs_kq_18 := kq_18.size
      replace hp := hp.pure kq_18
      replace hR := hR.pure kq_18
      replace hb1 := hb1.pure kq_18
      replace hr := hr.pure kq_18
      replace hk := hk.pure kq_18
      replace hd_5 := hd_5.pure kq_18
      refine WL.storeRow (z := p ^^^ mul (wtq r i) c0) (k) Tryz.sizeOf5 hp rfl rfl rfl (by simp; done) (by omega) rfl ?_
      intro w_19 zs_19 nr_19 k_19
      have zs_k_19 := k_19.size
      replace hR := hR.chg k_19 (by intro h1; have h2 : _ = _ := h1; exfalso; omega)
      replace hb1 := hb1.chg k_19 (by intro h1; have h2 : _ = _ := h1; exfalso; omega)
      replace hr := hr.chg k_19 (by intro b h1 h2 h3; have h4 : _ = _ := h3; (try dsimp only at h2); exfalso; omega)
      replace hk := hk.chg k_19 (by intro x h1 h2; exact h2)
      replace hd_5 := hd_5.chg k_19 (by intro x h1 h2; exact h2)
      replace hp := nr_19
      rw [fset] at hp
      refine WL.nil ?_
      refine WX.one0 (v := undef) ⟨hd_5, ?_⟩
      refine DL.done (fun we_20 ke_20 => ?_)
      have zs_ke_20 := ke_20.size
      replace hp := hp.pure ke_20
      replace hR := hR.pure ke_20
      replace hb1 := hb1.pure ke_20
      replace hr := hr.pure ke_20
      replace hk := hk.pure ke_20
      replace hd_5 := hd_5.pure ke_20
      refine WX.block_normal (WX.then_normal (WC.region (WL.add64 rfl rfl (by omega) rfl (WL.move rfl rfl (WL.nil (?_))))))
      refine WX.loop_next (k + 1) ⟨rfl, rfl, rfl, rfl, rfl, rfl, rfl, rfl, rfl, rfl, rfl, trivial⟩ ⟨by omega, hp, hR, hb1, hr, hk⟩ (by show _ - _ < _ - _; omega)
    ·
      refine WL.nil (WX.then_normal (WC.seq (WC.cond_false rfl (WC.exit (WX.then_exit (WX.then_exit (WX.block_here (?_))))))))
      refine WX.block_normal (WX.then_normal (WC.region (WL.add64 rfl rfl (by omega) rfl (WL.move rfl rfl (WL.nil (?_))))))
      have hkn2 : k = x.length := by omega
      subst hkn2
      rw [addTo'_end (by omega)] at hp
      have hO2 := hO.upd hgr hxr (addRow_len (by omega)) hk ⟨by omega, fun j g' hj hne e => hne (hO.apart j r g' hj (by rw [e]; exact hgr))⟩ hp
      have hw2 := hw.chg hk (fun x _ h => by have h3 : _ = _ := h; omega)
      refine WX.loop_next (r + 1) ⟨rfl, rfl, rfl, rfl, rfl, rfl, trivial⟩ ⟨by omega, hR, hb1, ?_, hlt, hr, hw2⟩ (by show _ - _ < _ - _; omega)
      rw [updR, show ys.getD r [] = x from by rw [List.getD_eq_getElem?_getD, hx0]; rfl]
      exact hO2
  ·
    refine WL.nil (WX.then_normal (WC.seq (WC.cond_false rfl (WC.exit (WX.then_exit (WX.then_exit (WX.block_here (?_))))))))
    refine WX.ret0 (.inr rfl) Tryz.results93 ?_
    have h3 : r = 3 := by omega
    subst h3
    exact ⟨_, rfl, rfl, hR, hO, hw⟩
end Go.Proofs.YtggecdldnpildaaGreat
namespace Go.Proofs.YtggecdldnpildaaGreat
open Go.RowKit Go.HL
set_option maxRecDepth 100000

def nilRw : Rw := ⟨none, 0, []⟩
set_option maxHeartbeats 4000000 in
theorem sums_calls {w : World} {gf n : Nat} {ac : Option Addr} {cc : Nat} {rs : List Rw} (hF : Fld w gf) (hc : RS (fun b => b < gf) w ac cc rs) (hn : n ≤ 4096) (hl : rs.length ≤ 13) (hall : ∀ d ∈ xss rs, d.length = n) :
    Calls Tryz.prog 78 [.pointer (some ⟨gf, 0, none⟩), .slice ac rs.length cc, vi n, .slice none 0 0].toArray w (Ret fun v w' => (∃ (go : Nat) (gs : List Nat), v = .slice (some ⟨go, 0, none⟩) 3 3 ∧ OR w' 26 5 go 3 gs n (three (xss rs) n rs.length) [] ∧ gs.length = 3 ∧ w.heap.size ≤ go) ∧ Chg (fun x => gf ≤ x) w w') := by
  have hw := Chg.refl (fun x => x = gf) w
  have lgf := hF.lt
  refine Calls.of_WC Tryz.func78 rfl Tryz.ntmps78 (by simp) ?_
  refine WC.seq (WC.region (WL.assign rfl rfl (WL.nil (WX.then_normal (WC.seq (WC.region (?_)))))))
  refine WL.make (e := erow) nilRw 3 3 Tryz.underlying87 info_26 rfl rfl rfl ⟨rfl, rfl, by decide⟩ (by decide) rfl ?_
  intro go wq hq kq zq ego
  rw [show (List.replicate 3 nilRw).length = 3 from rfl]
  have zs_kq := kq.size
  replace hF := hF.pure kq
  replace hc := hc.pure kq
  replace hw := hw.pure kq
  refine WL.assign rfl rfl (WL.nil (WX.then_normal (WC.seq (WC.seq (WC.region (WL.move rfl rfl (WL.len Tryz.underlying87 rfl rfl (?_))))))))
  refine WL.move rfl rfl (WL.nil (WX.then_normal (WC.block (?_))))
  have lgo : gf < go := by omega
  have hq0 : Row (fun b => b = go) wq 26 erow (some ⟨go, 0, none⟩) 3 (List.replicate 3 nilRw) := ⟨fun a ea => by injection ea with ea; subst ea; rfl, hq.own⟩
  have hO0 : OR wq 26 5 go 3 [] n [] (List.replicate 3 nilRw) := ⟨hq0, fun i g x h => by simp at h, rfl, fun i j g h => by simp at h, fun i g h => by simp at h⟩
  have hwg : w.heap.size ≤ go := by omega
  refine WC.loop (σ := List Nat) (fun gs => [(0, .pointer (some ⟨gf, 0, none⟩)), (1, .slice ac rs.length cc), (2, vi n), (3, .slice none 0 0), (9, .slice (some ⟨go, 0, none⟩) 3 3), (15, vi 3), (16, vi gs.length)])
    (fun gs w' => gs.length ≤ 3 ∧ OR w' 26 5 go 3 gs n (List.replicate gs.length (List.replicate n 0)) (List.replicate (3 - gs.length) nilRw) ∧ Fld w' gf ∧ RS (fun b => b < gf) w' ac cc rs ∧ Chg (fun x => x = gf) w w') (fun gs => 3 - gs.length) [] ⟨rfl, rfl, rfl, rfl, rfl, rfl, rfl, trivial⟩ ⟨by decide, hO0, hF, hc, hw⟩ ?_
  clear hF hc hw hq hq0 hO0
  rintro gs w8 ⟨hg3, hO, hF, hc, hw⟩
  refine WC.seq (WC.region (?_))
  refine WL.lss? rfl rfl rfl (fun h17 => ?_) (fun h17 => ?_)
  ·
    refine WL.nil (WX.then_normal (WC.seq (WC.cond_true rfl (WC.skip (WX.then_normal (WC.seq (WC.block (?_))))))))
    refine WC.seq (WC.region (WL.move rfl rfl (WL.assign rfl rfl (WL.nil (WX.then_normal (WC.region (WL.move rfl rfl (?_))))))))
    refine WL.move rfl rfl (WL.move rfl rfl (?_))
    have lgs : ∀ (j g : Nat), gs[j]? = some g → g < w8.heap.size := fun j g h => hO.lt h
    have lgo8 := hO.lto
    refine WL.make (e := eb) (0 : UInt8) n n Tryz.underlying26 info_5 rfl rfl rfl ⟨rfl, rfl, Nat.le_refl _⟩ (by constructor <;> omega) rfl ?_
    intro g w9 hg9 k9 z9 eg
    rw [List.length_replicate]
    replace hO := hO.pure k9
    have hgr : Row (fun b => b = g) w9 5 eb (some ⟨g, 0, none⟩) n (List.replicate n 0) := ⟨fun a ea => by injection ea with ea; subst ea; rfl, hg9.own⟩
    obtain ⟨tl, htl⟩ : ∃ tl, List.replicate (3 - gs.length) nilRw = nilRw :: tl ∧ tl = List.replicate (3 - (gs.length + 1)) nilRw := ⟨_, by rw [show 3 - gs.length = (3 - (gs.length + 1)) + 1 from by omega, List.replicate_succ], rfl⟩
    rw [htl.1] at hO
    have hol : (orows gs n (List.replicate gs.length (List.replicate n 0)) ++ nilRw :: tl).length = 3 := by
      rw [List.length_append, orows_len (by rw [List.length_replicate]), htl.2, List.length_cons, List.length_replicate]
      omega
    have zs_k9 := k9.size
    replace hF := hF.pure k9
    replace hc := hc.pure k9
    replace hw := hw.pure k9
    refine WL.index (sz := 1) Tryz.underlying87 Tryz.sizeOf26 rfl rfl rfl (by omega) rfl ?_
    refine WL.storeRow (z := ⟨some ⟨g, 0, none⟩, n, List.replicate n 0⟩) gs.length Tryz.sizeOf26 hO.outer rfl (by show [Value.slice (some ⟨g, 0, none⟩) (List.replicate n 0).length n] = _; rw [List.length_replicate]) rfl (by show 0 + _ * 1 = _; omega) (by omega) rfl ?_
    intro w4 zs4 ho4 k4
    have zs_k4 := k4.size
    replace hF := hF.chg k4 (by intro h1; have h2 : _ = _ := h1; exfalso; omega)
    replace hc := hc.chg k4 (by intro b h1 h2 h3; have h4 : _ = _ := h3; (try dsimp only at h2); exfalso; omega)
    replace hw := hw.chg k4 (by intro x h1 h2; have h3 : _ = _ := h2; exfalso; omega)
    have hO2 := hO.snoc (g := g) (x := List.replicate n 0) (by omega) (fun i g' h => by have := lgs i g' h; omega) k4 (fun i g' h e => by have h2 : g' = go := e; have := hO.above i g' h; omega) ho4 (hgr.chg k4 (fun b h1 h2 h3 => by have h4 : b = go := h3; have h5 : b = g := h2; omega))
    refine WL.nil (WX.block_normal (WX.then_normal (WC.region (WL.add64 rfl rfl (by omega) rfl (WL.move rfl rfl (WL.nil (?_)))))))
    refine WX.loop_next (gs ++ [g]) ⟨rfl, rfl, rfl, rfl, rfl, rfl, ?_, trivial⟩ ⟨by rw [List.length_append]; show gs.length + 1 ≤ 3; omega, ?_, hF, hc, hw⟩ (by rw [List.length_append]; show 3 - (gs.length + 1) < 3 - gs.length; omega)
    ·
      rw [List.length_append]
      rfl
    ·
      rw [List.length_append, show gs.length + [g].length = gs.length + 1 from rfl, ← htl.2, List.replicate_succ']
      exact hO2
  ·
    refine WL.nil (WX.then_normal (WC.seq (WC.cond_false rfl (WC.exit (WX.then_exit (WX.then_exit (WX.block_here (?_))))))))
    refine WX.then_normal (WC.seq (WC.seq (WC.region (WL.move rfl rfl (WL.len Tryz.underlying87 rfl rfl (WL.move rfl rfl (WL.nil (?_))))))))
    refine WX.then_normal (WC.block (?_))
    have hgs3 : gs.length = 3 := by omega
    rw [hgs3] at hO
    have hO1 : OR w8 26 5 go 3 gs n (three (xss rs) n 0) [] := hO
    refine WC.loop (σ := Nat) (fun i => [(0, .pointer (some ⟨gf, 0, none⟩)), (3, .slice none 0 0), (9, .slice (some ⟨go, 0, none⟩) 3 3), (25, .slice ac rs.length cc), (26, vi rs.length), (27, vi i)])
      (fun i w' => i ≤ rs.length ∧ Fld w' gf ∧ OR w' 26 5 go 3 gs n (three (xss rs) n i) [] ∧ RS (fun b => b < gf) w' ac cc rs ∧ Chg (fun x => gf ≤ x) w8 w') (fun i => rs.length - i) 0 ⟨rfl, rfl, rfl, rfl, rfl, rfl, trivial⟩ ⟨Nat.zero_le _, hF, hO1, hc, Chg.refl _ _⟩ ?_
    clear hO hO1 hF hc
    rintro i w7 ⟨hi, hF, hO, hc, hk⟩
    refine WC.seq (WC.region (?_))
    refine WL.lss? rfl rfl rfl (fun h28 => ?_) (fun h28 => ?_)
    ·
      refine WL.nil (WX.then_normal (WC.seq (WC.cond_true rfl (WC.skip (WX.then_normal (WC.seq (WC.block (?_))))))))
      refine WC.seq (WC.region (WL.move rfl rfl (?_)))
      obtain ⟨r, hr⟩ : ∃ r, rs[i]? = some r := ⟨_, List.getElem?_eq_getElem (by omega)⟩
      have hrl := hall _ (xss_mem hr)
      have hcr := hc.at hr
      have hget : (xss rs).getD i [] = r.xs := by rw [List.getD_eq_getElem?_getD, xss, List.getElem?_map, hr]; rfl
      refine WL.indexT Tryz.underlying87 Tryz.sizeOf26 hc.outer rfl rfl ⟨hr, rfl⟩ rfl ?_
      intro b_1 o_1 hc_1
      refine WL.load Tryz.isAgg26 rfl (hc_1 0 _ rfl) rfl (WL.assign rfl rfl (WL.assign rfl rfl (WL.nil (WX.then_normal (WC.seq (WC.region (WL.move rfl rfl (?_))))))))
      refine WL.move rfl rfl (?_)
      refine WL.call eg_48 rfl rfl (contains_calls (RSl.nil (fun _ => True) _ ei none 0) (by decide) _) ?_
      rintro v w3 ⟨rfl, k⟩
      rw [show decide ((i : Int) ∈ ([] : List Int)) = false from rfl]
      have zs_k := k.size
      replace hF := hF.pure k
      replace hO := hO.pure k
      replace hc := hc.pure k
      replace hk := hk.pure k
      replace hcr := hcr.pure k
      refine WL.not rfl rfl (WL.nil (WX.then_normal (WC.cond_true rfl (WC.region (WL.move rfl rfl (WL.move rfl rfl (WL.move rfl rfl (?_))))))))
      refine WL.move rfl rfl (?_)
      have hl3 : ∀ y ∈ three (xss rs) n i, y.length = n := by
        have hp : ∀ q, (prow (wtq q) (xss rs) n i).length = n := fun q => prow_len hall (by rw [xss, List.length_map]; omega)
        intro y hy
        simp only [three, List.mem_cons, List.not_mem_nil, or_false] at hy
        rcases hy with rfl | rfl | rfl <;> exact hp _
      refine WL.call eg_93 rfl rfl (add_calls hF hO hgs3 hl3 hcr hrl lgo i hn) ?_
      rintro v w4 ⟨rfl, hR, hO2, k⟩
      rw [← hget, three_next] at hO2
      have zs_k := k.size
      replace hc := hc.chg k (by intros; exfalso; (try dsimp only at *); omega)
      replace hk := hk.chg k (fun x _ h => h)
      replace hF : Fld w4 gf := .inr hR
      replace hO := hO2
      refine WL.nil (WX.block_normal (WX.then_normal (WC.region (WL.add64 rfl rfl (by omega) rfl (WL.move rfl rfl (WL.nil (?_)))))))
      exact WX.loop_next (i + 1) ⟨rfl, rfl, rfl, rfl, rfl, rfl, trivial⟩ ⟨by omega, hF, hO, hc, hk⟩ (by show _ - _ < _ - _; omega)
    ·
      refine WL.nil (WX.then_normal (WC.seq (WC.cond_false rfl (WC.exit (WX.then_exit (WX.then_exit (WX.block_here (?_))))))))
      refine WX.then_normal (WC.seq (WC.region (WL.move rfl rfl (WL.assign rfl rfl (WL.nil (WX.then_normal (WC.ret (?_))))))))
      refine WX.ret1 (.inl rfl) Tryz.results78 rfl ?_
      have hil : i = rs.length := by omega
      subst hil
      refine ⟨_, rfl, ⟨go, gs, rfl, hO, hgs3, hwg⟩, ?_⟩
      exact (hw.mono (M' := fun x => gf ≤ x) (fun x _ h => by have h2 : x = gf := h; omega)).chg hk (fun x h1 h2 => h2)
/-- the three parities of columns -/
theorem make_good {S : Nat → Prop} {w : World} {ac : Option Addr} {cc : Nat} {rs : List Rw} {n : Nat} (hc : RS S w ac cc rs) (h13 : rs.length ≤ 13) (hn : lenC (xss rs) = (n : Int)) :
    Calls Tryz.prog 66 [.slice ac rs.length cc].toArray w (Ret fun v w' => (∃ (go : Nat) (gs : List Nat), v = .tuple #[.slice (some ⟨go, 0, none⟩) 3 3, vi 0] ∧ OR w' 26 5 go 3 gs n (three (xss rs) n rs.length) [] ∧ gs.length = 3 ∧ w.heap.size ≤ go) ∧ Chg Nob w w') := by
  replace hc := hc.old
  have hw := Chg.refl Nob w
  obtain ⟨m, hm, hm1, hm2, hne, hall⟩ := lenC_some (cols := xss rs) (by omega)
  have hmn : m = n := by omega
  subst hmn
  refine Calls.of_WC Tryz.func66 rfl Tryz.ntmps66 (by simp) ?_
  refine WC.seq (WC.region (WL.assign rfl rfl (WL.assign rfl rfl (WL.nil (WX.then_normal (WC.seq (WC.region (?_))))))))
  refine WL.move rfl rfl (?_)
  refine WL.call eg_77 rfl rfl (length_calls hc (by omega)) ?_
  rintro v w1 ⟨rfl, k⟩
  rw [hm]
  have zs_k := k.size
  replace hc := hc.pure k
  replace hw := hw.pure k
  refine WL.assign rfl rfl (WL.nil (WX.then_normal (WC.seq (WC.seq (WC.region (WL.move rfl rfl (WL.len Tryz.underlying87 rfl rfl (?_))))))))
  refine WL.gtr rfl rfl rfl ?_
  rw [show decide ((rs.length : Int) > 13) = false from decide_eq_false (by omega)]
  refine WL.move rfl rfl (WL.want rfl rfl rfl (WL.move rfl rfl (WL.want rfl rfl rfl (?_))))
  refine WL.lss rfl rfl rfl ?_
  rw [show decide ((m : Int) < 0) = false from decide_eq_false (by omega)]
  refine WL.pickF rfl rfl rfl (WL.nil (WX.then_normal (WC.cond_false rfl (WC.skip (WX.then_normal (WC.seq (WC.region (?_))))))))
  refine WL.bld rfl bldF rfl ?_
  refine WL.box rfl rfl ?_
  intro g_1 w_1 hge_1 hlt_1 hb_1 k_1
  have zs_k_1 := k_1.size
  replace hc := hc.pure k_1
  replace hw := hw.pure k_1
  refine WL.move rfl rfl (WL.move rfl rfl (?_))
  have hF : Fld w_1 g_1 := .inl hb_1
  have zw0 := hw.size
  have hc2 : RS (fun b => b < g_1) w_1 ac cc rs := hc.mono (fun b hb => by have := k_1.size; omega)
  refine WL.call eg_78 rfl rfl (sums_calls hF hc2 (by omega) h13 hall) ?_
  rintro v w2 ⟨⟨go, gs, rfl, hO, hgs, hgo⟩, k⟩
  have zs_k := k.size
  replace hw := hw.chg k (by intros; exfalso; (try dsimp only at *); omega)
  refine WL.assign rfl rfl (WL.assign rfl rfl (WL.nil (WX.then_normal (WC.ret (?_)))))
  refine WX.ret2 (.inl rfl) Tryz.results66 rfl rfl ?_
  exact ⟨_, rfl, ⟨go, gs, rfl, hO, hgs, by omega⟩, hw⟩
end Go.Proofs.YtggecdldnpildaaGreat
namespace Go.Proofs.YtggecdldnpildaaGreat
open Go.RowKit Go.HL
set_option maxRecDepth 100000

theorem xss_at' {rs : List Rw} {i : Nat} {r : Rw} (h : rs[i]? = some r) : (xss rs)[i]? = some r.xs := by rw [xss, List.getElem?_map, h]; rfl
theorem addRow_zeros {acc : List UInt8} {n : Nat} {m : UInt8} (h : acc.length = n) : addRow acc (List.replicate n 0) m = acc := by
  apply List.ext_getElem?
  intro k
  rcases Nat.lt_or_ge k n with hk | hk
  · have h1 : acc[k]? = some acc[k] := List.getElem?_eq_getElem (by omega)
    have h2 : (List.replicate n (0 : UInt8))[k]? = some 0 := by rw [List.getElem?_replicate, if_pos hk]
    rw [addRow_at h1 h2, h1, mul_zero_r, UInt8.xor_zero]
  · rw [List.getElem?_eq_none (by rw [addRow_len (by rw [List.length_replicate, h])]; omega), List.getElem?_eq_none (by omega)]
/-- a column of noughts may be left out -/
theorem three_skip {cols : List (List UInt8)} {n i : Nat} (hz : cols.getD i [] = List.replicate n 0) (h : ∀ d ∈ cols, d.length = n) (hi : i ≤ cols.length) : three cols n (i + 1) = three cols n i := by
  have hq : ∀ q, prow (wtq q) cols n (i + 1) = prow (wtq q) cols n i := by
    intro q
    rw [prow, hz]
    exact addRow_zeros (prow_len h hi)
  simp only [three, hq]
set_option maxHeartbeats 4000000 in
theorem sums_calls2 {w : World} {gf n : Nat} {ac ab : Option Addr} {cc cb : Nat} {rs : List Rw} {W : List Int} (hF : Fld w gf) (hc : RS (fun b => b < gf) w ac cc rs) (hW : RSl (fun b => b < gf) w ei ab cb W) (hWl : W.length ≤ 140737488351232) (hz : ∀ (i : Nat) (x : List UInt8), (xss rs)[i]? = some x → (i : Int) ∈ W → x = List.replicate n 0) (hn : n ≤ 4096) (hl : rs.length ≤ 13) (hall : ∀ d ∈ xss rs, d.length = n) :
    Calls Tryz.prog 78 [.pointer (some ⟨gf, 0, none⟩), .slice ac rs.length cc, vi n, .slice ab W.length cb].toArray w (Ret fun v w' => (∃ (go : Nat) (gs : List Nat), v = .slice (some ⟨go, 0, none⟩) 3 3 ∧ OR w' 26 5 go 3 gs n (three (xss rs) n rs.length) [] ∧ gs.length = 3 ∧ w.heap.size ≤ go ∧ Fld w' gf) ∧ Chg (fun x => gf ≤ x) w w') := by
  have hw := Chg.refl (fun x => x = gf) w
  have lgf := hF.lt
  refine Calls.of_WC Tryz.func78 rfl Tryz.ntmps78 (by simp) ?_
  refine WC.seq (WC.region (WL.assign rfl rfl (WL.nil (WX.then_normal (WC.seq (WC.region (?_)))))))
  refine WL.make (e := erow) nilRw 3 3 Tryz.underlying87 info_26 rfl rfl rfl ⟨rfl, rfl, by decide⟩ (by decide) rfl ?_
  intro go wq hq kq zq ego
  rw [show (List.replicate 3 nilRw).length = 3 from rfl]
  have zs_kq := kq.size
  replace hF := hF.pure kq
  replace hc := hc.pure kq
  replace hW := hW.pure kq
  replace hw := hw.pure kq
  refine WL.assign rfl rfl (WL.nil (WX.then_normal (WC.seq (WC.seq (WC.region (WL.move rfl rfl (WL.len Tryz.underlying87 rfl rfl (?_))))))))
  refine WL.move rfl rfl (WL.nil (WX.then_normal (WC.block (?_))))
  have lgo : gf < go := by omega
  have hq0 : Row (fun b => b = go) wq 26 erow (some ⟨go, 0, none⟩) 3 (List.replicate 3 nilRw) := ⟨fun a ea => by injection ea with ea; subst ea; rfl, hq.own⟩
  have hO0 : OR wq 26 5 go 3 [] n [] (List.replicate 3 nilRw) := ⟨hq0, fun i g x h => by simp at h, rfl, fun i j g h => by simp at h, fun i g h => by simp at h⟩
  have hwg : w.heap.size ≤ go := by omega
  refine WC.loop (σ := List Nat) (fun gs => [(0, .pointer (some ⟨gf, 0, none⟩)), (1, .slice ac rs.length cc), (2, vi n), (3, .slice ab W.length cb), (9, .slice (some ⟨go, 0, none⟩) 3 3), (15, vi 3), (16, vi gs.length)])
    (fun gs w' => gs.length ≤ 3 ∧ OR w' 26 5 go 3 gs n (List.replicate gs.length (List.replicate n 0)) (List.replicate (3 - gs.length) nilRw) ∧ Fld w' gf ∧ RS (fun b => b < gf) w' ac cc rs ∧ RSl (fun b => b < gf) w' ei ab cb W ∧ Chg (fun x => x = gf) w w') (fun gs => 3 - gs.length) [] ⟨rfl, rfl, rfl, rfl, rfl, rfl, rfl, trivial⟩ ⟨by decide, hO0, hF, hc, hW, hw⟩ ?_
  clear hF hc hW hw hq hq0 hO0
  rintro gs w8 ⟨hg3, hO, hF, hc, hW, hw⟩
  refine WC.seq (WC.region (?_))
  refine WL.lss? rfl rfl rfl (fun h17 => ?_) (fun h17 => ?_)
  ·
    refine WL.nil (WX.then_normal (WC.seq (WC.cond_true rfl (WC.skip (WX.then_normal (WC.seq (WC.block (?_))))))))
    refine WC.seq (WC.region (WL.move rfl rfl (WL.assign rfl rfl (WL.nil (WX.then_normal (WC.region (WL.move rfl rfl (?_))))))))
    refine WL.move rfl rfl (WL.move rfl rfl (?_))
    have lgs : ∀ (j g : Nat), gs[j]? = some g → g < w8.heap.size := fun j g h => hO.lt h
    have lgo8 := hO.lto
    refine WL.make (e := eb) (0 : UInt8) n n Tryz.underlying26 info_5 rfl rfl rfl ⟨rfl, rfl, Nat.le_refl _⟩ (by constructor <;> omega) rfl ?_
    intro g w9 hg9 k9 z9 eg
    rw [List.length_replicate]
    replace hO := hO.pure k9
    have hgr : Row (fun b => b = g) w9 5 eb (some ⟨g, 0, none⟩) n (List.replicate n 0) := ⟨fun a ea => by injection ea with ea; subst ea; rfl, hg9.own⟩
    obtain ⟨tl, htl⟩ : ∃ tl, List.replicate (3 - gs.length) nilRw = nilRw :: tl ∧ tl = List.replicate (3 - (gs.length + 1)) nilRw := ⟨_, by rw [show 3 - gs.length = (3 - (gs.length + 1)) + 1 from by omega, List.replicate_succ], rfl⟩
    rw [htl.1] at hO
    have hol : (orows gs n (List.replicate gs.length (List.replicate n 0)) ++ nilRw :: tl).length = 3 := by
      rw [List.length_append, orows_len (by rw [List.length_replicate]), htl.2, List.length_cons, List.length_replicate]
      omega
    have zs_k9 := k9.size
    replace hF := hF.pure k9
    replace hc := hc.pure k9
    replace hW := hW.pure k9
    replace hw := hw.pure k9
    refine WL.index (sz := 1) Tryz.underlying87 Tryz.sizeOf26 rfl rfl rfl (by omega) rfl ?_
    refine WL.storeRow (z := ⟨some ⟨g, 0, none⟩, n, List.replicate n 0⟩) gs.length Tryz.sizeOf26 hO.outer rfl (by show [Value.slice (some ⟨g, 0, none⟩) (List.replicate n 0).length n] = _; rw [List.length_replicate]) rfl (by show 0 + _ * 1 = _; omega) (by omega) rfl ?_
    intro w4 zs4 ho4 k4
    have zs_k4 := k4.size
    replace hF := hF.chg k4 (by intro h1; have h2 : _ = _ := h1; exfalso; omega)
    replace hc := hc.chg k4 (by intro b h1 h2 h3; have h4 : _ = _ := h3; (try dsimp only at h2); exfalso; omega)
    replace hW := hW.chg k4 (by intro b h1 h2 h3; have h4 : _ = _ := h3; (try dsimp only at h2); exfalso; omega)
    replace hw := hw.chg k4 (by intro x h1 h2; have h3 : _ = _ := h2; exfalso; omega)
    have hO2 := hO.snoc (g := g) (x := List.replicate n 0) (by omega) (fun i g' h => by have := lgs i g' h; omega) k4 (fun i g' h e => by have h2 : g' = go := e; have := hO.above i g' h; omega) ho4 (hgr.chg k4 (fun b h1 h2 h3 => by have h4 : b = go := h3; have h5 : b = g := h2; omega))
    refine WL.nil (WX.block_normal (WX.then_normal (WC.region (WL.add64 rfl rfl (by omega) rfl (WL.move rfl rfl (WL.nil (?_)))))))
    refine WX.loop_next (gs ++ [g]) ⟨rfl, rfl, rfl, rfl, rfl, rfl, ?_, trivial⟩ ⟨by rw [List.length_append]; show gs.length + 1 ≤ 3; omega, ?_, hF, hc, hW, hw⟩ (by rw [List.length_append]; show 3 - (gs.length + 1) < 3 - gs.length; omega)
    ·
      rw [List.length_append]
      rfl
    ·
      rw [List.length_append, show gs.length + [g].length = gs.length + 1 from rfl, ← htl.2, List.replicate_succ']
      exact hO2
  ·
    refine WL.nil (WX.then_normal (WC.seq (WC.cond_false rfl (WC.exit (WX.then_exit (WX.then_exit (WX.block_here (?_))))))))
    refine WX.then_normal (WC.seq (WC.seq (WC.region (WL.move rfl rfl (WL.len Tryz.underlying87 rfl rfl (WL.move rfl rfl (WL.nil (?_))))))))
    refine WX.then_normal (WC.block (?_))
    have hgs3 : gs.length = 3 := by omega
    rw [hgs3] at hO
    have hO1 : OR w8 26 5 go 3 gs n (three (xss rs) n 0) [] := hO
    refine WC.loop (σ := Nat) (fun i => [(0, .pointer (some ⟨gf, 0, none⟩)), (3, .slice ab W.length cb), (9, .slice (some ⟨go, 0, none⟩) 3 3), (25, .slice ac rs.length cc), (26, vi rs.length), (27, vi i)])
      (fun i w' => i ≤ rs.length ∧ Fld w' gf ∧ OR w' 26 5 go 3 gs n (three (xss rs) n i) [] ∧ RS (fun b => b < gf) w' ac cc rs ∧ RSl (fun b => b < gf) w' ei ab cb W ∧ Chg (fun x => gf ≤ x) w8 w') (fun i => rs.length - i) 0 ⟨rfl, rfl, rfl, rfl, rfl, rfl, trivial⟩ ⟨Nat.zero_le _, hF, hO1, hc, hW, Chg.refl _ _⟩ ?_
    clear hO hO1 hF hc hW
    rintro i w7 ⟨hi, hF, hO, hc, hW, hk⟩
    refine WC.seq (WC.region (?_))
    refine WL.lss? rfl rfl rfl (fun h28 => ?_) (fun h28 => ?_)
    ·
      refine WL.nil (WX.then_normal (WC.seq (WC.cond_true rfl (WC.skip (WX.then_normal (WC.seq (WC.block (?_))))))))
      refine WC.seq (WC.region (WL.move rfl rfl (?_)))
      obtain ⟨r, hr⟩ : ∃ r, rs[i]? = some r := ⟨_, List.getElem?_eq_getElem (by omega)⟩
      have hrl := hall _ (xss_mem hr)
      have hcr := hc.at hr
      have hget : (xss rs).getD i [] = r.xs := by rw [List.getD_eq_getElem?_getD, xss, List.getElem?_map, hr]; rfl
      refine WL.indexT Tryz.underlying87 Tryz.sizeOf26 hc.outer rfl rfl ⟨hr, rfl⟩ rfl ?_
      intro b_1 o_1 hc_1
      refine WL.load Tryz.isAgg26 rfl (hc_1 0 _ rfl) rfl (WL.assign rfl rfl (WL.assign rfl rfl (WL.nil (WX.then_normal (WC.seq (WC.region (WL.move rfl rfl (?_))))))))
      refine WL.move rfl rfl (?_)
      refine WL.call eg_48 rfl rfl (contains_calls hW hWl _) ?_
      rintro v w3 ⟨rfl, k⟩
      have zs_k := k.size
      replace hF := hF.pure k
      replace hO := hO.pure k
      replace hc := hc.pure k
      replace hW := hW.pure k
      replace hk := hk.pure k
      replace hcr := hcr.pure k
      by_cases hiW : (i : Int) ∈ W
      ·
        rw [decide_eq_true hiW]
        refine WL.not rfl rfl (WL.nil (WX.then_normal (WC.cond_false rfl (WC.skip (WX.block_normal (WX.then_normal (WC.region (?_))))))))
        refine WL.add64 rfl rfl (by omega) rfl (WL.move rfl rfl (WL.nil (?_)))
        have hz1 := hz i r.xs (xss_at' hr) hiW
        have hO2 := hO
        rw [← three_skip (hget.trans hz1) hall (by rw [xss, List.length_map]; omega)] at hO2
        exact WX.loop_next (i + 1) ⟨rfl, rfl, rfl, rfl, rfl, rfl, trivial⟩ ⟨by omega, hF, hO2, hc, hW, hk⟩ (by show _ - _ < _ - _; omega)
      ·
        rw [decide_eq_false hiW]
        refine WL.not rfl rfl (WL.nil (WX.then_normal (WC.cond_true rfl (WC.region (WL.move rfl rfl (WL.move rfl rfl (WL.move rfl rfl (?_))))))))
        refine WL.move rfl rfl (?_)
        have hl3 : ∀ y ∈ three (xss rs) n i, y.length = n := by
          have hp : ∀ q, (prow (wtq q) (xss rs) n i).length = n := fun q => prow_len hall (by rw [xss, List.length_map]; omega)
          intro y hy
          simp only [three, List.mem_cons, List.not_mem_nil, or_false] at hy
          rcases hy with rfl | rfl | rfl <;> exact hp _
        refine WL.call eg_93 rfl rfl (add_calls hF hO hgs3 hl3 hcr hrl lgo i hn) ?_
        rintro v w4 ⟨rfl, hR, hO2, k⟩
        rw [← hget, three_next] at hO2
        have zs_k := k.size
        replace hc := hc.chg k (by intros; exfalso; (try dsimp only at *); omega)
        replace hW := hW.chg k (by intros; exfalso; (try dsimp only at *); omega)
        replace hk := hk.chg k (fun x _ h => h)
        replace hF : Fld w4 gf := .inr hR
        replace hO := hO2
        refine WL.nil (WX.block_normal (WX.then_normal (WC.region (WL.add64 rfl rfl (by omega) rfl (WL.move rfl rfl (WL.nil (?_)))))))
        exact WX.loop_next (i + 1) ⟨rfl, rfl, rfl, rfl, rfl, rfl, trivial⟩ ⟨by omega, hF, hO, hc, hW, hk⟩ (by show _ - _ < _ - _; omega)
    ·
      refine WL.nil (WX.then_normal (WC.seq (WC.cond_false rfl (WC.exit (WX.then_exit (WX.then_exit (WX.block_here (?_))))))))
      refine WX.then_normal (WC.seq (WC.region (WL.move rfl rfl (WL.assign rfl rfl (WL.nil (WX.then_normal (WC.ret (?_))))))))
      refine WX.ret1 (.inl rfl) Tryz.results78 rfl ?_
      have hil : i = rs.length := by omega
      subst hil
      refine ⟨_, rfl, ⟨go, gs, rfl, hO, hgs3, hwg, hF⟩, ?_⟩
      exact (hw.mono (M' := fun x => gf ≤ x) (fun x _ h => by have h2 : x = gf := h; omega)).chg hk (fun x h1 h2 => h2)
end Go.Proofs.YtggecdldnpildaaGreat
namespace Go.HL
open Go.RowKit
/-! the document's products, bit by bit -/
def bit (b : UInt8) (k : Nat) : UInt8 := (b >>> UInt8.ofNat k) &&& 1
end Go.HL
namespace Go.Proofs.YtggecdldnpildaaGreat
open Go.RowKit Go.HL
set_option maxRecDepth 100000

end Go.Proofs.YtggecdldnpildaaGreat
namespace Go.Proofs.YtggecdldnpildaaGreat
open Go.RowKit Go.HL
set_option maxRecDepth 100000

theorem xss_orows : ∀ {gs : List Nat} {n : Nat} {ys : List (List UInt8)}, gs.length = ys.length → xss (orows gs n ys) = ys
  | [], n, [], _ => rfl
  | g :: gs, n, y :: ys, h => by
    have ih := xss_orows (gs := gs) (n := n) (ys := ys) (by simpa using h)
    simp only [xss, orows] at ih
    simp [xss, orows, ih]
  | [], n, y :: ys, h => by simp at h
  | g :: gs, n, [], h => by simp at h
/-! the same columns? -/
end Go.Proofs.YtggecdldnpildaaGreat
namespace Go.HL
open Go.RowKit
/-- rows of bytes that are gathered, one behind the other -/
structure CR (N n1 : Nat) (w : World) (T : TypeId) (ao : Option Addr) (c : Nat) (rs : List Rw) : Prop where
  outer : Row (fun x => N ≤ x ∧ x < n1) w T erow ao c rs
  inner : ∀ r ∈ rs, RSl (fun x => (N ≤ x ∧ x < n1) ∧ ¬ Eqb ao x) w eb r.ao r.cap r.xs
section
variable {N n1 : Nat} {w w' : World} {T : TypeId} {ao : Option Addr} {c : Nat} {rs : List Rw} {M : Nat → Prop}
theorem CR.nil (N n1 : Nat) (w : World) (T : TypeId) : CR N n1 w T none 0 [] := ⟨Row.nil _ _ _ _, fun r hr => by cases hr⟩
theorem CR.chg (h : CR N n1 w T ao c rs) (k : Chg M w w') (hd : ∀ x, N ≤ x ∧ x < n1 → M x → False) : CR N n1 w' T ao c rs :=
  ⟨h.outer.chg k (fun b _ hs hm => hd b hs hm), fun r hr => (h.inner r hr).chg k (fun b _ hs hm => hd b hs.1 hm)⟩
theorem CR.pure (h : CR N n1 w T ao c rs) (k : Chg Nob w w') : CR N n1 w' T ao c rs := h.chg k (fun _ _ x => x)
/-- one more, which was made after all others -/
theorem CR.snoc (h : CR N n1 w T ao c rs) {r : Rw} (hr : RSl (fun x => n1 ≤ x ∧ x < w.heap.size) w eb r.ao r.cap r.xs) (hN : N ≤ n1) (hs : n1 ≤ w.heap.size) {ao2 : Option Addr} {c2 : Nat} (ho : Row (fun x => N ≤ x) w' T erow ao2 c2 (rs ++ [r])) (g : Grow (fun x => N ≤ x) w ao w' ao2) :
    CR N w'.heap.size w' T ao2 c2 (rs ++ [r]) := by
  have zs := g.chg.size
  have ho2 : Row (fun x => N ≤ x ∧ x < w'.heap.size) w' T erow ao2 c2 (rs ++ [r]) := ho.lt
  have hat : ∀ x, Eqb ao x → x < n1 := fun x e => (h.outer.at_.eqb e).2
  have hnew : ∀ x, x < w.heap.size → Eqb ao2 x → Eqb ao x := by
    intro x hx e
    rcases g.fr with e1 | e1
    · rw [← e1]; exact e
    · have := e1.eqb e
      omega
  refine ⟨ho2, fun q hq => ?_⟩
  rcases List.mem_append.1 hq with h1 | h1
  · refine (((h.inner q h1).lt).chg g.chg (fun b _ hb hm => hb.1.2 hm.1)).mono (fun b hb => ⟨⟨hb.1.1.1, by omega⟩, fun e => hb.1.2 (hnew b hb.2 e)⟩)
  · simp at h1
    subst h1
    refine (hr.chg g.chg (fun b _ hb hm => by have := hat b hm.1; omega)).mono (fun b hb => ⟨⟨by omega, by omega⟩, fun e => by have := hat b (hnew b hb.2 e); omega⟩)
theorem CR.read (h : CR N n1 w T ao c rs) : RS (fun _ => True) w ao c rs := ⟨h.outer.rsl.mono (fun _ _ => trivial), fun r hr => (h.inner r hr).mono (fun _ _ => trivial)⟩
end
/-! sums of columns -/
/-- a parity's byte -/
def px (wt : Nat → UInt8) (cols : List (List UInt8)) (k : Nat) : Nat → UInt8
  | 0 => 0
  | i + 1 => px wt cols k i ^^^ mul (wt i) ((cols.getD i []).getD k 0)
theorem prow_at {wt : Nat → UInt8} {cols : List (List UInt8)} {n : Nat} (h : ∀ d ∈ cols, d.length = n) {k : Nat} (hk : k < n) : ∀ {i : Nat}, i ≤ cols.length → (prow wt cols n i)[k]? = some (px wt cols k i) := by
  intro i
  induction i with
  | zero => intro _; rw [prow, List.getElem?_replicate, if_pos hk]; rfl
  | succ i ih =>
    intro hi
    have h2 : (cols.getD i []).length = n := by
      rw [List.getD_eq_getElem?_getD, List.getElem?_eq_getElem (by omega)]
      exact h _ (List.getElem_mem _)
    have h3 : (cols.getD i [])[k]? = some ((cols.getD i []).getD k 0) := by
      rw [List.getD_eq_getElem?_getD (l := cols.getD i []), List.getElem?_eq_getElem (by omega)]
      rfl
    rw [prow, addRow_at (ih (by omega)) h3]
    rfl
end Go.HL
namespace Go.Proofs.YtggecdldnpildaaGreat
open Go.RowKit Go.HL
set_option maxRecDepth 100000

theorem three_at {cols : List (List UInt8)} {n m i : Nat} (h : i < 3) : (three cols n m)[i]? = some (prow (wtq i) cols n m) := by
  have h3 : i = 0 ∨ i = 1 ∨ i = 2 := by omega
  rcases h3 with rfl | rfl | rfl <;> rfl
theorem xss_at {rs : List Rw} {i : Nat} {r : Rw} (h : rs[i]? = some r) : (xss rs)[i]? = some r.xs := by rw [xss, List.getElem?_map, h]; rfl
theorem xss_len (rs : List Rw) : (xss rs).length = rs.length := by rw [xss, List.length_map]
end Go.Proofs.YtggecdldnpildaaGreat
namespace Go.HL
open Go.RowKit
theorem RS.cut {S : Nat → Prop} {w : World} {ao : Option Addr} {c : Nat} {rs : List Rw} (hr : RS S w ao c rs) (l h : Nat) (hl : l ≤ h ∧ h ≤ rs.length) : RS S w (cutAt ao c l erow.sz) (c - l) ((rs.take h).drop l) :=
  ⟨hr.outer.cut l h hl, fun r h1 => hr.inner r (List.mem_of_mem_take (List.mem_of_mem_drop h1))⟩
end Go.HL
namespace Go.Proofs.YtggecdldnpildaaGreat
open Go.RowKit Go.HL
set_option maxRecDepth 100000

theorem xss_take (rs : List Rw) (k : Nat) : xss ((rs.take k).drop 0) = (xss rs).take k := by rw [List.drop_zero, xss, xss, List.map_take]
theorem beq0_calls {S1 S2 : Nat → Prop} {w : World} {a b : Option Addr} {c d : Nat} {us vs : List UInt8} (hx : RSl S1 w eb a c us) (hy : RSl S2 w eb b d vs) :
    Calls Tryz.prog 61 [.slice a us.length c, .slice b vs.length d].toArray w (Ret fun v w' => v = .bool (decide (us = vs)) ∧ Chg Nob w w') := by
  have hw := Chg.refl Nob w
  refine Calls.of_WC Tryz.func61 rfl Tryz.ntmps61 (by simp) ?_
  refine WC.seq (WC.region (WL.assign rfl rfl (WL.nil (WX.then_normal (WC.seq (WC.region (WL.move rfl rfl (?_))))))))
  refine WL.toStr Tryz.underlying26 Tryz.underlying5 Tryz.underlying9 hx rfl rfl ?_
  refine WL.move rfl rfl (?_)
  refine WL.toStr Tryz.underlying26 Tryz.underlying5 Tryz.underlying9 hy rfl rfl ?_
  refine WL.seql rfl rfl rfl (WL.assign rfl rfl (WL.nil (WX.then_normal (WC.ret (?_)))))
  refine WX.ret1 (.inl rfl) Tryz.results61 rfl ?_
  refine ⟨_, rfl, congrArg Value.bool (decide_eq_decide.2 ⟨fun h => ?_, fun h => by rw [h]⟩), hw⟩
  exact congrArg (fun s : ByteArray => s.data.toList) h
/-! what can be checked -/
end Go.Proofs.YtggecdldnpildaaGreat
/-! plain: linear equations over the field -/
namespace Go.HL
theorem xor_self' (a : UInt8) : a ^^^ a = 0 := UInt8.xor_self
theorem xor_zero' (a : UInt8) : a ^^^ 0 = a := UInt8.xor_zero
theorem zero_xor' (a : UInt8) : 0 ^^^ a = a := UInt8.zero_xor
theorem xor_eq_zero {a b : UInt8} : a ^^^ b = 0 ↔ a = b := by
  constructor
  · intro h
    have : a ^^^ b ^^^ b = 0 ^^^ b := by rw [h]
    rwa [UInt8.xor_assoc, xor_self', xor_zero', zero_xor'] at this
  · rintro rfl; exact xor_self' a
theorem xor_mul (a b c : UInt8) : mul (a ^^^ b) c = mul a c ^^^ mul b c := by rw [mul_comm, mul_xor, mul_comm c a, mul_comm c b]
theorem one_mul' (a : UInt8) : mul 1 a = a := by rw [mul_comm, mul_one]
theorem mul_eq_zero {a b : UInt8} : mul a b = 0 ↔ a = 0 ∨ b = 0 := by
  constructor
  · intro h
    by_cases ha : a = 0
    · exact .inl ha
    · by_cases hb : b = 0
      · exact .inr hb
      · exact absurd h (mul_ne ha hb)
  · rintro (rfl | rfl)
    · exact mul_zero_l b
    · exact mul_zero_r a
def sumF : Nat → (Nat → UInt8) → UInt8
  | 0, _ => 0
  | n + 1, f => sumF n f ^^^ f n
theorem sumF_cong {n : Nat} {f g : Nat → UInt8} (h : ∀ i, i < n → f i = g i) : sumF n f = sumF n g := by
  induction n with
  | zero => rfl
  | succ n ih => rw [sumF, sumF, ih (fun i hi => h i (by omega)), h n (by omega)]
theorem sumF_zero {n : Nat} {f : Nat → UInt8} (h : ∀ i, i < n → f i = 0) : sumF n f = 0 := by
  induction n with
  | zero => rfl
  | succ n ih => rw [sumF, ih (fun i hi => h i (by omega)), h n (by omega)]; rfl
theorem sumF_xor (n : Nat) (f g : Nat → UInt8) : sumF n (fun i => f i ^^^ g i) = sumF n f ^^^ sumF n g := by
  induction n with
  | zero => show (0 : UInt8) = 0 ^^^ 0; decide
  | succ n ih => rw [sumF, sumF, sumF, ih, xor4]
theorem sumF_mul (n : Nat) (c : UInt8) (f : Nat → UInt8) : sumF n (fun i => mul c (f i)) = mul c (sumF n f) := by
  induction n with
  | zero => exact (mul_zero_r c).symm
  | succ n ih => rw [sumF, sumF, ih, mul_xor]
theorem sumF_single {n k : Nat} (hk : k < n) {f : Nat → UInt8} (h : ∀ i, i < n → i ≠ k → f i = 0) : sumF n f = f k := by
  induction n with
  | zero => omega
  | succ n ih =>
    rw [sumF]
    by_cases e : k = n
    · subst e
      rw [sumF_zero (fun i hi => h i (by omega) (by omega)), zero_xor']
    · rw [ih (by omega) (fun i hi hne => h i (by omega) hne), h n (by omega) (fun e2 => e e2.symm), xor_zero']
theorem sumF_two {n a b : Nat} (ha : a < n) (hb : b < n) (hab : a ≠ b) {f : Nat → UInt8} (h : ∀ i, i < n → i ≠ a → i ≠ b → f i = 0) : sumF n f = f a ^^^ f b := by
  have e : sumF n f = sumF n (fun i => (if i = a then f a else 0) ^^^ (if i = b then f b else 0)) := sumF_cong (fun i hi => by
    by_cases h1 : i = a
    · subst h1; rw [if_pos rfl, if_neg hab, xor_zero']
    · by_cases h2 : i = b
      · subst h2; rw [if_neg h1, if_pos rfl, zero_xor']
      · rw [if_neg h1, if_neg h2, h i hi h1 h2]; rfl)
  rw [e, sumF_xor, sumF_single ha (fun i _ hne => if_neg hne), sumF_single hb (fun i _ hne => if_neg hne), if_pos rfl, if_pos rfl]
/-- what a matrix sends to 0 -/
def Ker (n c : Nat) (m : Nat → Nat → UInt8) (y : Nat → UInt8) : Prop := ∀ i, i < n → sumF c (fun j => mul (m i j) (y j)) = 0
structure GE (n : Nat) (R m : Nat → Nat → UInt8) (k : Nat) : Prop where
  ker : ∀ y, Ker n (n + 1) R y ↔ Ker n (n + 1) m y
  unit : ∀ j, j < k → ∀ i, i < n → m i j = if i = j then 1 else 0
section
variable {n k : Nat} {R m m' : Nat → Nat → UInt8}
theorem GE.start (n : Nat) (R : Nat → Nat → UInt8) : GE n R R 0 := ⟨fun _ => Iff.rfl, fun j hj => absurd hj (Nat.not_lt_zero j)⟩
theorem GE.swap (h : GE n R m k) {a b : Nat} (ha : k ≤ a ∧ a < n) (hb : k ≤ b ∧ b < n) (hm : ∀ i j, i < n → m' i j = m (if i = a then b else if i = b then a else i) j) : GE n R m' k := by
  have hlt : ∀ i, i < n → (if i = a then b else if i = b then a else i) < n := fun i hi => by split; exact hb.2; split; exact ha.2; exact hi
  refine ⟨fun y => (h.ker y).trans ⟨fun hK i hi => ?_, fun hK i hi => ?_⟩, fun j hj i hi => ?_⟩
  · have := hK _ (hlt i hi)
    rw [← this]
    exact sumF_cong (fun j _ => by rw [hm i j hi])
  · have := hK _ (hlt i hi)
    rw [← this]
    refine sumF_cong (fun j _ => ?_)
    rw [hm _ j (hlt i hi)]
    congr 2
    by_cases e1 : i = a
    · rw [if_pos e1]
      by_cases e3 : b = a
      · rw [if_pos e3]; omega
      · rw [if_neg e3, if_pos rfl]; omega
    · rw [if_neg e1]
      by_cases e2 : i = b
      · rw [if_pos e2, if_pos rfl]; omega
      · rw [if_neg e2, if_neg e1, if_neg e2]
  · rw [hm i j hi, h.unit j hj _ (hlt i hi)]
    by_cases e1 : i = a
    · rw [if_pos e1, if_neg (by omega), if_neg (by omega)]
    · rw [if_neg e1]
      by_cases e2 : i = b
      · rw [if_pos e2, if_neg (by omega), if_neg (by omega)]
      · rw [if_neg e2]
theorem GE.scale (h : GE n R m k) {s : UInt8} (hs : s ≠ 0) (hk : k < n) (hm : ∀ i j, i < n → m' i j = if i = k then mul (m i j) s else m i j) : GE n R m' k := by
  have key : ∀ i, i < n → ∀ y : Nat → UInt8, sumF (n + 1) (fun j => mul (m' i j) (y j)) = mul (if i = k then s else 1) (sumF (n + 1) (fun j => mul (m i j) (y j))) := fun i hi y => by
    rw [← sumF_mul]
    refine sumF_cong (fun j _ => ?_)
    rw [hm i j hi]
    by_cases e : i = k
    · rw [if_pos e, if_pos e, mul_comm (m i j) s, mul_assoc]
    · rw [if_neg e, if_neg e, one_mul']
  refine ⟨fun y => (h.ker y).trans ⟨fun hK i hi => ?_, fun hK i hi => ?_⟩, fun j hj i hi => ?_⟩
  · rw [key i hi, hK i hi, mul_zero_r]
  · have h1 := hK i hi
    rw [key i hi, mul_eq_zero] at h1
    rcases h1 with h1 | h1
    · split at h1
      · exact absurd h1 hs
      · exact absurd h1 (by decide)
    · exact h1
  · rw [hm i j hi, h.unit j hj i hi]
    by_cases e : i = k
    · rw [if_pos e, if_neg (by omega), mul_zero_l]
    · rw [if_neg e]
theorem GE.add (h : GE n R m k) {a : Nat} (ha : a < n ∧ a ≠ k) (hk : k < n) (b : UInt8) (hm : ∀ i j, i < n → m' i j = if i = a then m i j ^^^ mul (m k j) b else m i j) : GE n R m' k := by
  have key : ∀ y : Nat → UInt8, sumF (n + 1) (fun j => mul (m' a j) (y j)) = sumF (n + 1) (fun j => mul (m a j) (y j)) ^^^ mul b (sumF (n + 1) (fun j => mul (m k j) (y j))) := fun y => by
    rw [← sumF_mul, ← sumF_xor]
    refine sumF_cong (fun j _ => ?_)
    rw [hm a j ha.1, if_pos rfl, xor_mul, mul_comm (m k j) b, mul_assoc]
  have same : ∀ i, i < n → i ≠ a → ∀ y : Nat → UInt8, sumF (n + 1) (fun j => mul (m' i j) (y j)) = sumF (n + 1) (fun j => mul (m i j) (y j)) := fun i hi hne y => sumF_cong (fun j _ => by rw [hm i j hi, if_neg hne])
  refine ⟨fun y => (h.ker y).trans ⟨fun hK i hi => ?_, fun hK i hi => ?_⟩, fun j hj i hi => ?_⟩
  · by_cases e : i = a
    · subst e; rw [key, hK i hi, hK k hk, mul_zero_r]; rfl
    · rw [same i hi e]; exact hK i hi
  · by_cases e : i = a
    · subst e
      have h1 := hK i hi
      rw [key, ← same k hk (fun e => ha.2 e.symm), hK k hk, mul_zero_r, xor_zero'] at h1
      exact h1
    · rw [← same i hi e]; exact hK i hi
  · rw [hm i j hi, h.unit j hj i hi, h.unit j hj k hk, if_neg (show ¬ k = j by omega), mul_zero_l, xor_zero']
    split <;> rfl
theorem GE.next (h : GE n R m k) (h1 : ∀ i, i < n → m i k = if i = k then 1 else 0) : GE n R m (k + 1) := ⟨h.ker, fun j hj i hi => by
  by_cases e : j = k
  · subst e; exact h1 i hi
  · exact h.unit j (by omega) i hi⟩
/-- all columns are done: one solution -/
theorem GE.done (h : GE n R m n) (z : Nat → UInt8) : (∀ i, i < n → sumF n (fun j => mul (R i j) (z j)) = R i n) ↔ ∀ i, i < n → z i = m i n := by
  obtain ⟨y, hy⟩ : ∃ y : Nat → UInt8, y = fun j => if j < n then z j else 1 := ⟨_, rfl⟩
  have e1 : ∀ (M : Nat → Nat → UInt8) i, sumF (n + 1) (fun j => mul (M i j) (y j)) = sumF n (fun j => mul (M i j) (z j)) ^^^ M i n := fun M i => by
    rw [sumF]
    congr 1
    · exact sumF_cong (fun j hj => by rw [hy]; simp only [if_pos hj])
    · rw [hy]; simp only [Nat.lt_irrefl, if_false, mul_one]
  have e2 : ∀ i, i < n → sumF n (fun j => mul (m i j) (z j)) = z i := fun i hi => by
    rw [sumF_single hi (fun j hj hne => by rw [h.unit j hj i hi, if_neg (fun e => hne e.symm), mul_zero_l]), h.unit i hi i hi, if_pos rfl, one_mul']
  have hK := h.ker y
  constructor
  · intro hs i hi
    have h1 := hK.1 (fun i hi => by rw [e1, xor_eq_zero]; exact hs i hi) i hi
    rw [e1, xor_eq_zero, e2 i hi] at h1
    exact h1
  · intro hs i hi
    have h1 := hK.2 (fun i hi => by rw [e1, xor_eq_zero, e2 i hi]; exact hs i hi) i hi
    rw [e1, xor_eq_zero] at h1
    exact h1
/-- a column without a pivot: no solution, or many -/
theorem GE.miss (h : GE n R m k) (hk : k < n) (h0 : ∀ i, k ≤ i → i < n → m i k = 0) : ∃ y : Nat → UInt8, (∃ j, j < n ∧ y j ≠ 0) ∧ Ker n n R y := by
  obtain ⟨y, hy⟩ : ∃ y : Nat → UInt8, y = fun j => if j < k then m j k else if j = k then 1 else 0 := ⟨_, rfl⟩
  have hyk : y k = 1 := by rw [hy]; simp
  have hyl : ∀ j, j < k → y j = m j k := fun j hj => by rw [hy]; simp [hj]
  have hyg : ∀ j, k < j → y j = 0 := fun j hj => by
    rw [hy]
    show (if j < k then _ else if j = k then (1 : UInt8) else 0) = 0
    rw [if_neg (by omega), if_neg (by omega)]
  have hK := (h.ker y).2 (fun i hi => by
    by_cases hik : i < k
    · rw [sumF_two (a := i) (b := k) (by omega) (by omega) (by omega) (fun j hj h1 h2 => by
        rcases Nat.lt_or_ge j k with h3 | h3
        · rw [h.unit j h3 i hi, if_neg (fun e => h1 e.symm), mul_zero_l]
        · rw [hyg j (by omega), mul_zero_r])]
      rw [h.unit i hik i hi, if_pos rfl, one_mul', hyl i hik, hyk, mul_one, xor_self']
    · refine sumF_zero (fun j hj => ?_)
      rcases Nat.lt_or_ge j k with h3 | h3
      · rw [h.unit j h3 i hi, if_neg (by omega), mul_zero_l]
      · by_cases e : j = k
        · subst e; rw [h0 i (by omega) hi, mul_zero_l]
        · rw [hyg j (by omega), mul_zero_r])
  refine ⟨y, ⟨k, hk, by rw [hyk]; decide⟩, fun i hi => ?_⟩
  have h1 := hK i hi
  rw [sumF, hyg n (by omega), mul_zero_r, xor_zero'] at h1
  exact h1
end
/-! as lists -/
def fn (m : List (List UInt8)) (i j : Nat) : UInt8 := (m.getD i []).getD j 0
theorem fn_set {m : List (List UInt8)} {k : Nat} (hk : k < m.length) (r : List UInt8) (i j : Nat) : fn (m.set k r) i j = if i = k then r.getD j 0 else fn m i j := by
  have e1 : (m.set k r).getD i [] = if i = k then r else m.getD i [] := by
    rw [List.getD_eq_getElem?_getD, List.getElem?_set]
    by_cases e : k = i
    · subst e
      rw [if_pos rfl, if_pos hk, if_pos rfl]
      rfl
    · rw [if_neg e, if_neg (fun e2 => e e2.symm), List.getD_eq_getElem?_getD]
  rw [fn, fn, e1]
  split <;> rfl
/-- what Solve answers -/
def ShapeOk (rows : List (List UInt8)) (right : List UInt8) : Prop := (1 ≤ rows.length ∧ rows.length ≤ 8) ∧ right.length = rows.length ∧ ∀ r ∈ rows, r.length = rows.length
def SolR (rows : List (List UInt8)) (right out : List UInt8) (e : Int) : Prop :=
  (¬ ShapeOk rows right ∧ out = [] ∧ e = 1) ∨
  (ShapeOk rows right ∧ e = 0 ∧ out.length = rows.length ∧ ∀ z : Nat → UInt8, (∀ i, i < rows.length → sumF rows.length (fun j => mul (fn rows i j) (z j)) = right.getD i 0) ↔ ∀ i, i < rows.length → z i = out.getD i 0) ∨
  (ShapeOk rows right ∧ e = 7 ∧ out = [] ∧ ∃ y : Nat → UInt8, (∃ j, j < rows.length ∧ y j ≠ 0) ∧ Ker rows.length rows.length (fn rows) y)
theorem getD_ext {a b : List UInt8} (h : a.length = b.length) (k : ∀ i, i < a.length → a.getD i 0 = b.getD i 0) : a = b := by
  apply List.ext_getElem h
  intro i h1 h2
  have := k i h1
  rw [List.getD_eq_getElem?_getD, List.getD_eq_getElem?_getD, List.getElem?_eq_getElem h1, List.getElem?_eq_getElem h2] at this
  exact this
theorem ker_uniq {n : Nat} {R : Nat → Nat → UInt8} {r : Nat → UInt8} {out : Nat → UInt8} (h : ∀ z : Nat → UInt8, (∀ i, i < n → sumF n (fun j => mul (R i j) (z j)) = r i) ↔ ∀ i, i < n → z i = out i) {y : Nat → UInt8} (hK : Ker n n R y) {j : Nat} (hj : j < n) : y j = 0 := by
  have h1 := (h (fun j => out j ^^^ y j)).1 (fun i hi => by
    have h2 := (h out).2 (fun _ _ => rfl) i hi
    have h3 := hK i hi
    rw [← h2, ← xor_zero' (sumF n fun j => mul (R i j) (out j)), ← h3, ← sumF_xor]
    exact sumF_cong (fun j _ => mul_xor _ _ _)) j hj
  have h2 : out j ^^^ y j = out j := h1
  have h3 : out j ^^^ (out j ^^^ y j) = out j ^^^ out j := by rw [h2]
  rwa [← UInt8.xor_assoc, xor_self', zero_xor'] at h3
theorem SolR.uniq {rows : List (List UInt8)} {right o1 o2 : List UInt8} {e1 e2 : Int} (h : SolR rows right o1 e1) (k : SolR rows right o2 e2) : o1 = o2 ∧ e1 = e2 := by
  rcases h with ⟨h0, rfl, rfl⟩ | ⟨h0, rfl, hl, h1⟩ | ⟨h0, rfl, rfl, y, ⟨j, hj, hy⟩, hK⟩ <;> rcases k with ⟨k0, rfl, rfl⟩ | ⟨k0, rfl, kl, k1⟩ | ⟨k0, rfl, rfl, y2, ⟨j2, hj2, hy2⟩, kK⟩
  · exact ⟨rfl, rfl⟩
  · exact absurd k0 h0
  · exact absurd k0 h0
  · exact absurd h0 k0
  · refine ⟨getD_ext (hl.trans kl.symm) (fun i hi => ?_), rfl⟩
    exact (k1 (fun i => o1.getD i 0)).1 ((h1 _).2 (fun _ _ => rfl)) i (by omega)
  · exact absurd (ker_uniq h1 kK hj2) hy2
  · exact absurd h0 k0
  · exact absurd (ker_uniq k1 hK hj) hy
  · exact ⟨rfl, rfl⟩
end Go.HL
/-! plain: determinants by the first row -/
namespace Go.HL
def sk (k j : Nat) : Nat := if j < k then j else j + 1
theorem sk_lt {k j : Nat} (h : j < k) : sk k j = j := if_pos h
theorem sk_ge {k j : Nat} (h : k ≤ j) : sk k j = j + 1 := if_neg (by omega)
theorem sk_ne (k j : Nat) : sk k j ≠ k := by unfold sk; split <;> omega
def minor (M : Nat → Nat → UInt8) (k : Nat) : Nat → Nat → UInt8 := fun i j => M (i + 1) (sk k j)
def det : Nat → (Nat → Nat → UInt8) → UInt8
  | 0, _ => 1
  | n + 1, M => sumF (n + 1) (fun k => mul (M 0 k) (det n (minor M k)))
def setc (M : Nat → Nat → UInt8) (c : Nat) (u : Nat → UInt8) : Nat → Nat → UInt8 := fun i j => if j = c then u i else M i j
theorem setc_same (M : Nat → Nat → UInt8) (c : Nat) (u : Nat → UInt8) (i : Nat) : setc M c u i c = u i := if_pos rfl
theorem setc_ne (M : Nat → Nat → UInt8) {c j : Nat} (u : Nat → UInt8) (i : Nat) (h : j ≠ c) : setc M c u i j = M i j := if_neg h
theorem det_cong {n : Nat} {M N : Nat → Nat → UInt8} (h : ∀ i j, i < n → j < n → M i j = N i j) : det n M = det n N := by
  induction n generalizing M N with
  | zero => rfl
  | succ n ih =>
    refine sumF_cong (fun k hk => ?_)
    have e : det n (minor M k) = det n (minor N k) := ih (fun i j hi hj => h (i + 1) (sk k j) (by omega) (by unfold sk; split <;> omega))
    rw [h 0 k (by omega) hk, e]
theorem minor_setc_eq (M : Nat → Nat → UInt8) (c : Nat) (u : Nat → UInt8) : minor (setc M c u) c = minor M c := by
  funext i j
  exact setc_ne M u _ (sk_ne c j)
theorem minor_setc_gt (M : Nat → Nat → UInt8) {c k : Nat} (h : c < k) (u : Nat → UInt8) : minor (setc M c u) k = setc (minor M k) c (fun i => u (i + 1)) := by
  funext i j
  show (if sk k j = c then _ else _) = if j = c then _ else _
  by_cases e : j = c
  · subst e; rw [sk_lt h, if_pos rfl, if_pos rfl]
  · rw [if_neg e, if_neg (by unfold sk; split <;> omega)]; rfl
theorem minor_setc_lt (M : Nat → Nat → UInt8) {c k : Nat} (h : k < c) (u : Nat → UInt8) : minor (setc M c u) k = setc (minor M k) (c - 1) (fun i => u (i + 1)) := by
  funext i j
  show (if sk k j = c then _ else _) = if j = c - 1 then _ else _
  by_cases e : j = c - 1
  · subst e; rw [sk_ge (by omega), if_pos (by omega), if_pos rfl]
  · rw [if_neg e, if_neg (by unfold sk; split <;> omega)]; rfl
theorem det_lin {n c : Nat} (hc : c < n) (M : Nat → Nat → UInt8) (u v : Nat → UInt8) : det n (setc M c (fun i => u i ^^^ v i)) = det n (setc M c u) ^^^ det n (setc M c v) := by
  induction n generalizing M c u v with
  | zero => omega
  | succ n ih =>
    rw [det, det, det, ← sumF_xor]
    refine sumF_cong (fun k hk => ?_)
    rcases Nat.lt_trichotomy c k with h | h | h
    · rw [setc_ne _ _ _ (by omega), setc_ne _ _ _ (by omega), setc_ne _ _ _ (by omega), minor_setc_gt _ h, minor_setc_gt _ h, minor_setc_gt _ h, ih (by omega), mul_xor]
    · subst h
      rw [setc_same, setc_same, setc_same, minor_setc_eq, minor_setc_eq, minor_setc_eq, xor_mul]
    · rw [setc_ne _ _ _ (by omega), setc_ne _ _ _ (by omega), setc_ne _ _ _ (by omega), minor_setc_lt _ h, minor_setc_lt _ h, minor_setc_lt _ h, ih (by omega), mul_xor]
theorem det_scale {n c : Nat} (hc : c < n) (M : Nat → Nat → UInt8) (s : UInt8) (u : Nat → UInt8) : det n (setc M c (fun i => mul s (u i))) = mul s (det n (setc M c u)) := by
  induction n generalizing M c u with
  | zero => omega
  | succ n ih =>
    rw [det, det, ← sumF_mul]
    refine sumF_cong (fun k hk => ?_)
    have sw : ∀ a b : UInt8, mul a (mul s b) = mul s (mul a b) := fun a b => by rw [mul_assoc, mul_comm a s, ← mul_assoc]
    rcases Nat.lt_trichotomy c k with h | h | h
    · rw [setc_ne _ _ _ (by omega), setc_ne _ _ _ (by omega), minor_setc_gt _ h, minor_setc_gt _ h, ih (by omega), sw]
    · subst h
      rw [setc_same, setc_same, minor_setc_eq, minor_setc_eq, mul_assoc]
    · rw [setc_ne _ _ _ (by omega), setc_ne _ _ _ (by omega), minor_setc_lt _ h, minor_setc_lt _ h, ih (by omega), sw]
theorem det_zero {n c : Nat} (hc : c < n) (M : Nat → Nat → UInt8) : det n (setc M c (fun _ => 0)) = 0 := by
  have h := det_scale hc M 0 (fun _ => 0)
  rw [mul_zero_l, mul_zero_l] at h
  exact h
theorem det_sum {n c : Nat} (hc : c < n) (M : Nat → Nat → UInt8) (p : Nat) (x : Nat → UInt8) (U : Nat → Nat → UInt8) : det n (setc M c (fun i => sumF p (fun j => mul (x j) (U j i)))) = sumF p (fun j => mul (x j) (det n (setc M c (U j)))) := by
  induction p with
  | zero => exact det_zero hc M
  | succ p ih =>
    rw [sumF, ← ih, ← det_scale hc, ← det_lin hc]
    rfl
theorem det_adj {n p : Nat} (hp : p + 1 < n) {M : Nat → Nat → UInt8} (h : ∀ i, i < n → M i p = M i (p + 1)) : det n M = 0 := by
  induction n generalizing M p with
  | zero => omega
  | succ n ih =>
    rw [det, sumF_two (a := p) (b := p + 1) (by omega) (by omega) (by omega) (fun k hk h1 h2 => ?_)]
    · rw [h 0 (by omega), xor_eq_zero]
      congr 1
      refine det_cong (fun i j hi hj => ?_)
      show M (i + 1) (sk p j) = M (i + 1) (sk (p + 1) j)
      rcases Nat.lt_trichotomy j p with h3 | h3 | h3
      · rw [sk_lt h3, sk_lt (by omega)]
      · subst h3; rw [sk_ge (Nat.le_refl _), sk_lt (by omega)]; exact (h (i + 1) (by omega)).symm
      · rw [sk_ge (by omega), sk_ge (by omega)]
    · rcases Nat.lt_or_ge k p with h3 | h3
      · rw [ih (p := p - 1) (by omega) (fun i hi => ?_), mul_zero_r]
        show M (i + 1) (sk k (p - 1)) = M (i + 1) (sk k (p - 1 + 1))
        rw [sk_ge (by omega), sk_ge (by omega), show p - 1 + 1 = p from by omega]
        exact h (i + 1) (by omega)
      · rw [ih (p := p) (by omega) (fun i hi => ?_), mul_zero_r]
        show M (i + 1) (sk k p) = M (i + 1) (sk k (p + 1))
        rw [sk_lt (by omega), sk_lt (by omega)]
        exact h (i + 1) (by omega)
theorem setc_comm (M : Nat → Nat → UInt8) {c d : Nat} (h : c ≠ d) (u v : Nat → UInt8) : setc (setc M c u) d v = setc (setc M d v) c u := by
  funext i j
  show (if j = d then _ else if j = c then _ else _) = if j = c then _ else if j = d then _ else _
  by_cases e1 : j = d
  · rw [if_pos e1, if_neg (by omega), if_pos e1]
  · rw [if_neg e1, if_neg e1]
theorem det_swap {n p : Nat} (hp : p + 1 < n) (M : Nat → Nat → UInt8) (a b : Nat → UInt8) : det n (setc (setc M p a) (p + 1) b) = det n (setc (setc M p b) (p + 1) a) := by
  have D0 : ∀ u : Nat → UInt8, det n (setc (setc M p u) (p + 1) u) = 0 := fun u => det_adj hp (fun i _ => by rw [setc_same, setc_ne _ _ _ (by omega), setc_same])
  have L2 : ∀ u v w : Nat → UInt8, det n (setc (setc M p u) (p + 1) (fun i => v i ^^^ w i)) = det n (setc (setc M p u) (p + 1) v) ^^^ det n (setc (setc M p u) (p + 1) w) := fun u v w => det_lin hp _ v w
  have L1 : ∀ u v w : Nat → UInt8, det n (setc (setc M p (fun i => u i ^^^ v i)) (p + 1) w) = det n (setc (setc M p u) (p + 1) w) ^^^ det n (setc (setc M p v) (p + 1) w) := fun u v w => by
    rw [setc_comm M (by omega), setc_comm M (c := p) (by omega) u, setc_comm M (c := p) (by omega) v]
    exact det_lin (by omega) _ u v
  have h := D0 (fun i => a i ^^^ b i)
  rw [L1, L2, L2, D0, D0, zero_xor', xor_zero', xor_eq_zero] at h
  exact h
theorem det_eqc {n p q : Nat} (hpq : p < q) (hq : q < n) {M : Nat → Nat → UInt8} (h : ∀ i, i < n → M i p = M i q) : det n M = 0 := by
  obtain ⟨d, rfl⟩ : ∃ d, q = p + 1 + d := ⟨q - p - 1, by omega⟩
  induction d generalizing M with
  | zero => exact det_adj (by omega) h
  | succ d ih =>
    have hs := det_swap (p := p + 1 + d) (by omega) M (fun i => M i (p + 1 + d)) (fun i => M i (p + 1 + d + 1))
    have e1 : det n (setc (setc M (p + 1 + d) (fun i => M i (p + 1 + d))) (p + 1 + d + 1) (fun i => M i (p + 1 + d + 1))) = det n M := det_cong (fun i j _ _ => by
      by_cases e : j = p + 1 + d + 1
      · subst e; rw [setc_same]
      · rw [setc_ne _ _ _ e]
        by_cases e2 : j = p + 1 + d
        · subst e2; rw [setc_same]
        · rw [setc_ne _ _ _ e2])
    rw [← e1, hs]
    refine ih (by omega) (by omega) (fun i hi => ?_)
    rw [setc_ne _ _ _ (by omega), setc_ne _ _ _ (by omega), setc_ne _ _ _ (by omega), setc_same]
    exact h i hi
theorem cramer {n c : Nat} (hc : c < n) {M : Nat → Nat → UInt8} {x r : Nat → UInt8} (h : ∀ i, i < n → sumF n (fun j => mul (M i j) (x j)) = r i) : det n (setc M c r) = mul (x c) (det n M) := by
  have e1 : det n (setc M c r) = det n (setc M c (fun i => sumF n (fun j => mul (x j) (M i j)))) := det_cong (fun i j hi _ => by
    by_cases e : j = c
    · subst e
      rw [setc_same, setc_same, ← h i hi]
      exact sumF_cong (fun k _ => mul_comm _ _)
    · rw [setc_ne _ _ _ e, setc_ne _ _ _ e])
  rw [e1, det_sum hc M n x (fun j i => M i j), sumF_single hc (fun j hj hne => ?_)]
  · congr 1
    refine det_cong (fun i j _ _ => ?_)
    by_cases e : j = c
    · subst e; rw [setc_same]
    · rw [setc_ne _ _ _ e]
  · have h0 : det n (setc M c (fun i => M i j)) = 0 := by
      rcases Nat.lt_or_ge j c with h1 | h1
      · exact det_eqc h1 hc (fun i _ => by rw [setc_same, setc_ne _ _ _ (by omega)])
      · exact det_eqc (show c < j by omega) hj (fun i _ => by rw [setc_same, setc_ne _ _ _ (by omega)])
    rw [h0, mul_zero_r]
theorem det_ker {n : Nat} {M : Nat → Nat → UInt8} {y : Nat → UInt8} (h : Ker n n M y) {k : Nat} (hk : k < n) (hy : y k ≠ 0) : det n M = 0 := by
  have h1 := cramer hk (r := fun _ => 0) h
  rw [det_zero hk] at h1
  rcases mul_eq_zero.1 h1.symm with h2 | h2
  · exact absurd h2 hy
  · exact h2
end Go.HL
/-! plain: what is rebuilt of columns -/
namespace Go.HL
open Go.RowKit
/-- those columns that aren't bad have this one length -/
def EvenB (cols : List (List UInt8)) (bad : List Int) (m : Nat) : Prop := (1 ≤ m ∧ m ≤ 4096) ∧ (∃ (j : Nat) (x : List UInt8), cols[j]? = some x ∧ (j : Int) ∉ bad) ∧ ∀ (j : Nat) (x : List UInt8), cols[j]? = some x → (j : Int) ∉ bad → x.length = m
theorem EvenB.uniq {cols : List (List UInt8)} {bad : List Int} {m n : Nat} (h : EvenB cols bad m) (k : EvenB cols bad n) : m = n := by
  obtain ⟨_, ⟨j, x, hx, hj⟩, hm⟩ := h
  rw [← hm j x hx hj, ← k.2.2 j x hx hj]
open Classical in
noncomputable def lenB (cols : List (List UInt8)) (bad : List Int) : Int := if h : ∃ m, EvenB cols bad m then ((Classical.choose h : Nat) : Int) else -1
theorem lenB_of {cols : List (List UInt8)} {bad : List Int} {m : Nat} (h : EvenB cols bad m) : lenB cols bad = (m : Int) := by
  have h1 : ∃ m, EvenB cols bad m := ⟨m, h⟩
  rw [lenB, dif_pos h1, (Classical.choose_spec h1).uniq h]
theorem lenB_no {cols : List (List UInt8)} {bad : List Int} (h : ¬ ∃ m, EvenB cols bad m) : lenB cols bad = -1 := by rw [lenB, dif_neg h]
/-- numbers of columns, one behind the other -/
def OkBad (n : Nat) (bad : List Int) : Prop := ∀ (i : Nat) (b : Int), bad[i]? = some b → (0 ≤ b ∧ b < n) ∧ ∀ c, 0 < i → bad[i - 1]? = some c → c < b
open Classical in
noncomputable def errB (cols : List (List UInt8)) (bad : List Int) : Int := if 4 ≤ cols.length ∧ cols.length ≤ 16 ∧ OkBad cols.length bad ∧ 0 ≤ lenB cols bad then (if bad.length ≤ 3 then 0 else 4) else 1
/-! lost columns, and the parities that are used -/
def lostL (k : Nat) (bad : List Int) : List Nat := (List.range k).filter (fun i : Nat => decide ((i : Int) ∈ bad))
def fromL (k : Nat) (bad : List Int) : List Nat := ((List.range 3).filter (fun q : Nat => decide (((k + q : Nat) : Int) ∉ bad))).take (lostL k bad).length
theorem filter_le : ∀ (l : List Nat) (bad : List Int), l.Nodup → (l.filter (fun i : Nat => decide ((i : Int) ∈ bad))).length ≤ bad.length
  | [], _, _ => Nat.zero_le _
  | a :: t, bad, h => by
    obtain ⟨h1, h2⟩ := List.nodup_cons.1 h
    rw [List.filter_cons]
    by_cases hb : (a : Int) ∈ bad
    · rw [if_pos (by simpa using hb), List.length_cons]
      have ih := filter_le t (bad.erase (a : Int)) h2
      rw [List.length_erase_of_mem hb] at ih
      have hl := List.length_pos_of_mem hb
      have e : t.filter (fun i : Nat => decide ((i : Int) ∈ bad)) = t.filter (fun i : Nat => decide ((i : Int) ∈ bad.erase (a : Int))) := by
        apply List.filter_congr
        intro x hx
        have hne : (x : Int) ≠ (a : Int) := fun e => h1 (by have : x = a := by omega
                                                            rw [← this]; exact hx)
        exact decide_eq_decide.2 (List.mem_erase_of_ne hne).symm
      rw [e]
      omega
    · rw [if_neg (by simpa using hb)]
      exact filter_le t bad h2
theorem from_len (k : Nat) {bad : List Int} (h : bad.length ≤ 3) : (fromL k bad).length = (lostL k bad).length := by
  have h1 := filter_le (List.range (k + 3)) bad List.nodup_range
  rw [show k + 3 = k + 1 + 1 + 1 from rfl, List.range_succ, List.range_succ, List.range_succ] at h1
  simp only [List.filter_append, List.length_append] at h1
  have h2 : (List.range 3).filter (fun q => decide (((k + q : Nat) : Int) ∉ bad)) = [0, 1, 2].filter (fun q => decide (((k + q : Nat) : Int) ∉ bad)) := rfl
  rw [fromL, List.length_take, h2]
  rw [Nat.min_eq_left]
  have h3 : (lostL k bad).length = ((List.range k).filter (fun i : Nat => decide ((i : Int) ∈ bad))).length := rfl
  rw [h3]
  generalize ((List.range k).filter (fun i : Nat => decide ((i : Int) ∈ bad))).length = L at h1
  by_cases b0 : ((k : Nat) : Int) ∈ bad <;> by_cases b1 : ((k + 1 : Nat) : Int) ∈ bad <;> by_cases b2 : ((k + 1 + 1 : Nat) : Int) ∈ bad <;> simp [List.filter_cons, b0, b1, b2, -Int.natCast_add] at h1 ⊢ <;> omega
theorem lost_mem {k : Nat} {bad : List Int} {i : Nat} : i ∈ lostL k bad ↔ i < k ∧ (i : Int) ∈ bad := by
  rw [lostL, List.mem_filter, List.mem_range, decide_eq_true_iff]
theorem from_mem {k : Nat} {bad : List Int} {q : Nat} (h : q ∈ fromL k bad) : q < 3 ∧ ((k + q : Nat) : Int) ∉ bad := by
  have := List.mem_of_mem_take h
  rw [List.mem_filter, List.mem_range, decide_eq_true_iff] at this
  exact this
theorem lost_sorted (k : Nat) (bad : List Int) : (lostL k bad).Pairwise (· < ·) := List.Pairwise.filter _ List.pairwise_lt_range
theorem from_sorted (k : Nat) (bad : List Int) : (fromL k bad).Pairwise (· < ·) := List.Pairwise.sublist (List.take_sublist _ _) (List.Pairwise.filter _ List.pairwise_lt_range)
/-! sums of which only some count -/
theorem sumF_some {k : Nat} {p : Nat → Bool} {f : Nat → UInt8} (h : ∀ j, j < k → p j = false → f j = 0) : sumF k f = sumF ((List.range k).filter p).length (fun b => f (((List.range k).filter p).getD b 0)) := by
  induction k with
  | zero => rfl
  | succ k ih =>
    rw [sumF, List.range_succ, List.filter_append, ih (fun j hj => h j (by omega))]
    cases hp : p k with
    | false =>
      rw [show [k].filter p = [] from by rw [List.filter_cons, hp]; rfl, List.append_nil, h k (by omega) hp, xor_zero']
    | true =>
      rw [show [k].filter p = [k] from by rw [List.filter_cons, hp]; rfl, List.length_append, show ((List.range k).filter p).length + [k].length = ((List.range k).filter p).length + 1 from rfl, sumF]
      congr 1
      · exact sumF_cong (fun b hb => by rw [List.getD_eq_getElem?_getD, List.getD_eq_getElem?_getD, List.getElem?_append_left hb])
      · rw [List.getD_eq_getElem?_getD, List.getElem?_append_right (Nat.le_refl _), Nat.sub_self]
        rfl
theorem fn_opt {m m' : List (List UInt8)} {i : Nat} (h : m[i]? = m'[i]?) (j : Nat) : fn m i j = fn m' i j := by
  unfold fn
  rw [List.getD_eq_getElem?_getD (l := m), List.getD_eq_getElem?_getD (l := m'), h]
theorem fn_at1 {m : List (List UInt8)} {i : Nat} {r : List UInt8} (h : m[i]? = some r) (j : Nat) : fn m i j = r.getD j 0 := by
  unfold fn
  rw [List.getD_eq_getElem?_getD (l := m), h]
  rfl
theorem px_sumF (wt : Nat → UInt8) (cols : List (List UInt8)) (k : Nat) : ∀ i, px wt cols k i = sumF i (fun j => mul (wt j) (fn cols j k))
  | 0 => rfl
  | i + 1 => by rw [px, sumF, px_sumF wt cols k i]; rfl
/-! the equations have one solution -/
def wm (i0 i1 i2 q0 q1 q2 : Nat) (a b : Nat) : UInt8 := wtq (if a = 0 then q0 else if a = 1 then q1 else q2) (if b = 0 then i0 else if b = 1 then i1 else i2)
set_option maxRecDepth 100000 in
theorem van1 : ∀ q, q < 3 → ∀ i, i < 13 → det 1 (wm i 0 0 q 0 0) ≠ 0 := by decide +kernel
set_option maxRecDepth 100000 in
theorem van2a : ∀ i, i < 13 → ∀ j, j < 13 → i < j → det 2 (wm i j 0 0 1 0) ≠ 0 := by decide +kernel
set_option maxRecDepth 100000 in
theorem van2b : ∀ i, i < 13 → ∀ j, j < 13 → i < j → det 2 (wm i j 0 0 2 0) ≠ 0 := by decide +kernel
set_option maxRecDepth 100000 in
theorem van2c : ∀ i, i < 13 → ∀ j, j < 13 → i < j → det 2 (wm i j 0 1 2 0) ≠ 0 := by decide +kernel
theorem van2 (q : Nat) (hq : q < 3) (p : Nat) (hp : p < 3) (hqp : q < p) (i : Nat) (hi : i < 13) (j : Nat) (hj : j < 13) (hij : i < j) : det 2 (wm i j 0 q p 0) ≠ 0 := by
  have h : (q = 0 ∧ p = 1) ∨ (q = 0 ∧ p = 2) ∨ (q = 1 ∧ p = 2) := by omega
  rcases h with ⟨rfl, rfl⟩ | ⟨rfl, rfl⟩ | ⟨rfl, rfl⟩
  · exact van2a i hi j hj hij
  · exact van2b i hi j hj hij
  · exact van2c i hi j hj hij
set_option maxRecDepth 100000 in
theorem van3 : ∀ i, i < 13 → ∀ j, j < 13 → i < j → ∀ l, l < 13 → j < l → det 3 (wm i j l 0 1 2) ≠ 0 := by decide +kernel
theorem van {lost from' : List Nat} (hl : lost.length = from'.length) (h13 : ∀ i ∈ lost, i < 13) (h3 : ∀ q ∈ from', q < 3) (s1 : lost.Pairwise (· < ·)) (s2 : from'.Pairwise (· < ·)) {M : Nat → Nat → UInt8} (hM : ∀ a b, a < lost.length → b < lost.length → M a b = wtq (from'.getD a 0) (lost.getD b 0))
    {y : Nat → UInt8} (hK : Ker lost.length lost.length M y) {b : Nat} (hb : b < lost.length) : y b = 0 := by
  refine Classical.byContradiction fun hy => ?_
  have hd := det_ker hK hb hy
  match lost, from', hl with
  | [], [], _ => exact Nat.not_lt_zero _ hb
  | [i], [q], _ =>
    refine van1 q (h3 q (by simp)) i (h13 i (by simp)) ?_
    rw [← hd]
    refine det_cong (fun a b ha hb => ?_)
    have ha : a = 0 := by omega
    have hb : b = 0 := by omega
    subst ha; subst hb
    rw [hM 0 0 Nat.zero_lt_one Nat.zero_lt_one]
    rfl
  | [i, j], [q, p], _ =>
    have e1 : i < j := by have := List.pairwise_cons.1 s1; exact this.1 j (by simp)
    have e2 : q < p := by have := List.pairwise_cons.1 s2; exact this.1 p (by simp)
    refine van2 q (h3 q (by simp)) p (h3 p (by simp)) e2 i (h13 i (by simp)) j (h13 j (by simp)) e1 ?_
    rw [← hd]
    refine det_cong (fun a b ha hb => ?_)
    rw [hM a b ha hb]
    have ha : a = 0 ∨ a = 1 := by omega
    have hb : b = 0 ∨ b = 1 := by omega
    rcases ha with rfl | rfl <;> rcases hb with rfl | rfl <;> rfl
  | [i, j, l], [q, p, r], _ =>
    have e1 : i < j := by have := List.pairwise_cons.1 s1; exact this.1 j (by simp)
    have e3 : j < l := by have := List.pairwise_cons.1 (List.pairwise_cons.1 s1).2; exact this.1 l (by simp)
    have e2 : q < p := by have := List.pairwise_cons.1 s2; exact this.1 p (by simp)
    have e4 : p < r := by have := List.pairwise_cons.1 (List.pairwise_cons.1 s2).2; exact this.1 r (by simp)
    have hq := h3 q (by simp)
    have hp := h3 p (by simp)
    have hr := h3 r (by simp)
    obtain ⟨rfl, rfl, rfl⟩ : q = 0 ∧ p = 1 ∧ r = 2 := by omega
    refine van3 i (h13 i (by simp)) j (h13 j (by simp)) e1 l (h13 l (by simp)) e3 ?_
    rw [← hd]
    refine det_cong (fun a b ha hb => ?_)
    rw [hM a b ha hb]
    have ha : a = 0 ∨ a = 1 ∨ a = 2 := by omega
    have hb : b = 0 ∨ b = 1 ∨ b = 2 := by omega
    rcases ha with rfl | rfl | rfl <;> rcases hb with rfl | rfl | rfl <;> rfl
  | a :: b :: c :: d :: t, f, hl =>
    exfalso
    match f, hl with
    | q :: p :: r :: s :: u, _ =>
      have e2 : q < p := by have := List.pairwise_cons.1 s2; exact this.1 p (by simp)
      have e4 : p < r := by have := List.pairwise_cons.1 (List.pairwise_cons.1 s2).2; exact this.1 r (by simp)
      have e5 : r < s := by have := List.pairwise_cons.1 (List.pairwise_cons.1 (List.pairwise_cons.1 s2).2).2; exact this.1 s (by simp)
      have := h3 s (by simp)
      omega
/-! what Rebuild answers -/
structure RB (cols : List (List UInt8)) (bad : List Int) (k n : Nat) (res : List (List UInt8)) : Prop where
  len : res.length = k + 3
  all : ∀ x ∈ res, x.length = n
  keep : ∀ i, i < k + 3 → (i : Int) ∉ bad → res[i]? = cols[i]?
  par : ∀ q, q < 3 → (((k + q : Nat) : Int) ∈ bad ∨ q ∈ fromL k bad) → res[k + q]? = some (prow (wtq q) (res.take k) n k)
theorem RB.uniq {cols : List (List UInt8)} {bad : List Int} {k n : Nat} {r1 r2 : List (List UInt8)} (hk : k ≤ 13) (hb : bad.length ≤ 3) (h : RB cols bad k n r1) (g : RB cols bad k n r2) : r1 = r2 := by
  have l1 : (r1.take k).length = k := by rw [List.length_take, h.len]; omega
  have l2 : (r2.take k).length = k := by rw [List.length_take, g.len]; omega
  have a1 : ∀ d ∈ r1.take k, d.length = n := fun d hd => h.all d (List.mem_of_mem_take hd)
  have a2 : ∀ d ∈ r2.take k, d.length = n := fun d hd => g.all d (List.mem_of_mem_take hd)
  have key : ∀ at', at' < n → ∀ j, j < k → fn (r1.take k) j at' = fn (r2.take k) j at' := by
    intro at' hat
    have hd0 : ∀ j, j < k → (j : Int) ∉ bad → fn (r1.take k) j at' = fn (r2.take k) j at' := by
      intro j hj hjb
      have e1 := h.keep j (by omega) hjb
      have e2 := g.keep j (by omega) hjb
      exact fn_opt (by rw [List.getElem?_take_of_lt hj, List.getElem?_take_of_lt hj, e1, e2]) at'
    have hker : Ker (lostL k bad).length (lostL k bad).length (fun a b => wtq ((fromL k bad).getD a 0) ((lostL k bad).getD b 0)) (fun b => fn (r1.take k) ((lostL k bad).getD b 0) at' ^^^ fn (r2.take k) ((lostL k bad).getD b 0) at') := by
      intro a ha
      have hfl := from_len k hb
      obtain ⟨q, hq⟩ : ∃ q, (fromL k bad)[a]? = some q := ⟨_, List.getElem?_eq_getElem (by omega)⟩
      have hqm := List.mem_of_getElem? hq
      obtain ⟨hq3, hqb⟩ := from_mem hqm
      have p1 := h.par q hq3 (.inr hqm)
      have p2 := g.par q hq3 (.inr hqm)
      rw [h.keep (k + q) (by omega) hqb] at p1
      rw [g.keep (k + q) (by omega) hqb, p1] at p2
      injection p2 with p2
      have e1 := prow_at a1 hat (i := k) (wt := wtq q) (by omega)
      have e2 := prow_at a2 hat (i := k) (wt := wtq q) (by omega)
      rw [p2, e2] at e1
      injection e1 with e1
      rw [px_sumF, px_sumF] at e1
      have e3 : sumF k (fun j => mul (wtq q j) (fn (r1.take k) j at' ^^^ fn (r2.take k) j at')) = 0 := by
        rw [show (fun j => mul (wtq q j) (fn (r1.take k) j at' ^^^ fn (r2.take k) j at')) = (fun j => mul (wtq q j) (fn (r1.take k) j at') ^^^ mul (wtq q j) (fn (r2.take k) j at')) from funext (fun j => mul_xor _ _ _), sumF_xor, e1, xor_self']
      rw [sumF_some (p := fun i : Nat => decide ((i : Int) ∈ bad)) (fun j hj hp => by
        rw [hd0 j hj (by simpa using hp), xor_self', mul_zero_r])] at e3
      rw [← e3]
      refine sumF_cong (fun b _ => ?_)
      dsimp only
      rw [show (fromL k bad).getD a 0 = q from by rw [List.getD_eq_getElem?_getD, hq]; rfl]
      rfl
    intro j hj
    by_cases hjb : (j : Int) ∈ bad
    · obtain ⟨b, hbj⟩ := List.getElem?_of_mem (lost_mem.2 ⟨hj, hjb⟩)
      have hbl := (List.getElem?_eq_some_iff.1 hbj).1
      have := van (from_len k hb).symm (fun i hi => by have := (lost_mem.1 hi).1; omega) (fun q hq => (from_mem hq).1) (lost_sorted k bad) (from_sorted k bad) (fun _ _ _ _ => rfl) hker hbl
      simp only [List.getD_eq_getElem?_getD, hbj, Option.getD_some] at this
      exact xor_eq_zero.1 this
    · exact hd0 j hj hjb
  have htake : r1.take k = r2.take k := by
    apply List.ext_getElem?
    intro j
    rcases Nat.lt_or_ge j k with hj | hj
    · obtain ⟨x, hx⟩ : ∃ x, (r1.take k)[j]? = some x := ⟨_, List.getElem?_eq_getElem (by omega)⟩
      obtain ⟨y, hy⟩ : ∃ y, (r2.take k)[j]? = some y := ⟨_, List.getElem?_eq_getElem (by omega)⟩
      have xl := a1 x (List.mem_of_getElem? hx)
      have yl := a2 y (List.mem_of_getElem? hy)
      rw [hx, hy]
      congr 1
      refine getD_ext (by omega) (fun i hi => ?_)
      have := key i (by omega) j hj
      rw [fn_at1 hx, fn_at1 hy] at this
      exact this
    · rw [List.getElem?_eq_none (by omega), List.getElem?_eq_none (by omega)]
  apply List.ext_getElem?
  intro j
  rcases Nat.lt_or_ge j k with hj | hj
  · have := congrArg (fun l => l[j]?) htake
    simp only [List.getElem?_take_of_lt hj] at this
    exact this
  · rcases Nat.lt_or_ge j (k + 3) with hj3 | hj3
    · by_cases hjb : (j : Int) ∈ bad
      · have e : j = k + (j - k) := by omega
        have p1 := h.par (j - k) (by omega) (.inl (by rw [← e]; exact hjb))
        have p2 := g.par (j - k) (by omega) (.inl (by rw [← e]; exact hjb))
        rw [← e] at p1 p2
        rw [p1, p2, htake]
      · rw [h.keep j hj3 hjb, g.keep j hj3 hjb]
    · rw [List.getElem?_eq_none (by rw [h.len]; omega), List.getElem?_eq_none (by rw [g.len]; omega)]
end Go.HL
namespace Go.HL
open Go.RowKit
/-- the length of the good ones of the first i columns; -1: there is none yet -/
def LInv (cols : List (List UInt8)) (bad : List Int) (i : Nat) (n : Int) : Prop :=
  (n = -1 ∧ ∀ j : Nat, j < i → (j : Int) ∈ bad) ∨ ∃ m : Nat, n = (m : Int) ∧ (∃ (j : Nat) (x : List UInt8), j < i ∧ cols[j]? = some x ∧ (j : Int) ∉ bad) ∧ ∀ (j : Nat) (x : List UInt8), j < i → cols[j]? = some x → (j : Int) ∉ bad → x.length = m
section
variable {cols : List (List UInt8)} {bad : List Int} {i : Nat} {n : Int} {x : List UInt8}
theorem LInv.start (cols : List (List UInt8)) (bad : List Int) : LInv cols bad 0 (-1) := .inl ⟨rfl, fun j h => absurd h (Nat.not_lt_zero j)⟩
theorem LInv.skip (h : LInv cols bad i n) (hb : (i : Int) ∈ bad) : LInv cols bad (i + 1) n := by
  rcases h with ⟨h1, h2⟩ | ⟨m, h1, ⟨j, x, hj, hx, hjb⟩, h2⟩
  · refine .inl ⟨h1, fun j hj => ?_⟩
    rcases Nat.lt_or_ge j i with h3 | h3
    · exact h2 j h3
    · rw [show j = i from by omega]; exact hb
  · refine .inr ⟨m, h1, ⟨j, x, by omega, hx, hjb⟩, fun j x hj hx hjb => ?_⟩
    rcases Nat.lt_or_ge j i with h3 | h3
    · exact h2 j x h3 hx hjb
    · rw [show j = i from by omega] at hjb; exact absurd hb hjb
theorem LInv.next (h : LInv cols bad i n) (hx : cols[i]? = some x) (hb : (i : Int) ∉ bad) (hn : ¬ (0 ≤ n ∧ (x.length : Int) ≠ n)) : LInv cols bad (i + 1) (x.length : Int) := by
  refine .inr ⟨x.length, rfl, ⟨i, x, by omega, hx, hb⟩, fun j y hj hy hjb => ?_⟩
  rcases Nat.lt_or_ge j i with h3 | h3
  · rcases h with ⟨h1, h2⟩ | ⟨m, h1, _, h2⟩
    · exact absurd (h2 j h3) hjb
    · have := h2 j y h3 hy hjb
      omega
  · have e : j = i := by omega
    rw [e, hx] at hy
    injection hy with hy
    rw [hy]
theorem LInv.uneven (h : LInv cols bad i n) (hx : cols[i]? = some x) (hb : (i : Int) ∉ bad) (hn : 0 ≤ n ∧ (x.length : Int) ≠ n) : lenB cols bad = -1 := by
  refine lenB_no ?_
  rintro ⟨m', _, _, h3⟩
  rcases h with ⟨h1, h2⟩ | ⟨m, h1, ⟨j, y, hj, hy, hjb⟩, h2⟩
  · omega
  · have a := h3 i x hx hb
    have b := h3 j y hy hjb
    have c := h2 j y hj hy hjb
    omega
theorem LInv.done (h : LInv cols bad i n) (hi : i = cols.length) : lenB cols bad = if n < 1 ∨ n > 4096 then -1 else n := by
  subst hi
  rcases h with ⟨h1, h2⟩ | ⟨m, h1, ⟨j, y, hj, hy, hjb⟩, h2⟩
  · rw [if_pos (by omega)]
    refine lenB_no ?_
    rintro ⟨m', _, ⟨j, x, hx, hjb⟩, _⟩
    exact hjb (h2 j (List.getElem?_eq_some_iff.1 hx).1)
  · by_cases hm : n < 1 ∨ n > 4096
    · rw [if_pos hm]
      refine lenB_no ?_
      rintro ⟨m', h5, _, h6⟩
      have a := h6 j y hy hjb
      have b := h2 j y hj hy hjb
      omega
    · rw [if_neg hm, h1]
      exact lenB_of ⟨by omega, ⟨j, y, hy, hjb⟩, fun j' x hx hb => h2 j' x (List.getElem?_eq_some_iff.1 hx).1 hx hb⟩
end
def OkTo (n : Nat) (bad : List Int) (i : Nat) : Prop := ∀ (j : Nat) (b : Int), j < i → bad[j]? = some b → (0 ≤ b ∧ b < n) ∧ ∀ c, 0 < j → bad[j - 1]? = some c → c < b
theorem OkTo.start (n : Nat) (bad : List Int) : OkTo n bad 0 := fun j _ h => absurd h (Nat.not_lt_zero j)
theorem OkTo.next {n : Nat} {bad : List Int} {i : Nat} {b : Int} (h : OkTo n bad i) (hb : bad[i]? = some b) (h1 : 0 ≤ b ∧ b < n) (h2 : ∀ c, 0 < i → bad[i - 1]? = some c → c < b) : OkTo n bad (i + 1) := fun j b' hj hb' => by
  rcases Nat.lt_or_ge j i with h3 | h3
  · exact h j b' h3 hb'
  · have e : j = i := by omega
    subst e
    rw [hb] at hb'
    injection hb' with hb'
    rw [← hb']
    exact ⟨h1, h2⟩
theorem OkTo.done {n : Nat} {bad : List Int} {i : Nat} (h : OkTo n bad i) (hi : i = bad.length) : OkBad n bad := fun j b hb => h j b (by rw [hi]; exact (List.getElem?_eq_some_iff.1 hb).1) hb
theorem OkBad.no {n : Nat} {bad : List Int} {i : Nat} {b : Int} (hb : bad[i]? = some b) (h : ¬ (0 ≤ b ∧ b < n)) : ¬ OkBad n bad := fun k => h (k i b hb).1
theorem OkBad.no2 {n : Nat} {bad : List Int} {i : Nat} {b c : Int} (hb : bad[i]? = some b) (hc : bad[i - 1]? = some c) (hi : 0 < i) (h : b ≤ c) : ¬ OkBad n bad := fun k => by
  have := (k i b hb).2 c hi hc
  omega
theorem errB_shape {cols : List (List UInt8)} {bad : List Int} (h : ¬ (4 ≤ cols.length ∧ cols.length ≤ 16)) : errB cols bad = 1 := by rw [errB, if_neg (fun k => h ⟨k.1, k.2.1⟩)]
theorem errB_bad {cols : List (List UInt8)} {bad : List Int} (h : ¬ OkBad cols.length bad) : errB cols bad = 1 := by rw [errB, if_neg (fun k => h k.2.2.1)]
theorem errB_len {cols : List (List UInt8)} {bad : List Int} (h : lenB cols bad < 0) : errB cols bad = 1 := by rw [errB, if_neg (fun k => by have := k.2.2.2; omega)]
theorem errB_ok {cols : List (List UInt8)} {bad : List Int} (h1 : 4 ≤ cols.length ∧ cols.length ≤ 16) (h2 : OkBad cols.length bad) (h3 : ¬ lenB cols bad < 0) : errB cols bad = if bad.length ≤ 3 then 0 else 4 := by rw [errB, if_pos ⟨h1.1, h1.2, h2, by omega⟩]
end Go.HL
namespace Go.Proofs.YtggecdldnpildaaGreat
open Go.RowKit Go.HL
set_option maxRecDepth 100000

set_option maxHeartbeats 1000000 in
theorem length_calls2 {S S2 : Nat → Prop} {w : World} {ao ab : Option Addr} {c cb : Nat} {rs : List Rw} {bad : List Int} (hc : RS S w ao c rs) (hb : RSl S2 w ei ab cb bad) (hl : rs.length * 24 ≤ 140737488351232) (hbl : bad.length ≤ 140737488351232) :
    Calls Tryz.prog 77 [.slice ao rs.length c, .slice ab bad.length cb].toArray w (Ret fun v w' => v = vi (lenB (xss rs) bad) ∧ Chg Nob w w') := by
  replace hc := hc.old
  replace hb := hb.old
  have hw := Chg.refl Nob w
  have hxl := xss_len rs
  refine Calls.of_WC Tryz.func77 rfl Tryz.ntmps77 (by simp) ?_
  refine WC.seq (WC.region (WL.assign rfl rfl (WL.nil (WX.then_normal (WC.seq (WC.region (WL.assign rfl rfl (?_))))))))
  refine WL.nil (WX.then_normal (WC.seq (WC.seq (WC.region (WL.move rfl rfl (WL.len Tryz.underlying87 rfl rfl (WL.move rfl rfl (?_))))))))
  refine WL.nil (WX.then_normal (WC.block (?_)))
  refine WC.loop (σ := Nat × Int) (fun q => [(1, .slice ab bad.length cb), (5, vi q.2), (8, .slice ao rs.length c), (9, vi rs.length), (10, vi q.1)])
    (fun q w' => q.1 ≤ rs.length ∧ LInv (xss rs) bad q.1 q.2 ∧ RS (· < w.heap.size) w' ao c rs ∧ RSl (· < w.heap.size) w' ei ab cb bad ∧ Chg Nob w w') (fun q => rs.length - q.1) (0, -1) ⟨rfl, rfl, rfl, rfl, rfl, trivial⟩ ⟨Nat.zero_le _, LInv.start _ _, hc, hb, hw⟩ ?_
  clear hc hb hw
  rintro ⟨i, n⟩ w2 ⟨hi, hI, hc, hb, hw⟩
  simp only at hi hI
  dsimp only
  refine WC.seq (WC.region (?_))
  refine WL.lss? rfl rfl rfl (fun h11 => ?_) (fun h11 => ?_)
  ·
    refine WL.nil (WX.then_normal (WC.seq (WC.cond_true rfl (WC.skip (WX.then_normal (WC.seq (WC.block (?_))))))))
    refine WC.seq (WC.region (WL.move rfl rfl (?_)))
    obtain ⟨r, hr⟩ : ∃ r, rs[i]? = some r := ⟨_, List.getElem?_eq_getElem (by omega)⟩
    have hrx := xss_at hr
    refine WL.indexT Tryz.underlying87 Tryz.sizeOf26 hc.outer rfl rfl ⟨hr, rfl⟩ rfl ?_
    intro b_1 o_1 hc_1
    refine WL.load Tryz.isAgg26 rfl (hc_1 0 _ rfl) rfl (WL.assign rfl rfl (WL.assign rfl rfl (WL.nil (WX.then_normal (WC.block (WC.seq (WC.region (?_))))))))
    refine WL.move rfl rfl (WL.move rfl rfl (?_))
    refine WL.call eg_48 rfl rfl (contains_calls hb hbl _) ?_
    rintro v w3 ⟨rfl, k⟩
    have zs_k := k.size
    replace hc := hc.pure k
    replace hb := hb.pure k
    replace hw := hw.pure k
    by_cases hbi : (i : Int) ∈ bad
    ·
      rw [decide_eq_true hbi]
      refine WL.assign rfl rfl (WL.nil (WX.then_normal (WC.cond_true rfl (WC.skip (WX.block_normal (WX.block_normal (WX.then_normal (?_))))))))
      refine WC.region (WL.add64 rfl rfl (by omega) rfl (WL.move rfl rfl (WL.nil (?_))))
      exact WX.loop_next (i + 1, n) ⟨rfl, rfl, rfl, rfl, rfl, trivial⟩ ⟨by show i + 1 ≤ _; omega, hI.skip hbi, hc, hb, hw⟩ (by show rs.length - (i + 1) < rs.length - i; omega)
    ·
      rw [decide_eq_false hbi]
      refine WL.assign rfl rfl (WL.nil (WX.then_normal (WC.cond_false rfl (WC.seq (WC.region (WL.move rfl rfl (?_)))))))
      refine WL.geq? rfl rfl rfl (fun h23 => ?_) (fun h23 => ?_)
      ·
        refine WL.move rfl rfl (WL.want rfl rfl rfl (WL.move rfl rfl (WL.want rfl rfl rfl (WL.len Tryz.underlying26 rfl rfl (WL.want rfl rfl rfl (WL.move rfl rfl (WL.want rfl rfl rfl (?_))))))))
        refine WL.neq? rfl rfl rfl (fun h28 => ?_) (fun h28 => ?_)
        ·
          refine WL.pickT rfl rfl rfl (WL.assign rfl rfl (WL.nil (WX.then_normal (WC.cond_true rfl (WC.seq (WC.region (WL.assign rfl rfl (?_))))))))
          refine WL.nil (WX.then_normal (WC.ret (WX.block_ret (WX.block_ret (WX.then_ret (WX.then_ret (WX.block_ret (?_))))))))
          refine WX.then_ret (?_)
          refine WX.ret1 (.inl rfl) Tryz.results77 rfl ?_
          refine ⟨_, rfl, ?_, hw⟩
          rw [hI.uneven hrx hbi ⟨by omega, by omega⟩]
        ·
          refine WL.pickT rfl rfl rfl (WL.assign rfl rfl (WL.nil (WX.then_normal (WC.cond_false rfl (WC.region (WL.move rfl rfl (WL.len Tryz.underlying26 rfl rfl (?_))))))))
          refine WL.assign rfl rfl (WL.nil (WX.block_normal (WX.block_normal (WX.then_normal (WC.region (WL.add64 rfl rfl (by omega) rfl (WL.move rfl rfl (?_))))))))
          refine WL.nil (?_)
          exact WX.loop_next (i + 1, (r.xs.length : Int)) ⟨rfl, rfl, rfl, rfl, rfl, trivial⟩ ⟨by show i + 1 ≤ _; omega, hI.next hrx hbi (by omega), hc, hb, hw⟩ (by show rs.length - (i + 1) < rs.length - i; omega)
      ·
        refine WL.move rfl rfl (WL.pass rfl rfl rfl rfl (WL.pass rfl rfl rfl rfl (WL.pass rfl rfl rfl rfl (WL.pass rfl rfl rfl rfl (WL.pickF rfl rfl rfl (WL.assign rfl rfl (WL.nil (?_))))))))
        refine WX.then_normal (WC.cond_false rfl (WC.region (WL.move rfl rfl (WL.len Tryz.underlying26 rfl rfl (WL.assign rfl rfl (WL.nil (WX.block_normal (?_))))))))
        refine WX.block_normal (WX.then_normal (WC.region (WL.add64 rfl rfl (by omega) rfl (WL.move rfl rfl (WL.nil (?_))))))
        exact WX.loop_next (i + 1, (r.xs.length : Int)) ⟨rfl, rfl, rfl, rfl, rfl, trivial⟩ ⟨by show i + 1 ≤ _; omega, hI.next hrx hbi (by omega), hc, hb, hw⟩ (by show rs.length - (i + 1) < rs.length - i; omega)
  ·
    refine WL.nil (WX.then_normal (WC.seq (WC.cond_false rfl (WC.exit (WX.then_exit (WX.then_exit (WX.block_here (?_))))))))
    refine WX.then_normal (WC.seq (WC.seq (WC.region (WL.move rfl rfl (?_)))))
    refine WL.lss? rfl rfl rfl (fun h32 => ?_) (fun h32 => ?_)
    ·
      refine WL.move rfl rfl (WL.pass rfl rfl rfl rfl (WL.pass rfl rfl rfl rfl (WL.pickT rfl rfl rfl (WL.nil (WX.then_normal (WC.cond_true rfl (WC.seq (?_))))))))
      refine WC.region (WL.assign rfl rfl (WL.nil (WX.then_normal (WC.ret (WX.then_ret (?_))))))
      refine WX.ret1 (.inl rfl) Tryz.results77 rfl ?_
      refine ⟨_, rfl, ?_, hw⟩
      rw [hI.done (by omega)]
      rw [if_pos (by omega)]; done
    ·
      refine WL.move rfl rfl (WL.want rfl rfl rfl (WL.move rfl rfl (WL.want rfl rfl rfl (?_))))
      refine WL.gtr? rfl rfl rfl (fun h35 => ?_) (fun h35 => ?_)
      ·
        refine WL.pickF rfl rfl rfl (WL.nil (WX.then_normal (WC.cond_true rfl (WC.seq (WC.region (WL.assign rfl rfl (WL.nil (?_))))))))
        refine WX.then_normal (WC.ret (WX.then_ret (?_)))
        refine WX.ret1 (.inl rfl) Tryz.results77 rfl ?_
        refine ⟨_, rfl, ?_, hw⟩
        rw [hI.done (by omega)]
        rw [if_pos (by omega)]; done
      ·
        refine WL.pickF rfl rfl rfl (WL.nil (WX.then_normal (WC.cond_false rfl (WC.skip (WX.then_normal (WC.seq (WC.region (?_))))))))
        refine WL.move rfl rfl (WL.assign rfl rfl (WL.nil (WX.then_normal (WC.ret (?_)))))
        refine WX.ret1 (.inl rfl) Tryz.results77 rfl ?_
        refine ⟨_, rfl, ?_, hw⟩
        rw [hI.done (by omega)]
        rw [if_neg (by omega)]; done
set_option maxHeartbeats 1000000 in
theorem right_calls {S S2 : Nat → Prop} {w : World} {ao ab : Option Addr} {c cb : Nat} {rs : List Rw} {bad : List Int} (hc : RS S w ao c rs) (hb : RSl S2 w ei ab cb bad) (hl : rs.length * 24 ≤ 140737488351232) (hbl : bad.length ≤ 140737488351232) :
    Calls Tryz.prog 91 [.slice ao rs.length c, .slice ab bad.length cb].toArray w (Ret fun v w' => v = .tuple #[vi (if errB (xss rs) bad = 0 then lenB (xss rs) bad else 0), vi (errB (xss rs) bad)] ∧ Chg Nob w w') := by
  replace hc := hc.old
  replace hb := hb.old
  have hw := Chg.refl Nob w
  have hxl := xss_len rs
  refine Calls.of_WC Tryz.func91 rfl Tryz.ntmps91 (by simp) ?_
  refine WC.seq (WC.region (WL.assign rfl rfl (WL.assign rfl rfl (WL.nil (WX.then_normal (WC.seq (WC.seq (?_))))))))
  refine WC.region (WL.move rfl rfl (WL.len Tryz.underlying87 rfl rfl (?_)))
  refine WL.lss? rfl rfl rfl (fun h11 => ?_) (fun h11 => ?_)
  ·
    refine WL.move rfl rfl (WL.pass rfl rfl rfl rfl (WL.pass rfl rfl rfl rfl (WL.pass rfl rfl rfl rfl (WL.pickT rfl rfl rfl (WL.nil (WX.then_normal (WC.cond_true rfl (?_))))))))
    refine WC.seq (WC.region (WL.assign rfl rfl (WL.assign rfl rfl (WL.nil (WX.then_normal (WC.ret (WX.then_ret (?_))))))))
    refine WX.ret2 (.inl rfl) Tryz.results91 rfl rfl ?_
    refine ⟨_, rfl, ?_, hw⟩
    rw [errB_shape (by omega)]
    rfl
  ·
    refine WL.move rfl rfl (WL.want rfl rfl rfl (WL.move rfl rfl (WL.want rfl rfl rfl (WL.len Tryz.underlying87 rfl rfl (WL.want rfl rfl rfl (?_))))))
    refine WL.gtr? rfl rfl rfl (fun h15 => ?_) (fun h15 => ?_)
    ·
      refine WL.pickF rfl rfl rfl (WL.nil (WX.then_normal (WC.cond_true rfl (WC.seq (WC.region (WL.assign rfl rfl (WL.assign rfl rfl (?_))))))))
      refine WL.nil (WX.then_normal (WC.ret (WX.then_ret (?_))))
      refine WX.ret2 (.inl rfl) Tryz.results91 rfl rfl ?_
      refine ⟨_, rfl, ?_, hw⟩
      rw [errB_shape (by omega)]
      rfl
    ·
      refine WL.pickF rfl rfl rfl (WL.nil (WX.then_normal (WC.cond_false rfl (WC.skip (WX.then_normal (WC.seq (WC.seq (?_))))))))
      refine WC.region (WL.move rfl rfl (WL.len Tryz.underlying39 rfl rfl (WL.move rfl rfl (WL.nil (WX.then_normal (WC.block (?_)))))))
      refine WC.loop (σ := Nat) (fun i => [(0, .slice ao rs.length c), (1, .slice ab bad.length cb), (17, .slice ab bad.length cb), (18, vi bad.length), (19, vi i)])
        (fun i w' => i ≤ bad.length ∧ OkTo rs.length bad i ∧ RS (· < w.heap.size) w' ao c rs ∧ RSl (· < w.heap.size) w' ei ab cb bad ∧ Chg Nob w w') (fun i => bad.length - i) 0 ⟨rfl, rfl, rfl, rfl, rfl, trivial⟩ ⟨Nat.zero_le _, OkTo.start _ _, hc, hb, hw⟩ ?_
      clear hc hb hw
      rintro i w2 ⟨hi, hI, hc, hb, hw⟩
      refine WC.seq (WC.region (?_))
      refine WL.lss? rfl rfl rfl (fun h20 => ?_) (fun h20 => ?_)
      ·
        refine WL.nil (WX.then_normal (WC.seq (WC.cond_true rfl (WC.skip (WX.then_normal (WC.seq (WC.block (?_))))))))
        refine WC.seq (WC.region (WL.move rfl rfl (?_)))
        obtain ⟨b, hbi⟩ : ∃ b, bad[i]? = some b := ⟨_, List.getElem?_eq_getElem (by omega)⟩
        refine WL.indexT Tryz.underlying39 Tryz.sizeOf3 hb rfl rfl ⟨hbi, rfl⟩ rfl ?_
        intro b_1 o_1 hc_1
        refine WL.load Tryz.isAgg3 rfl (hc_1 0 _ rfl) rfl (WL.assign rfl rfl (WL.assign rfl rfl (WL.nil (WX.then_normal (WC.seq (WC.region (WL.move rfl rfl (?_))))))))
        refine WL.lss? rfl rfl rfl (fun h25 => ?_) (fun h25 => ?_)
        ·
          refine WL.move rfl rfl (WL.pass rfl rfl rfl rfl (WL.pass rfl rfl rfl rfl (WL.pass rfl rfl rfl rfl (WL.pass rfl rfl rfl rfl (WL.pickT rfl rfl rfl (WL.move rfl rfl (WL.pass rfl rfl rfl rfl (?_))))))))
          refine WL.pass rfl rfl rfl rfl (WL.pass rfl rfl rfl rfl (WL.passU rfl rfl rfl (WL.passU rfl rfl rfl (WL.passU rfl rfl rfl (WL.passU rfl rfl rfl (WL.passU rfl rfl rfl (WL.passU rfl rfl rfl (?_))))))))
          refine WL.passU rfl rfl rfl (WL.pass rfl rfl rfl rfl (WL.pickT rfl rfl rfl (WL.nil (WX.then_normal (WC.cond_true rfl (WC.seq (WC.region (?_))))))))
          refine WL.assign rfl rfl (WL.assign rfl rfl (WL.nil (WX.then_normal (WC.ret (WX.block_ret (WX.then_ret (WX.then_ret (?_))))))))
          refine WX.block_ret (WX.then_ret (?_))
          refine WX.ret2 (.inl rfl) Tryz.results91 rfl rfl ?_
          refine ⟨_, rfl, ?_, hw⟩
          rw [errB_bad (by rw [hxl]; exact OkBad.no hbi (by omega))]
          rfl
        ·
          refine WL.move rfl rfl (WL.want rfl rfl rfl (WL.move rfl rfl (WL.want rfl rfl rfl (WL.move rfl rfl (WL.want rfl rfl rfl (WL.len Tryz.underlying87 rfl rfl (WL.want rfl rfl rfl (?_))))))))
          refine WL.geq? rfl rfl rfl (fun h30 => ?_) (fun h30 => ?_)
          ·
            refine WL.pickF rfl rfl rfl (WL.move rfl rfl (WL.pass rfl rfl rfl rfl (WL.pass rfl rfl rfl rfl (WL.pass rfl rfl rfl rfl (WL.passU rfl rfl rfl (WL.passU rfl rfl rfl (WL.passU rfl rfl rfl (?_))))))))
            refine WL.passU rfl rfl rfl (WL.passU rfl rfl rfl (WL.passU rfl rfl rfl (WL.passU rfl rfl rfl (WL.pass rfl rfl rfl rfl (WL.pickT rfl rfl rfl (WL.nil (WX.then_normal (?_))))))))
            refine WC.cond_true rfl (WC.seq (WC.region (WL.assign rfl rfl (WL.assign rfl rfl (WL.nil (WX.then_normal (WC.ret (?_))))))))
            refine WX.block_ret (WX.then_ret (WX.then_ret (WX.block_ret (WX.then_ret (?_)))))
            refine WX.ret2 (.inl rfl) Tryz.results91 rfl rfl ?_
            refine ⟨_, rfl, ?_, hw⟩
            rw [errB_bad (by rw [hxl]; exact OkBad.no hbi (by omega))]
            rfl
          ·
            refine WL.pickF rfl rfl rfl (WL.move rfl rfl (WL.want rfl rfl rfl (WL.move rfl rfl (WL.want rfl rfl rfl (?_)))))
            refine WL.gtr? rfl rfl rfl (fun h34 => ?_) (fun h34 => ?_)
            ·
              refine WL.want rfl rfl rfl (WL.move rfl rfl (WL.want rfl rfl rfl (WL.move rfl rfl (WL.want rfl rfl rfl (WL.move rfl rfl (WL.want rfl rfl rfl (WL.move rfl rfl (?_))))))))
              refine WL.want rfl rfl rfl (?_)
              obtain ⟨d, hd⟩ : ∃ d, bad[i - 1]? = some d := ⟨_, List.getElem?_eq_getElem (by omega)⟩
              refine WL.sub64 rfl rfl (by constructor <;> omega) rfl ?_
              rw [show ((i : Int) - 1) = ((i - 1 : Nat) : Int) from by omega]
              refine WL.want rfl rfl rfl (?_)
              refine WL.indexT Tryz.underlying39 Tryz.sizeOf3 hb rfl rfl ⟨hd, rfl⟩ rfl ?_
              intro b_2 o_2 hc_2
              refine WL.want rfl rfl rfl (WL.load Tryz.isAgg3 rfl (hc_2 0 _ rfl) rfl (WL.want rfl rfl rfl (?_)))
              refine WL.leq? rfl rfl rfl (fun h42 => ?_) (fun h42 => ?_)
              ·
                refine WL.want rfl rfl rfl (WL.pickT rfl rfl rfl (WL.pickF rfl rfl rfl (WL.nil (WX.then_normal (WC.cond_true rfl (WC.seq (WC.region (?_))))))))
                refine WL.assign rfl rfl (WL.assign rfl rfl (WL.nil (WX.then_normal (WC.ret (WX.block_ret (WX.then_ret (WX.then_ret (?_))))))))
                refine WX.block_ret (WX.then_ret (?_))
                refine WX.ret2 (.inl rfl) Tryz.results91 rfl rfl ?_
                refine ⟨_, rfl, ?_, hw⟩
                rw [errB_bad (by rw [hxl]; exact OkBad.no2 hbi hd (by omega) (by omega))]
                rfl
              ·
                refine WL.want rfl rfl rfl (WL.pickT rfl rfl rfl (WL.pickF rfl rfl rfl (WL.nil (WX.then_normal (WC.cond_false rfl (WC.skip (WX.block_normal (?_))))))))
                refine WX.then_normal (WC.region (WL.add64 rfl rfl (by omega) rfl (WL.move rfl rfl (WL.nil (?_)))))
                exact WX.loop_next (i + 1) ⟨rfl, rfl, rfl, rfl, rfl, trivial⟩ ⟨by omega, hI.next hbi ⟨by omega, by omega⟩ (fun c' h1 h2 => by rw [hd] at h2; injection h2; omega), hc, hb, hw⟩ (by show bad.length - (i + 1) < bad.length - i; omega)
            ·
              refine WL.want rfl rfl rfl (WL.move rfl rfl (WL.pass rfl rfl rfl rfl (WL.pass rfl rfl rfl rfl (WL.pass rfl rfl rfl rfl (WL.pass rfl rfl rfl rfl (WL.pass rfl rfl rfl rfl (WL.pass rfl rfl rfl rfl (?_))))))))
              refine WL.pass rfl rfl rfl rfl (WL.want rfl rfl rfl (WL.pickF rfl rfl rfl (WL.pickF rfl rfl rfl (WL.nil (WX.then_normal (WC.cond_false rfl (WC.skip (?_))))))))
              refine WX.block_normal (WX.then_normal (WC.region (WL.add64 rfl rfl (by omega) rfl (WL.move rfl rfl (WL.nil (?_))))))
              exact WX.loop_next (i + 1) ⟨rfl, rfl, rfl, rfl, rfl, trivial⟩ ⟨by omega, hI.next hbi ⟨by omega, by omega⟩ (fun c' h1 h2 => by omega), hc, hb, hw⟩ (by show bad.length - (i + 1) < bad.length - i; omega)
      ·
        refine WL.nil (WX.then_normal (WC.seq (WC.cond_false rfl (WC.exit (WX.then_exit (WX.then_exit (WX.block_here (?_))))))))
        refine WX.then_normal (WC.seq (WC.region (WL.move rfl rfl (WL.move rfl rfl (?_)))))
        have hok : OkBad (xss rs).length bad := by rw [hxl]; exact hI.done (by omega)
        refine WL.call eg_77 rfl rfl (length_calls2 hc hb hl hbl) ?_
        rintro v w1 ⟨rfl, k⟩
        have zs_k := k.size
        replace hc := hc.pure k
        replace hb := hb.pure k
        replace hw := hw.pure k
        refine WL.assign rfl rfl (WL.nil (WX.then_normal (WC.seq (WC.block (WC.seq (WC.region (WL.move rfl rfl (?_))))))))
        refine WL.lss? rfl rfl rfl (fun h51 => ?_) (fun h51 => ?_)
        ·
          refine WL.assign rfl rfl (WL.nil (WX.then_normal (WC.cond_true rfl (WC.seq (WC.region (WL.assign rfl rfl (WL.assign rfl rfl (?_))))))))
          refine WL.nil (WX.then_normal (WC.ret (WX.block_ret (WX.then_ret (?_)))))
          refine WX.ret2 (.inl rfl) Tryz.results91 rfl rfl ?_
          refine ⟨_, rfl, ?_, hw⟩
          rw [errB_len (by omega)]
          rfl
        ·
          refine WL.assign rfl rfl (WL.nil (WX.then_normal (WC.cond_false rfl (WC.seq (WC.region (WL.move rfl rfl (WL.len Tryz.underlying39 rfl rfl (?_))))))))
          refine WL.gtr? rfl rfl rfl (fun h55 => ?_) (fun h55 => ?_)
          ·
            refine WL.assign rfl rfl (WL.nil (WX.then_normal (WC.cond_true rfl (WC.seq (WC.region (WL.assign rfl rfl (WL.assign rfl rfl (?_))))))))
            refine WL.nil (WX.then_normal (WC.ret (WX.block_ret (WX.then_ret (?_)))))
            refine WX.ret2 (.inl rfl) Tryz.results91 rfl rfl ?_
            refine ⟨_, rfl, ?_, hw⟩
            rw [errB_ok (by omega) hok (by omega), if_neg (show ¬ bad.length ≤ 3 by omega)]
            rfl
          ·
            refine WL.assign rfl rfl (WL.nil (WX.then_normal (WC.cond_false rfl (WC.skip (WX.block_normal (WX.then_normal (WC.seq (?_))))))))
            refine WC.region (WL.move rfl rfl (WL.assign rfl rfl (WL.assign rfl rfl (WL.nil (WX.then_normal (WC.ret (?_)))))))
            refine WX.ret2 (.inl rfl) Tryz.results91 rfl rfl ?_
            refine ⟨_, rfl, ?_, hw⟩
            rw [errB_ok (by omega) hok (by omega), if_pos (show bad.length ≤ 3 by omega)]
            rfl
end Go.Proofs.YtggecdldnpildaaGreat
namespace Go.HL
open Go.RowKit
/-! regions that draw their order, the loud operations in any order that the edges allow -/
def preds (ops : Array Oper) (rs : List Nat) (i : Nat) : Bool := rs.any fun j => before? ops j i
def AllB : List Nat → (Nat → Bool) → (Nat → Prop) → Prop
  | [], _, _ => True
  | a :: l, p, f => (bif p a then True else f a) ∧ AllB l p f
theorem AllB_mem : ∀ {l : List Nat} {p : Nat → Bool} {f : Nat → Prop}, AllB l p f → ∀ i ∈ l, p i = false → f i
  | [], _, _, _, i, hi, _ => by cases hi
  | a :: l, p, f, h, i, hi, hp => by
    rcases List.mem_cons.1 hi with rfl | h1
    · have := h.1
      rw [hp] at this
      exact this
    · exact AllB_mem h.2 i h1 hp
def drawOkT (ops : Array Oper) (C R : List Nat) : Bool :=
  ((List.range ops.size).all fun i => C.contains i || R.contains i) && ((C ++ R).all fun i => decide (i < ops.size)) &&
  ((List.range ops.size).all fun i => (List.range ops.size).all fun j => i == j || dstOf ops i == none || dstOf ops i != dstOf ops j) &&
  ((List.range ops.size).all fun i => ((ops[i]?).map (·.after.toList.all fun e => !Region.binds .any e || decide (e.on < i))).getD true) &&
  srcOk ops [] (C ++ R) && (R.all fun i => (List.range ops.size).all fun j => (looks ops i).all fun t => dstOf ops j != some t || (if C.contains j then before? ops j i else before? ops j i || before? ops i j)) && nodupB (C ++ R)
section
variable (P : Program) (ops : Array Oper) (Q : Exit → Act → World → Prop) (N : Nat) (K : World → Prop) (w0 : World)
def DT : Nat → List Nat → Env → World → Prop
  | 0, _, E, w => ∀ w', Chg Nob w w' → WX Q .normal N E w'
  | n + 1, rs, E, w => AllB rs (preds ops rs) fun i => ∀ w', Chg Nob w w' → ∀ o, ops[i]? = some o → WL P ops (One o.dst fun v w'' => K w'' ∧ DT n (rs.erase i) (putE E o.dst v) w'') N [o] (restr ops i E) w'
def DQT (R : List Nat) : List Nat → Env → Prop
  | [], E => DT P ops Q N K R.length R E w0
  | i :: is, E => ∃ v, (∀ o, ops[i]? = some o → ∀ w', K w' → WL P ops (One o.dst fun u w'' => u = v ∧ Chg Nob w' w'') N [o] (restr ops i E) w') ∧ DQT R is (putE E (dstOf ops i) v)
end
section
variable {P : Program} {ops : Array Oper} {Q : Exit → Act → World → Prop} {N : Nat} {K : World → Prop} {w0 : World} {E0 : Env}
theorem DQT_spec {R : List Nat} : ∀ {is : List Nat} {E : Env}, is.Nodup → DQT P ops Q N K w0 R is E → ∃ c : Nat → Value, DT P ops Q N K R.length R (envAfter ops c is E) w0 ∧
    ∀ pre i post, is = pre ++ i :: post → ∀ o, ops[i]? = some o → ∀ w', K w' → WL P ops (One o.dst fun u w'' => u = c i ∧ Chg Nob w' w'') N [o] (restr ops i (envAfter ops c pre E)) w'
  | [], E, _, h => ⟨fun _ => undef, h, fun pre i post hx => by cases pre <;> cases hx⟩
  | i :: is, E, hn, h => by
    obtain ⟨v, h1, h2⟩ := h
    obtain ⟨c, h3, h4⟩ := DQT_spec (List.nodup_cons.1 hn).2 h2
    have hi := (List.nodup_cons.1 hn).1
    let c' : Nat → Value := fun j => if j = i then v else c j
    have hc : ∀ j, j ∈ is → c j = c' j := fun j hj => by
      have : j ≠ i := fun e => hi (e ▸ hj)
      simp [c', this]
    have hci : c' i = v := by simp [c']
    refine ⟨c', ?_, ?_⟩
    · show DT P ops Q N K R.length R (envAfter ops c' is (putE E (dstOf ops i) (c' i))) w0
      rw [hci, ← envAfter_congr ops c c' is _ hc]
      exact h3
    · intro pre j post hx o ho w' hw
      cases pre with
      | nil =>
        injection hx with hx1 hx2
        subst hx1
        rw [hci]
        exact h1 o ho w' hw
      | cons p pre =>
        injection hx with hx1 hx2
        subst hx1
        have := h4 pre j post hx2 o ho w' hw
        have hj : j ∈ is := by rw [hx2]; simp
        rw [hc j hj, envAfter_congr ops c c' pre _ (fun k hk => hc k (by rw [hx2]; simp [hk]))] at this
        show WL P ops _ N [o] (restr ops j (envAfter ops c' pre (putE E (dstOf ops i) (c' i)))) w'
        rw [hci]
        exact this

theorem WC.drawT {id : Nat} (K : World → World → Prop) (C R : List Nat) (hm : P.follows .mixedOrders = true) (hok : drawOkT ops C R = true) (hN : ((List.range ops.size).all fun i => (dstOf ops i).all fun t => Nat.blt t N) = true) {w : World} (hK0 : K w.drew w.drew) (hKp : ∀ wd a b, K wd a → Chg Nob a b → K wd b)
    (h0 : ∀ wd, Chg Nob w wd → wd.heap.size = w.heap.size → DQT P ops Q N (K wd) wd R C E0) : WC P (.region id ops true) Q N E0 w := fun a0 ha0 => by
  have h := h0 w.drew (Chg.drew w) rfl
  simp only [drawOkT, Bool.and_eq_true, decide_eq_true_eq] at hok
  obtain ⟨⟨⟨⟨⟨⟨hpart, hlt0⟩, hdst0⟩, hback0⟩, hsrc⟩, hsrcT⟩, hnd⟩ := hok
  replace hnd := nodupB_spec hnd
  have hlt : ∀ k ∈ C ++ R, k < ops.size := fun k hk => by simpa using List.all_eq_true.1 hlt0 k hk
  have hdst : ∀ i j, i < ops.size → j < ops.size → i ≠ j → ∀ t, dstOf ops i = some t → dstOf ops j ≠ some t := by
    intro i j hi hj hne t h1 h2
    have := List.all_eq_true.1 (List.all_eq_true.1 hdst0 i (by simpa using hi)) j (by simpa using hj)
    simp [h1, h2, hne] at this
  have hback : ∀ i, i < ops.size → ∀ o, ops[i]? = some o → ∀ e ∈ o.after, Region.binds .any e = true → e.on < i := by
    intro i hi o ho e he hb
    have := List.all_eq_true.1 hback0 i (by simpa using hi)
    simp only [ho, Option.map_some, Option.getD_some] at this
    rw [List.all_eq_true] at this
    have := this e (by simpa using he)
    simpa [hb] using this
  have hNt : ∀ i, i < ops.size → ∀ t, dstOf ops i = some t → t < N := by
    intro i hi t ht
    have := List.all_eq_true.1 hN i (by simpa using hi)
    simpa [ht] using this
  have hin : ∀ i, i < ops.size → i ∈ C ∨ i ∈ R := fun i hi => by simpa using List.all_eq_true.1 hpart i (by simpa using hi)
  have hCn : C.Nodup := (List.nodup_append.1 hnd).1
  obtain ⟨c, hDL, hq⟩ := DQT_spec hCn h
  have hgs : ∀ (listed : Array Bool) (i j : Nat), i < listed.size → (listed.setIfInBounds i true).getD j false = if j = i then true else listed.getD j false := by
    intro listed i j hil
    simp only [Array.getD_eq_getD_getElem?, Array.getElem?_setIfInBounds]
    by_cases e : j = i
    · subst e; simp [hil]
    · have : ¬ i = j := fun x => e x.symm
      simp [this, e]
  have henv : ∀ (vals : Nat → Value) (rd : List Nat), (∀ i ∈ C, vals i = c i) → envAfter ops vals rd (envAfter ops c C E0) = envAfter ops vals (C ++ rd) E0 := by
    intro vals rd hC
    rw [envAfter_append, envAfter_congr ops vals c C E0 hC]
  have fin : ∀ (listed : Array Bool) (a : Act) (w1 wp : World) (vals : Nat → Value) (rd rs : List Nat), (∀ i, i < ops.size → i ∈ C ∨ i ∈ rd ∨ i ∈ rs) → (∀ i ∈ rd ++ rs, i < ops.size) → Mid ops N E0 listed a vals → (∀ i ∈ C, vals i = c i) → (∀ i ∈ rs, listed.getD i false = false) →
      Chg Nob wp w1 → DT P ops Q N (K w.drew) rs.length rs (envAfter ops vals rd (envAfter ops c C E0)) wp → (∀ i, i < ops.size → listed.getD i false = true) → Q .normal a w1 := by
    intro listed a w1 wp vals rd rs hpt hrl m hC hrs hpw hdl hall
    cases rs with
    | cons r rs =>
      have h1 := hall r (hrl r (by simp))
      have h2 := hrs r (by simp)
      rw [h1] at h2; cases h2
    | nil =>
      refine hdl w1 hpw a ⟨m.tsz, m.dfs, fun t v ht => ?_⟩
      rw [henv vals rd hC] at ht
      rcases (Rep.start ops E0 vals).after (C ++ rd) t v ht with ⟨j, hj, hd, rfl⟩ | ⟨h1, h2⟩
      · have hjl : j < ops.size := by
          rcases List.mem_append.1 (by simpa using hj : j ∈ C ++ rd) with h | h
          · exact hlt j (by simp [h])
          · exact hrl j (by simp [h])
        exact m.done j hjl (hall j hjl) t hd
      · refine m.old t v h2 fun j hj _ => h1 j ?_
        rcases hpt j hj with h | h | h
        · simp [h]
        · simp [h]
        · cases h
  have key : ∀ (fuel : Nat) (listed : Array Bool) (a : Act) (w1 wp : World) (vals : Nat → Value) (rd rs : List Nat), (∀ i, i < ops.size → i ∈ C ∨ i ∈ rd ∨ i ∈ rs) → (∀ i ∈ rd ++ rs, i < ops.size ∧ i ∉ C) → rs.Nodup → (∀ i ∈ rd, i ∉ rs) → Mid ops N E0 listed a vals → (∀ i ∈ C, vals i = c i) → (∀ i ∈ rd, listed.getD i false = true) → (∀ i ∈ rs, listed.getD i false = false) →
      K w.drew w1 → Chg Nob wp w1 → DT P ops Q N (K w.drew) rs.length rs (envAfter ops vals rd (envAfter ops c C E0)) wp → ((List.range ops.size).filter fun i => !listed.getD i false).length ≤ fuel → wpAny P .any ops Q fuel listed a w1 := by
    intro fuel
    induction fuel with
    | zero =>
      intro listed a w1 wp vals rd rs hpt hrl hrn hdj m hC hrd hrs hM hpw hdl hf
      have hall : ∀ i, i < ops.size → listed.getD i false = true := by
        intro i hi
        have h0 := List.length_eq_zero_iff.1 (Nat.le_zero.1 hf)
        have : i ∉ (List.range ops.size).filter fun i => !listed.getD i false := by rw [h0]; simp
        simpa [hi] using this
      refine ⟨?_, fin listed a w1 wp vals rd rs hpt (fun i hi => (hrl i hi).1) m hC hrs hpw hdl hall⟩
      refine List.eq_nil_iff_forall_not_mem.2 fun i hi => ?_
      obtain ⟨h1, h2, _⟩ := mem_ready hi
      have h3 := hall i h1
      have : i < listed.size := by rw [m.sz]; exact h1
      simp [Array.getD_eq_getD_getElem?, this] at h2 h3
      rw [h2] at h3; cases h3
    | succ fuel ih =>
      intro listed a w1 wp vals rd rs hpt hrl hrn hdj m hC hrd hrs hM hpw hdl hf
      refine ⟨fun hnil => fin listed a w1 wp vals rd rs hpt (fun i hi => (hrl i hi).1) m hC hrs hpw hdl (ready_nil m.sz hback hnil), fun i hi => ?_⟩
      obtain ⟨hilt, hno, hpre⟩ := mem_ready hi
      have hil : i < listed.size := by rw [m.sz]; exact hilt
      have hno' : listed.getD i false = false := by
        simp [Array.getD_eq_getD_getElem?, hil] at hno ⊢; exact hno
      have ho : ops[i]? = some ops[i] := Array.getElem?_eq_getElem hilt
      have hdo := dstOf_eq ho
      have hf' : ((List.range ops.size).filter fun j => !(listed.setIfInBounds i true).getD j false).length ≤ fuel := by
        have e1 : ((List.range ops.size).filter fun j => !(listed.setIfInBounds i true).getD j false) = ((List.range ops.size).filter fun j => !listed.getD j false).filter fun j => j != i := by
          rw [List.filter_filter]
          congr 1
          funext j
          rw [hgs listed i j hil]
          by_cases e : j = i <;> simp [e]
        rw [e1]
        have : (((List.range ops.size).filter fun j => !listed.getD j false).filter fun j => j != i).length < ((List.range ops.size).filter fun j => !listed.getD j false).length := by
          rw [List.length_filter_lt_length_iff_exists]
          exact ⟨i, List.mem_filter.2 ⟨by simpa using hilt, by rw [hno']; rfl⟩, by simp⟩
        omega
      by_cases hiC : i ∈ C
      · obtain ⟨pre, post, hsp⟩ := List.append_of_mem hiC
        have h1 := hq pre i post hsp _ ho w1 hM
        have hpc : ∀ k ∈ pre, vals k = c k := fun k hk => hC k (by rw [hsp]; simp [hk])
        have hrep : Rep ops E0 vals pre (envAfter ops c pre E0) := by
          have := (Rep.start ops E0 vals).after pre
          rw [envAfter_congr ops vals c pre E0 hpc] at this
          simpa using this
        have hh := m.holds hsrc (pre := pre) (post := post ++ R) (i := i) (by rw [hsp]; simp) hlt hrep hpre hno
        refine wpOp_mono ?_ (wpOp_of_WL ho hh (fun t ht => hNt i hilt t (by rw [hdo]; exact ht)) h1)
        rintro a' w' ⟨v, rfl, rfl, k⟩
        rw [← hdo]
        have hv : ∀ j, (if j = i then c i else vals j) = vals j := fun j => by
          by_cases e : j = i
          · subst e; simp [hC j hiC]
          · simp [e]
        have hm' := m.put hilt hdst (hNt i hilt) hpre hno (c i)
        simp only [hv] at hm'
        refine ih _ _ w' wp vals rd rs hpt hrl hrn hdj hm' hC (fun j hj => ?_) (fun j hj => ?_) (hKp _ _ _ hM k) (hpw.pure k) hdl hf'
        · rw [hgs listed i j hil]; split
          · rfl
          · exact hrd j hj
        · have : j ≠ i := by rintro rfl; exact (hrl j (by simp [hj])).2 hiC
          rw [hgs listed i j hil, if_neg this]; exact hrs j hj
      · have hird : i ∉ rd := fun hx => by have := hrd i hx; rw [hno'] at this; cases this
        have hirs : i ∈ rs := (hpt i hilt).elim (fun h => absurd h hiC) (fun h => h.elim (fun h => absurd h hird) (fun h => h))
        have hpr : preds ops rs i = false := by
          rw [preds, List.any_eq_false]
          intro p hp hb
          have h1 := hpre p hb
          have h2 := hrs p hp
          rw [h1] at h2; cases h2
        obtain ⟨n, hn⟩ : ∃ n, rs.length = n + 1 := ⟨rs.length - 1, by have := List.length_pos_of_mem hirs; omega⟩
        rw [hn] at hdl
        have h1 := AllB_mem hdl i hirs hpr w1 hpw _ ho
        rw [henv vals rd hC] at h1
        have hrep : Rep ops E0 vals (C ++ rd) (envAfter ops vals (C ++ rd) E0) := by simpa using (Rep.start ops E0 vals).after (C ++ rd)
        have hh : Holds N (restr ops i (envAfter ops vals (C ++ rd) E0)) a := by
          have hsT : ∀ t ∈ looks ops i, ∀ j, j < ops.size → dstOf ops j = some t → (j ∈ C → before? ops j i = true) ∧ (before? ops j i = true ∨ before? ops i j = true) := by
            intro t ht j hj hd
            have q1 := List.all_eq_true.1 hsrcT i (by rcases hin i hilt with h | h; exact absurd h hiC; exact h)
            have q2 := List.all_eq_true.1 (List.all_eq_true.1 q1 j (by simpa using hj)) t ht
            simp only [hd, bne_self_eq_false, Bool.false_or] at q2
            by_cases hjC : C.contains j = true
            · rw [hjC] at q2
              simp at q2
              exact ⟨fun _ => q2, .inl q2⟩
            · simp only [Bool.not_eq_true] at hjC
              rw [hjC] at q2
              simp at q2
              exact ⟨fun h => by simp [h] at hjC, q2⟩
          refine ⟨m.tsz, m.dfs, fun t v ht => ?_⟩
          obtain ⟨g1, g2⟩ := restr_lookup ht
          rcases hrep t v g2 with ⟨j, hj, hd, rfl⟩ | ⟨g3, g4⟩
          · have hjl : j < ops.size := by
              rcases List.mem_append.1 (by simpa using hj : j ∈ C ++ rd) with h | h
              · exact hlt j (by simp [h])
              · exact (hrl j (by simp [h])).1
            have hb : before? ops j i = true := by
              rcases List.mem_append.1 (by simpa using hj : j ∈ C ++ rd) with h | h
              · exact (hsT t g1 j hjl hd).1 h
              · rcases (hsT t g1 j hjl hd).2 with h5 | h5
                · exact h5
                · have h6 := m.clo j hjl (hrd j h) i h5
                  rw [hno'] at h6; cases h6
            exact m.done j hjl (hpre j hb) t hd
          · refine m.old t v g4 fun j hj hl hd => ?_
            rcases hpt j hj with h | h | h
            · exact g3 j (by simp [h]) hd
            · exact g3 j (by simp [h]) hd
            · rw [hrs j h] at hl; cases hl
        refine wpOp_mono ?_ (wpOp_of_WL ho hh (fun t ht => hNt i hilt t (by rw [hdo]; exact ht)) h1)
        rintro a' w' ⟨v, rfl, hM', hdl'⟩
        have hm' := m.put hilt hdst (hNt i hilt) hpre hno v
        rw [← hdo]
        have hC' : ∀ j ∈ C, (if j = i then v else vals j) = c j := fun j hj => by
          have : j ≠ i := by rintro rfl; exact hiC hj
          rw [if_neg this]; exact hC j hj
        have hcr : ∀ j ∈ C ++ rd, vals j = (if j = i then v else vals j) := fun j hj => by
          have : j ≠ i := by rintro rfl; exact (List.mem_append.1 hj).elim hiC hird
          rw [if_neg this]
        have her : ∀ j, j ∈ rs.erase i ↔ j ≠ i ∧ j ∈ rs := fun j => List.Nodup.mem_erase_iff hrn
        refine ih _ _ w' w' (fun j => if j = i then v else vals j) (rd ++ [i]) (rs.erase i) (fun j hj => ?_) (fun j hj => ?_) (hrn.erase i) (fun j hj => ?_) hm' hC' (fun j hj => ?_) (fun j hj => ?_) hM' (Chg.refl _ _) ?_ hf'
        · rcases hpt j hj with h | h | h
          · exact .inl h
          · exact .inr (.inl (by simp [h]))
          · by_cases e : j = i
            · exact .inr (.inl (by simp [e]))
            · exact .inr (.inr ((her j).2 ⟨e, h⟩))
        · rcases List.mem_append.1 hj with h | h
          · rcases List.mem_append.1 h with h | h
            · exact hrl j (by simp [h])
            · have : j = i := by simpa using h
              subst this
              exact hrl j (by simp [hirs])
          · exact hrl j (by simp [((her j).1 h).2])
        · intro h
          have h5 := (her j).1 h
          rcases List.mem_append.1 hj with h6 | h6
          · exact hdj j h6 h5.2
          · exact h5.1 (by simpa using h6)
        · rw [hgs listed i j hil]; split
          · rfl
          · rename_i hne
            rcases List.mem_append.1 hj with hj | hj
            · exact hrd j hj
            · exact absurd (by simpa using hj) hne
        · have h5 := (her j).1 hj
          rw [hgs listed i j hil, if_neg h5.1]; exact hrs j h5.2
        · rw [henv _ (rd ++ [i]) hC', ← List.append_assoc, envAfter_append, ← envAfter_congr ops vals _ (C ++ rd) E0 hcr]
          simp only [envAfter, if_true]
          rw [hdo, List.length_erase_of_mem hirs, hn]
          exact hdl'
  refine wp_region_any hm ?_
  refine key ops.size _ a0 w.drew w.drew c [] R (fun i hi => (hin i hi).elim .inl (fun h => .inr (.inr h))) (fun i hi => ⟨hlt i (by simpa using Or.inr (by simpa using hi)), fun h => (List.nodup_append.1 hnd).2.2 i h i (by simpa using hi) rfl⟩) (List.nodup_append.1 hnd).2.1 (fun i h => by cases h) ?_ (fun _ _ => rfl) (fun _ h => by cases h) (fun i hi => ?_) hK0 (Chg.refl _ _) hDL ?_
  · refine ⟨by simp, ha0.size, ha0.defs, fun i hi hl => ?_, fun t v ht _ => ha0.env t v ht, fun i hi hl => ?_⟩
    · simp [Array.getD_eq_getD_getElem?, hi] at hl
    · simp [Array.getD_eq_getD_getElem?, hi] at hl
  · have hi' := hlt i (by simp [hi])
    simp [Array.getD_eq_getD_getElem?, hi']
  · refine Nat.le_trans (List.length_filter_le _ _) (by simp)
theorem WC.drawM {id : Nat} (M : Nat → Prop) (C R : List Nat) (hm : P.follows .mixedOrders = true) (hok : drawOkT ops C R = true) (hN : ((List.range ops.size).all fun i => (dstOf ops i).all fun t => Nat.blt t N) = true) {w : World}
    (h0 : ∀ wd, Chg Nob w wd → wd.heap.size = w.heap.size → DQT P ops Q N (Chg M wd) wd R C E0) : WC P (.region id ops true) Q N E0 w :=
  WC.drawT (fun wd => Chg M wd) C R hm hok hN (Chg.refl _ _) (fun _ _ _ h k => h.pure k) h0
end
section
variable {P : Program} {ops : Array Oper} {Q : Exit → Act → World → Prop} {N : Nat} {M : Nat → Prop} {K : World → Prop} {w0 w : World} {E E' : Env} {R is : List Nat} {i : Nat} {o : Oper}
theorem DQT.step {v : Value} (E' : Env) (ho : ops[i]? = some o) (hs : Sub E' E) (hk : (E'.all fun p => (looks ops i).contains p.1) = true)
    (h1 : ∀ w', K w' → WL P ops (One o.dst fun u w'' => u = v ∧ Chg Nob w' w'') N [o] E' w') (h2 : DQT P ops Q N K w0 R is (putE E o.dst v)) : DQT P ops Q N K w0 R (i :: is) E :=
  ⟨v, fun o' ho' w' hw => by rw [ho] at ho'; injection ho' with ho'; subst ho'; exact (h1 w' hw).sub (sub_restr hs hk), by rw [dstOf_eq ho]; exact h2⟩
theorem DQT.split {b : Bool} (E' : Env) (ho : ops[i]? = some o) (hs : Sub E' E) (hk : (E'.all fun p => (looks ops i).contains p.1) = true)
    (h1 : ∀ w', K w' → WL P ops (One o.dst fun u w'' => u = .bool b ∧ Chg Nob w' w'') N [o] E' w') (ht : b = true → DQT P ops Q N K w0 R is (putE E o.dst (.bool true))) (hf : b = false → DQT P ops Q N K w0 R is (putE E o.dst (.bool false))) : DQT P ops Q N K w0 R (i :: is) E :=
  DQT.step E' ho hs hk h1 (by
    cases b
    · exact hf rfl
    · exact ht rfl)
theorem DQT.done (h : Chg M w0 w0 → DT P ops Q N (Chg M w0) R.length R E w0) : DQT P ops Q N (Chg M w0) w0 R [] E := h (Chg.refl _ _)
theorem DT.step {T : Env → World → Prop} (E' : Env) (ho : ops[i]? = some o) (hs : Sub E' E) (hk : (E'.all fun p => (looks ops i).contains p.1) = true)
    (h1 : ∀ w', Chg Nob w w' → WL P ops (One o.dst fun v w'' => K w'' ∧ T (putE E o.dst v) w'') N [o] E' w') :
    ∀ w', Chg Nob w w' → ∀ o', ops[i]? = some o' → WL P ops (One o'.dst fun v w'' => K w'' ∧ T (putE E o'.dst v) w'') N [o'] (restr ops i E) w' :=
  fun w' hw o' ho' => by rw [ho] at ho'; injection ho' with ho'; subst ho'; exact (h1 w' hw).sub (sub_restr hs hk)
theorem DT.done (h : ∀ w', Chg Nob w w' → WX Q .normal N E w') (rs : List Nat) : DT P ops Q N K 0 rs E w := h
end
end Go.HL
namespace Go.HL
open Go.RowKit
section
variable {P : Program} {ops : Array Oper} {Q : Exit → Act → World → Prop} {N : Nat} {E : Env} {w : World} {rest : List Oper} {ty : TypeId} {pos : String} {af : Array Edge} {d : Nat} {α : Type} {e : Enc α} {S : Nat → Prop}
/-- append to a row that has no room: always a new block -/
theorem WL.append0 {t tx T : TypeId} {s x : Operand} {ao : Option Addr} {bytes : Nat} {ys : List α} {z v : Value} (hinfo : (P.info? T).map (fun i => (i.zero, i.size, i.bytes)) = some (some z, e.sz, bytes)) (hzs : z.cells.size = e.sz)
    (ht : P.underlying t = some (.slice T)) (hs : ev E s = some (.slice ao 0 0)) (hx : ev E x = some v) (ho : Row S w T e ao 0 ([] : List α)) (hsrc : Src P e.sz tx v ys.length (e.all ys) w) (hne : 0 < ys.length)
    (hb : ys.length * bytes ≤ 140737488355328 ∧ ys.length ≤ 9223372036854775807) (hd : Nat.blt d N = true)
    (h : ∀ g c2 w', Row (fun b => b = g) w' T e (some ⟨g, 0, none⟩) c2 ys → Chg Nob w w' → g = w.heap.size → w'.heap.size = w.heap.size + 1 → WL P ops Q N rest ((d, .slice (some ⟨g, 0, none⟩) ys.length c2) :: E) w') :
    WL P ops Q N (⟨some d, .call ⟨.builtin .append, #[s, x], #[t, tx]⟩, ty, pos, af, none⟩ :: rest) E w := by
  obtain ⟨i, hi, h1, h2, h3⟩ := info_parts hinfo
  have hn63 : 0 + ys.length ≤ maxLen := by simpa [maxLen] using hb.2
  have hold : (Builtin.firstCells i.size 0 (.slice ao 0 0)).run P w.drew = .ok ([] : List Value).toArray w.drew := by
    cases ao with
    | none => simp [Builtin.firstCells]
    | some b => exact run_firstCells_some w.drew i.size 0 b 0 0 [] (by simp) (fun j v h => by simp at h)
  have hr := run_append_grow_src (P := P) w t tx ty T i z ht hi h1 ao 0 0 [] hold v ys.length (e.all ys) (by rw [h2]; exact hsrc) (by omega) (by omega) (growslice_fits (by omega) (by rw [h3]; simpa using hb.1))
  have hge := grownCap_ge w (0 + ys.length) 0 T
  have hcm : grownCap w (0 + ys.length) 0 T ≤ maxLen := grownCap_le_maxLen w (0 + ys.length) 0 T hn63
  have hlen : (e.all ys).length = ys.length * e.sz := Enc.all_len _ _
  obtain ⟨cap, hcap⟩ : ∃ cap, cap = grownCap w (0 + ys.length) 0 T := ⟨_, rfl⟩
  rw [← hcap] at hr hge hcm
  obtain ⟨W', hW'⟩ : ∃ W', W' = w.drew.alloc (.cells (([] ++ e.all ys).toArray ++ Builtin.zeroCells z.cells (cap - (0 + ys.length))) T) := ⟨_, rfl⟩
  rw [← hW', Nat.zero_add] at hr
  refine WL.run (.slice (some ⟨w.heap.size, 0, none⟩) ys.length cap) W' (fun a ha => by simp [execOp, resolve, invoke, builtin, ev_eval ha hs, ev_eval ha hx, hr]) hd ?_
  subst hW'
  have hnew := h w.heap.size cap (w.drew.alloc (.cells (([] ++ e.all ys).toArray ++ Builtin.zeroCells z.cells (cap - (0 + ys.length))) T)) ?_ ⟨rfl, rfl, rfl, by simp, fun k hk _ => Below.heap_alloc w.drew _ k hk⟩ rfl (by simp)
  · exact hnew
  · refine ⟨fun a ea => by injection ea with ea; subst ea; rfl, hlen, by omega, .inr ⟨w.heap.size, _, (0, 0), rfl, heap_alloc_new w.drew _, fun j _ h => by omega, hcm, ?_, ?_⟩⟩
    · simp only [Array.size_append, List.size_toArray, size_zeroCells, hzs, List.nil_append, hlen, ← Nat.add_mul]
      congr 1
      omega
    · simp only [Array.toList_append, List.nil_append]
      rw [← hlen]
      exact List.take_left
end
end Go.HL
namespace Go.HL
open Go.RowKit
/-! maps whose keys and values are known by codes -/
section plain
variable {K V : Type} [DecidableEq K]
def mget : List (K × V) → K → Option V
  | [], _ => none
  | (k', v) :: r, k => if k = k' then some v else mget r k
def mput : List (K × V) → K → V → List (K × V)
  | [], k, v => [(k, v)]
  | (k', v') :: r, k, v => if k = k' then (k, v) :: r else (k', v') :: mput r k v
def mdel : List (K × V) → K → List (K × V)
  | [], _ => []
  | (k', v') :: r, k => if k = k' then r else (k', v') :: mdel r k
theorem mget_put (l : List (K × V)) (k : K) (v : V) (j : K) : mget (mput l k v) j = if j = k then some v else mget l j := by
  induction l with
  | nil => simp [mput, mget]
  | cons p r ih =>
    obtain ⟨k', v'⟩ := p
    simp only [mput]
    by_cases h : k = k'
    · subst h
      simp only [if_true, mget]
      by_cases h2 : j = k <;> simp [h2]
    · simp only [h, if_false, mget, ih]
      by_cases h2 : j = k'
      · subst h2
        have : ¬ j = k := fun e => h e.symm
        simp [this]
      · simp [h2]
def fnd (l : List (K × V)) (k : K) : Nat → Option (Nat × V) := match l with
  | [] => fun _ => none
  | (k', v) :: r => fun i => if k = k' then some (i, v) else fnd r k (i + 1)
theorem fnd_none {k : K} : ∀ {l : List (K × V)} {i : Nat}, fnd l k i = none → mget l k = none ∧ (∀ v, mput l k v = l ++ [(k, v)]) ∧ mdel l k = l
  | [], _, _ => ⟨rfl, fun _ => rfl, rfl⟩
  | (k', v') :: r, i, h => by
    simp only [fnd] at h
    split at h
    · cases h
    · rename_i hne
      obtain ⟨h1, h2, h3⟩ := fnd_none h
      refine ⟨by simp [mget, hne, h1], fun v => by simp [mput, hne, h2 v], by simp [mdel, hne, h3]⟩
theorem fnd_some {k : K} {v : V} {j : Nat} : ∀ {l : List (K × V)} {i : Nat}, fnd l k i = some (j, v) → ∃ q, j = i + q ∧ l[q]? = some (k, v) ∧ mget l k = some v ∧ (∀ v', mput l k v' = l.set q (k, v')) ∧ mdel l k = l.eraseIdx q
  | [], _, h => by simp [fnd] at h
  | (k', v') :: r, i, h => by
    simp only [fnd] at h
    split at h
    · rename_i he
      subst he
      injection h with h
      injection h with h1 h2
      subst h1; subst h2
      exact ⟨0, rfl, rfl, by simp [mget], fun v' => by simp [mput], by simp [mdel]⟩
    · rename_i hne
      obtain ⟨q, h1, h2, h3, h4, h5⟩ := fnd_some h
      exact ⟨q + 1, by omega, by simpa using h2, by simp [mget, hne, h3], fun v' => by simp [mput, hne, h4 v'], by simp [mdel, hne, h5]⟩
end plain
section
variable {K V : Type} [DecidableEq K] {kv : K → Value} {vv : V → Value}
/-- a map in memory -/
def Mp (kv : K → Value) (vv : V → Value) (w : World) (m : Nat) (l : List (K × V)) : Prop := ∃ es clk, w.heap[m]? = some (.map es clk) ∧ es.toList.map (fun e => (e.key, e.val)) = l.map (fun p => (kv p.1, vv p.2))
omit [DecidableEq K] in
theorem Mp.lt {w : World} {m : Nat} {l : List (K × V)} (h : Mp kv vv w m l) : m < w.heap.size := by
  obtain ⟨es, clk, h1, _⟩ := h
  exact (Array.getElem?_eq_some_iff.1 h1).1
omit [DecidableEq K] in
theorem Mp.chg {M : Nat → Prop} {w w' : World} {m : Nat} {l : List (K × V)} (h : Mp kv vv w m l) (k : Chg M w w') (hm : ¬ M m) : Mp kv vv w' m l := by
  obtain ⟨es, clk, h1, h2⟩ := h
  exact ⟨es, clk, k.obj h1 hm, h2⟩
omit [DecidableEq K] in
theorem Mp.pure {w w' : World} {m : Nat} {l : List (K × V)} (h : Mp kv vv w m l) (k : Chg Nob w w') : Mp kv vv w' m l := h.chg k (fun x => x)
/-- what a type of keys must do -/
structure KeyOk (P : Program) (T : TypeId) (kv : K → Value) : Prop where
  chk : ∀ em w k, (Instr.checkKey em 10000 T (kv k)).run P w = .ok () w
  eq : ∀ w k k', (Op.equal T (kv k) (kv k')).run P w = .ok (decide (k = k')) w
  st : ∃ fs, P.underlying T = some (.struct fs)
  same : ∀ k, Instr.sameBits 10000 (kv k) (kv k) = true
variable {P : Program} {T : TypeId}
theorem run_findAsking (hk : KeyOk P T kv) (w : World) (k : K) : ∀ (es : List MapEntry) (l : List (K × V)) (i : Nat), es.map (fun e => (e.key, e.val)) = l.map (fun p => (kv p.1, vv p.2)) →
    (Instr.findAsking T (kv k) es i).run P w = .ok ((fnd l k i).map fun r => (r.1, vv r.2)) w
  | [], l, i, h => by
    cases l with
    | nil => simp [Instr.findAsking, fnd]
    | cons p r => simp at h
  | e :: es, l, i, h => by
    cases l with
    | nil => simp at h
    | cons p r =>
      obtain ⟨k', v'⟩ := p
      simp only [List.map_cons, List.cons.injEq, Prod.mk.injEq] at h
      obtain ⟨⟨h1, h2⟩, h3⟩ := h
      have ih := run_findAsking hk w k es r (i + 1) h3
      by_cases he : k = k'
      · simp [Instr.findAsking, h1, hk.eq, he, fnd, h2]
      · simp [Instr.findAsking, h1, hk.eq, he, fnd, ih]
theorem run_findKey (hk : KeyOk P T kv) (w : World) (k : K) (es : List MapEntry) (l : List (K × V)) (h : es.map (fun e => (e.key, e.val)) = l.map (fun p => (kv p.1, vv p.2))) :
    (Instr.findKey T (kv k) es).run P w = .ok ((fnd l k 0).map fun r => (r.1, vv r.2)) w := by
  obtain ⟨fs, hu⟩ := hk.st
  have ha := run_findAsking hk w k es l 0 h
  cases es with
  | nil =>
    cases l with
    | nil => simp [Instr.findKey, run_underlying hu, Instr.findNow, fnd]
    | cons p r => simp at h
  | cons e es => simp [Instr.findKey, run_underlying hu, Instr.findNow, Instr.sameNow, ha]
end
section
variable {K V : Type} [DecidableEq K] {kv : K → Value} {vv : V → Value} {P : Program} {ops : Array Oper} {Q : Exit → Act → World → Prop} {N : Nat} {E : Env} {w : World} {rest : List Oper} {d : Nat} {ty t T U : TypeId} {pos : String} {af : Array Edge} {x y z : Operand} {m : Nat} {l : List (K × V)} {k : K}
theorem WL.mlookup {zv : Value} (hk : KeyOk P T kv) (ht : P.underlying t = some (.map T U)) (hz : ∀ w, (zeroValue U).run P w = .ok zv w) (hm : Mp kv vv w m l) (hx : ev E x = some (.map (some m))) (hy : ev E y = some (kv k)) (hd : Nat.blt d N = true)
    (h : WL P ops Q N rest ((d, .tuple #[((mget l k).map vv).getD zv, .bool (mget l k).isSome]) :: E) w) : WL P ops Q N (⟨some d, .lookup t x y true, ty, pos, af, none⟩ :: rest) E w := by
  refine WL.run _ w (fun a ha => ?_) hd h
  obtain ⟨es, clk, h1, h2⟩ := hm
  have hf := run_findKey hk w k es.toList l h2
  simp only [execOp, ev_eval ha hx, ev_eval ha hy]
  cases hq : fnd l k 0 with
  | none =>
    obtain ⟨h3, _⟩ := fnd_none hq
    rw [hq] at hf
    simp [Instr.lookup, run_underlying ht, MapKept.run_getObj_map h1, hk.chk, hf, hz, h3]
  | some r =>
    obtain ⟨j, v⟩ := r
    obtain ⟨q, _, _, h3, _⟩ := fnd_some hq
    rw [hq] at hf
    simp [Instr.lookup, run_underlying ht, MapKept.run_getObj_map h1, hk.chk, hf, h3]
theorem Chg.setBlk (w : World) (m : Nat) (o : Obj) : Chg (· = m) w { w with heap := w.heap.setIfInBounds m o } :=
  ⟨rfl, rfl, rfl, by simp, fun k hk hm => by
    have : m ≠ k := fun e => hm e.symm
    simp [Array.getElem?_setIfInBounds_ne this]⟩
theorem setBlk_get {w : World} {m : Nat} (o : Obj) (h : m < w.heap.size) : ({ w with heap := w.heap.setIfInBounds m o } : World).heap[m]? = some o := by simp [h]
theorem run_thatStays (hk : KeyOk P T kv) (w : World) (k : K) : (Instr.keyThatStays (kv k) (kv k)).run P w = .ok (kv k) w := by
  simp [Instr.keyThatStays, hk.same]
theorem run_mapPut {v : V} (hk : KeyOk P T kv) (ht : P.underlying t = some (.map T U)) (hm : Mp kv vv w m l) (k : K) :
    ∃ w', (Instr.mapUpdate t (.map (some m)) (kv k) (vv v)).run P w = .ok () w' ∧ Mp kv vv w' m (mput l k v) ∧ Chg (· = m) w w' ∧ w'.heap.size = w.heap.size := by
  obtain ⟨es, clk, h1, h2⟩ := hm
  have hlt := (Array.getElem?_eq_some_iff.1 h1).1
  have hf := run_findKey hk w k es.toList l h2
  cases hq : fnd l k 0 with
  | none =>
    obtain ⟨_, h3, _⟩ := fnd_none hq
    rw [hq] at hf
    refine ⟨{ w with heap := w.heap.setIfInBounds m (.map (es.push ⟨kv k, vv v, clk⟩) (clk + 1)) }, ?_, ⟨_, _, setBlk_get _ hlt, ?_⟩, Chg.setBlk _ _ _, by simp⟩
    · simp [Instr.mapUpdate, run_underlying ht, MapKept.run_getObj_map h1, hk.chk, hf, MapKept.run_setObj_map _ h1]
    · rw [h3]
      simp [h2]
  | some r =>
    obtain ⟨j, u⟩ := r
    obtain ⟨q, h3, h4, _, h5, _⟩ := fnd_some hq
    rw [Nat.zero_add] at h3
    subst h3
    rw [hq] at hf
    have hlen : es.toList.length = l.length := by simpa using congrArg List.length h2
    have hjl : j < l.length := (List.getElem?_eq_some_iff.1 h4).1
    have hjs : j < es.size := by rw [← Array.length_toList, hlen]; exact hjl
    have hje : es[j]? = some es[j] := Array.getElem?_eq_getElem hjs
    have hkey : es[j].key = kv k := by
      have := congrArg (fun l : List (Value × Value) => l[j]?) h2
      simp only [List.getElem?_map, h4, Option.map_some, Array.getElem?_toList, hje] at this
      injection this with this
      injection this
    refine ⟨{ w with heap := w.heap.setIfInBounds m (.map (es.modify j fun e => { e with key := kv k, val := vv v }) clk) }, ?_, ⟨_, _, setBlk_get _ hlt, ?_⟩, Chg.setBlk _ _ _, by simp⟩
    · simp [Instr.mapUpdate, run_underlying ht, MapKept.run_getObj_map h1, hk.chk, hf, hje, hkey, run_thatStays hk, MapKept.run_setObj_map _ h1]
    · rw [h5 v]
      apply List.ext_getElem?
      intro i
      have hi := congrArg (fun l : List (Value × Value) => l[i]?) h2
      simp only [List.getElem?_map, Array.getElem?_toList] at hi
      simp only [List.getElem?_map, Array.getElem?_toList, Array.getElem?_modify, List.getElem?_set]
      by_cases e : j = i
      · subst e
        simp [hje, hjl]
      · simp [e, hi]
theorem WL.mput {v : V} (hk : KeyOk P T kv) (ht : P.underlying t = some (.map T U)) (hm : Mp kv vv w m l) (hx : ev E x = some (.map (some m))) (hy : ev E y = some (kv k)) (hv : ev E z = some (vv v))
    (h : ∀ w', w'.heap.size = w.heap.size → Mp kv vv w' m (mput l k v) → Chg (· = m) w w' → WL P ops Q N rest E w') : WL P ops Q N (⟨none, .mapUpdate t x y z, ty, pos, af, none⟩ :: rest) E w := by
  obtain ⟨w', h1, h2, h3, h4⟩ := run_mapPut (v := v) hk ht hm k
  exact WL.run0 w' (fun a ha => by simp [execOp, ev_eval ha hx, ev_eval ha hy, ev_eval ha hv, h1]) (h w' h4 h2 h3)
theorem WL.mdel {ats : Array TypeId} (hk : KeyOk P T kv) (ht : P.underlying t = some (.map T U)) (hm : Mp kv vv w m l) (hx : ev E x = some (.map (some m))) (hy : ev E y = some (kv k)) (hat : ats[0]? = some t) (hd : Nat.blt d N = true)
    (h : ∀ w', w'.heap.size = w.heap.size → Mp kv vv w' m (mdel l k) → Chg (· = m) w w' → WL P ops Q N rest ((d, .tuple #[]) :: E) w') : WL P ops Q N (⟨some d, .call ⟨.builtin .delete, #[x, y], ats⟩, ty, pos, af, none⟩ :: rest) E w := by
  obtain ⟨es, clk, h1, h2⟩ := hm
  have hlt := (Array.getElem?_eq_some_iff.1 h1).1
  have hf := run_findKey hk w k es.toList l h2
  cases hq : fnd l k 0 with
  | none =>
    obtain ⟨_, _, h3⟩ := fnd_none hq
    rw [hq] at hf
    refine WL.run _ { w with heap := w.heap.setIfInBounds m (.map es clk) } (fun a ha => ?_) hd (h _ (by simp) ⟨_, _, setBlk_get _ hlt, by rw [h3]; exact h2⟩ (Chg.setBlk _ _ _))
    simp [execOp, resolve, invoke, builtin, ev_eval ha hx, ev_eval ha hy, Builtin.delete_, hat, run_underlying ht, MapKept.run_getObj_map h1, hk.chk, hf, MapKept.run_setObj_map _ h1]
  | some r =>
    obtain ⟨j, u⟩ := r
    obtain ⟨q, h3, h4, _, _, h5⟩ := fnd_some hq
    rw [Nat.zero_add] at h3
    subst h3
    rw [hq] at hf
    refine WL.run _ { w with heap := w.heap.setIfInBounds m (.map (es.eraseIdxIfInBounds j) clk) } (fun a ha => ?_) hd (h _ (by simp) ⟨_, _, setBlk_get _ hlt, ?_⟩ (Chg.setBlk _ _ _))
    · simp [execOp, resolve, invoke, builtin, ev_eval ha hx, ev_eval ha hy, Builtin.delete_, hat, run_underlying ht, MapKept.run_getObj_map h1, hk.chk, hf, MapKept.run_setObj_map _ h1]
    · rw [h5]
      have hlen : es.toList.length = l.length := by simpa using congrArg List.length h2
      have hjl : j < l.length := (List.getElem?_eq_some_iff.1 h4).1
      have hje : j < es.size := by rw [← Array.length_toList, hlen]; exact hjl
      rw [Array.eraseIdxIfInBounds, dif_pos hje, Array.toList_eraseIdx, List.eraseIdx_eq_take_drop_succ, List.eraseIdx_eq_take_drop_succ, List.map_append, List.map_append, List.map_take, List.map_take, List.map_drop, List.map_drop, h2]
omit [DecidableEq K] in
theorem WL.makeMap (hd : Nat.blt d N = true) (h : ∀ g w', w.heap.size = g → g < w'.heap.size → Mp kv vv w' g [] → Chg Nob w w' → WL P ops Q N rest ((d, .map (some g)) :: E) w') :
    WL P ops Q N (⟨some d, .makeMap t none, ty, pos, af, none⟩ :: rest) E w :=
  WL.run _ (w.alloc (.map #[] 0)) (fun a ha => by simp [execOp, Instr.makeMap, newObj, Sem.run]) hd
    (h _ _ rfl (by simp) ⟨#[], 0, heap_alloc_new w _, rfl⟩ (Chg.alloc _ _))
end
end Go.HL
