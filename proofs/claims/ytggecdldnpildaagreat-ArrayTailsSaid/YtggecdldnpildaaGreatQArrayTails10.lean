import Derived.Shelf.Sort.Plain
import Derived.Shelf.Slices.In.SortNone
import Derived.Lib.SortBridge
import Derived.Test.YtggecdldnpildaaGreatQArrayTails9
namespace Go.Proofs.YtggecdldnpildaaGreat
open Go.RowKit Go.HL
set_option maxRecDepth 100000

/-! a block's rows are read -/
theorem errS_col {s : RA} (hu : Up s) {f c : Nat} (hi : inS s ((c % s.dn : Nat) : Int) ((f + c / s.dn : Nat) : Int)) : errS s ((c % s.dn : Nat) : Int) ((f + c / s.dn : Nat) : Int) = if goneS s ((c % s.dn : Nat) : Int) = true then 3 else 0 := by
  rw [errS, if_neg (fun h => h hi), hu.off]
  by_cases h : goneS s ((c % s.dn : Nat) : Int) = true
  · rw [if_pos h, if_pos h]
  · rw [if_neg h, if_neg h, if_neg (by decide)]
set_option maxHeartbeats 8000000 in
theorem stripes_calls {A : Nat → Prop} {w : World} {a R f : Nat} {s : RA} (hB : AB w a R s.dn f) (h : RK A w R s) (hu : Up s) (h5 : 5 ≤ s.dn) (hf : f < s.sn) (addr size : Nat) (hs : 1 ≤ size ∧ size ≤ 1024) (ha : addr + costA s.dn (secsA size) ≤ s.dn * (s.sn - f)) :
    Calls Tryz.prog 45 [ptr a, vi addr, vi size].toArray w (Ret fun v w' => (∃ ao c l, v = .tuple #[.slice ao l.length c, vi 0] ∧ Row (w.heap.size ≤ ·) w' 121 estp ao c l ∧ SI (w.heap.size ≤ ·) w' 26 5 3 l ∧ l.map Stp.abs = strA s f addr size) ∧ Chg Nob w w') := by
  have hw := Chg.refl Nob w
  have la := hB.lt
  have hok := h.ok
  have hdn := h.ok.dn
  have hsn := h.ok.sn
  replace h := h.old
  have hm : s.dn * (s.sn - f) ≤ 16 * 2000 := Nat.mul_le_mul (by omega) (by omega)
  have h8 := secsA_le hs.2
  refine Calls.of_WC Tryz.func45 rfl Tryz.ntmps45 (by simp) ?_
  refine WC.seq (WC.region (WL.assign rfl rfl (WL.assign rfl rfl (WL.nil (WX.then_normal (WC.seq (WC.region (?_))))))))
  refine WL.assign rfl rfl (WL.nil (WX.then_normal (WC.seq (WC.seq (WC.region (WL.move rfl rfl (WL.move rfl rfl (?_))))))))
  refine WL.move rfl rfl (?_)
  refine WL.call eg_39 rfl rfl (rows_calls hB ⟨h5, hdn.2⟩ addr size (by omega) hs.2) ?_
  rintro v w1 ⟨⟨ar, cr, rfl, hr⟩, k1⟩
  have zs_k1 := k1.size
  replace hB := hB.pure k1
  replace h := h.pure k1
  replace hw := hw.pure k1
  refine WL.len Tryz.underlying82 rfl rfl (WL.move rfl rfl (WL.nil (WX.then_normal (WC.block (?_)))))
  obtain ⟨rows, hrows⟩ : ∃ rows, rows = rowsA s.dn addr (secsA size) := ⟨_, rfl⟩
  have hrl : rows.length ≤ 8 := by rw [hrows]; exact Nat.le_trans (rowsA_len (by omega) _ _) h8
  have hstr : rows.map (stpA s f) = strA s f addr size := by rw [hrows]; rfl
  have hsum : sumR rows = costA s.dn (secsA size) := by rw [hrows]; exact sumR_rows (by omega) _ _ _
  rw [← hrows] at hr ⊢
  refine WC.loop (σ := Nat × ((Option Addr × Nat) × List Stp)) (fun q => [(0, ptr a), (8, .slice q.2.1.1 q.2.2.length q.2.1.2), (21, .slice ar rows.length cr), (22, vi rows.length), (23, vi (q.1 : Int))])
    (fun q w' => q.1 ≤ rows.length ∧ AB w' a R s.dn f ∧ RK (fun x => A x ∧ x < w.heap.size) w' R s ∧ RSK (w.heap.size ≤ ·) w' 85 er2 ar cr rows ∧ Row (w.heap.size ≤ ·) w' 121 estp q.2.1.1 q.2.1.2 q.2.2 ∧ SI (w.heap.size ≤ ·) w' 26 5 3 q.2.2 ∧ q.2.2.map Stp.abs = (rows.take q.1).map (stpA s f) ∧ Chg Nob w w') (fun q => rows.length - q.1) (0, ((none, 0), [])) ⟨rfl, rfl, rfl, rfl, rfl, trivial⟩
    ⟨Nat.zero_le _, hB, h, hr.rsk, Row.nil _ _ _ _, SI.nil _ _ _ _ _, rfl, hw⟩ ?_
  clear hB h hr hw
  rintro ⟨i, ⟨al, cl⟩, l⟩ w4 ⟨hi, hB, h, hr, hO, hI, hl, hw⟩
  simp only at hi hO hI hl
  dsimp only
  have zw4 := hw.size
  replace hr := hr.low
  replace hO := hO.lt
  replace hI := hI.low
  have hll : l.length = i := by
    have h1 : l.length = (l.map Stp.abs).length := by simp
    rw [h1, hl, List.length_map, List.length_take]
    omega
  refine WC.seq (WC.region (?_))
  refine WL.lss? rfl rfl rfl (fun h24 => ?_) (fun h24 => ?_)
  ·
    refine WL.nil (WX.then_normal (WC.seq (WC.cond_true rfl (WC.skip (WX.then_normal (WC.seq (WC.block (?_))))))))
    refine WC.seq (WC.region (?_))
    obtain ⟨x, hx⟩ : ∃ x, rows[i]? = some x := ⟨_, List.getElem?_eq_getElem (by omega)⟩
    have hxm := rowsA_mem (n := s.dn) (by omega) _ _ _ (hrows ▸ List.mem_of_getElem? hx)
    rw [← hrows, hsum] at hxm
    have hr1 := RSK.rsl hr
    refine WL.indexT Tryz.underlying82 Tryz.sizeOf85 hr1 rfl rfl ⟨hx, rfl⟩ rfl ?_
    intro bb oo hcc
    refine WL.loads _ Tryz.isAgg85 Tryz.sizeOf85 rfl hcc rfl rfl (?_)
    refine WL.alloc Tryz.zeroValue85 rfl ?_
    intro ga wa hgea hlta hba ka
    have zs_ka := ka.size
    replace hB := hB.pure ka
    replace h := h.pure ka
    replace hr := hr.pure ka
    replace hO := hO.pure ka
    replace hI := hI.pure ka
    replace hw := hw.pure ka
    refine WL.stores Tryz.sizeOf85 hba rfl rfl (by rfl) (by exact Enc.one _ _) (by exact Nat.le_of_ble_eq_true rfl) rfl ?_
    intro w_1 hs_1 hn_1 k_1
    have zs_k_1 := k_1.size
    replace hB := hB.chg k_1 (by intro h1; have h2 : _ = _ := h1; exfalso; omega)
    replace h := h.chg k_1 (by intro b h1 h2 h3; have h4 : _ = _ := h3; (try dsimp only at h2); exfalso; omega)
    replace hr := hr.chg k_1 (by intros; exfalso; (try dsimp only at *); omega)
    replace hO := hO.chg k_1 (by intro b h1 h2 h3; have h4 : _ = _ := h3; (try dsimp only at h2); exfalso; omega)
    replace hI := hI.chg k_1 (by intro b h1 h2 h3; have h4 : _ = _ := h3; (try dsimp only at h2); exfalso; omega)
    replace hw := hw.chg k_1 (by intro x h1 h2; have h3 : _ = _ := h2; exfalso; omega)
    replace hba := hn_1
    refine WL.nil (WX.then_normal (WC.seq (WC.region (?_))))
    have hb10 : Blk _ ga 85 [vi x.1, vi x.2] := hba
    refine WL.alloc Tryz.zeroValue121 rfl ?_
    intro gs ws hges hlts hbs ks
    have zs_ks := ks.size
    replace hB := hB.pure ks
    replace h := h.pure ks
    replace hr := hr.pure ks
    replace hO := hO.pure ks
    replace hI := hI.pure ks
    replace hw := hw.pure ks
    replace hb10 := hb10.pure ks
    have hb11 : Blk _ gs 121 [.slice none 0 0, .slice none 0 0] := hbs
    refine WL.nil (WX.then_normal (WC.seq (WC.seq (WC.region (WL.fieldAddr (fld_85_1) rfl rfl (WL.loadB Tryz.isAgg3 hb10 rfl rfl rfl (?_)))))))
    refine WL.add64 rfl rfl (by constructor <;> omega) rfl ?_
    refine WL.move rfl rfl (WL.nil (WX.then_normal (WC.block (?_))))
    have l10 := hb10.lt
    have l11 := hb11.lt
    have hne : ga ≠ gs := by omega
    have hga : w4.heap.size ≤ ga := by omega
    have hgs : w4.heap.size ≤ gs := by omega
    have zws := hw.size
    obtain ⟨C, hC⟩ : ∃ C : Nat → List (List UInt8), C = fun j => (stpA s f x).1.take j := ⟨_, rfl⟩
    obtain ⟨D, hD⟩ : ∃ D : Nat → List Int, D = fun j => (stpA s f x).2.take j := ⟨_, rfl⟩
    obtain ⟨sl1, sl2⟩ := stpA_len s f x
    have hCs : ∀ j, j < x.2 + 3 → C (j + 1) = C j ++ [colA s f (x.1 + cix x.2 j)] := fun j hj => by rw [hC]; show List.take (j + 1) _ = List.take j _ ++ _; rw [List.take_add_one, stpA_col hj]; rfl
    have hDs : ∀ j, j < x.2 + 3 → D (j + 1) = D j ++ [(((x.1 + cix x.2 j) % s.dn : Nat) : Int)] := fun j hj => by
      have h1 := stpA_drv (s := s) (f := f) (r := x) hj
      rw [List.getD_eq_getElem?_getD] at h1
      have h2 : (stpA s f x).2[j]? = some (((x.1 + cix x.2 j) % s.dn : Nat) : Int) := by
        rw [List.getElem?_eq_getElem (by rw [sl2]; exact hj)] at h1 ⊢
        exact congrArg some h1
      rw [hD]; show List.take (j + 1) _ = List.take j _ ++ _; rw [List.take_add_one, h2]; rfl
    have hDl : ∀ j, j ≤ x.2 + 3 → (D j).length = j := fun j hj => by rw [hD]; show (List.take j _).length = j; rw [List.length_take, sl2]; omega
    refine WC.loop (σ := Nat × ((Option Addr × Nat) × List Rw) × (Option Addr × Nat)) (fun q => [(0, ptr a), (8, .slice al l.length cl), (10, ptr ga), (11, ptr gs), (21, .slice ar rows.length cr), (22, vi rows.length), (23, vi (i : Int)), (29, vi ((x.2 : Int) + 3)), (30, vi (q.1 : Int))])
      (fun q w' => q.1 ≤ x.2 + 3 ∧ AB w' a R s.dn f ∧ RK (fun x => A x ∧ x < w.heap.size) w' R s ∧ RSK (fun b => w.heap.size ≤ b ∧ b < w4.heap.size) w' 85 er2 ar cr rows ∧ Row (fun b => w.heap.size ≤ b ∧ b < w4.heap.size) w' 121 estp al cl l ∧ SI (fun b => w.heap.size ≤ b ∧ b < w4.heap.size) w' 26 5 3 l ∧ Blk w' ga 85 [vi x.1, vi x.2] ∧ Blk w' gs 121 [.slice q.2.1.1.1 q.2.1.2.length q.2.1.1.2, .slice q.2.2.1 (D q.1).length q.2.2.2]
        ∧ KR (fun b => w4.heap.size ≤ b ∧ b ≠ ga ∧ b ≠ gs) w' 26 5 q.2.1.1.1 q.2.1.1.2 q.2.1.2 ∧ Row (fun b => w4.heap.size ≤ b ∧ b ≠ ga ∧ b ≠ gs) w' 3 ei q.2.2.1 q.2.2.2 (D q.1) ∧ q.2.1.2.map Rw.xs = C q.1 ∧ Chg Nob w w' ∧ (w4.heap.size ≤ w'.heap.size ∧ ga < w'.heap.size ∧ gs < w'.heap.size)) (fun q => x.2 + 3 - q.1) (0, ((none, 0), []), (none, 0)) ⟨rfl, rfl, rfl, rfl, rfl, rfl, rfl, rfl, rfl, trivial⟩
      ⟨Nat.zero_le _, hB, h, hr, hO, hI, hb10, by rw [show (D 0).length = 0 from hDl 0 (by omega)]; exact hb11, KR.nil _ _ _ _, by rw [show D 0 = [] from by rw [hD]; rfl]; exact Row.nil _ _ _ _, by rw [hC]; rfl, hw, by omega, l10, l11⟩ ?_
    clear hB h hr hO hI hw hb10 hb11 hbs hba
    rintro ⟨j, ⟨⟨ca, cc⟩, cs⟩, da, dc⟩ w5 ⟨hj, hB, h, hr, hO, hI, hb10, hb11, hK, hE, hcs, hw, zw5, l10, l11⟩
    simp only at hj hb11 hK hE hcs
    dsimp only
    have hcl : cs.length = j := by
      have h1 : cs.length = (cs.map Rw.xs).length := by simp
      rw [h1, hcs, hC]
      show (List.take j _).length = j
      rw [List.length_take, sl1]
      omega
    have hdl := hDl j hj
    have zw5' := hw.size
    refine WC.seq (WC.region (?_))
    refine WL.lss? rfl rfl rfl (fun h31 => ?_) (fun h31 => ?_)
    ·
      refine WL.nil (WX.then_normal (WC.seq (WC.cond_true rfl (WC.skip (WX.then_normal (WC.seq (WC.block (?_))))))))
      refine WC.seq (WC.region (WL.move rfl rfl (WL.assign rfl rfl (WL.nil (WX.then_normal (WC.seq (?_)))))))
      refine WC.draw (Nob) [0, 1, 2, 3, 4, 5, 6, 7, 8, 9] [] mixed rfl rfl (fun wd_2 kd_2 zd_2 => ?_)
      have zs_kd_2 := kd_2.size
      replace hB := hB.pure kd_2
      replace h := h.pure kd_2
      replace hr := hr.pure kd_2
      replace hO := hO.pure kd_2
      replace hI := hI.pure kd_2
      replace hb10 := hb10.pure kd_2
      replace hb11 := hb11.pure kd_2
      replace hK := hK.pure kd_2
      replace hE := hE.pure kd_2
      replace hw := hw.pure kd_2
      apply DQ.step (E' := [(10, _)])
      case ho => rfl
      case hs => exact ⟨rfl, trivial⟩
      case hk => rfl
      case h1 =>
        intro wq_3 kq_3
        refine WL.fieldAddr (fld_85_0) rfl rfl (?_)
        refine WL.nil ?_
        exact WX.one ⟨rfl, by exact Chg.refl _ _⟩
      apply DQ.step (E' := [(33, _)])
      case ho => rfl
      case hs => exact ⟨rfl, trivial⟩
      case hk => rfl
      case h1 =>
        intro wq_4 kq_4
        have zs_kq_4 := kq_4.size
        replace hB := hB.pure kq_4
        replace h := h.pure kq_4
        replace hr := hr.pure kq_4
        replace hO := hO.pure kq_4
        replace hI := hI.pure kq_4
        replace hb10 := hb10.pure kq_4
        replace hb11 := hb11.pure kq_4
        replace hK := hK.pure kq_4
        replace hE := hE.pure kq_4
        replace hw := hw.pure kq_4
        refine WL.loadB Tryz.isAgg3 hb10 rfl rfl rfl (?_)
        refine WL.nil ?_
        exact WX.one ⟨rfl, by exact Chg.refl _ _⟩
      apply DQ.step (E' := [(12, _)])
      case ho => rfl
      case hs => exact ⟨rfl, trivial⟩
      case hk => rfl
      case h1 =>
        intro wq_5 kq_5
        refine WL.move rfl rfl (?_)
        refine WL.nil ?_
        exact WX.one ⟨rfl, by exact Chg.refl _ _⟩
      apply DQ.step (E' := [(35, _)])
      case ho => rfl
      case hs => exact ⟨rfl, trivial⟩
      case hk => rfl
      case h1 =>
        intro wq_6 kq_6
        refine WL.add64 rfl rfl (by constructor <;> omega) rfl ?_
        refine WL.nil ?_
        exact WX.one ⟨rfl, by exact Chg.refl _ _⟩
      apply DQ.step (E' := [(10, _)])
      case ho => rfl
      case hs => exact ⟨rfl, trivial⟩
      case hk => rfl
      case h1 =>
        intro wq_7 kq_7
        refine WL.fieldAddr (fld_85_1) rfl rfl (?_)
        refine WL.nil ?_
        exact WX.one ⟨rfl, by exact Chg.refl _ _⟩
      apply DQ.step (E' := [(37, _)])
      case ho => rfl
      case hs => exact ⟨rfl, trivial⟩
      case hk => rfl
      case h1 =>
        intro wq_8 kq_8
        have zs_kq_8 := kq_8.size
        replace hB := hB.pure kq_8
        replace h := h.pure kq_8
        replace hr := hr.pure kq_8
        replace hO := hO.pure kq_8
        replace hI := hI.pure kq_8
        replace hb10 := hb10.pure kq_8
        replace hb11 := hb11.pure kq_8
        replace hK := hK.pure kq_8
        replace hE := hE.pure kq_8
        replace hw := hw.pure kq_8
        refine WL.loadB Tryz.isAgg3 hb10 rfl rfl rfl (?_)
        refine WL.nil ?_
        exact WX.one ⟨rfl, by exact Chg.refl _ _⟩
      apply DQ.step (E' := [(38, _)])
      case ho => rfl
      case hs => exact ⟨rfl, trivial⟩
      case hk => rfl
      case h1 =>
        intro wq_9 kq_9
        refine WL.add64 rfl rfl (by constructor <;> omega) rfl ?_
        refine WL.nil ?_
        exact WX.one ⟨rfl, by exact Chg.refl _ _⟩
      apply DQ.step (E' := [(36, _), (39, _)])
      case ho => rfl
      case hs => exact ⟨rfl, rfl, trivial⟩
      case hk => rfl
      case h1 =>
        intro wq_10 kq_10
        have hj3 : j < x.2 + 3 := by omega
        refine WL.rem64i rfl rfl (by constructor <;> omega) rfl ?_
        rw [show ((j : Int) + 3) % ((x.2 : Int) + 3) = ((cix x.2 j : Nat) : Int) from by rw [← cix_is hj3, Int.natCast_emod, Int.natCast_add, Int.natCast_add]; rfl]
        refine WL.nil ?_
        exact WX.one ⟨rfl, by exact Chg.refl _ _⟩
      apply DQ.step (E' := [(34, _), (40, _)])
      case ho => rfl
      case hs => exact ⟨rfl, rfl, trivial⟩
      case hk => rfl
      case h1 =>
        intro wq_11 kq_11
        have hj3 : j < x.2 + 3 := by omega
        have hcx := cix_lt hj3
        refine WL.add64 rfl rfl (by constructor <;> omega) rfl ?_
        rw [show (x.1 : Int) + ((cix x.2 j : Nat) : Int) = ((x.1 + cix x.2 j : Nat) : Int) from by omega]
        refine WL.nil ?_
        exact WX.one ⟨rfl, by exact Chg.refl _ _⟩
      apply DQ.step (E' := [(41, _)])
      case ho => rfl
      case hs => exact ⟨rfl, trivial⟩
      case hk => rfl
      case h1 =>
        intro wq_12 kq_12
        refine WL.assign rfl rfl (?_)
        refine WL.nil ?_
        exact WX.one ⟨rfl, by exact Chg.refl _ _⟩
      refine DQ.done (fun _ => ?_)
      refine DL.done (fun we_13 ke_13 => ?_)
      have zs_ke_13 := ke_13.size
      replace hB := hB.pure ke_13
      replace h := h.pure ke_13
      replace hr := hr.pure ke_13
      replace hO := hO.pure ke_13
      replace hI := hI.pure ke_13
      replace hb10 := hb10.pure ke_13
      replace hb11 := hb11.pure ke_13
      replace hK := hK.pure ke_13
      replace hE := hE.pure ke_13
      replace hw := hw.pure ke_13
      refine WX.then_normal (WC.seq (WC.region (WL.move rfl rfl (WL.move rfl rfl (?_)))))
      have hj3 : j < x.2 + 3 := by omega
      have hcx := cix_lt hj3
      obtain ⟨c, hc⟩ : ∃ c, c = x.1 + cix x.2 j := ⟨_, rfl⟩
      have hcb : c < s.dn * (s.sn - f) := by omega
      have hC1 := hCs j hj3
      have hD1 := hDs j hj3
      rw [← hc] at hC1 hD1 ⊢
      refine WL.call eg_60 rfl rfl (place_calls hB ⟨h5, hdn.2⟩ (by omega) c (by omega)) ?_
      rintro v w6 ⟨rfl, k6⟩
      have zs_k6 := k6.size
      replace hB := hB.pure k6
      replace h := h.pure k6
      replace hr := hr.pure k6
      replace hO := hO.pure k6
      replace hI := hI.pure k6
      replace hb10 := hb10.pure k6
      replace hb11 := hb11.pure k6
      replace hK := hK.pure k6
      replace hE := hE.pure k6
      replace hw := hw.pure k6
      refine WL.move rfl rfl (WL.extract rfl rfl rfl (WL.extract rfl rfl rfl (WL.assign rfl rfl (WL.assign rfl rfl (WL.nil (WX.then_normal (WC.seq (?_))))))))
      refine WC.region (WL.move rfl rfl (WL.nilCheck rfl rfl (WL.fieldAddr (fld_81_0) rfl rfl (WL.loadB Tryz.isAgg27 hB rfl rfl rfl (WL.move rfl rfl (WL.move rfl rfl (?_)))))))
      have hin := (plN_in h5 hcb).1
      have her := errS_col hu hin
      refine WL.call eg_30 rfl rfl (Read_calls h ((c % s.dn : Nat) : Int) ((f + c / s.dn : Nat) : Int)) ?_
      rintro v w7 ⟨⟨r, e, rfl, he, hx0, hxn, hq⟩, k7⟩
      rw [her] at he
      have zw6 := hw.size
      have zs_k7 := k7.size
      replace hB := hB.pure k7
      replace h := h.pure k7
      replace hr := hr.pure k7
      replace hO := hO.pure k7
      replace hI := hI.pure k7
      replace hb10 := hb10.pure k7
      replace hb11 := hb11.pure k7
      replace hK := hK.pure k7
      replace hE := hE.pure k7
      replace hw := hw.pure k7
      have hq7 : RSK (fun b => w4.heap.size ≤ b ∧ b ≠ ga ∧ b ≠ gs) w7 5 eb r.ao r.cap r.xs := RSK.mono hq.rsk (fun b _ hb => by have h9 : _ ≤ b := hb; exact ⟨by omega, by omega, by omega⟩)
      have hrx : r.xs = colA s f c := by
        rw [colA]
        by_cases hg : goneS s ((c % s.dn : Nat) : Int) = true
        ·
          rw [if_pos hg] at he ⊢
          rw [hxn (by omega)]
        ·
          rw [if_neg hg] at he ⊢
          exact hx0 he
      have he3 : e = 0 ∨ e = 3 := by rw [he]; split <;> simp
      clear he hx0 hxn hq
      rcases he3 with rfl | rfl
      ·
        refine WL.move rfl rfl (WL.extract rfl rfl rfl (WL.extract rfl rfl rfl (WL.assign rfl rfl (WL.assign rfl rfl (WL.nil (WX.then_normal (WC.seq (?_))))))))
        refine WC.seq (WC.region (WL.move rfl rfl (?_)))
        refine WL.neqF rfl rfl rfl (by rfl) ?_
        refine WL.move rfl rfl (WL.pass rfl rfl rfl rfl (WL.pass rfl rfl rfl rfl (WL.pickF rfl rfl rfl (WL.nil (WX.then_normal (WC.cond_false rfl (WC.skip (?_))))))))
        refine WX.then_normal (?_)
        refine WC.drawL ((fun x => w4.heap.size ≤ x ∧ x ≠ ga ∧ x ≠ gs)) [0, 1, 2, 5, 6, 7, 10, 12] [3, 4, 8, 9, 11, 13] [7, 12] [11, 13] rfl mixed rfl rfl (fun wd_14 kd_14 zd_14 => ?_)
        replace hB := hB.pure kd_14
        replace h := h.pure kd_14
        replace hr := hr.pure kd_14
        replace hO := hO.pure kd_14
        replace hI := hI.pure kd_14
        replace hb10 := hb10.pure kd_14
        replace hb11 := hb11.pure kd_14
        replace hK := hK.pure kd_14
        replace hE := hE.pure kd_14
        replace hw := hw.pure kd_14
        replace hq7 := hq7.pure kd_14
        apply DQU.step (E' := [(11, _)])
        case ho => rfl
        case hs => exact ⟨rfl, trivial⟩
        case hk => rfl
        case h1 =>
          intro wq_16 kq_16
          replace kq_16 := kq_16 rfl
          refine WL.fieldAddr (fld_121_0) rfl rfl (?_)
          refine WL.nil ?_
          exact WX.one ⟨rfl, by exact Chg.refl _ _⟩
        apply DQU.step (E' := [(65, _)])
        case ho => rfl
        case hs => exact ⟨rfl, trivial⟩
        case hk => rfl
        case h1 =>
          intro wq_17 kq_17
          replace kq_17 := kq_17 rfl
          replace hB := hB.chg kq_17 (by intro h1; have h2 := h1.1; omega)
          replace h := h.chg kq_17 (by intro b h1 h2 h3; have h4 := h3.1; have h5 := h2.2; omega)
          replace hr := hr.chg kq_17 (by intro b h1 h2 h3 h4; have h5 := h4.1; have h6 := h2.2; omega)
          replace hO := hO.chg kq_17 (by intro b h1 h2 h3; have h4 := h3.1; have h5 := h2.2; omega)
          replace hI := hI.chg kq_17 (by intro b h1 h2 h3; have h4 := h3.1; have h5 := h2.2; omega)
          replace hb10 := hb10.chg kq_17 (by intro h1; have h2 := h1.1; omega)
          replace hb11 := hb11.chg kq_17 (by intro h1; have h2 := h1.1; omega)
          replace hw := hw.chg kq_17 (by intro x h1 h2; have h3 := h2.1; omega)
          refine WL.loadB Tryz.isAgg87 hb11 rfl rfl rfl (?_)
          refine WL.nil ?_
          exact WX.one ⟨rfl, by exact Chg.refl _ _⟩
        apply DQU.step (E' := [(16, _)])
        case ho => rfl
        case hs => exact ⟨rfl, trivial⟩
        case hk => rfl
        case h1 =>
          intro wq_18 kq_18
          replace kq_18 := kq_18 rfl
          refine WL.move rfl rfl (?_)
          refine WL.nil ?_
          exact WX.one ⟨rfl, by exact Chg.refl _ _⟩
        apply DQU.step (E' := [(11, _)])
        case ho => rfl
        case hs => exact ⟨rfl, trivial⟩
        case hk => rfl
        case h1 =>
          intro wq_19 kq_19
          replace kq_19 := kq_19 rfl
          refine WL.fieldAddr (fld_121_1) rfl rfl (?_)
          refine WL.nil ?_
          exact WX.one ⟨rfl, by exact Chg.refl _ _⟩
        apply DQU.step (E' := [(70, _)])
        case ho => rfl
        case hs => exact ⟨rfl, trivial⟩
        case hk => rfl
        case h1 =>
          intro wq_20 kq_20
          replace kq_20 := kq_20 rfl
          replace hB := hB.chg kq_20 (by intro h1; have h2 := h1.1; omega)
          replace h := h.chg kq_20 (by intro b h1 h2 h3; have h4 := h3.1; have h5 := h2.2; omega)
          replace hr := hr.chg kq_20 (by intro b h1 h2 h3 h4; have h5 := h4.1; have h6 := h2.2; omega)
          replace hO := hO.chg kq_20 (by intro b h1 h2 h3; have h4 := h3.1; have h5 := h2.2; omega)
          replace hI := hI.chg kq_20 (by intro b h1 h2 h3; have h4 := h3.1; have h5 := h2.2; omega)
          replace hb10 := hb10.chg kq_20 (by intro h1; have h2 := h1.1; omega)
          replace hb11 := hb11.chg kq_20 (by intro h1; have h2 := h1.1; omega)
          replace hw := hw.chg kq_20 (by intro x h1 h2; have h3 := h2.1; omega)
          refine WL.loadB Tryz.isAgg39 hb11 rfl rfl rfl (?_)
          refine WL.nil ?_
          exact WX.one ⟨rfl, by exact Chg.refl _ _⟩
        apply DQU.step (E' := [(14, _)])
        case ho => rfl
        case hs => exact ⟨rfl, trivial⟩
        case hk => rfl
        case h1 =>
          intro wq_21 kq_21
          refine WL.move rfl rfl (?_)
          refine WL.nil ?_
          exact WX.one ⟨rfl, by exact Chg.refl _ _⟩
        apply DQU.step (E' := [(11, _)])
        case ho => rfl
        case hs => exact ⟨rfl, trivial⟩
        case hk => rfl
        case h1 =>
          intro wq_22 kq_22
          replace kq_22 := kq_22 rfl
          refine WL.fieldAddr (fld_121_0) rfl rfl (?_)
          refine WL.nil ?_
          exact WX.one ⟨rfl, by exact Chg.refl _ _⟩
        apply DQU.step (E' := [(11, _)])
        case ho => rfl
        case hs => exact ⟨rfl, trivial⟩
        case hk => rfl
        case h1 =>
          intro wq_23 kq_23
          refine WL.fieldAddr (fld_121_1) rfl rfl (?_)
          refine WL.nil ?_
          exact WX.one ⟨rfl, by exact Chg.refl _ _⟩
        refine DQU.done (fun hd_15 => ?_)
        refine ⟨?_, trivial, ?_, trivial, trivial, trivial, trivial⟩
        refine DU.step [(67, _)] rfl ⟨rfl, trivial⟩ rfl (fun wq_24 kq_24 => ?_)
        replace hB := hB.pure kq_24
        replace h := h.pure kq_24
        replace hr := hr.pure kq_24
        replace hO := hO.pure kq_24
        replace hI := hI.pure kq_24
        replace hb10 := hb10.pure kq_24
        replace hb11 := hb11.pure kq_24
        replace hK := hK.pure kq_24
        replace hE := hE.pure kq_24
        replace hw := hw.pure kq_24
        replace hq7 := hq7.pure kq_24
        replace hd_15 := hd_15.pure kq_24
        refine WL.build (e := erow) [r] Tryz.underlying87 Tryz.sizeOf26 Tryz.zeroValue26 rfl rfl rfl (by simp [Value.cells] <;> rfl) (by decide) rfl ?_
        intro a_q68 w_q68 q68 l_q68 z_q68 k_q68
        replace hB := hB.pure k_q68
        replace h := h.pure k_q68
        replace hr := hr.pure k_q68
        replace hO := hO.pure k_q68
        replace hI := hI.pure k_q68
        replace hb10 := hb10.pure k_q68
        replace hb11 := hb11.pure k_q68
        replace hK := hK.pure k_q68
        replace hE := hE.pure k_q68
        replace hw := hw.pure k_q68
        replace hq7 := hq7.pure k_q68
        replace hd_15 := hd_15.pure k_q68
        refine WL.nil (WX.one ⟨fun _ => hd_15, ?_⟩)
        refine ⟨?_, ?_, trivial, trivial, trivial, trivial⟩
        refine DU.step [(66, _), (68, _)] rfl ⟨rfl, rfl, trivial⟩ rfl (fun wq_25 kq_25 => ?_)
        replace hB := hB.pure kq_25
        replace h := h.pure kq_25
        replace hr := hr.pure kq_25
        replace hO := hO.pure kq_25
        replace hI := hI.pure kq_25
        replace hb10 := hb10.pure kq_25
        replace hb11 := hb11.pure kq_25
        replace hK := hK.pure kq_25
        replace hE := hE.pure kq_25
        replace hw := hw.pure kq_25
        replace hq7 := hq7.pure kq_25
        replace hd_15 := hd_15.pure kq_25
        replace q68 := q68.pure kq_25
        have l10 := hb10.lt
        have l11 := hb11.lt
        refine WL.append (e := erow) info_26 rfl Tryz.underlying87 rfl rfl hK.outer (q68.rsl.src Tryz.underlying87) (by constructor <;> (simp only [List.length_cons, List.length_nil]; omega)) (fun b hb => by have h9 : _ ≤ b := hb; exact ⟨by omega, by omega, by omega⟩) rfl ?_
        intro a69 c69 w69 hA69 g69 n69
        have z69 := g69.chg.size
        have hK69 := hK.app (by decide) (by intro q hq; rw [List.mem_singleton] at hq; subst hq; exact hq7) hA69 g69
        have k69 : ∀ b, (Eqb ca b ∧ w4.heap.size ≤ b ∧ b ≠ ga ∧ b ≠ gs) → kb _ b = some (some 26) := fun b hm => (hK.outer.kb.at_.eqb hm.1).2
        skip
        replace hE := hE.chgK g69.chg (fun b _ hm hk => by rw [k69 b hm] at hk; exact absurd hk (by decide))
        replace hB := hB.chg g69.chg (fun hm => by have := hm.2.1; omega)
        replace h := h.chg g69.chg (fun b _ h1 h2 => by have := h1.2; have := h2.2.1; omega)
        replace hr := hr.chg g69.chg (fun b _ h1 _ h2 => by have := h1.2; have := h2.2.1; omega)
        replace hO := hO.chg g69.chg (fun b _ h1 h2 => by have := h1.2; have := h2.2.1; omega)
        replace hI := hI.chg g69.chg (fun b _ h1 h2 => by have := h1.2; have := h2.2.1; omega)
        replace hb10 := hb10.chg g69.chg (fun hm => hm.2.2.1 rfl)
        replace hb11 := hb11.chg g69.chg (fun hm => hm.2.2.2 rfl)
        replace hw := hw.chg g69.chg (fun x h1 h2 => by have := h2.2.1; omega)
        replace hd_15 := hd_15.chg g69.chg (by intro x h1 h2; exact h2.2)
        refine WL.nil (WX.one ⟨fun _ => hd_15, ?_⟩)
        refine ⟨?_, trivial, trivial, trivial, trivial⟩
        refine DU.step [(72, _)] rfl ⟨rfl, trivial⟩ rfl (fun wq_26 kq_26 => ?_)
        replace hB := hB.pure kq_26
        replace h := h.pure kq_26
        replace hr := hr.pure kq_26
        replace hO := hO.pure kq_26
        replace hI := hI.pure kq_26
        replace hb10 := hb10.pure kq_26
        replace hb11 := hb11.pure kq_26
        replace hE := hE.pure kq_26
        replace hw := hw.pure kq_26
        replace hd_15 := hd_15.pure kq_26
        replace hK69 := hK69.pure kq_26
        refine WL.build (e := ei) [(((c % s.dn : Nat) : Int))] Tryz.underlying39 Tryz.sizeOf3 Tryz.zeroValue3 rfl rfl rfl (by simp [Value.cells] <;> rfl) (by decide) rfl ?_
        intro a_q73 w_q73 q73 l_q73 z_q73 k_q73
        replace hB := hB.pure k_q73
        replace h := h.pure k_q73
        replace hr := hr.pure k_q73
        replace hO := hO.pure k_q73
        replace hI := hI.pure k_q73
        replace hb10 := hb10.pure k_q73
        replace hb11 := hb11.pure k_q73
        replace hE := hE.pure k_q73
        replace hw := hw.pure k_q73
        replace hd_15 := hd_15.pure k_q73
        replace hK69 := hK69.pure k_q73
        refine WL.nil (WX.one ⟨fun _ => hd_15, ?_⟩)
        refine ⟨?_, trivial, trivial, trivial⟩
        refine DU.step [(71, _), (73, _)] rfl ⟨rfl, rfl, trivial⟩ rfl (fun wq_27 kq_27 => ?_)
        replace hB := hB.pure kq_27
        replace h := h.pure kq_27
        replace hr := hr.pure kq_27
        replace hO := hO.pure kq_27
        replace hI := hI.pure kq_27
        replace hb10 := hb10.pure kq_27
        replace hb11 := hb11.pure kq_27
        replace hE := hE.pure kq_27
        replace hw := hw.pure kq_27
        replace hd_15 := hd_15.pure kq_27
        replace hK69 := hK69.pure kq_27
        replace q73 := q73.pure kq_27
        have l10 := hb10.lt
        have l11 := hb11.lt
        refine WL.append (e := ei) info_3 rfl Tryz.underlying39 rfl rfl hE (q73.rsl.src Tryz.underlying39) (by constructor <;> (simp only [List.length_cons, List.length_nil]; omega)) (fun b hb => by have h9 : _ ≤ b := hb; exact ⟨by omega, by omega, by omega⟩) rfl ?_
        intro a74 c74 w74 hE74 g74 n74
        have z74 := g74.chg.size
        rw [← hD1] at hE74 ⊢
        have hK74 : KR (fun b => w4.heap.size ≤ b ∧ b ≠ ga ∧ b ≠ gs) w74 26 5 a69 c69 (cs ++ [r]) := ⟨hK69.outer.chgK g74.chg (fun b hb hm hk => by
          have h1 := (hE.kb.at_.eqb hm.1).2
          rw [hk] at h1
          exact absurd h1 (by decide)), fun q hq => (hK69.inner q hq).grow hE g74 (by decide)⟩
        replace hB := hB.chg g74.chg (fun hm => by have := hm.2.1; omega)
        replace h := h.chg g74.chg (fun b _ h1 h2 => by have := h1.2; have := h2.2.1; omega)
        replace hr := hr.chg g74.chg (fun b _ h1 _ h2 => by have := h1.2; have := h2.2.1; omega)
        replace hO := hO.chg g74.chg (fun b _ h1 h2 => by have := h1.2; have := h2.2.1; omega)
        replace hI := hI.chg g74.chg (fun b _ h1 h2 => by have := h1.2; have := h2.2.1; omega)
        replace hb10 := hb10.chg g74.chg (fun hm => hm.2.2.1 rfl)
        replace hb11 := hb11.chg g74.chg (fun hm => hm.2.2.2 rfl)
        replace hw := hw.chg g74.chg (fun x h1 h2 => by have := h2.2.1; omega)
        replace hd_15 := hd_15.chg g74.chg (by intro x h1 h2; exact h2.2)
        refine WL.nil (WX.one ⟨fun _ => hd_15, ?_⟩)
        refine ⟨?_, trivial, trivial⟩
        refine DU.step [(75, _), (69, _)] rfl ⟨rfl, rfl, trivial⟩ rfl (fun wq_28 kq_28 => ?_)
        replace hB := hB.pure kq_28
        replace h := h.pure kq_28
        replace hr := hr.pure kq_28
        replace hO := hO.pure kq_28
        replace hI := hI.pure kq_28
        replace hb10 := hb10.pure kq_28
        replace hb11 := hb11.pure kq_28
        replace hw := hw.pure kq_28
        replace hd_15 := hd_15.pure kq_28
        replace hE74 := hE74.pure kq_28
        replace hK74 := hK74.pure kq_28
        refine WL.store Tryz.sizeOf87 hb11 rfl rfl rfl rfl ?_
        intro w_29 hs_29 hn_29 k_29
        replace hB := hB.chg k_29 (by intro h1; have h2 : _ = _ := h1; omega)
        replace h := h.chg k_29 (by intro x h1 h2; have h3 := h2.1; omega)
        replace hr := hr.chg k_29 (by intro x h1 h2; have h3 := h2.1; omega)
        replace hO := hO.chg k_29 (by intro x h1 h2; have h3 := h2.1; omega)
        replace hI := hI.chg k_29 (by intro x h1 h2; have h3 := h2.1; omega)
        replace hb10 := hb10.chg k_29 (by intro h1; have h2 : _ = _ := h1; omega)
        replace hw := hw.chg k_29 (by intro x h1 h2; have h3 : x = gs := h2; omega)
        replace hE74 := hE74.chg k_29 (by intro x h1 h2; have h3 := h2.1; omega)
        replace hK74 := hK74.chg k_29 (by intro x h1 h2; have h3 := h2.1; omega)
        replace hb11 := hn_29
        refine WL.nil (WX.one0 (v := undef) ⟨fun h => absurd h (by decide), ?_⟩)
        refine ⟨?_, trivial⟩
        refine DU.step [(76, _), (74, _)] rfl ⟨rfl, rfl, trivial⟩ rfl (fun wq_30 kq_30 => ?_)
        replace hB := hB.pure kq_30
        replace h := h.pure kq_30
        replace hr := hr.pure kq_30
        replace hO := hO.pure kq_30
        replace hI := hI.pure kq_30
        replace hb10 := hb10.pure kq_30
        replace hb11 := hb11.pure kq_30
        replace hw := hw.pure kq_30
        replace hE74 := hE74.pure kq_30
        replace hK74 := hK74.pure kq_30
        refine WL.store Tryz.sizeOf39 hb11 rfl rfl rfl rfl ?_
        intro w_31 hs_31 hn_31 k_31
        replace hB := hB.chg k_31 (by intro h1; have h2 : _ = _ := h1; omega)
        replace h := h.chg k_31 (by intro x h1 h2; have h3 := h2.1; omega)
        replace hr := hr.chg k_31 (by intro x h1 h2; have h3 := h2.1; omega)
        replace hO := hO.chg k_31 (by intro x h1 h2; have h3 := h2.1; omega)
        replace hI := hI.chg k_31 (by intro x h1 h2; have h3 := h2.1; omega)
        replace hb10 := hb10.chg k_31 (by intro h1; have h2 : _ = _ := h1; omega)
        replace hw := hw.chg k_31 (by intro x h1 h2; have h3 : x = gs := h2; omega)
        replace hE74 := hE74.chg k_31 (by intro x h1 h2; have h3 := h2.1; omega)
        replace hK74 := hK74.chg k_31 (by intro x h1 h2; have h3 := h2.1; omega)
        replace hb11 := hn_31
        refine WL.nil (WX.one0 (v := undef) ⟨fun h => absurd h (by decide), ?_⟩)
        refine DU.done (fun we_32 ke_32 => ?_) _
        replace hB := hB.pure ke_32
        replace h := h.pure ke_32
        replace hr := hr.pure ke_32
        replace hO := hO.pure ke_32
        replace hI := hI.pure ke_32
        replace hb10 := hb10.pure ke_32
        replace hb11 := hb11.pure ke_32
        replace hw := hw.pure ke_32
        replace hE74 := hE74.pure ke_32
        replace hK74 := hK74.pure ke_32
        rotate_left
        refine DU.step [(72, _)] rfl ⟨rfl, trivial⟩ rfl (fun wq_25 kq_25 => ?_)
        replace hB := hB.pure kq_25
        replace h := h.pure kq_25
        replace hr := hr.pure kq_25
        replace hO := hO.pure kq_25
        replace hI := hI.pure kq_25
        replace hb10 := hb10.pure kq_25
        replace hb11 := hb11.pure kq_25
        replace hK := hK.pure kq_25
        replace hE := hE.pure kq_25
        replace hw := hw.pure kq_25
        replace hq7 := hq7.pure kq_25
        replace hd_15 := hd_15.pure kq_25
        replace q68 := q68.pure kq_25
        refine WL.build (e := ei) [(((c % s.dn : Nat) : Int))] Tryz.underlying39 Tryz.sizeOf3 Tryz.zeroValue3 rfl rfl rfl (by simp [Value.cells] <;> rfl) (by decide) rfl ?_
        intro a_q73 w_q73 q73 l_q73 z_q73 k_q73
        replace hB := hB.pure k_q73
        replace h := h.pure k_q73
        replace hr := hr.pure k_q73
        replace hO := hO.pure k_q73
        replace hI := hI.pure k_q73
        replace hb10 := hb10.pure k_q73
        replace hb11 := hb11.pure k_q73
        replace hK := hK.pure k_q73
        replace hE := hE.pure k_q73
        replace hw := hw.pure k_q73
        replace hq7 := hq7.pure k_q73
        replace hd_15 := hd_15.pure k_q73
        replace q68 := q68.pure k_q73
        refine WL.nil (WX.one ⟨fun _ => hd_15, ?_⟩)
        refine ⟨?_, trivial, trivial, trivial, trivial⟩
        refine DU.step [(66, _), (68, _)] rfl ⟨rfl, rfl, trivial⟩ rfl (fun wq_26 kq_26 => ?_)
        replace hB := hB.pure kq_26
        replace h := h.pure kq_26
        replace hr := hr.pure kq_26
        replace hO := hO.pure kq_26
        replace hI := hI.pure kq_26
        replace hb10 := hb10.pure kq_26
        replace hb11 := hb11.pure kq_26
        replace hK := hK.pure kq_26
        replace hE := hE.pure kq_26
        replace hw := hw.pure kq_26
        replace hq7 := hq7.pure kq_26
        replace hd_15 := hd_15.pure kq_26
        replace q68 := q68.pure kq_26
        replace q73 := q73.pure kq_26
        have l10 := hb10.lt
        have l11 := hb11.lt
        refine WL.append (e := erow) info_26 rfl Tryz.underlying87 rfl rfl hK.outer (q68.rsl.src Tryz.underlying87) (by constructor <;> (simp only [List.length_cons, List.length_nil]; omega)) (fun b hb => by have h9 : _ ≤ b := hb; exact ⟨by omega, by omega, by omega⟩) rfl ?_
        intro a69 c69 w69 hA69 g69 n69
        have z69 := g69.chg.size
        have hK69 := hK.app (by decide) (by intro q hq; rw [List.mem_singleton] at hq; subst hq; exact hq7) hA69 g69
        have k69 : ∀ b, (Eqb ca b ∧ w4.heap.size ≤ b ∧ b ≠ ga ∧ b ≠ gs) → kb _ b = some (some 26) := fun b hm => (hK.outer.kb.at_.eqb hm.1).2
        replace q73 := q73.chgK g69.chg (fun b _ hm hk => by rw [k69 b hm] at hk; exact absurd hk (by decide))
        replace hE := hE.chgK g69.chg (fun b _ hm hk => by rw [k69 b hm] at hk; exact absurd hk (by decide))
        replace hB := hB.chg g69.chg (fun hm => by have := hm.2.1; omega)
        replace h := h.chg g69.chg (fun b _ h1 h2 => by have := h1.2; have := h2.2.1; omega)
        replace hr := hr.chg g69.chg (fun b _ h1 _ h2 => by have := h1.2; have := h2.2.1; omega)
        replace hO := hO.chg g69.chg (fun b _ h1 h2 => by have := h1.2; have := h2.2.1; omega)
        replace hI := hI.chg g69.chg (fun b _ h1 h2 => by have := h1.2; have := h2.2.1; omega)
        replace hb10 := hb10.chg g69.chg (fun hm => hm.2.2.1 rfl)
        replace hb11 := hb11.chg g69.chg (fun hm => hm.2.2.2 rfl)
        replace hw := hw.chg g69.chg (fun x h1 h2 => by have := h2.2.1; omega)
        replace hd_15 := hd_15.chg g69.chg (by intro x h1 h2; exact h2.2)
        refine WL.nil (WX.one ⟨fun _ => hd_15, ?_⟩)
        refine ⟨?_, trivial, trivial, trivial⟩
        refine DU.step [(71, _), (73, _)] rfl ⟨rfl, rfl, trivial⟩ rfl (fun wq_27 kq_27 => ?_)
        replace hB := hB.pure kq_27
        replace h := h.pure kq_27
        replace hr := hr.pure kq_27
        replace hO := hO.pure kq_27
        replace hI := hI.pure kq_27
        replace hb10 := hb10.pure kq_27
        replace hb11 := hb11.pure kq_27
        replace hE := hE.pure kq_27
        replace hw := hw.pure kq_27
        replace hd_15 := hd_15.pure kq_27
        replace q73 := q73.pure kq_27
        replace hK69 := hK69.pure kq_27
        have l10 := hb10.lt
        have l11 := hb11.lt
        refine WL.append (e := ei) info_3 rfl Tryz.underlying39 rfl rfl hE (q73.rsl.src Tryz.underlying39) (by constructor <;> (simp only [List.length_cons, List.length_nil]; omega)) (fun b hb => by have h9 : _ ≤ b := hb; exact ⟨by omega, by omega, by omega⟩) rfl ?_
        intro a74 c74 w74 hE74 g74 n74
        have z74 := g74.chg.size
        rw [← hD1] at hE74 ⊢
        have hK74 : KR (fun b => w4.heap.size ≤ b ∧ b ≠ ga ∧ b ≠ gs) w74 26 5 a69 c69 (cs ++ [r]) := ⟨hK69.outer.chgK g74.chg (fun b hb hm hk => by
          have h1 := (hE.kb.at_.eqb hm.1).2
          rw [hk] at h1
          exact absurd h1 (by decide)), fun q hq => (hK69.inner q hq).grow hE g74 (by decide)⟩
        replace hB := hB.chg g74.chg (fun hm => by have := hm.2.1; omega)
        replace h := h.chg g74.chg (fun b _ h1 h2 => by have := h1.2; have := h2.2.1; omega)
        replace hr := hr.chg g74.chg (fun b _ h1 _ h2 => by have := h1.2; have := h2.2.1; omega)
        replace hO := hO.chg g74.chg (fun b _ h1 h2 => by have := h1.2; have := h2.2.1; omega)
        replace hI := hI.chg g74.chg (fun b _ h1 h2 => by have := h1.2; have := h2.2.1; omega)
        replace hb10 := hb10.chg g74.chg (fun hm => hm.2.2.1 rfl)
        replace hb11 := hb11.chg g74.chg (fun hm => hm.2.2.2 rfl)
        replace hw := hw.chg g74.chg (fun x h1 h2 => by have := h2.2.1; omega)
        replace hd_15 := hd_15.chg g74.chg (by intro x h1 h2; exact h2.2)
        refine WL.nil (WX.one ⟨fun _ => hd_15, ?_⟩)
        refine ⟨?_, trivial, trivial⟩
        refine DU.step [(75, _), (69, _)] rfl ⟨rfl, rfl, trivial⟩ rfl (fun wq_28 kq_28 => ?_)
        replace hB := hB.pure kq_28
        replace h := h.pure kq_28
        replace hr := hr.pure kq_28
        replace hO := hO.pure kq_28
        replace hI := hI.pure kq_28
        replace hb10 := hb10.pure kq_28
        replace hb11 := hb11.pure kq_28
        replace hw := hw.pure kq_28
        replace hd_15 := hd_15.pure kq_28
        replace hE74 := hE74.pure kq_28
        replace hK74 := hK74.pure kq_28
        refine WL.store Tryz.sizeOf87 hb11 rfl rfl rfl rfl ?_
        intro w_29 hs_29 hn_29 k_29
        replace hB := hB.chg k_29 (by intro h1; have h2 : _ = _ := h1; omega)
        replace h := h.chg k_29 (by intro x h1 h2; have h3 := h2.1; omega)
        replace hr := hr.chg k_29 (by intro x h1 h2; have h3 := h2.1; omega)
        replace hO := hO.chg k_29 (by intro x h1 h2; have h3 := h2.1; omega)
        replace hI := hI.chg k_29 (by intro x h1 h2; have h3 := h2.1; omega)
        replace hb10 := hb10.chg k_29 (by intro h1; have h2 : _ = _ := h1; omega)
        replace hw := hw.chg k_29 (by intro x h1 h2; have h3 : x = gs := h2; omega)
        replace hE74 := hE74.chg k_29 (by intro x h1 h2; have h3 := h2.1; omega)
        replace hK74 := hK74.chg k_29 (by intro x h1 h2; have h3 := h2.1; omega)
        replace hb11 := hn_29
        refine WL.nil (WX.one0 (v := undef) ⟨fun h => absurd h (by decide), ?_⟩)
        refine ⟨?_, trivial⟩
        refine DU.step [(76, _), (74, _)] rfl ⟨rfl, rfl, trivial⟩ rfl (fun wq_30 kq_30 => ?_)
        replace hB := hB.pure kq_30
        replace h := h.pure kq_30
        replace hr := hr.pure kq_30
        replace hO := hO.pure kq_30
        replace hI := hI.pure kq_30
        replace hb10 := hb10.pure kq_30
        replace hb11 := hb11.pure kq_30
        replace hw := hw.pure kq_30
        replace hE74 := hE74.pure kq_30
        replace hK74 := hK74.pure kq_30
        refine WL.store Tryz.sizeOf39 hb11 rfl rfl rfl rfl ?_
        intro w_31 hs_31 hn_31 k_31
        replace hB := hB.chg k_31 (by intro h1; have h2 : _ = _ := h1; omega)
        replace h := h.chg k_31 (by intro x h1 h2; have h3 := h2.1; omega)
        replace hr := hr.chg k_31 (by intro x h1 h2; have h3 := h2.1; omega)
        replace hO := hO.chg k_31 (by intro x h1 h2; have h3 := h2.1; omega)
        replace hI := hI.chg k_31 (by intro x h1 h2; have h3 := h2.1; omega)
        replace hb10 := hb10.chg k_31 (by intro h1; have h2 : _ = _ := h1; omega)
        replace hw := hw.chg k_31 (by intro x h1 h2; have h3 : x = gs := h2; omega)
        replace hE74 := hE74.chg k_31 (by intro x h1 h2; have h3 := h2.1; omega)
        replace hK74 := hK74.chg k_31 (by intro x h1 h2; have h3 := h2.1; omega)
        replace hb11 := hn_31
        refine WL.nil (WX.one0 (v := undef) ⟨fun h => absurd h (by decide), ?_⟩)
        refine DU.done (fun we_32 ke_32 => ?_) _
        replace hB := hB.pure ke_32
        replace h := h.pure ke_32
        replace hr := hr.pure ke_32
        replace hO := hO.pure ke_32
        replace hI := hI.pure ke_32
        replace hb10 := hb10.pure ke_32
        replace hb11 := hb11.pure ke_32
        replace hw := hw.pure ke_32
        replace hE74 := hE74.pure ke_32
        replace hK74 := hK74.pure ke_32
        rotate_left
        refine DU.step [(72, _)] rfl ⟨rfl, trivial⟩ rfl (fun wq_24 kq_24 => ?_)
        replace hB := hB.pure kq_24
        replace h := h.pure kq_24
        replace hr := hr.pure kq_24
        replace hO := hO.pure kq_24
        replace hI := hI.pure kq_24
        replace hb10 := hb10.pure kq_24
        replace hb11 := hb11.pure kq_24
        replace hK := hK.pure kq_24
        replace hE := hE.pure kq_24
        replace hw := hw.pure kq_24
        replace hq7 := hq7.pure kq_24
        replace hd_15 := hd_15.pure kq_24
        refine WL.build (e := ei) [(((c % s.dn : Nat) : Int))] Tryz.underlying39 Tryz.sizeOf3 Tryz.zeroValue3 rfl rfl rfl (by simp [Value.cells] <;> rfl) (by decide) rfl ?_
        intro a_q73 w_q73 q73 l_q73 z_q73 k_q73
        replace hB := hB.pure k_q73
        replace h := h.pure k_q73
        replace hr := hr.pure k_q73
        replace hO := hO.pure k_q73
        replace hI := hI.pure k_q73
        replace hb10 := hb10.pure k_q73
        replace hb11 := hb11.pure k_q73
        replace hK := hK.pure k_q73
        replace hE := hE.pure k_q73
        replace hw := hw.pure k_q73
        replace hq7 := hq7.pure k_q73
        replace hd_15 := hd_15.pure k_q73
        refine WL.nil (WX.one ⟨fun _ => hd_15, ?_⟩)
        refine ⟨?_, trivial, trivial, trivial, trivial, trivial⟩
        refine DU.step [(67, _)] rfl ⟨rfl, trivial⟩ rfl (fun wq_25 kq_25 => ?_)
        replace hB := hB.pure kq_25
        replace h := h.pure kq_25
        replace hr := hr.pure kq_25
        replace hO := hO.pure kq_25
        replace hI := hI.pure kq_25
        replace hb10 := hb10.pure kq_25
        replace hb11 := hb11.pure kq_25
        replace hK := hK.pure kq_25
        replace hE := hE.pure kq_25
        replace hw := hw.pure kq_25
        replace hq7 := hq7.pure kq_25
        replace hd_15 := hd_15.pure kq_25
        replace q73 := q73.pure kq_25
        refine WL.build (e := erow) [r] Tryz.underlying87 Tryz.sizeOf26 Tryz.zeroValue26 rfl rfl rfl (by simp [Value.cells] <;> rfl) (by decide) rfl ?_
        intro a_q68 w_q68 q68 l_q68 z_q68 k_q68
        replace hB := hB.pure k_q68
        replace h := h.pure k_q68
        replace hr := hr.pure k_q68
        replace hO := hO.pure k_q68
        replace hI := hI.pure k_q68
        replace hb10 := hb10.pure k_q68
        replace hb11 := hb11.pure k_q68
        replace hK := hK.pure k_q68
        replace hE := hE.pure k_q68
        replace hw := hw.pure k_q68
        replace hq7 := hq7.pure k_q68
        replace hd_15 := hd_15.pure k_q68
        replace q73 := q73.pure k_q68
        refine WL.nil (WX.one ⟨fun _ => hd_15, ?_⟩)
        refine ⟨?_, trivial, trivial, trivial, trivial⟩
        refine DU.step [(66, _), (68, _)] rfl ⟨rfl, rfl, trivial⟩ rfl (fun wq_26 kq_26 => ?_)
        replace hB := hB.pure kq_26
        replace h := h.pure kq_26
        replace hr := hr.pure kq_26
        replace hO := hO.pure kq_26
        replace hI := hI.pure kq_26
        replace hb10 := hb10.pure kq_26
        replace hb11 := hb11.pure kq_26
        replace hK := hK.pure kq_26
        replace hE := hE.pure kq_26
        replace hw := hw.pure kq_26
        replace hq7 := hq7.pure kq_26
        replace hd_15 := hd_15.pure kq_26
        replace q73 := q73.pure kq_26
        replace q68 := q68.pure kq_26
        have l10 := hb10.lt
        have l11 := hb11.lt
        refine WL.append (e := erow) info_26 rfl Tryz.underlying87 rfl rfl hK.outer (q68.rsl.src Tryz.underlying87) (by constructor <;> (simp only [List.length_cons, List.length_nil]; omega)) (fun b hb => by have h9 : _ ≤ b := hb; exact ⟨by omega, by omega, by omega⟩) rfl ?_
        intro a69 c69 w69 hA69 g69 n69
        have z69 := g69.chg.size
        have hK69 := hK.app (by decide) (by intro q hq; rw [List.mem_singleton] at hq; subst hq; exact hq7) hA69 g69
        have k69 : ∀ b, (Eqb ca b ∧ w4.heap.size ≤ b ∧ b ≠ ga ∧ b ≠ gs) → kb _ b = some (some 26) := fun b hm => (hK.outer.kb.at_.eqb hm.1).2
        replace q73 := q73.chgK g69.chg (fun b _ hm hk => by rw [k69 b hm] at hk; exact absurd hk (by decide))
        replace hE := hE.chgK g69.chg (fun b _ hm hk => by rw [k69 b hm] at hk; exact absurd hk (by decide))
        replace hB := hB.chg g69.chg (fun hm => by have := hm.2.1; omega)
        replace h := h.chg g69.chg (fun b _ h1 h2 => by have := h1.2; have := h2.2.1; omega)
        replace hr := hr.chg g69.chg (fun b _ h1 _ h2 => by have := h1.2; have := h2.2.1; omega)
        replace hO := hO.chg g69.chg (fun b _ h1 h2 => by have := h1.2; have := h2.2.1; omega)
        replace hI := hI.chg g69.chg (fun b _ h1 h2 => by have := h1.2; have := h2.2.1; omega)
        replace hb10 := hb10.chg g69.chg (fun hm => hm.2.2.1 rfl)
        replace hb11 := hb11.chg g69.chg (fun hm => hm.2.2.2 rfl)
        replace hw := hw.chg g69.chg (fun x h1 h2 => by have := h2.2.1; omega)
        replace hd_15 := hd_15.chg g69.chg (by intro x h1 h2; exact h2.2)
        refine WL.nil (WX.one ⟨fun _ => hd_15, ?_⟩)
        refine ⟨?_, trivial, trivial, trivial⟩
        refine DU.step [(71, _), (73, _)] rfl ⟨rfl, rfl, trivial⟩ rfl (fun wq_27 kq_27 => ?_)
        replace hB := hB.pure kq_27
        replace h := h.pure kq_27
        replace hr := hr.pure kq_27
        replace hO := hO.pure kq_27
        replace hI := hI.pure kq_27
        replace hb10 := hb10.pure kq_27
        replace hb11 := hb11.pure kq_27
        replace hE := hE.pure kq_27
        replace hw := hw.pure kq_27
        replace hd_15 := hd_15.pure kq_27
        replace q73 := q73.pure kq_27
        replace hK69 := hK69.pure kq_27
        have l10 := hb10.lt
        have l11 := hb11.lt
        refine WL.append (e := ei) info_3 rfl Tryz.underlying39 rfl rfl hE (q73.rsl.src Tryz.underlying39) (by constructor <;> (simp only [List.length_cons, List.length_nil]; omega)) (fun b hb => by have h9 : _ ≤ b := hb; exact ⟨by omega, by omega, by omega⟩) rfl ?_
        intro a74 c74 w74 hE74 g74 n74
        have z74 := g74.chg.size
        rw [← hD1] at hE74 ⊢
        have hK74 : KR (fun b => w4.heap.size ≤ b ∧ b ≠ ga ∧ b ≠ gs) w74 26 5 a69 c69 (cs ++ [r]) := ⟨hK69.outer.chgK g74.chg (fun b hb hm hk => by
          have h1 := (hE.kb.at_.eqb hm.1).2
          rw [hk] at h1
          exact absurd h1 (by decide)), fun q hq => (hK69.inner q hq).grow hE g74 (by decide)⟩
        replace hB := hB.chg g74.chg (fun hm => by have := hm.2.1; omega)
        replace h := h.chg g74.chg (fun b _ h1 h2 => by have := h1.2; have := h2.2.1; omega)
        replace hr := hr.chg g74.chg (fun b _ h1 _ h2 => by have := h1.2; have := h2.2.1; omega)
        replace hO := hO.chg g74.chg (fun b _ h1 h2 => by have := h1.2; have := h2.2.1; omega)
        replace hI := hI.chg g74.chg (fun b _ h1 h2 => by have := h1.2; have := h2.2.1; omega)
        replace hb10 := hb10.chg g74.chg (fun hm => hm.2.2.1 rfl)
        replace hb11 := hb11.chg g74.chg (fun hm => hm.2.2.2 rfl)
        replace hw := hw.chg g74.chg (fun x h1 h2 => by have := h2.2.1; omega)
        replace hd_15 := hd_15.chg g74.chg (by intro x h1 h2; exact h2.2)
        refine WL.nil (WX.one ⟨fun _ => hd_15, ?_⟩)
        refine ⟨?_, trivial, trivial⟩
        refine DU.step [(75, _), (69, _)] rfl ⟨rfl, rfl, trivial⟩ rfl (fun wq_28 kq_28 => ?_)
        replace hB := hB.pure kq_28
        replace h := h.pure kq_28
        replace hr := hr.pure kq_28
        replace hO := hO.pure kq_28
        replace hI := hI.pure kq_28
        replace hb10 := hb10.pure kq_28
        replace hb11 := hb11.pure kq_28
        replace hw := hw.pure kq_28
        replace hd_15 := hd_15.pure kq_28
        replace hE74 := hE74.pure kq_28
        replace hK74 := hK74.pure kq_28
        refine WL.store Tryz.sizeOf87 hb11 rfl rfl rfl rfl ?_
        intro w_29 hs_29 hn_29 k_29
        replace hB := hB.chg k_29 (by intro h1; have h2 : _ = _ := h1; omega)
        replace h := h.chg k_29 (by intro x h1 h2; have h3 := h2.1; omega)
        replace hr := hr.chg k_29 (by intro x h1 h2; have h3 := h2.1; omega)
        replace hO := hO.chg k_29 (by intro x h1 h2; have h3 := h2.1; omega)
        replace hI := hI.chg k_29 (by intro x h1 h2; have h3 := h2.1; omega)
        replace hb10 := hb10.chg k_29 (by intro h1; have h2 : _ = _ := h1; omega)
        replace hw := hw.chg k_29 (by intro x h1 h2; have h3 : x = gs := h2; omega)
        replace hE74 := hE74.chg k_29 (by intro x h1 h2; have h3 := h2.1; omega)
        replace hK74 := hK74.chg k_29 (by intro x h1 h2; have h3 := h2.1; omega)
        replace hb11 := hn_29
        refine WL.nil (WX.one0 (v := undef) ⟨fun h => absurd h (by decide), ?_⟩)
        refine ⟨?_, trivial⟩
        refine DU.step [(76, _), (74, _)] rfl ⟨rfl, rfl, trivial⟩ rfl (fun wq_30 kq_30 => ?_)
        replace hB := hB.pure kq_30
        replace h := h.pure kq_30
        replace hr := hr.pure kq_30
        replace hO := hO.pure kq_30
        replace hI := hI.pure kq_30
        replace hb10 := hb10.pure kq_30
        replace hb11 := hb11.pure kq_30
        replace hw := hw.pure kq_30
        replace hE74 := hE74.pure kq_30
        replace hK74 := hK74.pure kq_30
        refine WL.store Tryz.sizeOf39 hb11 rfl rfl rfl rfl ?_
        intro w_31 hs_31 hn_31 k_31
        replace hB := hB.chg k_31 (by intro h1; have h2 : _ = _ := h1; omega)
        replace h := h.chg k_31 (by intro x h1 h2; have h3 := h2.1; omega)
        replace hr := hr.chg k_31 (by intro x h1 h2; have h3 := h2.1; omega)
        replace hO := hO.chg k_31 (by intro x h1 h2; have h3 := h2.1; omega)
        replace hI := hI.chg k_31 (by intro x h1 h2; have h3 := h2.1; omega)
        replace hb10 := hb10.chg k_31 (by intro h1; have h2 : _ = _ := h1; omega)
        replace hw := hw.chg k_31 (by intro x h1 h2; have h3 : x = gs := h2; omega)
        replace hE74 := hE74.chg k_31 (by intro x h1 h2; have h3 := h2.1; omega)
        replace hK74 := hK74.chg k_31 (by intro x h1 h2; have h3 := h2.1; omega)
        replace hb11 := hn_31
        refine WL.nil (WX.one0 (v := undef) ⟨fun h => absurd h (by decide), ?_⟩)
        refine DU.done (fun we_32 ke_32 => ?_) _
        replace hB := hB.pure ke_32
        replace h := h.pure ke_32
        replace hr := hr.pure ke_32
        replace hO := hO.pure ke_32
        replace hI := hI.pure ke_32
        replace hb10 := hb10.pure ke_32
        replace hb11 := hb11.pure ke_32
        replace hw := hw.pure ke_32
        replace hE74 := hE74.pure ke_32
        replace hK74 := hK74.pure ke_32
        rotate_left
        all_goals
          refine WX.block_normal (WX.then_normal (WC.region (WL.add64 rfl rfl (by omega) rfl (WL.move rfl rfl (WL.nil (?_))))))
          exact WX.loop_next (j + 1, ((a69, c69), cs ++ [r]), (a74, c74)) ⟨rfl, rfl, rfl, rfl, rfl, rfl, rfl, rfl, rfl, trivial⟩ ⟨by show j + 1 ≤ x.2 + 3; omega, hB, h, hr, hO, hI, hb10, hb11, hK74, hE74, by show (cs ++ [r]).map Rw.xs = _; rw [List.map_append, hcs, hC1, ← hrx]; rfl, hw, by have := hb10.lt; have := hb11.lt; omega⟩ (by show x.2 + 3 - (j + 1) < x.2 + 3 - j; omega)
      ·
        refine WL.move rfl rfl (WL.extract rfl rfl rfl (WL.extract rfl rfl rfl (WL.assign rfl rfl (WL.assign rfl rfl (WL.nil (WX.then_normal (WC.seq (?_))))))))
        refine WC.seq (WC.region (WL.move rfl rfl (?_)))
        refine WL.neqT rfl rfl rfl (by omega) ?_
        refine WL.move rfl rfl (WL.want rfl rfl rfl (WL.move rfl rfl (WL.want rfl rfl rfl (?_))))
        refine WL.neqF rfl rfl rfl (by rfl) ?_
        refine WL.pickT rfl rfl rfl (WL.nil (WX.then_normal (WC.cond_false rfl (WC.skip (WX.then_normal (?_))))))
        refine WC.drawL ((fun x => w4.heap.size ≤ x ∧ x ≠ ga ∧ x ≠ gs)) [0, 1, 2, 5, 6, 7, 10, 12] [3, 4, 8, 9, 11, 13] [7, 12] [11, 13] rfl mixed rfl rfl (fun wd_14 kd_14 zd_14 => ?_)
        replace hB := hB.pure kd_14
        replace h := h.pure kd_14
        replace hr := hr.pure kd_14
        replace hO := hO.pure kd_14
        replace hI := hI.pure kd_14
        replace hb10 := hb10.pure kd_14
        replace hb11 := hb11.pure kd_14
        replace hK := hK.pure kd_14
        replace hE := hE.pure kd_14
        replace hw := hw.pure kd_14
        replace hq7 := hq7.pure kd_14
        apply DQU.step (E' := [(11, _)])
        case ho => rfl
        case hs => exact ⟨rfl, trivial⟩
        case hk => rfl
        case h1 =>
          intro wq_16 kq_16
          replace kq_16 := kq_16 rfl
          refine WL.fieldAddr (fld_121_0) rfl rfl (?_)
          refine WL.nil ?_
          exact WX.one ⟨rfl, by exact Chg.refl _ _⟩
        apply DQU.step (E' := [(65, _)])
        case ho => rfl
        case hs => exact ⟨rfl, trivial⟩
        case hk => rfl
        case h1 =>
          intro wq_17 kq_17
          replace kq_17 := kq_17 rfl
          replace hB := hB.chg kq_17 (by intro h1; have h2 := h1.1; omega)
          replace h := h.chg kq_17 (by intro b h1 h2 h3; have h4 := h3.1; have h5 := h2.2; omega)
          replace hr := hr.chg kq_17 (by intro b h1 h2 h3 h4; have h5 := h4.1; have h6 := h2.2; omega)
          replace hO := hO.chg kq_17 (by intro b h1 h2 h3; have h4 := h3.1; have h5 := h2.2; omega)
          replace hI := hI.chg kq_17 (by intro b h1 h2 h3; have h4 := h3.1; have h5 := h2.2; omega)
          replace hb10 := hb10.chg kq_17 (by intro h1; have h2 := h1.1; omega)
          replace hb11 := hb11.chg kq_17 (by intro h1; have h2 := h1.1; omega)
          replace hw := hw.chg kq_17 (by intro x h1 h2; have h3 := h2.1; omega)
          refine WL.loadB Tryz.isAgg87 hb11 rfl rfl rfl (?_)
          refine WL.nil ?_
          exact WX.one ⟨rfl, by exact Chg.refl _ _⟩
        apply DQU.step (E' := [(16, _)])
        case ho => rfl
        case hs => exact ⟨rfl, trivial⟩
        case hk => rfl
        case h1 =>
          intro wq_18 kq_18
          replace kq_18 := kq_18 rfl
          refine WL.move rfl rfl (?_)
          refine WL.nil ?_
          exact WX.one ⟨rfl, by exact Chg.refl _ _⟩
        apply DQU.step (E' := [(11, _)])
        case ho => rfl
        case hs => exact ⟨rfl, trivial⟩
        case hk => rfl
        case h1 =>
          intro wq_19 kq_19
          replace kq_19 := kq_19 rfl
          refine WL.fieldAddr (fld_121_1) rfl rfl (?_)
          refine WL.nil ?_
          exact WX.one ⟨rfl, by exact Chg.refl _ _⟩
        apply DQU.step (E' := [(70, _)])
        case ho => rfl
        case hs => exact ⟨rfl, trivial⟩
        case hk => rfl
        case h1 =>
          intro wq_20 kq_20
          replace kq_20 := kq_20 rfl
          replace hB := hB.chg kq_20 (by intro h1; have h2 := h1.1; omega)
          replace h := h.chg kq_20 (by intro b h1 h2 h3; have h4 := h3.1; have h5 := h2.2; omega)
          replace hr := hr.chg kq_20 (by intro b h1 h2 h3 h4; have h5 := h4.1; have h6 := h2.2; omega)
          replace hO := hO.chg kq_20 (by intro b h1 h2 h3; have h4 := h3.1; have h5 := h2.2; omega)
          replace hI := hI.chg kq_20 (by intro b h1 h2 h3; have h4 := h3.1; have h5 := h2.2; omega)
          replace hb10 := hb10.chg kq_20 (by intro h1; have h2 := h1.1; omega)
          replace hb11 := hb11.chg kq_20 (by intro h1; have h2 := h1.1; omega)
          replace hw := hw.chg kq_20 (by intro x h1 h2; have h3 := h2.1; omega)
          refine WL.loadB Tryz.isAgg39 hb11 rfl rfl rfl (?_)
          refine WL.nil ?_
          exact WX.one ⟨rfl, by exact Chg.refl _ _⟩
        apply DQU.step (E' := [(14, _)])
        case ho => rfl
        case hs => exact ⟨rfl, trivial⟩
        case hk => rfl
        case h1 =>
          intro wq_21 kq_21
          refine WL.move rfl rfl (?_)
          refine WL.nil ?_
          exact WX.one ⟨rfl, by exact Chg.refl _ _⟩
        apply DQU.step (E' := [(11, _)])
        case ho => rfl
        case hs => exact ⟨rfl, trivial⟩
        case hk => rfl
        case h1 =>
          intro wq_22 kq_22
          replace kq_22 := kq_22 rfl
          refine WL.fieldAddr (fld_121_0) rfl rfl (?_)
          refine WL.nil ?_
          exact WX.one ⟨rfl, by exact Chg.refl _ _⟩
        apply DQU.step (E' := [(11, _)])
        case ho => rfl
        case hs => exact ⟨rfl, trivial⟩
        case hk => rfl
        case h1 =>
          intro wq_23 kq_23
          refine WL.fieldAddr (fld_121_1) rfl rfl (?_)
          refine WL.nil ?_
          exact WX.one ⟨rfl, by exact Chg.refl _ _⟩
        refine DQU.done (fun hd_15 => ?_)
        refine ⟨?_, trivial, ?_, trivial, trivial, trivial, trivial⟩
        refine DU.step [(67, _)] rfl ⟨rfl, trivial⟩ rfl (fun wq_24 kq_24 => ?_)
        replace hB := hB.pure kq_24
        replace h := h.pure kq_24
        replace hr := hr.pure kq_24
        replace hO := hO.pure kq_24
        replace hI := hI.pure kq_24
        replace hb10 := hb10.pure kq_24
        replace hb11 := hb11.pure kq_24
        replace hK := hK.pure kq_24
        replace hE := hE.pure kq_24
        replace hw := hw.pure kq_24
        replace hq7 := hq7.pure kq_24
        replace hd_15 := hd_15.pure kq_24
        refine WL.build (e := erow) [r] Tryz.underlying87 Tryz.sizeOf26 Tryz.zeroValue26 rfl rfl rfl (by simp [Value.cells] <;> rfl) (by decide) rfl ?_
        intro a_q68 w_q68 q68 l_q68 z_q68 k_q68
        replace hB := hB.pure k_q68
        replace h := h.pure k_q68
        replace hr := hr.pure k_q68
        replace hO := hO.pure k_q68
        replace hI := hI.pure k_q68
        replace hb10 := hb10.pure k_q68
        replace hb11 := hb11.pure k_q68
        replace hK := hK.pure k_q68
        replace hE := hE.pure k_q68
        replace hw := hw.pure k_q68
        replace hq7 := hq7.pure k_q68
        replace hd_15 := hd_15.pure k_q68
        refine WL.nil (WX.one ⟨fun _ => hd_15, ?_⟩)
        refine ⟨?_, ?_, trivial, trivial, trivial, trivial⟩
        refine DU.step [(66, _), (68, _)] rfl ⟨rfl, rfl, trivial⟩ rfl (fun wq_25 kq_25 => ?_)
        replace hB := hB.pure kq_25
        replace h := h.pure kq_25
        replace hr := hr.pure kq_25
        replace hO := hO.pure kq_25
        replace hI := hI.pure kq_25
        replace hb10 := hb10.pure kq_25
        replace hb11 := hb11.pure kq_25
        replace hK := hK.pure kq_25
        replace hE := hE.pure kq_25
        replace hw := hw.pure kq_25
        replace hq7 := hq7.pure kq_25
        replace hd_15 := hd_15.pure kq_25
        replace q68 := q68.pure kq_25
        have l10 := hb10.lt
        have l11 := hb11.lt
        refine WL.append (e := erow) info_26 rfl Tryz.underlying87 rfl rfl hK.outer (q68.rsl.src Tryz.underlying87) (by constructor <;> (simp only [List.length_cons, List.length_nil]; omega)) (fun b hb => by have h9 : _ ≤ b := hb; exact ⟨by omega, by omega, by omega⟩) rfl ?_
        intro a69 c69 w69 hA69 g69 n69
        have z69 := g69.chg.size
        have hK69 := hK.app (by decide) (by intro q hq; rw [List.mem_singleton] at hq; subst hq; exact hq7) hA69 g69
        have k69 : ∀ b, (Eqb ca b ∧ w4.heap.size ≤ b ∧ b ≠ ga ∧ b ≠ gs) → kb _ b = some (some 26) := fun b hm => (hK.outer.kb.at_.eqb hm.1).2
        skip
        replace hE := hE.chgK g69.chg (fun b _ hm hk => by rw [k69 b hm] at hk; exact absurd hk (by decide))
        replace hB := hB.chg g69.chg (fun hm => by have := hm.2.1; omega)
        replace h := h.chg g69.chg (fun b _ h1 h2 => by have := h1.2; have := h2.2.1; omega)
        replace hr := hr.chg g69.chg (fun b _ h1 _ h2 => by have := h1.2; have := h2.2.1; omega)
        replace hO := hO.chg g69.chg (fun b _ h1 h2 => by have := h1.2; have := h2.2.1; omega)
        replace hI := hI.chg g69.chg (fun b _ h1 h2 => by have := h1.2; have := h2.2.1; omega)
        replace hb10 := hb10.chg g69.chg (fun hm => hm.2.2.1 rfl)
        replace hb11 := hb11.chg g69.chg (fun hm => hm.2.2.2 rfl)
        replace hw := hw.chg g69.chg (fun x h1 h2 => by have := h2.2.1; omega)
        replace hd_15 := hd_15.chg g69.chg (by intro x h1 h2; exact h2.2)
        refine WL.nil (WX.one ⟨fun _ => hd_15, ?_⟩)
        refine ⟨?_, trivial, trivial, trivial, trivial⟩
        refine DU.step [(72, _)] rfl ⟨rfl, trivial⟩ rfl (fun wq_26 kq_26 => ?_)
        replace hB := hB.pure kq_26
        replace h := h.pure kq_26
        replace hr := hr.pure kq_26
        replace hO := hO.pure kq_26
        replace hI := hI.pure kq_26
        replace hb10 := hb10.pure kq_26
        replace hb11 := hb11.pure kq_26
        replace hE := hE.pure kq_26
        replace hw := hw.pure kq_26
        replace hd_15 := hd_15.pure kq_26
        replace hK69 := hK69.pure kq_26
        refine WL.build (e := ei) [(((c % s.dn : Nat) : Int))] Tryz.underlying39 Tryz.sizeOf3 Tryz.zeroValue3 rfl rfl rfl (by simp [Value.cells] <;> rfl) (by decide) rfl ?_
        intro a_q73 w_q73 q73 l_q73 z_q73 k_q73
        replace hB := hB.pure k_q73
        replace h := h.pure k_q73
        replace hr := hr.pure k_q73
        replace hO := hO.pure k_q73
        replace hI := hI.pure k_q73
        replace hb10 := hb10.pure k_q73
        replace hb11 := hb11.pure k_q73
        replace hE := hE.pure k_q73
        replace hw := hw.pure k_q73
        replace hd_15 := hd_15.pure k_q73
        replace hK69 := hK69.pure k_q73
        refine WL.nil (WX.one ⟨fun _ => hd_15, ?_⟩)
        refine ⟨?_, trivial, trivial, trivial⟩
        refine DU.step [(71, _), (73, _)] rfl ⟨rfl, rfl, trivial⟩ rfl (fun wq_27 kq_27 => ?_)
        replace hB := hB.pure kq_27
        replace h := h.pure kq_27
        replace hr := hr.pure kq_27
        replace hO := hO.pure kq_27
        replace hI := hI.pure kq_27
        replace hb10 := hb10.pure kq_27
        replace hb11 := hb11.pure kq_27
        replace hE := hE.pure kq_27
        replace hw := hw.pure kq_27
        replace hd_15 := hd_15.pure kq_27
        replace hK69 := hK69.pure kq_27
        replace q73 := q73.pure kq_27
        have l10 := hb10.lt
        have l11 := hb11.lt
        refine WL.append (e := ei) info_3 rfl Tryz.underlying39 rfl rfl hE (q73.rsl.src Tryz.underlying39) (by constructor <;> (simp only [List.length_cons, List.length_nil]; omega)) (fun b hb => by have h9 : _ ≤ b := hb; exact ⟨by omega, by omega, by omega⟩) rfl ?_
        intro a74 c74 w74 hE74 g74 n74
        have z74 := g74.chg.size
        rw [← hD1] at hE74 ⊢
        have hK74 : KR (fun b => w4.heap.size ≤ b ∧ b ≠ ga ∧ b ≠ gs) w74 26 5 a69 c69 (cs ++ [r]) := ⟨hK69.outer.chgK g74.chg (fun b hb hm hk => by
          have h1 := (hE.kb.at_.eqb hm.1).2
          rw [hk] at h1
          exact absurd h1 (by decide)), fun q hq => (hK69.inner q hq).grow hE g74 (by decide)⟩
        replace hB := hB.chg g74.chg (fun hm => by have := hm.2.1; omega)
        replace h := h.chg g74.chg (fun b _ h1 h2 => by have := h1.2; have := h2.2.1; omega)
        replace hr := hr.chg g74.chg (fun b _ h1 _ h2 => by have := h1.2; have := h2.2.1; omega)
        replace hO := hO.chg g74.chg (fun b _ h1 h2 => by have := h1.2; have := h2.2.1; omega)
        replace hI := hI.chg g74.chg (fun b _ h1 h2 => by have := h1.2; have := h2.2.1; omega)
        replace hb10 := hb10.chg g74.chg (fun hm => hm.2.2.1 rfl)
        replace hb11 := hb11.chg g74.chg (fun hm => hm.2.2.2 rfl)
        replace hw := hw.chg g74.chg (fun x h1 h2 => by have := h2.2.1; omega)
        replace hd_15 := hd_15.chg g74.chg (by intro x h1 h2; exact h2.2)
        refine WL.nil (WX.one ⟨fun _ => hd_15, ?_⟩)
        refine ⟨?_, trivial, trivial⟩
        refine DU.step [(75, _), (69, _)] rfl ⟨rfl, rfl, trivial⟩ rfl (fun wq_28 kq_28 => ?_)
        replace hB := hB.pure kq_28
        replace h := h.pure kq_28
        replace hr := hr.pure kq_28
        replace hO := hO.pure kq_28
        replace hI := hI.pure kq_28
        replace hb10 := hb10.pure kq_28
        replace hb11 := hb11.pure kq_28
        replace hw := hw.pure kq_28
        replace hd_15 := hd_15.pure kq_28
        replace hE74 := hE74.pure kq_28
        replace hK74 := hK74.pure kq_28
        refine WL.store Tryz.sizeOf87 hb11 rfl rfl rfl rfl ?_
        intro w_29 hs_29 hn_29 k_29
        replace hB := hB.chg k_29 (by intro h1; have h2 : _ = _ := h1; omega)
        replace h := h.chg k_29 (by intro x h1 h2; have h3 := h2.1; omega)
        replace hr := hr.chg k_29 (by intro x h1 h2; have h3 := h2.1; omega)
        replace hO := hO.chg k_29 (by intro x h1 h2; have h3 := h2.1; omega)
        replace hI := hI.chg k_29 (by intro x h1 h2; have h3 := h2.1; omega)
        replace hb10 := hb10.chg k_29 (by intro h1; have h2 : _ = _ := h1; omega)
        replace hw := hw.chg k_29 (by intro x h1 h2; have h3 : x = gs := h2; omega)
        replace hE74 := hE74.chg k_29 (by intro x h1 h2; have h3 := h2.1; omega)
        replace hK74 := hK74.chg k_29 (by intro x h1 h2; have h3 := h2.1; omega)
        replace hb11 := hn_29
        refine WL.nil (WX.one0 (v := undef) ⟨fun h => absurd h (by decide), ?_⟩)
        refine ⟨?_, trivial⟩
        refine DU.step [(76, _), (74, _)] rfl ⟨rfl, rfl, trivial⟩ rfl (fun wq_30 kq_30 => ?_)
        replace hB := hB.pure kq_30
        replace h := h.pure kq_30
        replace hr := hr.pure kq_30
        replace hO := hO.pure kq_30
        replace hI := hI.pure kq_30
        replace hb10 := hb10.pure kq_30
        replace hb11 := hb11.pure kq_30
        replace hw := hw.pure kq_30
        replace hE74 := hE74.pure kq_30
        replace hK74 := hK74.pure kq_30
        refine WL.store Tryz.sizeOf39 hb11 rfl rfl rfl rfl ?_
        intro w_31 hs_31 hn_31 k_31
        replace hB := hB.chg k_31 (by intro h1; have h2 : _ = _ := h1; omega)
        replace h := h.chg k_31 (by intro x h1 h2; have h3 := h2.1; omega)
        replace hr := hr.chg k_31 (by intro x h1 h2; have h3 := h2.1; omega)
        replace hO := hO.chg k_31 (by intro x h1 h2; have h3 := h2.1; omega)
        replace hI := hI.chg k_31 (by intro x h1 h2; have h3 := h2.1; omega)
        replace hb10 := hb10.chg k_31 (by intro h1; have h2 : _ = _ := h1; omega)
        replace hw := hw.chg k_31 (by intro x h1 h2; have h3 : x = gs := h2; omega)
        replace hE74 := hE74.chg k_31 (by intro x h1 h2; have h3 := h2.1; omega)
        replace hK74 := hK74.chg k_31 (by intro x h1 h2; have h3 := h2.1; omega)
        replace hb11 := hn_31
        refine WL.nil (WX.one0 (v := undef) ⟨fun h => absurd h (by decide), ?_⟩)
        refine DU.done (fun we_32 ke_32 => ?_) _
        replace hB := hB.pure ke_32
        replace h := h.pure ke_32
        replace hr := hr.pure ke_32
        replace hO := hO.pure ke_32
        replace hI := hI.pure ke_32
        replace hb10 := hb10.pure ke_32
        replace hb11 := hb11.pure ke_32
        replace hw := hw.pure ke_32
        replace hE74 := hE74.pure ke_32
        replace hK74 := hK74.pure ke_32
        rotate_left
        refine DU.step [(72, _)] rfl ⟨rfl, trivial⟩ rfl (fun wq_25 kq_25 => ?_)
        replace hB := hB.pure kq_25
        replace h := h.pure kq_25
        replace hr := hr.pure kq_25
        replace hO := hO.pure kq_25
        replace hI := hI.pure kq_25
        replace hb10 := hb10.pure kq_25
        replace hb11 := hb11.pure kq_25
        replace hK := hK.pure kq_25
        replace hE := hE.pure kq_25
        replace hw := hw.pure kq_25
        replace hq7 := hq7.pure kq_25
        replace hd_15 := hd_15.pure kq_25
        replace q68 := q68.pure kq_25
        refine WL.build (e := ei) [(((c % s.dn : Nat) : Int))] Tryz.underlying39 Tryz.sizeOf3 Tryz.zeroValue3 rfl rfl rfl (by simp [Value.cells] <;> rfl) (by decide) rfl ?_
        intro a_q73 w_q73 q73 l_q73 z_q73 k_q73
        replace hB := hB.pure k_q73
        replace h := h.pure k_q73
        replace hr := hr.pure k_q73
        replace hO := hO.pure k_q73
        replace hI := hI.pure k_q73
        replace hb10 := hb10.pure k_q73
        replace hb11 := hb11.pure k_q73
        replace hK := hK.pure k_q73
        replace hE := hE.pure k_q73
        replace hw := hw.pure k_q73
        replace hq7 := hq7.pure k_q73
        replace hd_15 := hd_15.pure k_q73
        replace q68 := q68.pure k_q73
        refine WL.nil (WX.one ⟨fun _ => hd_15, ?_⟩)
        refine ⟨?_, trivial, trivial, trivial, trivial⟩
        refine DU.step [(66, _), (68, _)] rfl ⟨rfl, rfl, trivial⟩ rfl (fun wq_26 kq_26 => ?_)
        replace hB := hB.pure kq_26
        replace h := h.pure kq_26
        replace hr := hr.pure kq_26
        replace hO := hO.pure kq_26
        replace hI := hI.pure kq_26
        replace hb10 := hb10.pure kq_26
        replace hb11 := hb11.pure kq_26
        replace hK := hK.pure kq_26
        replace hE := hE.pure kq_26
        replace hw := hw.pure kq_26
        replace hq7 := hq7.pure kq_26
        replace hd_15 := hd_15.pure kq_26
        replace q68 := q68.pure kq_26
        replace q73 := q73.pure kq_26
        have l10 := hb10.lt
        have l11 := hb11.lt
        refine WL.append (e := erow) info_26 rfl Tryz.underlying87 rfl rfl hK.outer (q68.rsl.src Tryz.underlying87) (by constructor <;> (simp only [List.length_cons, List.length_nil]; omega)) (fun b hb => by have h9 : _ ≤ b := hb; exact ⟨by omega, by omega, by omega⟩) rfl ?_
        intro a69 c69 w69 hA69 g69 n69
        have z69 := g69.chg.size
        have hK69 := hK.app (by decide) (by intro q hq; rw [List.mem_singleton] at hq; subst hq; exact hq7) hA69 g69
        have k69 : ∀ b, (Eqb ca b ∧ w4.heap.size ≤ b ∧ b ≠ ga ∧ b ≠ gs) → kb _ b = some (some 26) := fun b hm => (hK.outer.kb.at_.eqb hm.1).2
        replace q73 := q73.chgK g69.chg (fun b _ hm hk => by rw [k69 b hm] at hk; exact absurd hk (by decide))
        replace hE := hE.chgK g69.chg (fun b _ hm hk => by rw [k69 b hm] at hk; exact absurd hk (by decide))
        replace hB := hB.chg g69.chg (fun hm => by have := hm.2.1; omega)
        replace h := h.chg g69.chg (fun b _ h1 h2 => by have := h1.2; have := h2.2.1; omega)
        replace hr := hr.chg g69.chg (fun b _ h1 _ h2 => by have := h1.2; have := h2.2.1; omega)
        replace hO := hO.chg g69.chg (fun b _ h1 h2 => by have := h1.2; have := h2.2.1; omega)
        replace hI := hI.chg g69.chg (fun b _ h1 h2 => by have := h1.2; have := h2.2.1; omega)
        replace hb10 := hb10.chg g69.chg (fun hm => hm.2.2.1 rfl)
        replace hb11 := hb11.chg g69.chg (fun hm => hm.2.2.2 rfl)
        replace hw := hw.chg g69.chg (fun x h1 h2 => by have := h2.2.1; omega)
        replace hd_15 := hd_15.chg g69.chg (by intro x h1 h2; exact h2.2)
        refine WL.nil (WX.one ⟨fun _ => hd_15, ?_⟩)
        refine ⟨?_, trivial, trivial, trivial⟩
        refine DU.step [(71, _), (73, _)] rfl ⟨rfl, rfl, trivial⟩ rfl (fun wq_27 kq_27 => ?_)
        replace hB := hB.pure kq_27
        replace h := h.pure kq_27
        replace hr := hr.pure kq_27
        replace hO := hO.pure kq_27
        replace hI := hI.pure kq_27
        replace hb10 := hb10.pure kq_27
        replace hb11 := hb11.pure kq_27
        replace hE := hE.pure kq_27
        replace hw := hw.pure kq_27
        replace hd_15 := hd_15.pure kq_27
        replace q73 := q73.pure kq_27
        replace hK69 := hK69.pure kq_27
        have l10 := hb10.lt
        have l11 := hb11.lt
        refine WL.append (e := ei) info_3 rfl Tryz.underlying39 rfl rfl hE (q73.rsl.src Tryz.underlying39) (by constructor <;> (simp only [List.length_cons, List.length_nil]; omega)) (fun b hb => by have h9 : _ ≤ b := hb; exact ⟨by omega, by omega, by omega⟩) rfl ?_
        intro a74 c74 w74 hE74 g74 n74
        have z74 := g74.chg.size
        rw [← hD1] at hE74 ⊢
        have hK74 : KR (fun b => w4.heap.size ≤ b ∧ b ≠ ga ∧ b ≠ gs) w74 26 5 a69 c69 (cs ++ [r]) := ⟨hK69.outer.chgK g74.chg (fun b hb hm hk => by
          have h1 := (hE.kb.at_.eqb hm.1).2
          rw [hk] at h1
          exact absurd h1 (by decide)), fun q hq => (hK69.inner q hq).grow hE g74 (by decide)⟩
        replace hB := hB.chg g74.chg (fun hm => by have := hm.2.1; omega)
        replace h := h.chg g74.chg (fun b _ h1 h2 => by have := h1.2; have := h2.2.1; omega)
        replace hr := hr.chg g74.chg (fun b _ h1 _ h2 => by have := h1.2; have := h2.2.1; omega)
        replace hO := hO.chg g74.chg (fun b _ h1 h2 => by have := h1.2; have := h2.2.1; omega)
        replace hI := hI.chg g74.chg (fun b _ h1 h2 => by have := h1.2; have := h2.2.1; omega)
        replace hb10 := hb10.chg g74.chg (fun hm => hm.2.2.1 rfl)
        replace hb11 := hb11.chg g74.chg (fun hm => hm.2.2.2 rfl)
        replace hw := hw.chg g74.chg (fun x h1 h2 => by have := h2.2.1; omega)
        replace hd_15 := hd_15.chg g74.chg (by intro x h1 h2; exact h2.2)
        refine WL.nil (WX.one ⟨fun _ => hd_15, ?_⟩)
        refine ⟨?_, trivial, trivial⟩
        refine DU.step [(75, _), (69, _)] rfl ⟨rfl, rfl, trivial⟩ rfl (fun wq_28 kq_28 => ?_)
        replace hB := hB.pure kq_28
        replace h := h.pure kq_28
        replace hr := hr.pure kq_28
        replace hO := hO.pure kq_28
        replace hI := hI.pure kq_28
        replace hb10 := hb10.pure kq_28
        replace hb11 := hb11.pure kq_28
        replace hw := hw.pure kq_28
        replace hd_15 := hd_15.pure kq_28
        replace hE74 := hE74.pure kq_28
        replace hK74 := hK74.pure kq_28
        refine WL.store Tryz.sizeOf87 hb11 rfl rfl rfl rfl ?_
        intro w_29 hs_29 hn_29 k_29
        replace hB := hB.chg k_29 (by intro h1; have h2 : _ = _ := h1; omega)
        replace h := h.chg k_29 (by intro x h1 h2; have h3 := h2.1; omega)
        replace hr := hr.chg k_29 (by intro x h1 h2; have h3 := h2.1; omega)
        replace hO := hO.chg k_29 (by intro x h1 h2; have h3 := h2.1; omega)
        replace hI := hI.chg k_29 (by intro x h1 h2; have h3 := h2.1; omega)
        replace hb10 := hb10.chg k_29 (by intro h1; have h2 : _ = _ := h1; omega)
        replace hw := hw.chg k_29 (by intro x h1 h2; have h3 : x = gs := h2; omega)
        replace hE74 := hE74.chg k_29 (by intro x h1 h2; have h3 := h2.1; omega)
        replace hK74 := hK74.chg k_29 (by intro x h1 h2; have h3 := h2.1; omega)
        replace hb11 := hn_29
        refine WL.nil (WX.one0 (v := undef) ⟨fun h => absurd h (by decide), ?_⟩)
        refine ⟨?_, trivial⟩
        refine DU.step [(76, _), (74, _)] rfl ⟨rfl, rfl, trivial⟩ rfl (fun wq_30 kq_30 => ?_)
        replace hB := hB.pure kq_30
        replace h := h.pure kq_30
        replace hr := hr.pure kq_30
        replace hO := hO.pure kq_30
        replace hI := hI.pure kq_30
        replace hb10 := hb10.pure kq_30
        replace hb11 := hb11.pure kq_30
        replace hw := hw.pure kq_30
        replace hE74 := hE74.pure kq_30
        replace hK74 := hK74.pure kq_30
        refine WL.store Tryz.sizeOf39 hb11 rfl rfl rfl rfl ?_
        intro w_31 hs_31 hn_31 k_31
        replace hB := hB.chg k_31 (by intro h1; have h2 : _ = _ := h1; omega)
        replace h := h.chg k_31 (by intro x h1 h2; have h3 := h2.1; omega)
        replace hr := hr.chg k_31 (by intro x h1 h2; have h3 := h2.1; omega)
        replace hO := hO.chg k_31 (by intro x h1 h2; have h3 := h2.1; omega)
        replace hI := hI.chg k_31 (by intro x h1 h2; have h3 := h2.1; omega)
        replace hb10 := hb10.chg k_31 (by intro h1; have h2 : _ = _ := h1; omega)
        replace hw := hw.chg k_31 (by intro x h1 h2; have h3 : x = gs := h2; omega)
        replace hE74 := hE74.chg k_31 (by intro x h1 h2; have h3 := h2.1; omega)
        replace hK74 := hK74.chg k_31 (by intro x h1 h2; have h3 := h2.1; omega)
        replace hb11 := hn_31
        refine WL.nil (WX.one0 (v := undef) ⟨fun h => absurd h (by decide), ?_⟩)
        refine DU.done (fun we_32 ke_32 => ?_) _
        replace hB := hB.pure ke_32
        replace h := h.pure ke_32
        replace hr := hr.pure ke_32
        replace hO := hO.pure ke_32
        replace hI := hI.pure ke_32
        replace hb10 := hb10.pure ke_32
        replace hb11 := hb11.pure ke_32
        replace hw := hw.pure ke_32
        replace hE74 := hE74.pure ke_32
        replace hK74 := hK74.pure ke_32
        rotate_left
        refine DU.step [(72, _)] rfl ⟨rfl, trivial⟩ rfl (fun wq_24 kq_24 => ?_)
        replace hB := hB.pure kq_24
        replace h := h.pure kq_24
        replace hr := hr.pure kq_24
        replace hO := hO.pure kq_24
        replace hI := hI.pure kq_24
        replace hb10 := hb10.pure kq_24
        replace hb11 := hb11.pure kq_24
        replace hK := hK.pure kq_24
        replace hE := hE.pure kq_24
        replace hw := hw.pure kq_24
        replace hq7 := hq7.pure kq_24
        replace hd_15 := hd_15.pure kq_24
        refine WL.build (e := ei) [(((c % s.dn : Nat) : Int))] Tryz.underlying39 Tryz.sizeOf3 Tryz.zeroValue3 rfl rfl rfl (by simp [Value.cells] <;> rfl) (by decide) rfl ?_
        intro a_q73 w_q73 q73 l_q73 z_q73 k_q73
        replace hB := hB.pure k_q73
        replace h := h.pure k_q73
        replace hr := hr.pure k_q73
        replace hO := hO.pure k_q73
        replace hI := hI.pure k_q73
        replace hb10 := hb10.pure k_q73
        replace hb11 := hb11.pure k_q73
        replace hK := hK.pure k_q73
        replace hE := hE.pure k_q73
        replace hw := hw.pure k_q73
        replace hq7 := hq7.pure k_q73
        replace hd_15 := hd_15.pure k_q73
        refine WL.nil (WX.one ⟨fun _ => hd_15, ?_⟩)
        refine ⟨?_, trivial, trivial, trivial, trivial, trivial⟩
        refine DU.step [(67, _)] rfl ⟨rfl, trivial⟩ rfl (fun wq_25 kq_25 => ?_)
        replace hB := hB.pure kq_25
        replace h := h.pure kq_25
        replace hr := hr.pure kq_25
        replace hO := hO.pure kq_25
        replace hI := hI.pure kq_25
        replace hb10 := hb10.pure kq_25
        replace hb11 := hb11.pure kq_25
        replace hK := hK.pure kq_25
        replace hE := hE.pure kq_25
        replace hw := hw.pure kq_25
        replace hq7 := hq7.pure kq_25
        replace hd_15 := hd_15.pure kq_25
        replace q73 := q73.pure kq_25
        refine WL.build (e := erow) [r] Tryz.underlying87 Tryz.sizeOf26 Tryz.zeroValue26 rfl rfl rfl (by simp [Value.cells] <;> rfl) (by decide) rfl ?_
        intro a_q68 w_q68 q68 l_q68 z_q68 k_q68
        replace hB := hB.pure k_q68
        replace h := h.pure k_q68
        replace hr := hr.pure k_q68
        replace hO := hO.pure k_q68
        replace hI := hI.pure k_q68
        replace hb10 := hb10.pure k_q68
        replace hb11 := hb11.pure k_q68
        replace hK := hK.pure k_q68
        replace hE := hE.pure k_q68
        replace hw := hw.pure k_q68
        replace hq7 := hq7.pure k_q68
        replace hd_15 := hd_15.pure k_q68
        replace q73 := q73.pure k_q68
        refine WL.nil (WX.one ⟨fun _ => hd_15, ?_⟩)
        refine ⟨?_, trivial, trivial, trivial, trivial⟩
        refine DU.step [(66, _), (68, _)] rfl ⟨rfl, rfl, trivial⟩ rfl (fun wq_26 kq_26 => ?_)
        replace hB := hB.pure kq_26
        replace h := h.pure kq_26
        replace hr := hr.pure kq_26
        replace hO := hO.pure kq_26
        replace hI := hI.pure kq_26
        replace hb10 := hb10.pure kq_26
        replace hb11 := hb11.pure kq_26
        replace hK := hK.pure kq_26
        replace hE := hE.pure kq_26
        replace hw := hw.pure kq_26
        replace hq7 := hq7.pure kq_26
        replace hd_15 := hd_15.pure kq_26
        replace q73 := q73.pure kq_26
        replace q68 := q68.pure kq_26
        have l10 := hb10.lt
        have l11 := hb11.lt
        refine WL.append (e := erow) info_26 rfl Tryz.underlying87 rfl rfl hK.outer (q68.rsl.src Tryz.underlying87) (by constructor <;> (simp only [List.length_cons, List.length_nil]; omega)) (fun b hb => by have h9 : _ ≤ b := hb; exact ⟨by omega, by omega, by omega⟩) rfl ?_
        intro a69 c69 w69 hA69 g69 n69
        have z69 := g69.chg.size
        have hK69 := hK.app (by decide) (by intro q hq; rw [List.mem_singleton] at hq; subst hq; exact hq7) hA69 g69
        have k69 : ∀ b, (Eqb ca b ∧ w4.heap.size ≤ b ∧ b ≠ ga ∧ b ≠ gs) → kb _ b = some (some 26) := fun b hm => (hK.outer.kb.at_.eqb hm.1).2
        replace q73 := q73.chgK g69.chg (fun b _ hm hk => by rw [k69 b hm] at hk; exact absurd hk (by decide))
        replace hE := hE.chgK g69.chg (fun b _ hm hk => by rw [k69 b hm] at hk; exact absurd hk (by decide))
        replace hB := hB.chg g69.chg (fun hm => by have := hm.2.1; omega)
        replace h := h.chg g69.chg (fun b _ h1 h2 => by have := h1.2; have := h2.2.1; omega)
        replace hr := hr.chg g69.chg (fun b _ h1 _ h2 => by have := h1.2; have := h2.2.1; omega)
        replace hO := hO.chg g69.chg (fun b _ h1 h2 => by have := h1.2; have := h2.2.1; omega)
        replace hI := hI.chg g69.chg (fun b _ h1 h2 => by have := h1.2; have := h2.2.1; omega)
        replace hb10 := hb10.chg g69.chg (fun hm => hm.2.2.1 rfl)
        replace hb11 := hb11.chg g69.chg (fun hm => hm.2.2.2 rfl)
        replace hw := hw.chg g69.chg (fun x h1 h2 => by have := h2.2.1; omega)
        replace hd_15 := hd_15.chg g69.chg (by intro x h1 h2; exact h2.2)
        refine WL.nil (WX.one ⟨fun _ => hd_15, ?_⟩)
        refine ⟨?_, trivial, trivial, trivial⟩
        refine DU.step [(71, _), (73, _)] rfl ⟨rfl, rfl, trivial⟩ rfl (fun wq_27 kq_27 => ?_)
        replace hB := hB.pure kq_27
        replace h := h.pure kq_27
        replace hr := hr.pure kq_27
        replace hO := hO.pure kq_27
        replace hI := hI.pure kq_27
        replace hb10 := hb10.pure kq_27
        replace hb11 := hb11.pure kq_27
        replace hE := hE.pure kq_27
        replace hw := hw.pure kq_27
        replace hd_15 := hd_15.pure kq_27
        replace q73 := q73.pure kq_27
        replace hK69 := hK69.pure kq_27
        have l10 := hb10.lt
        have l11 := hb11.lt
        refine WL.append (e := ei) info_3 rfl Tryz.underlying39 rfl rfl hE (q73.rsl.src Tryz.underlying39) (by constructor <;> (simp only [List.length_cons, List.length_nil]; omega)) (fun b hb => by have h9 : _ ≤ b := hb; exact ⟨by omega, by omega, by omega⟩) rfl ?_
        intro a74 c74 w74 hE74 g74 n74
        have z74 := g74.chg.size
        rw [← hD1] at hE74 ⊢
        have hK74 : KR (fun b => w4.heap.size ≤ b ∧ b ≠ ga ∧ b ≠ gs) w74 26 5 a69 c69 (cs ++ [r]) := ⟨hK69.outer.chgK g74.chg (fun b hb hm hk => by
          have h1 := (hE.kb.at_.eqb hm.1).2
          rw [hk] at h1
          exact absurd h1 (by decide)), fun q hq => (hK69.inner q hq).grow hE g74 (by decide)⟩
        replace hB := hB.chg g74.chg (fun hm => by have := hm.2.1; omega)
        replace h := h.chg g74.chg (fun b _ h1 h2 => by have := h1.2; have := h2.2.1; omega)
        replace hr := hr.chg g74.chg (fun b _ h1 _ h2 => by have := h1.2; have := h2.2.1; omega)
        replace hO := hO.chg g74.chg (fun b _ h1 h2 => by have := h1.2; have := h2.2.1; omega)
        replace hI := hI.chg g74.chg (fun b _ h1 h2 => by have := h1.2; have := h2.2.1; omega)
        replace hb10 := hb10.chg g74.chg (fun hm => hm.2.2.1 rfl)
        replace hb11 := hb11.chg g74.chg (fun hm => hm.2.2.2 rfl)
        replace hw := hw.chg g74.chg (fun x h1 h2 => by have := h2.2.1; omega)
        replace hd_15 := hd_15.chg g74.chg (by intro x h1 h2; exact h2.2)
        refine WL.nil (WX.one ⟨fun _ => hd_15, ?_⟩)
        refine ⟨?_, trivial, trivial⟩
        refine DU.step [(75, _), (69, _)] rfl ⟨rfl, rfl, trivial⟩ rfl (fun wq_28 kq_28 => ?_)
        replace hB := hB.pure kq_28
        replace h := h.pure kq_28
        replace hr := hr.pure kq_28
        replace hO := hO.pure kq_28
        replace hI := hI.pure kq_28
        replace hb10 := hb10.pure kq_28
        replace hb11 := hb11.pure kq_28
        replace hw := hw.pure kq_28
        replace hd_15 := hd_15.pure kq_28
        replace hE74 := hE74.pure kq_28
        replace hK74 := hK74.pure kq_28
        refine WL.store Tryz.sizeOf87 hb11 rfl rfl rfl rfl ?_
        intro w_29 hs_29 hn_29 k_29
        replace hB := hB.chg k_29 (by intro h1; have h2 : _ = _ := h1; omega)
        replace h := h.chg k_29 (by intro x h1 h2; have h3 := h2.1; omega)
        replace hr := hr.chg k_29 (by intro x h1 h2; have h3 := h2.1; omega)
        replace hO := hO.chg k_29 (by intro x h1 h2; have h3 := h2.1; omega)
        replace hI := hI.chg k_29 (by intro x h1 h2; have h3 := h2.1; omega)
        replace hb10 := hb10.chg k_29 (by intro h1; have h2 : _ = _ := h1; omega)
        replace hw := hw.chg k_29 (by intro x h1 h2; have h3 : x = gs := h2; omega)
        replace hE74 := hE74.chg k_29 (by intro x h1 h2; have h3 := h2.1; omega)
        replace hK74 := hK74.chg k_29 (by intro x h1 h2; have h3 := h2.1; omega)
        replace hb11 := hn_29
        refine WL.nil (WX.one0 (v := undef) ⟨fun h => absurd h (by decide), ?_⟩)
        refine ⟨?_, trivial⟩
        refine DU.step [(76, _), (74, _)] rfl ⟨rfl, rfl, trivial⟩ rfl (fun wq_30 kq_30 => ?_)
        replace hB := hB.pure kq_30
        replace h := h.pure kq_30
        replace hr := hr.pure kq_30
        replace hO := hO.pure kq_30
        replace hI := hI.pure kq_30
        replace hb10 := hb10.pure kq_30
        replace hb11 := hb11.pure kq_30
        replace hw := hw.pure kq_30
        replace hE74 := hE74.pure kq_30
        replace hK74 := hK74.pure kq_30
        refine WL.store Tryz.sizeOf39 hb11 rfl rfl rfl rfl ?_
        intro w_31 hs_31 hn_31 k_31
        replace hB := hB.chg k_31 (by intro h1; have h2 : _ = _ := h1; omega)
        replace h := h.chg k_31 (by intro x h1 h2; have h3 := h2.1; omega)
        replace hr := hr.chg k_31 (by intro x h1 h2; have h3 := h2.1; omega)
        replace hO := hO.chg k_31 (by intro x h1 h2; have h3 := h2.1; omega)
        replace hI := hI.chg k_31 (by intro x h1 h2; have h3 := h2.1; omega)
        replace hb10 := hb10.chg k_31 (by intro h1; have h2 : _ = _ := h1; omega)
        replace hw := hw.chg k_31 (by intro x h1 h2; have h3 : x = gs := h2; omega)
        replace hE74 := hE74.chg k_31 (by intro x h1 h2; have h3 := h2.1; omega)
        replace hK74 := hK74.chg k_31 (by intro x h1 h2; have h3 := h2.1; omega)
        replace hb11 := hn_31
        refine WL.nil (WX.one0 (v := undef) ⟨fun h => absurd h (by decide), ?_⟩)
        refine DU.done (fun we_32 ke_32 => ?_) _
        replace hB := hB.pure ke_32
        replace h := h.pure ke_32
        replace hr := hr.pure ke_32
        replace hO := hO.pure ke_32
        replace hI := hI.pure ke_32
        replace hb10 := hb10.pure ke_32
        replace hb11 := hb11.pure ke_32
        replace hw := hw.pure ke_32
        replace hE74 := hE74.pure ke_32
        replace hK74 := hK74.pure ke_32
        rotate_left
        all_goals
          refine WX.block_normal (WX.then_normal (WC.region (WL.add64 rfl rfl (by omega) rfl (WL.move rfl rfl (WL.nil (?_))))))
          exact WX.loop_next (j + 1, ((a69, c69), cs ++ [r]), (a74, c74)) ⟨rfl, rfl, rfl, rfl, rfl, rfl, rfl, rfl, rfl, trivial⟩ ⟨by show j + 1 ≤ x.2 + 3; omega, hB, h, hr, hO, hI, hb10, hb11, hK74, hE74, by show (cs ++ [r]).map Rw.xs = _; rw [List.map_append, hcs, hC1, ← hrx]; rfl, hw, by have := hb10.lt; have := hb11.lt; omega⟩ (by show x.2 + 3 - (j + 1) < x.2 + 3 - j; omega)
    ·
      refine WL.nil (WX.then_normal (WC.seq (WC.cond_false rfl (WC.exit (WX.then_exit (WX.then_exit (WX.block_here (?_))))))))
      refine WX.then_normal (WC.region (WL.move rfl rfl (WL.loadsB Tryz.isAgg121 Tryz.sizeOf121 hb11 rfl (by simp; done) rfl (?_))))
      have hjx : j = x.2 + 3 := by omega
      have htk : (rows.take (i + 1)).map (stpA s f) = (rows.take i).map (stpA s f) ++ [stpA s f x] := by rw [List.take_add_one, hx, Option.toList_some, List.map_append]; rfl
      have hCx : C j = (stpA s f x).1 := by rw [hC]; show List.take j _ = _; rw [List.take_of_length_le (by rw [sl1]; omega)]
      have hDx : D j = (stpA s f x).2 := by rw [hD]; show List.take j _ = _; rw [List.take_of_length_le (by rw [sl2]; omega)]
      refine WL.build (e := estp) [⟨ca, cc, cs, da, dc, D j⟩] Tryz.underlying91 Tryz.sizeOf121 Tryz.zeroValue121 rfl rfl rfl (by simp [Value.cells] <;> rfl) (by decide) rfl ?_
      intro a_q80 w_q80 q80 l_q80 z_q80 k_q80
      replace hB := hB.pure k_q80
      replace h := h.pure k_q80
      replace hr := hr.pure k_q80
      replace hO := hO.pure k_q80
      replace hI := hI.pure k_q80
      replace hb10 := hb10.pure k_q80
      replace hb11 := hb11.pure k_q80
      replace hK := hK.pure k_q80
      replace hE := hE.pure k_q80
      replace hw := hw.pure k_q80
      have l10 := hb10.lt
      refine WL.append (e := estp) info_121 rfl Tryz.underlying91 rfl rfl (hO.mono (S' := fun x => w.heap.size ≤ x) (fun b hb => hb.1)) (q80.rsl.src Tryz.underlying91) (by constructor <;> (simp only [List.length_cons, List.length_nil]; omega)) (fun b hb => by have h9 : _ ≤ b := hb; show w.heap.size ≤ b; omega) rfl ?_
      intro a81 c81 w81 hO81 g81 n81
      have k81 : ∀ b, (Eqb al b ∧ w.heap.size ≤ b) → kb _ b = some (some 121) := fun b hm => (hO.kb.at_.eqb hm.1).2
      have hI81 : SI (w.heap.size ≤ ·) w81 26 5 3 (l ++ [⟨ca, cc, cs, da, dc, D j⟩]) := by
        have h1 : SI (w.heap.size ≤ ·) w81 26 5 3 l := (hI.grow hO g81 (by decide) (by decide) (by decide)).mono (fun b _ hb => hb.1)
        refine h1.snoc ?_ ?_
        ·
          exact (hK.ks.grow hO g81 (by decide) (by decide)).mono (fun b _ hb => by have := hb.1; show w.heap.size ≤ b; omega)
        ·
          exact RSK.mono (hE.rsk.grow hO g81 (by decide)) (fun b _ hb => by have := hb.1; show w.heap.size ≤ b; omega)
      replace hB := hB.chg g81.chg (fun hm => by have := hm.2; omega)
      replace h := h.chg g81.chg (fun b _ h1 h2 => by have := h1.2; have := h2.2; omega)
      replace hr := hr.grow hO g81 (by decide)
      replace hw := hw.chg g81.chg (fun x h1 h2 => by have := h2.2; omega)
      refine WL.assign rfl rfl (WL.nil (WX.block_normal (WX.then_normal (WC.region (WL.add64 rfl rfl (by omega) rfl (WL.move rfl rfl (WL.nil (?_))))))))
      exact WX.loop_next (i + 1, ((a81, c81), l ++ [⟨ca, cc, cs, da, dc, D j⟩])) ⟨rfl, rfl, rfl, rfl, rfl, trivial⟩ ⟨by show i + 1 ≤ rows.length; omega, hB, h, RSK.mono hr (fun b _ hb => hb.1), hO81, hI81, by show (l ++ [_]).map Stp.abs = _; rw [List.map_append, hl, htk]; show _ ++ [(cs.map Rw.xs, D j)] = _; rw [hcs, hCx, hDx], hw⟩ (by show rows.length - (i + 1) < rows.length - i; omega)
  ·
    refine WL.nil (WX.then_normal (WC.seq (WC.cond_false rfl (WC.exit (WX.then_exit (WX.then_exit (WX.block_here (?_))))))))
    refine WX.then_normal (WC.seq (WC.region (WL.move rfl rfl (WL.assign rfl rfl (WL.assign rfl rfl (WL.nil (WX.then_normal (?_))))))))
    refine WC.ret (?_)
    refine WX.ret2 (.inl rfl) Tryz.results45 rfl rfl ?_
    have hil : i = rows.length := by omega
    subst hil
    rw [List.take_length, hstr] at hl
    exact ⟨_, rfl, ⟨al, cl, l, rfl, hO.mono (fun b hb => hb.1), hI.mono (fun b _ hb => hb.1), hl⟩, hw⟩
end Go.Proofs.YtggecdldnpildaaGreat
namespace Go.Proofs.YtggecdldnpildaaGreat
open Go.RowKit Go.HL
set_option maxRecDepth 100000

/-! a block's bytes, made without some drives -/
def kR (l : List Stp) : Nat := (l.map fun s => s.cs.length - 3).sum
theorem kR_snoc (l : List Stp) (s : Stp) : kR (l ++ [s]) = kR l + (s.cs.length - 3) := by simp [kR]
theorem flat_len {n : Nat} : ∀ {xs : List (List UInt8)}, (∀ x ∈ xs, x.length = n) → xs.flatten.length = n * xs.length
  | [], _ => rfl
  | x :: xs, h => by
    have ih := flat_len (xs := xs) (fun y hy => h y (List.mem_cons_of_mem _ hy))
    rw [List.flatten_cons, List.length_append, ih, h x (List.mem_cons_self ..), List.length_cons, Nat.mul_add]
    omega
set_option maxHeartbeats 8000000 in
theorem data_calls {S S2 S3 : Nat → Prop} {w : World} {ao ab : Option Addr} {c cb : Nat} {l : List Stp} {bad : List Int} (hO : RSK S w 121 estp ao c l) (hI : SI S2 w 26 5 3 l) (hb : RSl S3 w ei ab cb bad) (hok : ∀ s ∈ l, OkCol s.abs.1 s.abs.2 bad) (hl8 : l.length ≤ 8) (size : Nat) (hsz : 1 ≤ size ∧ size ≤ 128 * kR l) (hk8 : kR l ≤ 100) :
    Calls Tryz.prog 52 [.slice ao l.length c, vi size, .slice ab bad.length cb].toArray w (Ret fun v w' => (∃ a2 c2, v = .tuple #[.slice a2 ((datA (l.map Stp.abs) bad).take size).length c2, .bool true] ∧ Row (w.heap.size ≤ ·) w' 5 eb a2 c2 ((datA (l.map Stp.abs) bad).take size) ∧ (datA (l.map Stp.abs) bad).length = 128 * kR l) ∧ Chg Nob w w') := by
  have hw := Chg.refl Nob w
  replace hO : RSK (· < w.heap.size) w 121 estp ao c l := RSK.mono hO (fun b hb _ => hb)
  replace hI : SI (· < w.heap.size) w 26 5 3 l := hI.mono (fun b hb _ => hb)
  replace hb := hb.old
  have hbl : bad.length ≤ 3 ∨ l = [] := by
    cases l with
    | nil => exact .inr rfl
    | cons s t => exact .inl (hok s (List.mem_cons_self ..)).bad3
  obtain ⟨F, hF⟩ : ∃ F : Nat → List UInt8, F = fun i => datA ((l.take i).map Stp.abs) bad := ⟨_, rfl⟩
  have hF0 : F 0 = [] := by rw [hF]; rfl
  refine Calls.of_WC Tryz.func52 rfl Tryz.ntmps52 (by simp) ?_
  refine WC.seq (WC.region (WL.assign rfl rfl (WL.assign rfl rfl (WL.nil (WX.then_normal (WC.seq (WC.region (?_))))))))
  refine WL.assign rfl rfl (WL.nil (WX.then_normal (WC.seq (WC.seq (WC.region (WL.move rfl rfl (WL.len Tryz.underlying91 rfl rfl (?_))))))))
  refine WL.move rfl rfl (WL.nil (WX.then_normal (WC.block (?_))))
  refine WC.loop (σ := Nat × (Option Addr × Nat)) (fun q => [(0, .slice ao l.length c), (1, vi size), (2, .slice ab bad.length cb), (8, .slice q.2.1 (F q.1).length q.2.2), (18, .slice ao l.length c), (19, vi l.length), (20, vi (q.1 : Int))])
    (fun q w' => q.1 ≤ l.length ∧ RSK (· < w.heap.size) w' 121 estp ao c l ∧ SI (· < w.heap.size) w' 26 5 3 l ∧ RSl (· < w.heap.size) w' ei ab cb bad ∧ Row (w.heap.size ≤ ·) w' 5 eb q.2.1 q.2.2 (F q.1) ∧ (F q.1).length = 128 * kR (l.take q.1) ∧ Chg Nob w w') (fun q => l.length - q.1) (0, (none, 0)) ⟨rfl, rfl, rfl, by rw [hF0]; rfl, rfl, rfl, rfl, trivial⟩
    ⟨Nat.zero_le _, hO, hI, hb, by rw [hF0]; exact Row.nil _ _ _ _, by rw [hF0]; rfl, hw⟩ ?_
  clear hO hI hb hw
  rintro ⟨i, a0, c0⟩ w4 ⟨hi, hO, hI, hb, hR, hRl, hw⟩
  simp only at hi hR hRl
  dsimp only
  have zw4 := hw.size
  replace hR := hR.lt
  refine WC.seq (WC.region (?_))
  refine WL.lss? rfl rfl rfl (fun h21 => ?_) (fun h21 => ?_)
  ·
    refine WL.nil (WX.then_normal (WC.seq (WC.cond_true rfl (WC.skip (WX.then_normal (WC.seq (WC.block (?_))))))))
    refine WC.seq (WC.region (?_))
    obtain ⟨x, hx⟩ : ∃ x, l[i]? = some x := ⟨_, List.getElem?_eq_getElem (by omega)⟩
    have hxm := List.mem_of_getElem? hx
    have hxo := hok x hxm
    have hx4 : 4 ≤ x.ds.length ∧ x.ds.length ≤ 16 := hxo.four
    have hxl := hxo.len
    have hxc : x.cs.length = x.ds.length := by
      have h1 : x.abs.1.length = x.cs.length := by simp [Stp.abs]
      rw [← h1, hxl]
      rfl
    have hb3 := hxo.bad3
    have htk : kR (l.take (i + 1)) = kR (l.take i) + (x.cs.length - 3) := by rw [List.take_add_one, hx, Option.toList_some, kR_snoc]
    have hkl : ∀ (l : List Stp) (j : Nat), kR (l.take j) ≤ kR l := fun l => by
      induction l with
      | nil => intro j; simp
      | cons y l ih =>
        intro j
        cases j with
        | zero => simp [kR]
        | succ j =>
          have := ih j
          simp only [kR, List.take_succ_cons, List.map_cons, List.sum_cons] at this ⊢
          omega
    have hkl := hkl l (i + 1)
    have hF1 : F (i + 1) = F i ++ ((rbA x.abs.1 (wrgA x.abs.2 bad) (x.abs.1.length - 3)).take (x.abs.1.length - 3)).flatten := by rw [hF]; show datA ((l.take (i + 1)).map Stp.abs) bad = _; rw [List.take_add_one, hx, Option.toList_some, List.map_append]; exact datA_snoc _ _ _
    refine WL.indexT (e := estp) Tryz.underlying91 Tryz.sizeOf121 (RSK.rsl hO) rfl rfl ⟨hx, rfl⟩ rfl ?_
    intro bb oo hcc
    refine WL.loads _ Tryz.isAgg121 Tryz.sizeOf121 rfl hcc rfl rfl (?_)
    refine WL.alloc Tryz.zeroValue121 rfl ?_
    intro ga wa hgea hlta hba ka
    have zs_ka := ka.size
    replace hO := hO.pure ka
    replace hI := hI.pure ka
    replace hb := hb.pure ka
    replace hR := hR.pure ka
    replace hw := hw.pure ka
    refine WL.stores Tryz.sizeOf121 hba rfl rfl (by rfl) (by exact Enc.one _ _) (by exact Nat.le_of_ble_eq_true rfl) rfl ?_
    intro w_1 hs_1 hn_1 k_1
    have zs_k_1 := k_1.size
    replace hO := hO.chg k_1 (by intros; exfalso; (try dsimp only at *); omega)
    replace hI := hI.chg k_1 (by intro b h1 h2 h3; have h4 : _ = _ := h3; (try dsimp only at h2); exfalso; omega)
    replace hb := hb.chg k_1 (by intro b h1 h2 h3; have h4 : _ = _ := h3; (try dsimp only at h2); exfalso; omega)
    replace hR := hR.chg k_1 (by intro b h1 h2 h3; have h4 : _ = _ := h3; (try dsimp only at h2); exfalso; omega)
    replace hw := hw.chg k_1 (by intro x h1 h2; have h3 : _ = _ := h2; exfalso; omega)
    replace hba := hn_1
    refine WL.nil (WX.then_normal (WC.seq (WC.region (WL.assign rfl rfl (WL.nil (WX.then_normal (WC.seq (?_))))))))
    refine WC.seq (WC.region (WL.fieldAddr (fld_121_1) rfl rfl (WL.loadB Tryz.isAgg39 hba rfl rfl rfl (WL.len Tryz.underlying39 rfl rfl (WL.move rfl rfl (WL.nil (WX.then_normal (?_))))))))
    refine WC.block (?_)
    have hb10 : Blk _ ga 121 [.slice x.ca x.cs.length x.cc, .slice x.da x.ds.length x.dc] := hba
    have l10 := hb10.lt
    have zwa := hw.size
    have hga : w4.heap.size ≤ ga := by omega
    refine WC.loop (σ := Nat × (Option Addr × Nat)) (fun q => [(0, .slice ao l.length c), (1, vi size), (2, .slice ab bad.length cb), (8, .slice a0 (F i).length c0), (10, ptr ga), (11, .slice q.2.1 (wrgT x.ds bad q.1).length q.2.2), (18, .slice ao l.length c), (19, vi l.length), (20, vi (i : Int)), (25, .slice x.da x.ds.length x.dc), (26, vi x.ds.length), (27, vi (q.1 : Int))])
      (fun q w' => q.1 ≤ x.ds.length ∧ RSK (· < w.heap.size) w' 121 estp ao c l ∧ SI (· < w.heap.size) w' 26 5 3 l ∧ RSl (· < w.heap.size) w' ei ab cb bad ∧ Row (fun b => w.heap.size ≤ b ∧ b < w4.heap.size) w' 5 eb a0 c0 (F i) ∧ Blk w' ga 121 [.slice x.ca x.cs.length x.cc, .slice x.da x.ds.length x.dc] ∧ Row (fun b => w4.heap.size ≤ b ∧ b ≠ ga) w' 3 ei q.2.1 q.2.2 (wrgT x.ds bad q.1) ∧ Chg Nob w w' ∧ w4.heap.size ≤ w'.heap.size) (fun q => x.ds.length - q.1) (0, (none, 0)) ⟨rfl, rfl, rfl, rfl, rfl, rfl, rfl, rfl, rfl, rfl, rfl, rfl, trivial⟩
      ⟨Nat.zero_le _, hO, hI, hb, hR, hb10, Row.nil _ _ _ _, hw, by omega⟩ ?_
    clear hO hI hb hR hb10 hw hba
    rintro ⟨j, aw, cw⟩ w5 ⟨hj, hO, hI, hb, hR, hb10, hW, hw, zw5⟩
    simp only at hj hW
    dsimp only
    have hwl := wrgT_len x.ds bad j
    have l10 := hb10.lt
    have hds := hI.drs x hxm
    have x16 : x.ds.length ≤ 16 := hx4.2
    refine WC.seq (WC.region (?_))
    refine WL.lss? rfl rfl rfl (fun h28 => ?_) (fun h28 => ?_)
    ·
      refine WL.nil (WX.then_normal (WC.seq (WC.cond_true rfl (WC.skip (WX.then_normal (WC.seq (WC.block (?_))))))))
      refine WC.seq (WC.region (WL.move rfl rfl (?_)))
      obtain ⟨d, hd⟩ : ∃ d, x.ds[j]? = some d := ⟨_, List.getElem?_eq_getElem (by omega)⟩
      have hnx := wrgT_next x.ds bad j
      rw [show x.ds.getD j 0 = d from by rw [List.getD_eq_getElem?_getD, hd]; rfl] at hnx
      refine WL.indexT (e := ei) Tryz.underlying39 Tryz.sizeOf3 (RSK.rsl hds) rfl rfl ⟨hd, rfl⟩ rfl ?_
      intro bb oo hcc
      refine WL.load Tryz.isAgg3 rfl (hcc 0 _ rfl) rfl (WL.assign rfl rfl (WL.assign rfl rfl (WL.nil (WX.then_normal (WC.seq (WC.region (WL.move rfl rfl (?_))))))))
      refine WL.move rfl rfl (?_)
      refine WL.call eg_48 rfl rfl (contains_calls hb (by omega) d) ?_
      rintro v w6 ⟨rfl, k6⟩
      have zs_k6 := k6.size
      replace hO := hO.pure k6
      replace hI := hI.pure k6
      replace hb := hb.pure k6
      replace hR := hR.pure k6
      replace hb10 := hb10.pure k6
      replace hW := hW.pure k6
      replace hw := hw.pure k6
      by_cases hdb : d ∈ bad
      ·
        rw [decide_eq_true hdb]
        refine WL.nil (WX.then_normal (WC.cond_true rfl (WC.region (WL.move rfl rfl (WL.move rfl rfl (?_))))))
        refine WL.build (e := ei) [(j : Int)] Tryz.underlying39 Tryz.sizeOf3 Tryz.zeroValue3 rfl rfl rfl (by simp [Value.cells] <;> rfl) (by decide) rfl ?_
        intro a_q37 w_q37 q37 l_q37 z_q37 k_q37
        have zs_k_q37 := k_q37.size
        replace hO := hO.pure k_q37
        replace hI := hI.pure k_q37
        replace hb := hb.pure k_q37
        replace hR := hR.pure k_q37
        replace hb10 := hb10.pure k_q37
        replace hW := hW.pure k_q37
        replace hw := hw.pure k_q37
        have l10 := hb10.lt
        have zc := hw.size
        refine WL.append (e := ei) info_3 rfl Tryz.underlying39 rfl rfl hW (q37.rsl.src Tryz.underlying39) (by constructor <;> (simp only [List.length_cons, List.length_nil]; omega)) (fun b hb => by have h9 : _ ≤ b := hb; exact ⟨by omega, by omega⟩) rfl ?_
        intro a38 c38 w38 hW38 g38 n38
        have z38 := g38.chg.size
        replace hO := hO.chg g38.chg (fun b _ h1 _ h2 => by have := h2.2.1; have h9 : b < _ := h1; omega)
        replace hI := hI.chg g38.chg (fun b _ h1 h2 => by have := h2.2.1; have h9 : b < _ := h1; omega)
        replace hb := hb.chg g38.chg (fun b _ h1 h2 => by have := h2.2.1; omega)
        replace hR := hR.chg g38.chg (fun b _ h1 h2 => by have := h2.2.1; have := h1.2; omega)
        replace hb10 := hb10.chg g38.chg (fun h => h.2.2 rfl)
        replace hw := hw.chg g38.chg (fun b h1 h2 => by have := h2.2.1; omega)
        rw [if_pos hdb] at hnx
        rw [← hnx] at hW38 ⊢
        refine WL.assign rfl rfl (WL.nil (WX.block_normal (WX.then_normal (WC.region (WL.add64 rfl rfl (by omega) rfl (WL.move rfl rfl (WL.nil (?_))))))))
        exact WX.loop_next (j + 1, (a38, c38)) ⟨rfl, rfl, rfl, rfl, rfl, rfl, rfl, rfl, rfl, rfl, rfl, rfl, trivial⟩ ⟨by show j + 1 ≤ x.ds.length; omega, hO, hI, hb, hR, hb10, hW38, hw, by omega⟩ (by show x.ds.length - (j + 1) < x.ds.length - j; omega)
      ·
        rw [decide_eq_false hdb]
        refine WL.nil (WX.then_normal (WC.cond_false rfl (WC.skip (WX.block_normal (WX.then_normal (WC.region (WL.add64 rfl rfl (by omega) rfl (?_))))))))
        refine WL.move rfl rfl (WL.nil (?_))
        rw [if_neg hdb] at hnx
        rw [← hnx] at hW ⊢
        exact WX.loop_next (j + 1, (aw, cw)) ⟨rfl, rfl, rfl, rfl, rfl, rfl, rfl, rfl, rfl, rfl, rfl, rfl, trivial⟩ ⟨by show j + 1 ≤ x.ds.length; omega, hO, hI, hb, hR, hb10, hW, hw, by omega⟩ (by show x.ds.length - (j + 1) < x.ds.length - j; omega)
    ·
      refine WL.nil (WX.then_normal (WC.seq (WC.cond_false rfl (WC.exit (WX.then_exit (WX.then_exit (WX.block_here (?_))))))))
      refine WX.then_normal (WC.seq (WC.region (WL.fieldAddr (fld_121_0) rfl rfl (WL.loadB Tryz.isAgg87 hb10 rfl rfl rfl (WL.move rfl rfl (?_))))))
      have hjx : j = x.ds.length := by omega
      have hwr : wrgT x.ds bad j = wrgA x.abs.2 bad := by rw [hjx]; rfl
      rw [hwr] at hW ⊢
      have hev := hxo.even
      have her := hxo.err
      have hRS := (hI.cols x hxm).rs
      refine WL.call eg_74 rfl rfl (rebuild_good (rs := x.cs) (bad := wrgA x.abs.2 bad) (k := x.cs.length - 3) (n := 128) hRS hW.rsl (by omega) (by omega) her (Nat.le_trans (wrgA_len hxo.nod) hb3) (lenB_of hev) hev) ?_
      rintro v w7 ⟨⟨go, N, ps, rfl, hP, hgo, hRB⟩, k7⟩
      have zs_k7 := k7.size
      replace hO := hO.pure k7
      replace hI := hI.pure k7
      replace hb := hb.pure k7
      replace hR := hR.pure k7
      replace hw := hw.pure k7
      have hrb : rbA x.abs.1 (wrgA x.abs.2 bad) (x.abs.1.length - 3) = xss ps := by
        have h1 : x.abs.1.length = x.cs.length := by simp [Stp.abs]
        rw [h1]
        exact rbA_of (by omega) (Nat.le_trans (wrgA_len hxo.nod) hb3) hRB
      have hpl : ps.length = x.cs.length - 3 + 3 := by rw [← xss_len, hRB.len]
      have hp128 : ∀ r ∈ ps, r.xs.length = 128 := fun r hr => hRB.all _ (List.mem_map.2 ⟨r, hr, rfl⟩)
      rw [hrb] at hF1
      refine WL.move rfl rfl (WL.extract rfl rfl rfl (WL.extract rfl rfl rfl (WL.assign rfl rfl (WL.assign rfl rfl (WL.nil (WX.then_normal (WC.seq (?_))))))))
      refine WC.seq (WC.region (WL.move rfl rfl (?_)))
      refine WL.neqF rfl rfl rfl (by rfl) ?_
      refine WL.nil (WX.then_normal (WC.cond_false rfl (WC.skip (WX.then_normal (WC.seq (WC.region (WL.move rfl rfl (?_))))))))
      refine WL.move rfl rfl (WL.len Tryz.underlying87 rfl rfl (?_))
      refine WL.sub64 rfl rfl (by constructor <;> omega) rfl ?_
      obtain ⟨k, hk⟩ : ∃ k, k = x.cs.length - 3 := ⟨_, rfl⟩
      rw [← hk] at hpl
      have hPr := hP.toRS (S := fun b => w4.heap.size ≤ b) (fun b h1 h2 => by omega)
      refine WL.slice (e := erow) (xs := ps) (l := 0) (h := k) (k := .i64) (j := .i64) Tryz.underlying87 Tryz.sizeOf26 hPr.outer (by show some (Value.slice _ (x.cs.length - 3 + 3) (x.cs.length - 3 + 3)) = some (Value.slice _ ps.length ps.length); rw [hpl, hk]) (.inr ⟨rfl, rfl⟩) (.inl (by show some (some (vi (((x.cs.length - 3 + 3 : Nat) : Int) - 3))) = some (some (vi (k : Int))); congr 3; omega)) ⟨Nat.zero_le _, by omega⟩ rfl ?_
      intro az cz hz1 nz
      rw [List.drop_zero] at hz1 ⊢
      have hzl : (ps.take k).length = k := by rw [List.length_take]; omega
      refine WL.len Tryz.underlying87 rfl rfl (WL.move rfl rfl (WL.nil (WX.then_normal (WC.block (?_)))))
      have hZ : RS (fun b => w4.heap.size ≤ b) w7 az cz (ps.take k) := ⟨hz1, fun r hr => hPr.inner r (List.mem_of_mem_take hr)⟩
      obtain ⟨G, hG⟩ : ∃ G : Nat → List UInt8, G = fun j => F i ++ ((xss (ps.take k)).take j).flatten := ⟨_, rfl⟩
      have hG0 : G 0 = F i := by rw [hG]; simp
      have hGk : G k = F (i + 1) := by
        rw [hG, hF1]
        show _ ++ ((xss (ps.take k)).take k).flatten = _ ++ ((xss ps).take (x.abs.1.length - 3)).flatten
        have h1 : x.abs.1.length - 3 = k := by rw [hk]; simp [Stp.abs]
        rw [h1, xss, xss, List.map_take, List.take_take, Nat.min_self]
      have hGs : ∀ (j : Nat) (r : Rw), (ps.take k)[j]? = some r → G (j + 1) = G j ++ r.xs := fun j r hr => by
        rw [hG]
        show _ ++ ((xss (ps.take k)).take (j + 1)).flatten = _ ++ ((xss (ps.take k)).take j).flatten ++ r.xs
        rw [List.take_add_one, xss_at hr, Option.toList_some, List.flatten_append, List.append_assoc]
        simp
      have hGl : ∀ j, j ≤ k → (G j).length = 128 * kR (l.take i) + 128 * j := fun j hj => by
        rw [hG]
        show (F i ++ ((xss (ps.take k)).take j).flatten).length = _
        rw [List.length_append, hRl, flat_len (n := 128) (fun y hy => by
          have h1 := List.mem_of_mem_take hy
          obtain ⟨r, hr, rfl⟩ := List.mem_map.1 h1
          exact hp128 r (List.mem_of_mem_take hr)), List.length_take, xss_len, hzl, Nat.min_eq_left hj]
      rw [← hG0]
      rw [← hG0] at hR
      rw [hzl]
      have zw7 := hw.size
      refine WC.loop (σ := Nat × (Option Addr × Nat)) (fun q => [(0, .slice ao l.length c), (1, vi size), (2, .slice ab bad.length cb), (8, .slice q.2.1 (G q.1).length q.2.2), (18, .slice ao l.length c), (19, vi l.length), (20, vi (i : Int)), (53, .slice az k cz), (54, vi (k : Nat)), (55, vi (q.1 : Int))])
        (fun q w' => q.1 ≤ k ∧ RSK (· < w.heap.size) w' 121 estp ao c l ∧ SI (· < w.heap.size) w' 26 5 3 l ∧ RSl (· < w.heap.size) w' ei ab cb bad ∧ Row (fun b => (w.heap.size ≤ b ∧ b < w4.heap.size) ∨ w7.heap.size ≤ b) w' 5 eb q.2.1 q.2.2 (G q.1) ∧ RS (fun b => w4.heap.size ≤ b ∧ b < w7.heap.size) w' az cz (ps.take k) ∧ Chg Nob w w' ∧ w7.heap.size ≤ w'.heap.size) (fun q => k - q.1) (0, (a0, c0)) ⟨rfl, rfl, rfl, rfl, rfl, rfl, rfl, rfl, rfl, rfl, trivial⟩
        ⟨Nat.zero_le _, hO, hI, hb, hR.mono (fun b hb => .inl hb), ⟨hZ.outer.lt, fun r hr => (hZ.inner r hr).lt⟩, hw, Nat.le_refl _⟩ ?_
      clear hO hI hb hR hw hZ hPr hz1
      rintro ⟨j2, a0, c0⟩ w8 ⟨hj2, hO, hI, hb, hR, hZ, hw, zw8⟩
      simp only at hj2 hR
      dsimp only
      have hGj := hGl j2 hj2
      have zc8 := hw.size
      refine WC.seq (WC.region (?_))
      refine WL.lss? rfl rfl rfl (fun h56 => ?_) (fun h56 => ?_)
      ·
        refine WL.nil (WX.then_normal (WC.seq (WC.cond_true rfl (WC.skip (WX.then_normal (WC.seq (WC.block (?_))))))))
        refine WC.seq (WC.region (?_))
        obtain ⟨r, hr⟩ : ∃ r, (ps.take k)[j2]? = some r := ⟨_, List.getElem?_eq_getElem (by omega)⟩
        have hr128 := hp128 r (List.mem_of_mem_take (List.mem_of_getElem? hr))
        have hGn := hGs j2 r hr
        refine WL.indexT (e := erow) Tryz.underlying87 Tryz.sizeOf26 hZ.outer (by show some (Value.slice az k cz) = some (Value.slice az (ps.take k).length cz); rw [hzl]) rfl ⟨hr, rfl⟩ rfl ?_
        intro bb oo hcc
        refine WL.load Tryz.isAgg26 rfl (hcc 0 _ rfl) rfl ?_
        refine WL.assign rfl rfl (WL.nil (WX.then_normal (WC.region (WL.move rfl rfl (WL.move rfl rfl (?_))))))
        refine WL.append (e := eb) info_5 rfl Tryz.underlying26 rfl rfl hR ((hZ.at hr).src Tryz.underlying26) (by constructor <;> omega) (fun b hb => by have h9 : _ ≤ b := hb; exact .inr (by omega)) rfl ?_
        intro a61 c61 w61 hR61 g61 n61
        have z61 := g61.chg.size
        replace hO := hO.chg g61.chg (fun b _ h1 _ h2 => by have h9 : b < _ := h1; rcases h2.2 with h3 | h3 <;> omega)
        replace hI := hI.chg g61.chg (fun b _ h1 h2 => by have h9 : b < _ := h1; rcases h2.2 with h3 | h3 <;> omega)
        replace hb := hb.chg g61.chg (fun b _ h1 h2 => by rcases h2.2 with h3 | h3 <;> omega)
        replace hZ := hZ.chg g61.chg (fun b _ h1 h2 => by rcases h2.2 with h3 | h3 <;> omega)
        replace hw := hw.chg g61.chg (fun b h1 h2 => by rcases h2.2 with h3 | h3 <;> omega)
        rw [← hGn] at hR61 ⊢
        refine WL.assign rfl rfl (WL.nil (WX.block_normal (WX.then_normal (WC.region (WL.add64 rfl rfl (by omega) rfl (WL.move rfl rfl (WL.nil (?_))))))))
        exact WX.loop_next (j2 + 1, (a61, c61)) ⟨rfl, rfl, rfl, rfl, rfl, rfl, rfl, rfl, rfl, rfl, trivial⟩ ⟨by show j2 + 1 ≤ k; omega, hO, hI, hb, hR61, hZ, hw, by omega⟩ (by show k - (j2 + 1) < k - j2; omega)
      ·
        refine WL.nil (WX.then_normal (WC.seq (WC.cond_false rfl (WC.exit (WX.then_exit (WX.then_exit (WX.block_here (?_))))))))
        refine WX.block_normal (WX.then_normal (WC.region (WL.add64 rfl rfl (by omega) rfl (WL.move rfl rfl (WL.nil (?_))))))
        have hjk : j2 = k := by omega
        rw [hjk, hGk] at hR ⊢
        have hl9 : (F (i + 1)).length = 128 * kR (l.take (i + 1)) := by rw [← hGk, hGl k (Nat.le_refl _), htk]; omega
        exact WX.loop_next (i + 1, (a0, c0)) ⟨rfl, rfl, rfl, rfl, rfl, rfl, rfl, trivial⟩ ⟨by show i + 1 ≤ l.length; omega, hO, hI, hb, hR.mono (fun b hb => by show w.heap.size ≤ b; rcases hb with h3 | h3 <;> omega), hl9, hw⟩ (by show l.length - (i + 1) < l.length - i; omega)
  ·
    refine WL.nil (WX.then_normal (WC.seq (WC.cond_false rfl (WC.exit (WX.then_exit (WX.then_exit (WX.block_here (?_))))))))
    refine WX.then_normal (WC.seq (WC.region (WL.move rfl rfl (WL.move rfl rfl (?_)))))
    have hil : i = l.length := by omega
    subst hil
    rw [List.take_length] at hRl
    have hFi : F l.length = datA (l.map Stp.abs) bad := by rw [hF]; show datA ((l.take l.length).map Stp.abs) bad = _; rw [List.take_length]
    have hcp := hR.own.cap
    obtain ⟨g0, rfl⟩ := hR.place0 (show 0 < (F l.length).length by omega)
    refine WL.sliceRow (e := eb) (i := size) Tryz.underlying26 Tryz.sizeOf5 rfl rfl (by omega) rfl ?_
    refine WL.assign rfl rfl (WL.assign rfl rfl (WL.nil (WX.then_normal (WC.ret (?_)))))
    refine WX.ret2 (.inl rfl) Tryz.results52 rfl rfl ?_
    have hRt := (hR.mono (S' := fun b => w.heap.size ≤ b) (fun b hb => hb.1)).take size (by omega)
    have hlt : ((F l.length).take size).length = size := by rw [List.length_take]; omega
    rw [hFi] at hRt hRl hlt
    exact ⟨_, rfl, ⟨some ⟨g0, 0, none⟩, c0, by rw [hlt], hRt, hRl⟩, hw⟩
end Go.Proofs.YtggecdldnpildaaGreat
/- the kit's contract of slices.Sort on ints, laid at this program; printed by the kit's lay-plain -/
namespace Go.Proofs
open Go.Shelf
def Tryz.lays189_ren : Go.Shelf.Ren := ⟨fun | 189 => 51 | 125 => 73 | 257 => 72 | 128 => 89 | 129 => 90 | 294 => 80 | 295 => 81 | 296 => 82 | 297 => 83 | 298 => 84 | 299 => 85 | 216 => 86 | 300 => 87 | 301 => 88 | 328 => 94 | 329 => 95 | 330 => 96 | 331 => 97 | 332 => 98 | 215 => 99 | 343 => 103 | n => n, fun | 28 => 39 | 3 => 3 | 46 => 75 | 0 => 0 | 51 => 66 | 53 => 23 | 4 => 4 | 183 => 150 | 182 => 149 | 131 => 154 | 5 => 5 | 9 => 9 | 218 => 161 | 222 => 165 | 228 => 171 | 229 => 110 | n => n, fun | n => n⟩
theorem Tryz.lays189 : Go.Proofs.Lays.n189 Tryz.prog Tryz.lays189_ren := {
  mixed := by kernel_rfl
  f125 := Tryz.func73.trans (congrArg some (by kernel_rfl))
  f128 := Tryz.func89.trans (congrArg some (by kernel_rfl))
  f129 := Tryz.func90.trans (congrArg some (by kernel_rfl))
  f189 := Tryz.func51.trans (congrArg some (by kernel_rfl))
  f215 := Tryz.func99.trans (congrArg some (by kernel_rfl))
  f216 := Tryz.func86.trans (congrArg some (by kernel_rfl))
  f257 := Tryz.func72.trans (congrArg some (by kernel_rfl))
  f294 := Tryz.func80.trans (congrArg some (by kernel_rfl))
  f295 := Tryz.func81.trans (congrArg some (by kernel_rfl))
  f296 := Tryz.func82.trans (congrArg some (by kernel_rfl))
  f297 := Tryz.func83.trans (congrArg some (by kernel_rfl))
  f298 := Tryz.func84.trans (congrArg some (by kernel_rfl))
  f299 := Tryz.func85.trans (congrArg some (by kernel_rfl))
  f300 := Tryz.func87.trans (congrArg some (by kernel_rfl))
  f301 := Tryz.func88.trans (congrArg some (by kernel_rfl))
  f328 := Tryz.func94.trans (congrArg some (by kernel_rfl))
  f329 := Tryz.func95.trans (congrArg some (by kernel_rfl))
  f330 := Tryz.func96.trans (congrArg some (by kernel_rfl))
  f331 := Tryz.func97.trans (congrArg some (by kernel_rfl))
  f332 := Tryz.func98.trans (congrArg some (by kernel_rfl))
  f343 := Tryz.func103.trans (congrArg some (by kernel_rfl))
  t0 := Tryz.underlying0
  a0 := Tryz.isAgg0
  z0 := Tryz.sizeOf0
  v0 := Tryz.zeroValue0
  t3 := Tryz.underlying3
  a3 := Tryz.isAgg3
  z3 := Tryz.sizeOf3
  v3 := Tryz.zeroValue3
  t4 := Tryz.underlying4
  a4 := Tryz.isAgg4
  z4 := Tryz.sizeOf4
  v4 := Tryz.zeroValue4
  t5 := Tryz.underlying5
  a5 := Tryz.isAgg5
  z5 := Tryz.sizeOf5
  v5 := Tryz.zeroValue5
  t9 := Tryz.underlying9
  a9 := Tryz.isAgg9
  z9 := Tryz.sizeOf9
  v9 := Tryz.zeroValue9
  t28 := Tryz.underlying39
  a28 := Tryz.isAgg39
  z28 := Tryz.sizeOf39
  v28 := Tryz.zeroValue39
  t46 := Tryz.underlying75
  a46 := Tryz.isAgg75
  z46 := Tryz.sizeOf75
  v46 := Tryz.zeroValue75
  t51 := Tryz.underlying66
  a51 := Tryz.isAgg66
  z51 := Tryz.sizeOf66
  v51 := Tryz.zeroValue66
  t53 := Tryz.underlying23
  a53 := Tryz.isAgg23
  z53 := Tryz.sizeOf23
  v53 := Tryz.zeroValue23
  t131 := Tryz.underlying154
  a131 := Tryz.isAgg154
  z131 := Tryz.sizeOf154
  v131 := Tryz.zeroValue154
  t182 := Tryz.underlying149
  a182 := Tryz.isAgg149
  z182 := Tryz.sizeOf149
  v182 := Tryz.zeroValue149
  t183 := Tryz.underlying150
  a183 := Tryz.isAgg150
  z183 := Tryz.sizeOf150
  v183 := Tryz.zeroValue150
  t218 := Tryz.underlying161
  a218 := Tryz.isAgg161
  z218 := Tryz.sizeOf161
  v218 := Tryz.zeroValue161
  t222 := Tryz.underlying165
  a222 := Tryz.isAgg165
  z222 := Tryz.sizeOf165
  v222 := Tryz.zeroValue165
  t228 := Tryz.underlying171
  a228 := Tryz.isAgg171
  z228 := Tryz.sizeOf171
  v228 := Tryz.zeroValue171
  t229 := Tryz.underlying110
  a229 := Tryz.isAgg110
  z229 := Tryz.sizeOf110
  v229 := Tryz.zeroValue110 }
end Go.Proofs
namespace Go.HL
open Go.RowKit Go.Proofs
/-! sorting a row of the call's own -/
theorem Row.holdsI {S : Nat → Prop} {w : World} {T : TypeId} {g c : Nat} {xs : List Int} (h : Row S w T ei (some ⟨g, 0, none⟩) c xs) : Go.Sort.Holds (Value.int .i64) w g 0 xs.toArray := by
  have h1 := h.splice (o := 0) (vs := ei.all xs) (ys := xs) (by rw [Enc.all_len]; omega) rfl (by rw [Nat.zero_add, List.drop_length, List.take_zero, List.nil_append, List.append_nil])
  have hl : (ei.all xs).length = xs.length := by rw [Enc.all_len]; show xs.length * 1 = _; omega
  have := Go.Lib.holds_of_ints (w := w) (b := g) (off := 0) (n := xs.length) (zs := xs) (Nat.le_refl _) (fun j hj => by
    have h2 := h.rsl.cellsAt (j := j) (List.getElem?_eq_getElem hj) 0 _ rfl
    rw [show 0 + j * ei.sz + 0 = 0 + j from by show 0 + j * 1 + 0 = _; omega] at h2
    rw [h2, List.getD_eq_getElem?_getD, List.getElem?_eq_getElem hj]
    rfl) (fun j hj => h1.2.2 j (by omega))
  rwa [List.take_length] at this
theorem drewN_chg (w : World) (n : Nat) : Chg Nob w (w.drewN n) := ⟨rfl, rfl, rfl, Nat.le_refl _, fun _ _ _ => rfl⟩
theorem grow_chg (w : World) (os : Array Obj) : Chg Nob w (Go.Sort.grow w os) := ⟨rfl, rfl, rfl, by rw [Go.Sort.size_grow]; omega, fun k hk _ => Go.Sort.heap_grow_old w os hk⟩
theorem Row.sorted {S : Nat → Prop} {w : World} {T : TypeId} {g c : Nat} {xs : List Int} (h : Row S w T ei (some ⟨g, 0, none⟩) c xs) (q : Nat) (os : Array Obj) :
    Row S (Go.Sort.grow (Go.Sort.putRow (Value.int .i64) (Go.Sort.ahead w q) g 0 (srt xs).toArray) os) T ei (some ⟨g, 0, none⟩) c (srt xs) ∧ Chg (· = g) w (Go.Sort.grow (Go.Sort.putRow (Value.int .i64) (Go.Sort.ahead w q) g 0 (srt xs).toArray) os) := by
  have hs := srt_len xs
  have hm : ∀ l : List Int, ei.all l = l.map (Value.int .i64) := fun l => by
    induction l with
    | nil => rfl
    | cons x l ih =>
      show [vi x] ++ ei.all l = _
      rw [ih]
      rfl
  rw [Go.Lib.sorted_world (Value.int .i64) w g 0 q xs.toArray (srt xs) os h.holdsI (by rw [hs]; rfl), ← hm]
  have hl : (ei.all xs).length = xs.length := by rw [Enc.all_len]; show xs.length * 1 = _; omega
  have hl2 : (ei.all (srt xs)).length = xs.length := by rw [Enc.all_len, hs]; show xs.length * 1 = _; omega
  have h2 := (h.pure (drewN_chg w q)).splice (o := 0) (vs := ei.all (srt xs)) (ys := srt xs) (by show 0 + _ ≤ xs.length * 1; omega) hs (by rw [Nat.zero_add, hl2, ← hl, List.drop_length, List.take_zero, List.nil_append, List.append_nil])
  exact ⟨h2.1.pure (grow_chg _ _), ((((drewN_chg w q).mono (fun _ _ x => x.elim)).trans (setCells_chg g _ 0 _) (fun _ _ x => x)).pure (grow_chg _ _))⟩
end Go.HL
namespace Go.Proofs.YtggecdldnpildaaGreat
open Go.RowKit Go.HL
set_option maxRecDepth 100000

theorem sort_calls {S : Nat → Prop} {w : World} {ao : Option Addr} {c : Nat} {xs : List Int} (h : Row S w 3 ei ao c xs) (hl : xs.length ≤ 100000) :
    Calls Tryz.prog 51 [.slice ao xs.length c].toArray w (Ret fun v w' => v = .tuple #[] ∧ Row S w' 3 ei ao c (srt xs) ∧ Chg (fun b => Eqb ao b) w w') := by
  rcases Nat.eq_zero_or_pos xs.length with h0 | h0
  · have e : xs = [] := List.length_eq_zero_iff.1 h0
    subst e
    refine (Any.slices_Sort_int_none Tryz.lays189 ao c w).mono ?_
    rintro e w' ⟨rfl, rfl⟩
    exact ⟨_, rfl, rfl, by rw [srt_id (l := []) List.Pairwise.nil]; exact h, Chg.refl _ _⟩
  · obtain ⟨g, rfl⟩ := h.place0 h0
    refine (Any.slices_Sort_int Tryz.lays189 g 0 c xs w h.holdsI (h.own.lt _ rfl) (by omega)).mono ?_
    rintro e w' ⟨rfl, n, os, rfl⟩
    obtain ⟨h1, h2⟩ := h.sorted n os
    exact ⟨_, rfl, rfl, h1, h2.mono (fun b _ e => ⟨_, rfl, e⟩)⟩
end Go.Proofs.YtggecdldnpildaaGreat
namespace Go.HL
open Go.RowKit
/-- a row of numbers among others -/
structure Rz where
  ao : Option Addr
  cap : Nat
  xs : List Int
def erz : Enc Rz := ⟨1, fun r => [.slice r.ao r.xs.length r.cap], fun _ => rfl, by simp [Value.oneCell'], by decide⟩
end Go.HL
namespace Go.Proofs.YtggecdldnpildaaGreat
open Go.RowKit Go.HL
set_option maxRecDepth 100000

/-! rows of numbers: a copy; two of them joined -/
theorem zclone_calls {S : Nat → Prop} {w : World} {ao : Option Addr} {c : Nat} {b : List Int} (hr : RSl S w ei ao c b) (hl : b.length ≤ 100000) :
    Calls Tryz.prog 75 [.slice ao b.length c].toArray w (Ret fun v w' => (∃ (ao' : Option Addr) (c' : Nat), v = .slice ao' b.length c' ∧ Row (w.heap.size ≤ ·) w' 3 ei ao' c' b) ∧ Chg Nob w w') := by
  replace hr := hr.old
  have hw := Chg.refl Nob w
  refine Calls.of_WC Tryz.func75 rfl Tryz.ntmps75 (by simp) ?_
  refine WC.seq (WC.region (WL.assign rfl rfl (WL.nil (WX.then_normal (WC.seq (WC.seq (WC.region (?_))))))))
  refine WL.move rfl rfl (?_)
  refine WL.isNil? Tryz.underlying39 rfl rfl rfl (fun h4 => ?_) (fun h4 => ?_)
  ·
    refine WL.nil (WX.then_normal (WC.cond_true rfl (WC.seq (WC.region (WL.assign rfl rfl (WL.nil (WX.then_normal (?_))))))))
    refine WC.ret (WX.then_ret (?_))
    refine WX.ret1 (.inl rfl) Tryz.results75 rfl ?_
    subst h4
    have hn := hr.none_nil
    subst hn
    exact ⟨_, rfl, ⟨none, 0, rfl, Row.nil _ _ _ _⟩, hw⟩
  ·
    refine WL.nil (WX.then_normal (WC.cond_false rfl (WC.skip (WX.then_normal (WC.seq (WC.region (?_)))))))
    refine WL.build (e := ei) [] Tryz.underlying39 Tryz.sizeOf3 Tryz.zeroValue3 rfl rfl rfl (by simp [Value.cells]; done) (by decide) rfl ?_
    intro a_hq w_hq hq l_hq z_hq k_hq
    have zs_k_hq := k_hq.size
    replace hr := hr.pure k_hq
    replace hw := hw.pure k_hq
    refine WL.move rfl rfl (?_)
    refine WL.append (e := ei) info_3 rfl Tryz.underlying39 rfl rfl hq (hr.src Tryz.underlying39) (by (try simp only [List.length_append, List.length_cons, List.length_nil] at *); omega) (by intro b hb; first | (apply hS; omega) | ((try dsimp only); omega)) rfl ?_
    intro a_hq2 c_hq2 w_hq2 hq2 g_hq2 n_hq2
    have z_hq2 := g_hq2.chg.size
    have zs_g_hq2_chg := g_hq2.chg.size
    replace hr := hr.chg g_hq2.chg (by intros; exfalso; (try dsimp only at *); omega)
    replace hw := hw.chg g_hq2.chg (by intros; exfalso; (try dsimp only at *); omega)
    refine WL.assign rfl rfl (WL.nil (WX.then_normal (WC.ret (?_))))
    refine WX.ret1 (.inl rfl) Tryz.results75 rfl ?_
    exact ⟨_, rfl, ⟨_, _, rfl, hq2⟩, hw⟩
theorem zgrow_calls {w : World} (n : Nat) (hn : n ≤ 100000) : Calls Tryz.prog 71 [.slice none 0 0, vi (n : Int)].toArray w (Ret fun v w' => (∃ g c, v = .slice g 0 c ∧ Row (w.heap.size ≤ ·) w' 3 ei g c []) ∧ Chg Nob w w') := by
  have hw := Chg.refl Nob w
  rcases Nat.eq_zero_or_pos n with h0 | h0
  · subst h0
    refine Calls.of_WC Tryz.func71 rfl Tryz.ntmps71 (by simp) ?_
    refine WC.seq (WC.region (WL.assign rfl rfl (WL.nil (WX.then_normal (WC.seq (WC.seq (WC.region (?_))))))))
    refine WL.move rfl rfl (?_)
    refine WL.lssF rfl rfl rfl (by omega) ?_
    refine WL.nil (WX.then_normal (WC.cond_false rfl (WC.skip (WX.then_normal (WC.seq (WC.seq (WC.region (?_))))))))
    refine WL.move rfl rfl (WL.move rfl rfl (?_))
    refine WL.cap Tryz.underlying39 rfl rfl ?_
    refine WL.move rfl rfl (WL.len Tryz.underlying39 rfl rfl (WL.sub64 rfl rfl (by omega) rfl (WL.sub64 rfl rfl (by omega) rfl (WL.assign rfl rfl (WL.nil (WX.then_normal (WC.seq (?_))))))))
    refine WC.region (WL.move rfl rfl (?_))
    refine WL.gtrF rfl rfl rfl (by omega) ?_
    refine WL.nil (WX.then_normal (WC.cond_false rfl (WC.skip (WX.then_normal (WC.seq (WC.region (WL.move rfl rfl (?_))))))))
    refine WL.assign rfl rfl (WL.nil (WX.then_normal (WC.ret (?_))))
    refine WX.ret1 (.inl rfl) Tryz.results71 rfl ?_
    exact ⟨_, rfl, ⟨none, 0, rfl, Row.nil _ _ _ _⟩, hw⟩
  ·
    refine Calls.of_WC Tryz.func71 rfl Tryz.ntmps71 (by simp) ?_
    refine WC.seq (WC.region (WL.assign rfl rfl (WL.nil (WX.then_normal (WC.seq (WC.seq (WC.region (?_))))))))
    refine WL.move rfl rfl (?_)
    refine WL.lssF rfl rfl rfl (by omega) ?_
    refine WL.nil (WX.then_normal (WC.cond_false rfl (WC.skip (WX.then_normal (WC.seq (WC.seq (WC.region (?_))))))))
    refine WL.move rfl rfl (WL.move rfl rfl (?_))
    refine WL.cap Tryz.underlying39 rfl rfl ?_
    refine WL.move rfl rfl (WL.len Tryz.underlying39 rfl rfl (WL.sub64 rfl rfl (by omega) rfl (WL.sub64 rfl rfl (by omega) rfl (WL.assign rfl rfl (WL.nil (WX.then_normal (WC.seq (?_))))))))
    refine WC.region (WL.move rfl rfl (?_))
    refine WL.gtrT rfl rfl rfl (by omega) ?_
    refine WL.nil (WX.then_normal (WC.cond_true rfl (WC.region (WL.move rfl rfl (WL.move rfl rfl (?_))))))
    refine WL.cap Tryz.underlying39 rfl rfl ?_
    refine WL.sliceN (l := 0) (h := 0) (k := .i64) Tryz.underlying39 Tryz.sizeOf3 rfl (.inr ⟨rfl, rfl⟩) (.inl ⟨rfl, Nat.le_refl _⟩) (Nat.le_refl _) rfl ?_
    refine WL.move rfl rfl (?_)
    refine WL.appendZ (e := ei) (n := n) info_3 rfl Tryz.underlying39 Tryz.underlying3 rfl (by show some (vi ((n : Int) - (((0 : Nat) : Int) - ((0 : Nat) : Int)))) = some (vi (n : Int)); rw [show (n : Int) - (((0 : Nat) : Int) - ((0 : Nat) : Int)) = (n : Int) by omega]) ⟨by omega, by omega, by omega⟩ rfl ?_
    intro g c w3 hr hc k3 eg
    have zs_k3 := k3.size
    replace hw := hw.pure k3
    refine WL.move rfl rfl (WL.len Tryz.underlying39 rfl rfl (?_))
    refine WL.sliceN (l := 0) (h := 0) (k := .i64) Tryz.underlying39 Tryz.sizeOf3 rfl (.inr ⟨rfl, rfl⟩) (.inl ⟨rfl, Nat.zero_le _⟩) (Nat.le_refl _) rfl ?_
    refine WL.assign rfl rfl (WL.nil (WX.then_normal (WC.seq (WC.region (WL.move rfl rfl (WL.assign rfl rfl (WL.nil (?_))))))))
    refine WX.then_normal (WC.ret (?_))
    refine WX.ret1 (.inl rfl) Tryz.results71 rfl ?_
    have e1 : cutAt (some (⟨g, 0, none⟩ : Addr)) c 0 1 = some ⟨g, 0, none⟩ := by unfold cutAt; split <;> simp [Addr.add_lit]
    refine ⟨_, rfl, ⟨some ⟨g, 0, none⟩, c, ?_, hr.mono (fun b hb => by have h9 : b = g := hb; show w.heap.size ≤ b; omega)⟩, hw⟩
    simp [e1]
theorem zconcat_calls {S S1 : Nat → Prop} {w : World} {ao : Option Addr} {c : Nat} {r1 r2 : Rz} (ho : RSl S w erz ao c [r1, r2]) (h1 : RSl S1 w ei r1.ao r1.cap r1.xs) (h2 : RSl S1 w ei r2.ao r2.cap r2.xs) (l1 : r1.xs.length ≤ 10000) (l2 : r2.xs.length ≤ 10000) :
    Calls Tryz.prog 50 [.slice ao 2 c].toArray w (Ret fun v w' => (∃ g c2, v = .slice g (r1.xs ++ r2.xs).length c2 ∧ Row (w.heap.size ≤ ·) w' 3 ei g c2 (r1.xs ++ r2.xs)) ∧ Chg Nob w w') := by
  have hw := Chg.refl Nob w
  replace ho := ho.old
  replace h1 := h1.old
  replace h2 := h2.old
  obtain ⟨sm, hsm⟩ : ∃ sm : Nat → Nat, sm = fun i => if i = 0 then 0 else if i = 1 then r1.xs.length else r1.xs.length + r2.xs.length := ⟨_, rfl⟩
  obtain ⟨jn, hjn⟩ : ∃ jn : Nat → List Int, jn = fun i => if i = 0 then [] else if i = 1 then r1.xs else r1.xs ++ r2.xs := ⟨_, rfl⟩
  have hs0 : sm 0 = 0 := by rw [hsm]; rfl
  have hj0 : jn 0 = [] := by rw [hjn]; rfl
  have hs2 : sm 2 = r1.xs.length + r2.xs.length := by rw [hsm]; rfl
  have hst : ∀ i r, i < 2 → [r1, r2][i]? = some r → sm (i + 1) = sm i + r.xs.length ∧ r.xs.length ≤ 10000 ∧ sm i ≤ 10000 ∧ jn (i + 1) = jn i ++ r.xs ∧ (jn i).length ≤ 10000 := fun i r hi hr => by
    have h3 : i = 0 ∨ i = 1 := by omega
    rcases h3 with rfl | rfl
    · injection hr with hr
      subst hr
      rw [hsm, hjn]
      exact ⟨by simp, by omega, by simp, by simp, by simp⟩
    · injection hr with hr
      subst hr
      rw [hsm, hjn]
      exact ⟨by simp, by omega, by simp; omega, by simp, by simp; omega⟩
  refine Calls.of_WC Tryz.func50 rfl Tryz.ntmps50 (by simp) ?_
  refine WC.seq (WC.region (WL.assign rfl rfl (WL.nil (WX.then_normal (WC.seq (WC.region (WL.assign rfl rfl (?_))))))))
  refine WL.nil (WX.then_normal (WC.seq (WC.seq (WC.region (WL.move rfl rfl (WL.len Tryz.underlying124 rfl rfl (WL.move rfl rfl (?_))))))))
  refine WL.nil (WX.then_normal (WC.block (?_)))
  refine WC.loop (σ := Nat) (fun i => [(0, .slice ao 2 c), (3, vi (sm i : Int)), (9, .slice ao 2 c), (10, vi 2), (11, vi (i : Int))]) (fun i w' => i ≤ 2 ∧ RSl (· < w.heap.size) w' erz ao c [r1, r2] ∧ RSl (· < w.heap.size) w' ei r1.ao r1.cap r1.xs ∧ RSl (· < w.heap.size) w' ei r2.ao r2.cap r2.xs ∧ Chg Nob w w') (fun i => 2 - i) 0 ⟨rfl, by rw [hs0]; rfl, rfl, rfl, rfl, trivial⟩ ⟨Nat.zero_le _, ho, h1, h2, hw⟩ ?_
  clear ho h1 h2 hw
  rintro i w1 ⟨hi, ho, h1, h2, hw⟩
  refine WC.seq (WC.region (?_))
  refine WL.lss? rfl rfl rfl (fun h12 => ?_) (fun h12 => ?_)
  ·
    refine WL.nil (WX.then_normal (WC.seq (WC.cond_true rfl (WC.skip (WX.then_normal (WC.seq (WC.block (?_))))))))
    refine WC.seq (WC.region (?_))
    obtain ⟨r, hr⟩ : ∃ r, [r1, r2][i]? = some r := ⟨_, List.getElem?_eq_getElem (by simp; omega)⟩
    obtain ⟨e1, e2, e3, -, -⟩ := hst i r (by omega) hr
    refine WL.indexT (e := erz) Tryz.underlying124 Tryz.sizeOf39 ho rfl rfl ⟨hr, rfl⟩ rfl ?_
    intro bb oo hcc
    refine WL.load Tryz.isAgg39 rfl (hcc 0 _ rfl) rfl ?_
    refine WL.assign rfl rfl (WL.nil (WX.then_normal (WC.seq (WC.region (WL.move rfl rfl (WL.move rfl rfl (WL.len Tryz.underlying39 rfl rfl (?_))))))))
    refine WL.add64 rfl rfl (by omega) rfl (WL.assign rfl rfl (WL.nil (WX.then_normal (WC.seq (WC.region (WL.move rfl rfl (?_)))))))
    refine WL.lssF rfl rfl rfl (by omega) ?_
    refine WL.nil (WX.then_normal (WC.cond_false rfl (WC.skip (WX.block_normal (WX.then_normal (WC.region (WL.add64 rfl rfl (by omega) rfl (?_))))))))
    refine WL.move rfl rfl (WL.nil (?_))
    exact WX.loop_next (i + 1) ⟨rfl, by simp [List.lookup, ev, e1], rfl, rfl, rfl, trivial⟩ ⟨by omega, ho, h1, h2, hw⟩ (by omega)
  ·
    refine WL.nil (WX.then_normal (WC.seq (WC.cond_false rfl (WC.exit (WX.then_exit (WX.then_exit (WX.block_here (?_))))))))
    refine WX.then_normal (WC.seq (WC.region (WL.move rfl rfl (?_))))
    have hi2 : i = 2 := by omega
    subst hi2
    rw [hs2]
    have zw1 := hw.size
    refine WL.call eg_71 rfl rfl (zgrow_calls (r1.xs.length + r2.xs.length) (by omega)) ?_
    rintro v w2 ⟨⟨g, cg, rfl, hg⟩, k2⟩
    have zs_k2 := k2.size
    replace ho := ho.pure k2
    replace h1 := h1.pure k2
    replace h2 := h2.pure k2
    replace hw := hw.pure k2
    refine WL.assign rfl rfl (WL.nil (WX.then_normal (WC.seq (WC.seq (WC.region (WL.move rfl rfl (WL.len Tryz.underlying124 rfl rfl (?_))))))))
    refine WL.move rfl rfl (WL.nil (WX.then_normal (WC.block (?_))))
    refine WC.loop (σ := Nat × Option Addr × Nat) (fun q => [(0, .slice ao 2 c), (6, .slice q.2.1 (jn q.1).length q.2.2), (25, .slice ao 2 c), (26, vi 2), (27, vi (q.1 : Int))]) (fun q w' => q.1 ≤ 2 ∧ RSl (· < w.heap.size) w' erz ao c [r1, r2] ∧ RSl (· < w.heap.size) w' ei r1.ao r1.cap r1.xs ∧ RSl (· < w.heap.size) w' ei r2.ao r2.cap r2.xs ∧ Row (w.heap.size ≤ ·) w' 3 ei q.2.1 q.2.2 (jn q.1) ∧ Chg Nob w w') (fun q => 2 - q.1) (0, g, cg) ⟨rfl, by rw [hj0]; rfl, rfl, rfl, rfl, trivial⟩ ⟨Nat.zero_le _, ho, h1, h2, by rw [hj0]; exact hg.mono (fun b hb => by have h9 : _ ≤ b := hb; show w.heap.size ≤ b; omega), hw⟩ ?_
    clear ho h1 h2 hw hg
    rintro ⟨i, g, cg⟩ w1 ⟨hi, ho, h1, h2, hg, hw⟩
    simp only at hi hg
    dsimp only
    have zw1 := hw.size
    refine WC.seq (WC.region (?_))
    refine WL.lss? rfl rfl rfl (fun h28 => ?_) (fun h28 => ?_)
    ·
      refine WL.nil (WX.then_normal (WC.seq (WC.cond_true rfl (WC.skip (WX.then_normal (WC.seq (WC.block (?_))))))))
      refine WC.seq (WC.region (?_))
      obtain ⟨r, hr⟩ : ∃ r, [r1, r2][i]? = some r := ⟨_, List.getElem?_eq_getElem (by simp; omega)⟩
      obtain ⟨-, e2, -, e4, e5⟩ := hst i r (by omega) hr
      have hri : RSl (· < w.heap.size) w1 ei r.ao r.cap r.xs := by
        have h3 : i = 0 ∨ i = 1 := by omega
        rcases h3 with rfl | rfl
        ·
          injection hr with hr; subst hr; exact h1
        ·
          injection hr with hr; subst hr; exact h2
      refine WL.indexT (e := erz) Tryz.underlying124 Tryz.sizeOf39 ho rfl rfl ⟨hr, rfl⟩ rfl ?_
      intro bb oo hcc
      refine WL.load Tryz.isAgg39 rfl (hcc 0 _ rfl) rfl ?_
      refine WL.assign rfl rfl (WL.nil (WX.then_normal (WC.region (WL.move rfl rfl (WL.move rfl rfl (?_))))))
      refine WL.append (e := ei) info_3 rfl Tryz.underlying39 rfl rfl hg (hri.src Tryz.underlying39) (by constructor <;> omega) (fun b hb => by have h9 : _ ≤ b := hb; show w.heap.size ≤ b; omega) rfl ?_
      intro a2 c2 w5 hg2 gg nn
      replace ho := ho.chg gg.chg (fun b _ h2 h3 => by have := h3.2; omega)
      replace h1 := h1.chg gg.chg (fun b _ h2 h3 => by have := h3.2; omega)
      replace h2 := h2.chg gg.chg (fun b _ h2 h3 => by have := h3.2; omega)
      replace hw := hw.chg gg.chg (fun b h2 h3 => by have := h3.2; omega)
      rw [← e4] at hg2 ⊢
      refine WL.assign rfl rfl (WL.nil (WX.block_normal (WX.then_normal (WC.region (WL.add64 rfl rfl (by omega) rfl (WL.move rfl rfl (WL.nil (?_))))))))
      exact WX.loop_next (i + 1, a2, c2) ⟨rfl, rfl, rfl, rfl, rfl, trivial⟩ ⟨by show i + 1 ≤ 2; omega, ho, h1, h2, hg2, hw⟩ (by show 2 - (i + 1) < 2 - i; omega)
    ·
      refine WL.nil (WX.then_normal (WC.seq (WC.cond_false rfl (WC.exit (WX.then_exit (WX.then_exit (WX.block_here (?_))))))))
      refine WX.then_normal (WC.seq (WC.region (WL.move rfl rfl (WL.assign rfl rfl (WL.nil (WX.then_normal (WC.ret (?_))))))))
      refine WX.ret1 (.inl rfl) Tryz.results50 rfl ?_
      have hi2 : i = 2 := by omega
      subst hi2
      have e2 : jn 2 = r1.xs ++ r2.xs := by rw [hjn]; rfl
      rw [e2] at hg ⊢
      exact ⟨_, rfl, ⟨g, cg, rfl, hg⟩, hw⟩
/-! the drives that aren't gone -/
abbrev fnGon (g : Nat) : Value := .func (.func 47) #[] #[ptr g]
theorem isgon_calls {S : Nat → Prop} {w : World} {g : Nat} {ga : Option Addr} {gc : Nat} {G : List Int} (hD : Blk w g 39 [.slice ga G.length gc]) (hG : RSl S w ei ga gc G) (hl : G.length ≤ 100000) (x : Int) : Calls Tryz.prog 47 [vi x, ptr g].toArray w (Ret fun v w' => v = .bool (decide (x ∈ G)) ∧ Chg Nob w w') := by
  have hw := Chg.refl Nob w
  refine Calls.of_WC Tryz.func47 rfl Tryz.ntmps47 (by simp) ?_
  refine WC.seq (WC.region (WL.assign rfl rfl (WL.nil (WX.then_normal (WC.seq (WC.region (WL.loadB Tryz.isAgg39 hD rfl rfl rfl (?_))))))))
  refine WL.move rfl rfl (?_)
  refine WL.call eg_48 rfl rfl (contains_calls hG (by omega) x) ?_
  rintro v w2 ⟨rfl, k2⟩
  have zs_k2 := k2.size
  replace hD := hD.pure k2
  replace hG := hG.pure k2
  replace hw := hw.pure k2
  refine WL.assign rfl rfl (WL.nil (WX.then_normal (WC.ret (?_))))
  refine WX.ret1 (.inl rfl) Tryz.results47 rfl ?_
  exact ⟨_, rfl, rfl, hw⟩
theorem zindex_calls {S S2 : Nat → Prop} {w : World} {g : Nat} {ga : Option Addr} {gc : Nat} {G : List Int} (hD : Blk w g 39 [.slice ga G.length gc]) (hG : RSl S2 w ei ga gc G) (hl : G.length ≤ 100000) {wa : Option Addr} {wc : Nat} {ws : List Int} (hW : Row S w 3 ei wa wc ws) :
    Calls Tryz.prog 69 [.slice wa ws.length wc, fnGon g].toArray w (Ret fun v w' => (∃ k : Int, v = vi k ∧ ((k = -1 ∧ ∀ x ∈ ws, x ∉ G) ∨ ∃ (i : Nat) (x : Int), k = (i : Int) ∧ ws[i]? = some x ∧ x ∈ G ∧ ∀ j x, j < i → ws[j]? = some x → x ∉ G)) ∧ Chg Nob w w') := by
  have hw := Chg.refl Nob w
  have hws : ws.length ≤ 9223372036854775807 := by
    have hcap := hW.own.cap
    rcases hW.own.2.2 with ⟨_, h⟩ | ⟨_, _, _, _, _, _, h, _⟩
    · omega
    · simp only [maxLen] at h; omega
  refine Calls.of_WC Tryz.func69 rfl Tryz.ntmps69 (by simp) ?_
  refine WC.seq (WC.region (WL.assign rfl rfl (WL.nil (WX.then_normal (WC.seq (WC.seq (WC.region (?_))))))))
  refine WL.move rfl rfl (WL.len Tryz.underlying39 rfl rfl (WL.move rfl rfl (WL.nil (WX.then_normal (WC.block (?_))))))
  refine WC.loop (σ := Nat) (fun i => [(0, .slice wa ws.length wc), (1, fnGon g), (7, vi ws.length), (8, vi (i : Int))]) (fun i w' => i ≤ ws.length ∧ Blk w' g 39 [.slice ga G.length gc] ∧ RSl S2 w' ei ga gc G ∧ Row S w' 3 ei wa wc ws ∧ Chg Nob w w' ∧ ∀ j x, j < i → ws[j]? = some x → x ∉ G) (fun i => ws.length - i) 0 ⟨rfl, rfl, rfl, rfl, trivial⟩ ⟨Nat.zero_le _, hD, hG, hW, hw, fun j x hj => by omega⟩ ?_
  clear hD hG hW hw
  rintro i w1 ⟨hi, hD, hG, hW, hw, hno⟩
  refine WC.seq (WC.region (?_))
  refine WL.lss? rfl rfl rfl (fun h9 => ?_) (fun h9 => ?_)
  ·
    refine WL.nil (WX.then_normal (WC.seq (WC.cond_true rfl (WC.skip (WX.then_normal (WC.seq (WC.block (?_))))))))
    refine WC.seq (WC.region (WL.move rfl rfl (WL.assign rfl rfl (WL.nil (WX.then_normal (WC.seq (WC.region (?_))))))))
    refine WL.move rfl rfl (WL.move rfl rfl (WL.move rfl rfl (?_)))
    obtain ⟨x, hx⟩ : ∃ x, ws[i]? = some x := ⟨_, List.getElem?_eq_getElem (by omega)⟩
    refine WL.indexT (e := ei) Tryz.underlying39 Tryz.sizeOf3 hW.rsl rfl rfl ⟨hx, rfl⟩ rfl ?_
    intro bb oo hcc
    refine WL.load Tryz.isAgg3 rfl (hcc 0 _ rfl) rfl (?_)
    refine WL.callv eg_47 rfl rfl rfl (isgon_calls hD hG hl x) ?_
    rintro v w2 ⟨rfl, k2⟩
    have zs_k2 := k2.size
    replace hD := hD.pure k2
    replace hG := hG.pure k2
    replace hW := hW.pure k2
    replace hw := hw.pure k2
    by_cases hxG : x ∈ G
    ·
      rw [decide_eq_true hxG]
      refine WL.nil (WX.then_normal (WC.cond_true rfl (WC.seq (WC.region (WL.move rfl rfl (WL.assign rfl rfl (WL.nil (?_))))))))
      refine WX.then_normal (WC.ret (WX.block_ret (WX.then_ret (WX.then_ret (WX.block_ret (WX.then_ret (?_)))))))
      refine WX.ret1 (.inl rfl) Tryz.results69 rfl ?_
      exact ⟨_, rfl, ⟨_, rfl, .inr ⟨i, x, rfl, hx, hxG, hno⟩⟩, hw⟩
    ·
      rw [decide_eq_false hxG]
      refine WL.nil (WX.then_normal (WC.cond_false rfl (WC.skip (WX.block_normal (WX.then_normal (WC.region (WL.add64 rfl rfl (by omega) rfl (?_))))))))
      refine WL.move rfl rfl (WL.nil (?_))
      refine WX.loop_next (i + 1) ⟨rfl, rfl, rfl, rfl, trivial⟩ ⟨by omega, hD, hG, hW, hw, fun j y hj hy => ?_⟩ (by omega)
      rcases Nat.lt_or_ge j i with h1 | h1
      ·
        exact hno j y h1 hy
      ·
        have h2 : j = i := by omega
        subst h2
        rw [hx] at hy
        injection hy with hy
        subst hy
        exact hxG
  ·
    refine WL.nil (WX.then_normal (WC.seq (WC.cond_false rfl (WC.exit (WX.then_exit (WX.then_exit (WX.block_here (?_))))))))
    refine WX.then_normal (WC.seq (WC.region (WL.assign rfl rfl (WL.nil (WX.then_normal (WC.ret (?_)))))))
    refine WX.ret1 (.inl rfl) Tryz.results69 rfl ?_
    refine ⟨_, rfl, ⟨_, rfl, .inl ⟨rfl, fun y hy => ?_⟩⟩, hw⟩
    obtain ⟨k, hk, rfl⟩ := List.getElem_of_mem hy
    exact hno k _ (by omega) (List.getElem?_eq_getElem hk)
def rstA (G ws : List Int) : List Int := ws.filter fun d => !decide (d ∈ G)
theorem rstA_all {G ws : List Int} (h : ∀ x ∈ ws, x ∉ G) : rstA G ws = ws := List.filter_eq_self.2 fun x hx => by simp [h x hx]
theorem rstA_snoc {G ws : List Int} {j : Nat} {x : Int} (hx : ws[j]? = some x) : rstA G (ws.take (j + 1)) = if x ∈ G then rstA G (ws.take j) else rstA G (ws.take j) ++ [x] := by
  unfold rstA
  rw [List.take_add_one, hx, Option.toList_some, List.filter_append]
  by_cases h : x ∈ G <;> simp [h]
theorem rst_calls {S S2 : Nat → Prop} {w : World} {g : Nat} {ga : Option Addr} {gc : Nat} {G : List Int} (hD : Blk w g 39 [.slice ga G.length gc]) (hG : RSl S2 w ei ga gc G) (hl : G.length ≤ 100000) {wa : Option Addr} {wc : Nat} {ws : List Int} (hW : Row S w 3 ei wa wc ws) (hSS : ∀ b, S b → S2 b → False) (hSg : ∀ b, S b → b ≠ g) :
    Calls Tryz.prog 46 [.slice wa ws.length wc, fnGon g].toArray w (Ret fun v w' => v = .slice wa (rstA G ws).length wc ∧ Row S w' 3 ei wa wc (rstA G ws) ∧ Chg (fun b => Eqb wa b) w w') := by
  have hw := Chg.refl (fun b => Eqb wa b) w
  have hat := hW.at_
  have hws : ws.length ≤ 9223372036854775807 := by
    have hcap := hW.own.cap
    rcases hW.own.2.2 with ⟨_, h⟩ | ⟨_, _, _, _, _, _, h, _⟩
    · omega
    · simp only [maxLen] at h; omega
  refine Calls.of_WC Tryz.func46 rfl Tryz.ntmps46 (by simp) ?_
  refine WC.seq (WC.region (WL.assign rfl rfl (WL.nil (WX.then_normal (WC.seq (WC.region (WL.move rfl rfl (?_))))))))
  refine WL.move rfl rfl (?_)
  refine WL.call eg_69 rfl rfl (zindex_calls hD hG hl hW) ?_
  rintro v w2 ⟨⟨k, rfl, hix⟩, k2⟩
  have zs_k2 := k2.size
  replace hD := hD.pure k2
  replace hG := hG.pure k2
  replace hW := hW.pure k2
  replace hw := hw.pure k2
  refine WL.assign rfl rfl (WL.nil (WX.then_normal (WC.seq (WC.seq (WC.region (WL.move rfl rfl (?_)))))))
  refine WL.eql? rfl rfl rfl (fun h12 => ?_) (fun h12 => ?_)
  ·
    refine WL.nil (WX.then_normal (WC.cond_true rfl (WC.seq (WC.region (WL.move rfl rfl (WL.assign rfl rfl (WL.nil (?_))))))))
    refine WX.then_normal (WC.ret (WX.then_ret (?_)))
    refine WX.ret1 (.inl rfl) Tryz.results46 rfl ?_
    have hk1 : k = -1 := h12
    rcases hix with ⟨-, hno⟩ | ⟨i0, x0, e0, -⟩
    ·
      rw [rstA_all hno]
      exact ⟨_, rfl, rfl, hW, hw⟩
    ·
      omega
  ·
    refine WL.nil (WX.then_normal (WC.cond_false rfl (WC.skip (WX.then_normal (WC.seq (WC.seq (WC.region (?_))))))))
    refine WL.move rfl rfl (?_)
    obtain ⟨i0, x0, rfl, hx0, hxd, hno⟩ := hix.resolve_left (fun h => h12 h.1)
    have hi0 := (List.getElem?_eq_some_iff.1 hx0).1
    obtain ⟨gw, rfl⟩ := hW.place0 hi0
    have lgw := hW.own.lt _ rfl
    have hSw : S gw := hat _ rfl
    have h0i : ws.take i0 = rstA G (ws.take (i0 + 1)) := by
      rw [rstA_snoc hx0, if_pos hxd, rstA_all]
      intro x hx
      obtain ⟨k, hk, rfl⟩ := List.getElem_of_mem hx
      have hk2 : k < i0 := by simp at hk; omega
      refine hno k _ hk2 ?_
      rw [List.getElem_take]
      exact List.getElem?_eq_getElem (by omega)
    refine WL.add64 rfl rfl (by constructor <;> omega) rfl ?_
    refine WL.assign rfl rfl (WL.nil (WX.then_normal (WC.block (?_))))
    have zw := hw.size
    refine WC.loop (σ := Nat × Nat × List Int) (fun q => [(0, .slice (some ⟨gw, 0, none⟩) ws.length wc), (1, fnGon g), (5, vi (q.1 : Int)), (6, vi (q.2.1 : Int))]) (fun q w' => (q.1 < q.2.1 ∧ q.2.1 ≤ ws.length) ∧ q.2.2.length = ws.length ∧ q.2.2.take q.1 = rstA G (ws.take q.2.1) ∧ (∀ k, q.2.1 ≤ k → q.2.2[k]? = ws[k]?) ∧ Blk w' g 39 [.slice ga G.length gc] ∧ RSl S2 w' ei ga gc G ∧ Row S w' 3 ei (some ⟨gw, 0, none⟩) wc q.2.2 ∧ Chg (fun b => Eqb (some ⟨gw, 0, none⟩) b) w w') (fun q => ws.length - q.2.1) (i0, i0 + 1, ws) ⟨rfl, rfl, rfl, rfl, trivial⟩ ⟨⟨Nat.lt_succ_self _, hi0⟩, rfl, h0i, fun _ _ => rfl, hD, hG, hW, hw⟩ ?_
    clear hD hG hW hw
    rintro ⟨i, j, xs⟩ w1 ⟨⟨hij, hj⟩, hlen, htk, hdr, hD, hG, hW, hw⟩
    simp only at hij hj hlen htk hdr hW
    dsimp only
    refine WC.seq (WC.seq (WC.region (WL.move rfl rfl (WL.move rfl rfl (WL.len Tryz.underlying39 rfl rfl (?_))))))
    refine WL.lss? rfl rfl rfl (fun h19 => ?_) (fun h19 => ?_)
    ·
      refine WL.nil (WX.then_normal (WC.cond_true rfl (WC.skip (WX.then_normal (WC.seq (WC.block (WC.seq (?_))))))))
      refine WC.region (WL.move rfl rfl (WL.move rfl rfl (?_)))
      obtain ⟨x, hx⟩ : ∃ x, ws[j]? = some x := ⟨_, List.getElem?_eq_getElem (by omega)⟩
      have hx2 : xs[j]? = some x := (hdr j (Nat.le_refl _)).trans hx
      refine WL.indexT (e := ei) Tryz.underlying39 Tryz.sizeOf3 hW.rsl (show _ = some (Value.slice (some ⟨gw, 0, none⟩) xs.length wc) from by rw [hlen]; rfl) rfl ⟨hx2, rfl⟩ rfl ?_
      intro bb oo hcc
      refine WL.load Tryz.isAgg3 rfl (hcc 0 _ rfl) rfl (WL.assign rfl rfl (WL.nil (WX.then_normal (WC.seq (WC.region (WL.move rfl rfl (WL.move rfl rfl (?_))))))))
      refine WL.callv eg_47 rfl rfl rfl (isgon_calls hD hG hl x) ?_
      rintro v w3 ⟨rfl, k3⟩
      have zs_k3 := k3.size
      replace hD := hD.pure k3
      replace hG := hG.pure k3
      replace hW := hW.pure k3
      replace hw := hw.pure k3
      by_cases hxG : x ∈ G
      ·
        rw [decide_eq_true hxG]
        refine WL.not rfl rfl ?_
        refine WL.nil (WX.then_normal (WC.cond_false rfl (WC.skip (WX.block_normal (WX.then_normal (WC.region (WL.move rfl rfl (?_))))))))
        refine WL.add64 rfl rfl (by omega) rfl (WL.assign rfl rfl (WL.nil (?_)))
        refine WX.loop_next (i, j + 1, xs) ⟨rfl, rfl, rfl, rfl, trivial⟩ ⟨⟨by show i < j + 1; omega, by show j + 1 ≤ _; omega⟩, hlen, ?_, ?_, hD, hG, hW, hw⟩ (by show ws.length - (j + 1) < ws.length - j; omega)
        ·
          show xs.take i = rstA G (ws.take (j + 1))
          rw [rstA_snoc hx, if_pos hxG, htk]
        ·
          intro k hk
          have hk' : j + 1 ≤ k := hk
          exact hdr k (by omega)
      ·
        rw [decide_eq_false hxG]
        refine WL.not rfl rfl ?_
        refine WL.nil (WX.then_normal (WC.cond_true rfl (WC.seq (WC.region (WL.move rfl rfl (WL.move rfl rfl (WL.move rfl rfl (?_))))))))
        refine WL.index (j := i) Tryz.underlying39 Tryz.sizeOf3 rfl rfl rfl (by omega) rfl ?_
        refine WL.storeRow (z := x) i Tryz.sizeOf3 hW rfl rfl rfl (by show 0 + i * 1 = i; omega) (by omega) rfl ?_
        intro w8 z8 hW8 k8
        replace hD := hD.chg k8 (fun h => hSg gw hSw h.symm)
        replace hG := hG.chg k8 (fun b _ h1 h2 => hSS gw hSw ((show b = gw from h2) ▸ h1))
        replace hw := hw.chg k8 (fun x _ h => ⟨_, rfl, h⟩)
        refine WL.nil (WX.then_normal (WC.region (WL.move rfl rfl (WL.add64 rfl rfl (by omega) rfl (WL.assign rfl rfl (WL.nil (WX.block_normal (?_))))))))
        refine WX.then_normal (WC.region (WL.move rfl rfl (WL.add64 rfl rfl (by omega) rfl (WL.assign rfl rfl (WL.nil (?_))))))
        refine WX.loop_next (i + 1, j + 1, xs.set i x) ⟨rfl, rfl, rfl, rfl, trivial⟩ ⟨⟨by show i + 1 < j + 1; omega, by show j + 1 ≤ _; omega⟩, by show (xs.set i x).length = _; rw [List.length_set, hlen], ?_, ?_, hD, hG, hW8, hw⟩ (by show ws.length - (j + 1) < ws.length - j; omega)
        ·
          show (xs.set i x).take (i + 1) = rstA G (ws.take (j + 1))
          rw [rstA_snoc hx, if_neg hxG, ← htk, List.take_add_one, List.take_set_of_le (Nat.le_refl _), List.getElem?_set_self (by omega)]
          rfl
        ·
          intro k hk
          have hk' : j + 1 ≤ k := hk
          show (xs.set i x)[k]? = ws[k]?
          rw [List.getElem?_set_ne (by omega)]
          exact hdr k (by omega)
    ·
      refine WL.nil (WX.then_normal (WC.cond_false rfl (WC.exit (WX.then_exit (WX.then_exit (WX.block_here (WX.then_normal (?_))))))))
      refine WC.seq (WC.region (WL.move rfl rfl (WL.move rfl rfl (?_))))
      refine WL.sliceC (e := ei) (l := i) (h := xs.length) (k := .i64) (j := .i64) Tryz.underlying39 Tryz.sizeOf3 hW.rsl (by rw [hlen]; rfl) (.inl rfl) (.inr ⟨rfl, rfl⟩) ⟨by omega, Nat.le_refl _⟩ rfl ?_
      refine WL.clearTail (e := ei) (i := i) Tryz.underlying39 Tryz.zeroValue3 rfl (by simp [Value.cells, Value.oneCell']) hW (by rw [List.take_length, List.length_drop]; omega) rfl ?_
      intro w9 z9 hW9 k9
      replace hD := hD.chg k9 (fun h => hSg gw hSw h.symm)
      replace hG := hG.chg k9 (fun b _ h1 h2 => hSS gw hSw ((show b = gw from h2) ▸ h1))
      replace hw := hw.chg k9 (fun x _ h => ⟨_, rfl, h⟩)
      refine WL.nil (WX.then_normal (WC.seq (WC.region (WL.move rfl rfl (WL.move rfl rfl (?_))))))
      refine WL.sliceRow (e := ei) (i := i) Tryz.underlying39 Tryz.sizeOf3 rfl rfl (by have := hW9.own.cap; rw [List.length_take] at this; omega) rfl ?_
      refine WL.assign rfl rfl (WL.nil (WX.then_normal (WC.ret (?_))))
      refine WX.ret1 (.inl rfl) Tryz.results46 rfl ?_
      have hjl : j = ws.length := by omega
      subst hjl
      rw [List.take_length] at htk
      have hil : (rstA G ws).length = i := by rw [← htk, List.length_take]; omega
      rw [htk] at hW9
      exact ⟨_, rfl, by rw [hil], hW9, hw⟩
end Go.Proofs.YtggecdldnpildaaGreat
