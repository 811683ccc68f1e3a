import Derived.Test.YtggecdldnpildaaGreatQArrayApart8
namespace Go.Proofs.YtggecdldnpildaaGreat
open Go.RowKit Go.HL
set_option maxRecDepth 100000

/-! what a block costs; its drives; which are gone; a cell's place -/
theorem cost_good {w : World} {a R n f : Nat} (hB : AB w a R n f) (hn : 5 ≤ n ∧ n ≤ 16) (size : Nat) (hs : 1 ≤ size ∧ size ≤ 1024) :
    Calls Tryz.prog 15 [ptr a, vi size].toArray w (Ret fun v w' => v = .tuple #[vi (costA n (secsA size)), vi 0] ∧ Chg Nob w w') := by
  have hw := Chg.refl Nob w
  have la := hB.lt
  have h8 := secsA_le hs.2
  have h20 := (costA_is hn h8).2
  refine Calls.of_WC Tryz.func15 rfl Tryz.ntmps15 (by simp) ?_
  refine WC.seq (WC.region (WL.assign rfl rfl (WL.assign rfl rfl (WL.nil (WX.then_normal (WC.seq (WC.seq (?_))))))))
  refine WC.region (WL.move rfl rfl (?_))
  refine WL.ptrNil Tryz.underlying31 rfl rfl rfl ?_
  refine WL.move rfl rfl (WL.want rfl rfl rfl (WL.move rfl rfl (WL.want rfl rfl rfl (?_))))
  refine WL.lssF rfl rfl rfl (by omega) ?_
  refine WL.pickF rfl rfl rfl (WL.move rfl rfl (WL.want rfl rfl rfl (WL.move rfl rfl (WL.want rfl rfl rfl (?_)))))
  refine WL.gtrF rfl rfl rfl (by omega) ?_
  refine WL.pickF rfl rfl rfl (WL.nil (WX.then_normal (WC.cond_false rfl (WC.skip (WX.then_normal (WC.seq (WC.region (?_))))))))
  refine WL.assign rfl rfl (WL.nil (WX.then_normal (WC.seq (WC.seq (WC.region (WL.move rfl rfl (WL.move rfl rfl (?_))))))))
  refine WL.call eg_39 rfl rfl (rows_calls hB hn 0 size (by omega) hs.2) ?_
  rintro v w1 ⟨⟨ao, c, rfl, hr⟩, k1⟩
  have zs_k1 := k1.size
  replace hB := hB.pure k1
  replace hw := hw.pure k1
  refine WL.len Tryz.underlying82 rfl rfl (WL.move rfl rfl (WL.nil (WX.then_normal (WC.block (?_)))))
  obtain ⟨rs, hrs⟩ : ∃ rs, rs = rowsA n 0 (secsA size) := ⟨_, rfl⟩
  have hsum : sumR rs = costA n (secsA size) := by rw [hrs]; rfl
  have hrl : rs.length ≤ 8 := by rw [hrs]; exact Nat.le_trans (rowsA_len (by omega) _ _) h8
  rw [← hrs] at hr ⊢
  rw [← hsum]
  refine WC.loop (σ := Nat) (fun i => [(6, vi (sumR (rs.take i) : Nat)), (21, .slice ao rs.length c), (22, vi rs.length), (23, vi (i : Int))]) (fun i w' => i ≤ rs.length ∧ Row (w.heap.size ≤ ·) w' 85 er2 ao c rs ∧ Chg Nob w w') (fun i => rs.length - i) 0 ⟨rfl, rfl, rfl, rfl, trivial⟩ ⟨Nat.zero_le _, hr, hw⟩ ?_
  clear hr hw hB
  rintro i w2 ⟨hi, hr, hw⟩
  replace hr := hr.lt
  have zw2 := hw.size
  refine WC.seq (WC.region (?_))
  refine WL.lss? rfl rfl rfl (fun h24 => ?_) (fun h24 => ?_)
  ·
    refine WL.nil (WX.then_normal (WC.seq (WC.cond_true rfl (WC.skip (WX.then_normal (WC.seq (WC.block (?_))))))))
    refine WC.seq (WC.region (?_))
    obtain ⟨x, hx⟩ : ∃ x, rs[i]? = some x := ⟨_, List.getElem?_eq_getElem (by omega)⟩
    have hxm := rowsA_mem (n := n) (by omega) _ _ _ (hrs ▸ List.mem_of_getElem? hx)
    have htk : sumR (rs.take (i + 1)) = sumR (rs.take i) + (x.2 + 3) := by rw [List.take_add_one, hx, Option.toList_some, sumR_snoc]
    have hle := sumR_take rs (i + 1)
    refine WL.indexT Tryz.underlying82 Tryz.sizeOf85 hr.rsl rfl rfl ⟨hx, rfl⟩ rfl ?_
    intro b_1 o_1 hc_1
    refine WL.loads _ Tryz.isAgg85 Tryz.sizeOf85 rfl hc_1 rfl rfl (?_)
    refine WL.alloc Tryz.zeroValue85 rfl ?_
    intro g_2 w_2 hge_2 hlt_2 hb_2 k_2
    have zs_k_2 := k_2.size
    replace hr := hr.pure k_2
    replace hw := hw.pure k_2
    refine WL.stores Tryz.sizeOf85 hb_2 rfl rfl (by rfl) (by exact Enc.one _ _) (by exact Nat.le_of_ble_eq_true rfl) rfl ?_
    intro w_3 hs_3 hn_3 k_3
    have zs_k_3 := k_3.size
    replace hr := hr.chg k_3 (by intro b h1 h2 h3; have h4 : _ = _ := h3; (try dsimp only at h2); exfalso; omega)
    replace hw := hw.chg k_3 (by intro x h1 h2; have h3 : _ = _ := h2; exfalso; omega)
    replace hb_2 := hn_3
    refine WL.nil (WX.then_normal (WC.region (WL.move rfl rfl (WL.fieldAddr (fld_85_1) rfl rfl (WL.loadB Tryz.isAgg3 hb_2 rfl rfl rfl (?_))))))
    refine WL.add64 rfl rfl (by constructor <;> omega) rfl ?_
    refine WL.add64 rfl rfl (by constructor <;> omega) rfl ?_
    refine WL.assign rfl rfl (WL.nil (WX.block_normal (WX.then_normal (WC.region (WL.add64 rfl rfl (by omega) rfl (WL.move rfl rfl (WL.nil (?_))))))))
    exact WX.loop_next (i + 1) ⟨by show some (vi ((sumR (rs.take i) : Int) + ((x.2 : Int) + 3))) = some (vi ((sumR (rs.take (i + 1)) : Nat) : Int)); congr 2; omega, rfl, rfl, rfl, trivial⟩ ⟨by omega, hr.mono (fun x hx => hx.1), hw⟩ (by omega)
  ·
    refine WL.nil (WX.then_normal (WC.seq (WC.cond_false rfl (WC.exit (WX.then_exit (WX.then_exit (WX.block_here (?_))))))))
    refine WX.then_normal (WC.seq (WC.region (WL.move rfl rfl (WL.assign rfl rfl (WL.assign rfl rfl (WL.nil (WX.then_normal (?_))))))))
    refine WC.ret (?_)
    refine WX.ret2 (.inl rfl) Tryz.results15 rfl rfl ?_
    have hil : i = rs.length := by omega
    subst hil
    rw [List.take_length]
    exact ⟨_, rfl, rfl, hw⟩
theorem gone_calls {A S : Nat → Prop} {w : World} {a R f : Nat} {s : RA} (hB : AB w a R s.dn f) (h : RK A w R s) {ao : Option Addr} {c : Nat} {ds : List Int} (hd : RSl S w ei ao c ds) (hin : ∀ d ∈ ds, isS s d) (hl : ds.length ≤ 100) :
    Calls Tryz.prog 40 [ptr a, .slice ao ds.length c].toArray w (Ret fun v w' => ((gonA s ds).length ≤ 3 → ∃ a2 c2, v = .tuple #[.slice a2 (gonA s ds).length c2, vi 0] ∧ Row (w.heap.size ≤ ·) w' 3 ei a2 c2 (gonA s ds)) ∧ (3 < (gonA s ds).length → v = .tuple #[.slice none 0 0, vi 4]) ∧ Chg Nob w w') := by
  have hw := Chg.refl Nob w
  have la := hB.lt
  replace hd := hd.old
  replace h := h.old
  have hgs : ∀ (i : Nat) (d : Int), ds[i]? = some d → gonA s (ds.take (i + 1)) = if goneS s d = true then gonA s (ds.take i) ++ [d] else gonA s (ds.take i) := fun i d hx => by
    rw [gonA, gonA, List.take_add_one, hx, Option.toList_some, List.filter_append]
    by_cases hg : goneS s d = true <;> simp [hg]
  have hgl : ∀ i, (gonA s (ds.take i)).length ≤ 100 := fun i => Nat.le_trans (List.length_filter_le _ _) (by rw [List.length_take]; omega)
  refine Calls.of_WC Tryz.func40 rfl Tryz.ntmps40 (by simp) ?_
  refine WC.seq (WC.region (WL.assign rfl rfl (WL.assign rfl rfl (WL.nil (WX.then_normal (WC.seq (WC.region (?_))))))))
  refine WL.assign rfl rfl (WL.nil (WX.then_normal (WC.seq (WC.seq (WC.region (WL.move rfl rfl (WL.len Tryz.underlying39 rfl rfl (?_))))))))
  refine WL.move rfl rfl (WL.nil (WX.then_normal (WC.block (?_))))
  refine WC.loop (σ := (Option Addr × Nat) × Nat) (fun q => [(0, ptr a), (6, .slice q.1.1 (gonA s (ds.take q.2)).length q.1.2), (9, .slice ao ds.length c), (10, vi ds.length), (11, vi (q.2 : Int))]) (fun q w' => q.2 ≤ ds.length ∧ AB w' a R s.dn f ∧ RK (fun x => A x ∧ x < w.heap.size) w' R s ∧ RSl (· < w.heap.size) w' ei ao c ds ∧ Row (w.heap.size ≤ ·) w' 3 ei q.1.1 q.1.2 (gonA s (ds.take q.2)) ∧ Chg Nob w w') (fun q => ds.length - q.2) ((none, 0), 0) ⟨rfl, rfl, rfl, rfl, rfl, trivial⟩ ⟨Nat.zero_le _, hB, h, hd, Row.nil _ _ _ _, hw⟩ ?_
  clear hB hw h hd
  rintro ⟨⟨a1, c1⟩, i⟩ w2 ⟨hi, hB, h, hd, hO, hw⟩
  simp only at hi hO
  dsimp only
  have zw1 := hw.size
  refine WC.seq (WC.region (?_))
  refine WL.lss? rfl rfl rfl (fun h12 => ?_) (fun h12 => ?_)
  ·
    refine WL.nil (WX.then_normal (WC.seq (WC.cond_true rfl (WC.skip (WX.then_normal (WC.seq (WC.block (?_))))))))
    refine WC.seq (WC.region (?_))
    obtain ⟨x, hx⟩ : ∃ x, ds[i]? = some x := ⟨_, List.getElem?_eq_getElem (by omega)⟩
    have hxi := hin x (List.mem_of_getElem? hx)
    have hnx := hgs i x hx
    have hgi := hgl i
    refine WL.indexT Tryz.underlying39 Tryz.sizeOf3 hd rfl rfl ⟨hx, rfl⟩ rfl ?_
    intro b_1 o_1 hc_1
    refine WL.load Tryz.isAgg3 rfl (hc_1 0 _ rfl) rfl (WL.assign rfl rfl (WL.nil (WX.then_normal (WC.seq (WC.region (WL.move rfl rfl (WL.nilCheck rfl rfl (?_))))))))
    refine WL.fieldAddr (fld_81_0) rfl rfl (WL.loadB Tryz.isAgg27 hB rfl rfl rfl (WL.move rfl rfl (?_)))
    refine WL.call eg_26 rfl rfl (Gone_calls h x) ?_
    rintro v w3 ⟨rfl, k3⟩
    rw [decide_eq_true hxi, Bool.true_and]
    have zs_k3 := k3.size
    replace hB := hB.pure k3
    replace h := h.pure k3
    replace hd := hd.pure k3
    replace hO := hO.pure k3
    replace hw := hw.pure k3
    rcases hg : goneS s x with _ | _
    ·
      refine WL.nil (WX.then_normal (WC.cond_false rfl (WC.skip (WX.block_normal (WX.then_normal (WC.region (WL.add64 rfl rfl (by omega) rfl (?_))))))))
      refine WL.move rfl rfl (WL.nil (?_))
      rw [hg, if_neg (by decide)] at hnx
      rw [← hnx] at hO
      exact WX.loop_next ((a1, c1), i + 1) ⟨rfl, by show some (Value.slice a1 (gonA s (ds.take i)).length c1) = some (Value.slice a1 (gonA s (ds.take (i + 1))).length c1); rw [hnx], rfl, rfl, rfl, trivial⟩ ⟨by show i + 1 ≤ ds.length; omega, hB, h, hd, hO, hw⟩ (by show ds.length - (i + 1) < ds.length - i; omega)
    ·
      refine WL.nil (WX.then_normal (WC.cond_true rfl (WC.region (WL.move rfl rfl (WL.move rfl rfl (?_))))))
      refine WL.build (e := ei) [x] Tryz.underlying39 Tryz.sizeOf3 Tryz.zeroValue3 rfl rfl rfl (by simp [Value.cells] <;> rfl) (by decide) rfl ?_
      intro a_q23 w_q23 q23 l_q23 z_q23 k_q23
      have zs_k_q23 := k_q23.size
      replace hB := hB.pure k_q23
      replace h := h.pure k_q23
      replace hd := hd.pure k_q23
      replace hO := hO.pure k_q23
      replace hw := hw.pure k_q23
      refine WL.append (e := ei) info_3 rfl Tryz.underlying39 rfl rfl hO (q23.rsl.src Tryz.underlying39) (by (try simp only [List.length_append, List.length_cons, List.length_nil] at *); omega) (by intro b hb; first | (apply hS; omega) | ((try dsimp only); omega)) rfl ?_
      intro a_q24 c_q24 w_q24 q24 g_q24 n_q24
      have z_q24 := g_q24.chg.size
      have zs_g_q24_chg := g_q24.chg.size
      replace hB := hB.chg g_q24.chg (by intro h1; exfalso; have h4 := h1.2; (try dsimp only at *); omega)
      replace h := h.chg g_q24.chg (by intros; exfalso; (try dsimp only at *); omega)
      replace hd := hd.chg g_q24.chg (by intros; exfalso; (try dsimp only at *); omega)
      replace hw := hw.chg g_q24.chg (by intros; exfalso; (try dsimp only at *); omega)
      refine WL.assign rfl rfl (WL.nil (WX.block_normal (WX.then_normal (WC.region (WL.add64 rfl rfl (by omega) rfl (WL.move rfl rfl (WL.nil (?_))))))))
      rw [hg, if_pos rfl] at hnx
      rw [← hnx] at q24
      exact WX.loop_next ((a_q24, c_q24), i + 1) ⟨rfl, by show some (Value.slice a_q24 (gonA s (ds.take i) ++ [x]).length c_q24) = some (Value.slice a_q24 (gonA s (ds.take (i + 1))).length c_q24); rw [hnx], rfl, rfl, rfl, trivial⟩ ⟨by show i + 1 ≤ ds.length; omega, hB, h, hd, q24, hw⟩ (by show ds.length - (i + 1) < ds.length - i; omega)
  ·
    refine WL.nil (WX.then_normal (WC.seq (WC.cond_false rfl (WC.exit (WX.then_exit (WX.then_exit (WX.block_here (?_))))))))
    refine WX.then_normal (WC.seq (WC.seq (WC.region (WL.move rfl rfl (WL.len Tryz.underlying39 rfl rfl (?_))))))
    refine WL.gtr? rfl rfl rfl (fun h28 => ?_) (fun h28 => ?_)
    ·
      refine WL.nil (WX.then_normal (WC.cond_true rfl (WC.seq (WC.region (WL.assign rfl rfl (WL.assign rfl rfl (WL.nil (?_))))))))
      refine WX.then_normal (WC.ret (WX.then_ret (?_)))
      refine WX.ret2 (.inl rfl) Tryz.results40 rfl rfl ?_
      have hil : i = ds.length := by omega
      subst hil
      rw [List.take_length] at *
      have hh : 3 < ((gonA s ds).length : Int) := h28
      exact ⟨_, rfl, fun h3 => by omega, fun _ => rfl, hw⟩
    ·
      refine WL.nil (WX.then_normal (WC.cond_false rfl (WC.skip (WX.then_normal (WC.seq (WC.region (WL.move rfl rfl (?_))))))))
      refine WL.assign rfl rfl (WL.assign rfl rfl (WL.nil (WX.then_normal (WC.ret (?_)))))
      refine WX.ret2 (.inl rfl) Tryz.results40 rfl rfl ?_
      have hil : i = ds.length := by omega
      subst hil
      rw [List.take_length] at *
      have hh : ((gonA s ds).length : Int) ≤ 3 := h28
      exact ⟨_, rfl, fun _ => ⟨a1, c1, rfl, hO⟩, fun h3 => by omega, hw⟩
end Go.Proofs.YtggecdldnpildaaGreat
namespace Go.Proofs.YtggecdldnpildaaGreat
open Go.RowKit Go.HL
set_option maxRecDepth 100000

/-! a cell's place; a cell is written -/
theorem place_calls {w : World} {a R n f : Nat} (hB : AB w a R n f) (hn : 5 ≤ n ∧ n ≤ 16) (hf : f ≤ 2000) (cell : Nat) (hc : cell ≤ 1000000) :
    Calls Tryz.prog 60 [ptr a, vi cell].toArray w (Ret fun v w' => v = .tuple #[vi ((cell % n : Nat) : Int), vi ((f + cell / n : Nat) : Int)] ∧ Chg Nob w w') := by
  have hw := Chg.refl Nob w
  obtain ⟨q, hq⟩ : ∃ q, q = cell / n := ⟨_, rfl⟩
  have hq1 : q ≤ 1000000 := hq ▸ Nat.le_trans (Nat.div_le_self _ _) hc
  rw [← hq]
  refine Calls.of_WC Tryz.func60 rfl Tryz.ntmps60 (by simp) ?_
  refine WC.seq (WC.region (WL.assign rfl rfl (WL.assign rfl rfl (WL.nil (WX.then_normal (WC.seq (?_)))))))
  refine WC.draw (Nob) [0, 1, 2, 3, 4, 5, 6, 7, 8, 9, 10, 11, 12, 13, 14, 15, 16, 17, 18] [] mixed rfl rfl (fun wd_1 kd_1 zd_1 => ?_)
  have zs_kd_1 := kd_1.size
  replace hB := hB.pure kd_1
  replace hw := hw.pure kd_1
  apply DQ.step (E' := [(1, _)])
  case ho => rfl
  case hs => exact ⟨rfl, trivial⟩
  case hk => rfl
  case h1 =>
    intro wq_2 kq_2
    refine WL.move rfl rfl (?_)
    refine WL.nil ?_
    exact WX.one ⟨rfl, by exact Chg.refl _ _⟩
  apply DQ.step (E' := [(0, _)])
  case ho => rfl
  case hs => exact ⟨rfl, trivial⟩
  case hk => rfl
  case h1 =>
    intro wq_3 kq_3
    refine WL.move rfl rfl (?_)
    refine WL.nil ?_
    exact WX.one ⟨rfl, by exact Chg.refl _ _⟩
  apply DQ.step (E' := [(7, _)])
  case ho => rfl
  case hs => exact ⟨rfl, trivial⟩
  case hk => rfl
  case h1 =>
    intro wq_4 kq_4
    refine WL.nilCheck rfl rfl (?_)
    refine WL.nil ?_
    exact WX.one ⟨rfl, by exact Chg.refl _ _⟩
  apply DQ.step (E' := [(8, _)])
  case ho => rfl
  case hs => exact ⟨rfl, trivial⟩
  case hk => rfl
  case h1 =>
    intro wq_5 kq_5
    refine WL.fieldAddr (fld_81_1) rfl rfl (?_)
    refine WL.nil ?_
    exact WX.one ⟨rfl, by exact Chg.refl _ _⟩
  apply DQ.step (E' := [(9, _)])
  case ho => rfl
  case hs => exact ⟨rfl, trivial⟩
  case hk => rfl
  case h1 =>
    intro wq_6 kq_6
    have zs_kq_6 := kq_6.size
    replace hB := hB.pure kq_6
    replace hw := hw.pure kq_6
    refine WL.loadB Tryz.isAgg3 hB rfl rfl rfl (?_)
    refine WL.nil ?_
    exact WX.one ⟨rfl, by exact Chg.refl _ _⟩
  apply DQ.step (E' := [(6, _), (10, _)])
  case ho => rfl
  case hs => exact ⟨rfl, rfl, trivial⟩
  case hk => rfl
  case h1 =>
    intro wq_7 kq_7
    refine WL.rem64i rfl rfl (by constructor <;> omega) rfl ?_
    rw [show (cell : Int) % (n : Int) = ((cell % n : Nat) : Int) from by omega]
    refine WL.nil ?_
    exact WX.one ⟨rfl, by exact Chg.refl _ _⟩
  apply DQ.step (E' := [(0, _)])
  case ho => rfl
  case hs => exact ⟨rfl, trivial⟩
  case hk => rfl
  case h1 =>
    intro wq_8 kq_8
    refine WL.move rfl rfl (?_)
    refine WL.nil ?_
    exact WX.one ⟨rfl, by exact Chg.refl _ _⟩
  apply DQ.step (E' := [(12, _)])
  case ho => rfl
  case hs => exact ⟨rfl, trivial⟩
  case hk => rfl
  case h1 =>
    intro wq_9 kq_9
    refine WL.nilCheck rfl rfl (?_)
    refine WL.nil ?_
    exact WX.one ⟨rfl, by exact Chg.refl _ _⟩
  apply DQ.step (E' := [(13, _)])
  case ho => rfl
  case hs => exact ⟨rfl, trivial⟩
  case hk => rfl
  case h1 =>
    intro wq_10 kq_10
    refine WL.fieldAddr (fld_81_2) rfl rfl (?_)
    refine WL.nil ?_
    exact WX.one ⟨rfl, by exact Chg.refl _ _⟩
  apply DQ.step (E' := [(14, _)])
  case ho => rfl
  case hs => exact ⟨rfl, trivial⟩
  case hk => rfl
  case h1 =>
    intro wq_11 kq_11
    have zs_kq_11 := kq_11.size
    replace hB := hB.pure kq_11
    replace hw := hw.pure kq_11
    refine WL.loadB Tryz.isAgg3 hB rfl rfl rfl (?_)
    refine WL.nil ?_
    exact WX.one ⟨rfl, by exact Chg.refl _ _⟩
  apply DQ.step (E' := [(1, _)])
  case ho => rfl
  case hs => exact ⟨rfl, trivial⟩
  case hk => rfl
  case h1 =>
    intro wq_12 kq_12
    refine WL.move rfl rfl (?_)
    refine WL.nil ?_
    exact WX.one ⟨rfl, by exact Chg.refl _ _⟩
  apply DQ.step (E' := [(0, _)])
  case ho => rfl
  case hs => exact ⟨rfl, trivial⟩
  case hk => rfl
  case h1 =>
    intro wq_13 kq_13
    refine WL.move rfl rfl (?_)
    refine WL.nil ?_
    exact WX.one ⟨rfl, by exact Chg.refl _ _⟩
  apply DQ.step (E' := [(17, _)])
  case ho => rfl
  case hs => exact ⟨rfl, trivial⟩
  case hk => rfl
  case h1 =>
    intro wq_14 kq_14
    refine WL.nilCheck rfl rfl (?_)
    refine WL.nil ?_
    exact WX.one ⟨rfl, by exact Chg.refl _ _⟩
  apply DQ.step (E' := [(18, _)])
  case ho => rfl
  case hs => exact ⟨rfl, trivial⟩
  case hk => rfl
  case h1 =>
    intro wq_15 kq_15
    refine WL.fieldAddr (fld_81_1) rfl rfl (?_)
    refine WL.nil ?_
    exact WX.one ⟨rfl, by exact Chg.refl _ _⟩
  apply DQ.step (E' := [(19, _)])
  case ho => rfl
  case hs => exact ⟨rfl, trivial⟩
  case hk => rfl
  case h1 =>
    intro wq_16 kq_16
    have zs_kq_16 := kq_16.size
    replace hB := hB.pure kq_16
    replace hw := hw.pure kq_16
    refine WL.loadB Tryz.isAgg3 hB rfl rfl rfl (?_)
    refine WL.nil ?_
    exact WX.one ⟨rfl, by exact Chg.refl _ _⟩
  apply DQ.step (E' := [(16, _), (20, _)])
  case ho => rfl
  case hs => exact ⟨rfl, rfl, trivial⟩
  case hk => rfl
  case h1 =>
    intro wq_17 kq_17
    refine WL.quo64i rfl rfl (by constructor <;> omega) rfl ?_
    rw [show (cell : Int) / (n : Int) = (q : Int) from by rw [hq]; omega]
    refine WL.nil ?_
    exact WX.one ⟨rfl, by exact Chg.refl _ _⟩
  apply DQ.step (E' := [(15, _), (21, _)])
  case ho => rfl
  case hs => exact ⟨rfl, rfl, trivial⟩
  case hk => rfl
  case h1 =>
    intro wq_18 kq_18
    refine WL.add64 rfl rfl (by constructor <;> omega) rfl ?_
    refine WL.nil ?_
    exact WX.one ⟨rfl, by exact Chg.refl _ _⟩
  apply DQ.step (E' := [(11, _)])
  case ho => rfl
  case hs => exact ⟨rfl, trivial⟩
  case hk => rfl
  case h1 =>
    intro wq_19 kq_19
    refine WL.assign rfl rfl (?_)
    refine WL.nil ?_
    exact WX.one ⟨rfl, by exact Chg.refl _ _⟩
  apply DQ.step (E' := [(22, _)])
  case ho => rfl
  case hs => exact ⟨rfl, trivial⟩
  case hk => rfl
  case h1 =>
    intro wq_20 kq_20
    refine WL.assign rfl rfl (?_)
    refine WL.nil ?_
    exact WX.one ⟨rfl, by exact Chg.refl _ _⟩
  refine DQ.done (fun _ => ?_)
  refine DL.done (fun we_21 ke_21 => ?_)
  have zs_ke_21 := ke_21.size
  replace hB := hB.pure ke_21
  replace hw := hw.pure ke_21
  refine WX.then_normal (WC.ret (?_))
  refine WX.ret2 (.inl rfl) Tryz.results60 rfl rfl ?_
  exact ⟨_, rfl, rfl, hw⟩
theorem writeU {A S : Nat → Prop} {w : World} {R : Nat} {s : RA} (h : RK A w R s) (hu : Up s) {d a : Int} (hi : inS s d a) (hg : goneS s d = false) {ao : Option Addr} {c : Nat} {b : List UInt8} (hb : RSl S w eb ao c b) (hS : ∀ x, S x → x = R → False) (hl : b.length = 128) (hn : s.waits.length ≤ 100000) :
    Calls Tryz.prog 31 [ptr R, vi d, vi a, .slice ao b.length c].toArray w (Ret fun v w' => v = vi 0 ∧ RK (fun x => A x ∨ w.heap.size ≤ x) w' R (addS s (d, a) b) ∧ Chg A w w') := by
  have h0 := hu.write hi hg hl
  refine (Write_calls h d a hb hS hn).mono ?_
  rintro e w' ⟨v, rfl, rfl, hR, k⟩
  rw [h0.2] at hR
  exact ⟨_, rfl, by rw [h0.1], hR, k⟩
theorem plN_in {s : RA} {f cell : Nat} (h5 : 5 ≤ s.dn) (hc : cell < s.dn * (s.sn - f)) : inS s ((cell % s.dn : Nat) : Int) ((f + cell / s.dn : Nat) : Int) ∧ isS s ((cell % s.dn : Nat) : Int) := by
  have h1 : cell % s.dn < s.dn := Nat.mod_lt _ (by omega)
  have h2 : cell / s.dn < s.sn - f := Nat.div_lt_of_lt_mul hc
  generalize cell % s.dn = r at *
  generalize cell / s.dn = q at *
  exact ⟨⟨by omega, by omega, by omega, by omega⟩, by omega, by omega⟩
theorem put_calls {A S : Nat → Prop} {w : World} {a R f : Nat} {s : RA} (hB : AB w a R s.dn f) (h : RK A w R s) (hu : Up s) (h5 : 5 ≤ s.dn) (hf : f < s.sn) (cell : Nat) (hc : cell < s.dn * (s.sn - f)) {ao : Option Addr} {c : Nat} {b : List UInt8} (hb : RSl S w eb ao c b) (hS : ∀ x, S x → x = R → False) (hl : b.length = 128) (hn : s.waits.length ≤ 100000) :
    Calls Tryz.prog 42 [ptr a, vi cell, .slice ao b.length c].toArray w (Ret fun v w' => v = vi 0 ∧ RK (fun x => A x ∨ w.heap.size ≤ x) w' R (putS s f cell b) ∧ Chg A w w') := by
  have hw := Chg.refl Nob w
  have hdn := h.ok.dn
  have hsn := h.ok.sn
  have hm : s.dn * (s.sn - f) ≤ 16 * 2000 := Nat.mul_le_mul (by omega) (by omega)
  obtain ⟨hi, his⟩ := plN_in h5 hc
  refine Calls.of_WC Tryz.func42 rfl Tryz.ntmps42 (by simp) ?_
  refine WC.seq (WC.region (WL.assign rfl rfl (WL.nil (WX.then_normal (WC.seq (WC.region (WL.move rfl rfl (?_))))))))
  refine WL.move rfl rfl (?_)
  refine WL.call eg_60 rfl rfl (place_calls hB ⟨h5, hdn.2⟩ (by omega) cell (by omega)) ?_
  rintro v w1 ⟨rfl, k1⟩
  have zs_k1 := k1.size
  replace hB := hB.pure k1
  replace h := h.pure k1
  replace hb := hb.pure k1
  replace hw := hw.pure k1
  refine WL.move rfl rfl (WL.extract rfl rfl rfl (WL.extract rfl rfl rfl (WL.assign rfl rfl (WL.assign rfl rfl (WL.nil (WX.then_normal (WC.seq (?_))))))))
  refine WC.seq (WC.region (WL.move rfl rfl (WL.nilCheck rfl rfl (WL.fieldAddr (fld_81_0) rfl rfl (WL.loadB Tryz.isAgg27 hB rfl rfl rfl (WL.move rfl rfl (?_)))))))
  refine WL.call eg_26 rfl rfl (Gone_calls h ((cell % s.dn : Nat) : Int)) ?_
  rintro v w3 ⟨rfl, k3⟩
  rw [decide_eq_true his, Bool.true_and]
  have zs_k3 := k3.size
  replace hB := hB.pure k3
  replace h := h.pure k3
  replace hb := hb.pure k3
  replace hw := hw.pure k3
  rcases hg : goneS s ((cell % s.dn : Nat) : Int) with _ | _
  ·
    refine WL.nil (WX.then_normal (WC.cond_false rfl (WC.skip (WX.then_normal (WC.seq (WC.region (WL.move rfl rfl (?_))))))))
    refine WL.nilCheck rfl rfl (WL.fieldAddr (fld_81_0) rfl rfl (WL.loadB Tryz.isAgg27 hB rfl rfl rfl (WL.move rfl rfl (WL.move rfl rfl (WL.move rfl rfl (?_))))))
    have zw := hw.size
    refine WL.call eg_31 rfl rfl (writeU h hu hi hg hb hS hl hn) ?_
    rintro v w4 ⟨rfl, h4, k4⟩
    refine WL.assign rfl rfl (WL.nil (WX.then_normal (WC.ret (?_))))
    refine WX.ret1 (.inl rfl) Tryz.results42 rfl ?_
    refine ⟨_, rfl, rfl, ?_, (hw.mono (fun x _ h => h.elim)).trans k4 (fun x _ h => h)⟩
    rw [putS, if_neg (by rw [hg]; decide)]
    exact h4.mono (fun x hx => hx.imp id (fun h => by omega))
  ·
    refine WL.nil (WX.then_normal (WC.cond_true rfl (WC.seq (WC.region (WL.assign rfl rfl (WL.nil (WX.then_normal (?_))))))))
    refine WC.ret (WX.then_ret (?_))
    refine WX.ret1 (.inl rfl) Tryz.results42 rfl ?_
    refine ⟨_, rfl, rfl, ?_, hw.mono (fun x _ h => h.elim)⟩
    rw [putS, if_pos hg]
    exact h.mono (fun x hx => .inl hx)
end Go.Proofs.YtggecdldnpildaaGreat
namespace Go.HL
open Go.RowKit
/-! regions that draw their order: as in the tree, but for operations that come behind all quiet ones that read (late ones): they may turn what those read -/
def lateOk (ops : Array Oper) (C C2 L : List Nat) : Bool := L.all fun r => decide (r < ops.size) && !C.contains r && C.all fun j => C2.contains j || before? ops j r
theorem lateOk_spec {ops : Array Oper} {C C2 L : List Nat} (h : lateOk ops C C2 L = true) : ∀ r ∈ L, r < ops.size ∧ r ∉ C ∧ ∀ j ∈ C, C2.contains j = false → before? ops j r = true := fun r hr => by
  have h1 := List.all_eq_true.1 h r hr
  simp only [Bool.and_eq_true, decide_eq_true_eq] at h1
  obtain ⟨⟨h2, h3⟩, h4⟩ := h1
  refine ⟨h2, by simpa using h3, fun j hj hc => ?_⟩
  have h5 := List.all_eq_true.1 h4 j hj
  rw [hc, Bool.false_or] at h5
  exact h5
section
variable (P : Program) (ops : Array Oper) (Q : Exit → Act → World → Prop) (N : Nat) (K : World → Prop) (w0 : World) (C2 L : List Nat)
def DU : Nat → List Nat → Env → World → Prop
  | 0, _, E, w => ∀ w', Chg Nob w w' → WX Q .normal N E w'
  | n + 1, rs, E, w => AllB rs (preds ops rs) fun i => ∀ w', Chg Nob w w' → ∀ o, ops[i]? = some o → WL P ops (One o.dst fun v w'' => (L.all (rs.erase i).contains = true → K w'') ∧ DU n (rs.erase i) (putE E o.dst v) w'') N [o] (restr ops i E) w'
def DQU (R : List Nat) : List Nat → Env → Prop
  | [], E => DU P ops Q N K L R.length R E w0
  | i :: is, E => ∃ v, (∀ o, ops[i]? = some o → ∀ w', (C2.contains i = false → K w') → WL P ops (One o.dst fun u w'' => u = v ∧ Chg Nob w' w'') N [o] (restr ops i E) w') ∧ DQU R is (putE E (dstOf ops i) v)
end
section
variable {P : Program} {ops : Array Oper} {Q : Exit → Act → World → Prop} {N : Nat} {K : World → Prop} {w0 : World} {E0 : Env} {C2 L : List Nat}
theorem DQU_spec {R : List Nat} : ∀ {is : List Nat} {E : Env}, is.Nodup → DQU P ops Q N K w0 C2 L R is E → ∃ c : Nat → Value, DU P ops Q N K L R.length R (envAfter ops c is E) w0 ∧
    ∀ pre i post, is = pre ++ i :: post → ∀ o, ops[i]? = some o → ∀ w', (C2.contains i = false → K w') → WL P ops (One o.dst fun u w'' => u = c i ∧ Chg Nob w' w'') N [o] (restr ops i (envAfter ops c pre E)) w'
  | [], E, _, h => ⟨fun _ => undef, h, fun pre i post hx => by cases pre <;> cases hx⟩
  | i :: is, E, hn, h => by
    obtain ⟨v, h1, h2⟩ := h
    obtain ⟨c, h3, h4⟩ := DQU_spec (List.nodup_cons.1 hn).2 h2
    have hi := (List.nodup_cons.1 hn).1
    let c' : Nat → Value := fun j => if j = i then v else c j
    have hc : ∀ j, j ∈ is → c j = c' j := fun j hj => by
      have : j ≠ i := fun e => hi (e ▸ hj)
      simp [c', this]
    have hci : c' i = v := by simp [c']
    refine ⟨c', ?_, ?_⟩
    · show DU P ops Q N K L R.length R (envAfter ops c' is (putE E (dstOf ops i) (c' i))) w0
      rw [hci, ← envAfter_congr ops c c' is _ hc]
      exact h3
    · intro pre j post hx o ho w' hw
      cases pre with
      | nil =>
        injection hx with hx1 hx2
        subst hx1
        rw [hci]
        exact h1 o ho w' hw
      | cons p pre =>
        injection hx with hx1 hx2
        subst hx1
        have := h4 pre j post hx2 o ho w' hw
        have hj : j ∈ is := by rw [hx2]; simp
        rw [hc j hj, envAfter_congr ops c c' pre _ (fun k hk => hc k (by rw [hx2]; simp [hk]))] at this
        show WL P ops _ N [o] (restr ops j (envAfter ops c' pre (putE E (dstOf ops i) (c' i)))) w'
        rw [hci]
        exact this

theorem WC.drawU {id : Nat} (K : World → World → Prop) (C R C2 L : List Nat) (hlo : lateOk ops C C2 L = true) (hm : P.follows .mixedOrders = true) (hok : drawOkT ops C R = true) (hN : ((List.range ops.size).all fun i => (dstOf ops i).all fun t => Nat.blt t N) = true) {w : World} (hK0 : K w.drew w.drew) (hKp : ∀ wd a b, K wd a → Chg Nob a b → K wd b)
    (h0 : ∀ wd, Chg Nob w wd → wd.heap.size = w.heap.size → DQU P ops Q N (K wd) wd C2 L R C E0) : WC P (.region id ops true) Q N E0 w := fun a0 ha0 => by
  have h := h0 w.drew (Chg.drew w) rfl
  simp only [drawOkT, Bool.and_eq_true, decide_eq_true_eq] at hok
  obtain ⟨⟨⟨⟨⟨⟨hpart, hlt0⟩, hdst0⟩, hback0⟩, hsrc⟩, hsrcT⟩, hnd⟩ := hok
  replace hnd := nodupB_spec hnd
  have hlt : ∀ k ∈ C ++ R, k < ops.size := fun k hk => by simpa using List.all_eq_true.1 hlt0 k hk
  have hdst : ∀ i j, i < ops.size → j < ops.size → i ≠ j → ∀ t, dstOf ops i = some t → dstOf ops j ≠ some t := by
    intro i j hi hj hne t h1 h2
    have := List.all_eq_true.1 (List.all_eq_true.1 hdst0 i (by simpa using hi)) j (by simpa using hj)
    simp [h1, h2, hne] at this
  have hback : ∀ i, i < ops.size → ∀ o, ops[i]? = some o → ∀ e ∈ o.after, Region.binds .any e = true → e.on < i := by
    intro i hi o ho e he hb
    have := List.all_eq_true.1 hback0 i (by simpa using hi)
    simp only [ho, Option.map_some, Option.getD_some] at this
    rw [List.all_eq_true] at this
    have := this e (by simpa using he)
    simpa [hb] using this
  have hNt : ∀ i, i < ops.size → ∀ t, dstOf ops i = some t → t < N := by
    intro i hi t ht
    have := List.all_eq_true.1 hN i (by simpa using hi)
    simpa [ht] using this
  have hin : ∀ i, i < ops.size → i ∈ C ∨ i ∈ R := fun i hi => by simpa using List.all_eq_true.1 hpart i (by simpa using hi)
  have hCn : C.Nodup := (List.nodup_append.1 hnd).1
  obtain ⟨c, hDL, hq⟩ := DQU_spec hCn h
  have hgs : ∀ (listed : Array Bool) (i j : Nat), i < listed.size → (listed.setIfInBounds i true).getD j false = if j = i then true else listed.getD j false := by
    intro listed i j hil
    simp only [Array.getD_eq_getD_getElem?, Array.getElem?_setIfInBounds]
    by_cases e : j = i
    · subst e; simp [hil]
    · have : ¬ i = j := fun x => e x.symm
      simp [this, e]
  have henv : ∀ (vals : Nat → Value) (rd : List Nat), (∀ i ∈ C, vals i = c i) → envAfter ops vals rd (envAfter ops c C E0) = envAfter ops vals (C ++ rd) E0 := by
    intro vals rd hC
    rw [envAfter_append, envAfter_congr ops vals c C E0 hC]
  have fin : ∀ (listed : Array Bool) (a : Act) (w1 wp : World) (vals : Nat → Value) (rd rs : List Nat), (∀ i, i < ops.size → i ∈ C ∨ i ∈ rd ∨ i ∈ rs) → (∀ i ∈ rd ++ rs, i < ops.size) → Mid ops N E0 listed a vals → (∀ i ∈ C, vals i = c i) → (∀ i ∈ rs, listed.getD i false = false) →
      Chg Nob wp w1 → DU P ops Q N (K w.drew) L rs.length rs (envAfter ops vals rd (envAfter ops c C E0)) wp → (∀ i, i < ops.size → listed.getD i false = true) → Q .normal a w1 := by
    intro listed a w1 wp vals rd rs hpt hrl m hC hrs hpw hdl hall
    cases rs with
    | cons r rs =>
      have h1 := hall r (hrl r (by simp))
      have h2 := hrs r (by simp)
      rw [h1] at h2; cases h2
    | nil =>
      refine hdl w1 hpw a ⟨m.tsz, m.dfs, fun t v ht => ?_⟩
      rw [henv vals rd hC] at ht
      rcases (Rep.start ops E0 vals).after (C ++ rd) t v ht with ⟨j, hj, hd, rfl⟩ | ⟨h1, h2⟩
      · have hjl : j < ops.size := by
          rcases List.mem_append.1 (by simpa using hj : j ∈ C ++ rd) with h | h
          · exact hlt j (by simp [h])
          · exact hrl j (by simp [h])
        exact m.done j hjl (hall j hjl) t hd
      · refine m.old t v h2 fun j hj _ => h1 j ?_
        rcases hpt j hj with h | h | h
        · simp [h]
        · simp [h]
        · cases h
  have key : ∀ (fuel : Nat) (listed : Array Bool) (a : Act) (w1 wp : World) (vals : Nat → Value) (rd rs : List Nat), (∀ i, i < ops.size → i ∈ C ∨ i ∈ rd ∨ i ∈ rs) → (∀ i ∈ rd ++ rs, i < ops.size ∧ i ∉ C) → rs.Nodup → (∀ i ∈ rd, i ∉ rs) → Mid ops N E0 listed a vals → (∀ i ∈ C, vals i = c i) → (∀ i ∈ rd, listed.getD i false = true) → (∀ i ∈ rs, listed.getD i false = false) →
      (L.all rs.contains = true → K w.drew w1) → Chg Nob wp w1 → DU P ops Q N (K w.drew) L rs.length rs (envAfter ops vals rd (envAfter ops c C E0)) wp → ((List.range ops.size).filter fun i => !listed.getD i false).length ≤ fuel → wpAny P .any ops Q fuel listed a w1 := by
    intro fuel
    induction fuel with
    | zero =>
      intro listed a w1 wp vals rd rs hpt hrl hrn hdj m hC hrd hrs hM hpw hdl hf
      have hall : ∀ i, i < ops.size → listed.getD i false = true := by
        intro i hi
        have h0 := List.length_eq_zero_iff.1 (Nat.le_zero.1 hf)
        have : i ∉ (List.range ops.size).filter fun i => !listed.getD i false := by rw [h0]; simp
        simpa [hi] using this
      refine ⟨?_, fin listed a w1 wp vals rd rs hpt (fun i hi => (hrl i hi).1) m hC hrs hpw hdl hall⟩
      refine List.eq_nil_iff_forall_not_mem.2 fun i hi => ?_
      obtain ⟨h1, h2, _⟩ := mem_ready hi
      have h3 := hall i h1
      have : i < listed.size := by rw [m.sz]; exact h1
      simp [Array.getD_eq_getD_getElem?, this] at h2 h3
      rw [h2] at h3; cases h3
    | succ fuel ih =>
      intro listed a w1 wp vals rd rs hpt hrl hrn hdj m hC hrd hrs hM hpw hdl hf
      refine ⟨fun hnil => fin listed a w1 wp vals rd rs hpt (fun i hi => (hrl i hi).1) m hC hrs hpw hdl (ready_nil m.sz hback hnil), fun i hi => ?_⟩
      obtain ⟨hilt, hno, hpre⟩ := mem_ready hi
      have hil : i < listed.size := by rw [m.sz]; exact hilt
      have hno' : listed.getD i false = false := by
        simp [Array.getD_eq_getD_getElem?, hil] at hno ⊢; exact hno
      have ho : ops[i]? = some ops[i] := Array.getElem?_eq_getElem hilt
      have hdo := dstOf_eq ho
      have hf' : ((List.range ops.size).filter fun j => !(listed.setIfInBounds i true).getD j false).length ≤ fuel := by
        have e1 : ((List.range ops.size).filter fun j => !(listed.setIfInBounds i true).getD j false) = ((List.range ops.size).filter fun j => !listed.getD j false).filter fun j => j != i := by
          rw [List.filter_filter]
          congr 1
          funext j
          rw [hgs listed i j hil]
          by_cases e : j = i <;> simp [e]
        rw [e1]
        have : (((List.range ops.size).filter fun j => !listed.getD j false).filter fun j => j != i).length < ((List.range ops.size).filter fun j => !listed.getD j false).length := by
          rw [List.length_filter_lt_length_iff_exists]
          exact ⟨i, List.mem_filter.2 ⟨by simpa using hilt, by rw [hno']; rfl⟩, by simp⟩
        omega
      by_cases hiC : i ∈ C
      · obtain ⟨pre, post, hsp⟩ := List.append_of_mem hiC
        have hKi : C2.contains i = false → K w.drew w1 := fun h2 => hM (by
          rw [List.all_eq_true]
          intro r hr
          obtain ⟨l1, l2, l3⟩ := lateOk_spec hlo r hr
          rcases hpt r l1 with h | h | h
          · exact absurd h l2
          · exfalso
            have h4 := l3 i hiC h2
            have h5 := m.clo r l1 (hrd r h) i h4
            rw [hno'] at h5
            cases h5
          · simpa using h)
        have h1 := hq pre i post hsp _ ho w1 hKi
        have hpc : ∀ k ∈ pre, vals k = c k := fun k hk => hC k (by rw [hsp]; simp [hk])
        have hrep : Rep ops E0 vals pre (envAfter ops c pre E0) := by
          have := (Rep.start ops E0 vals).after pre
          rw [envAfter_congr ops vals c pre E0 hpc] at this
          simpa using this
        have hh := m.holds hsrc (pre := pre) (post := post ++ R) (i := i) (by rw [hsp]; simp) hlt hrep hpre hno
        refine wpOp_mono ?_ (wpOp_of_WL ho hh (fun t ht => hNt i hilt t (by rw [hdo]; exact ht)) h1)
        rintro a' w' ⟨v, rfl, rfl, k⟩
        rw [← hdo]
        have hv : ∀ j, (if j = i then c i else vals j) = vals j := fun j => by
          by_cases e : j = i
          · subst e; simp [hC j hiC]
          · simp [e]
        have hm' := m.put hilt hdst (hNt i hilt) hpre hno (c i)
        simp only [hv] at hm'
        refine ih _ _ w' wp vals rd rs hpt hrl hrn hdj hm' hC (fun j hj => ?_) (fun j hj => ?_) (fun h => hKp _ _ _ (hM h) k) (hpw.pure k) hdl hf'
        · rw [hgs listed i j hil]; split
          · rfl
          · exact hrd j hj
        · have : j ≠ i := by rintro rfl; exact (hrl j (by simp [hj])).2 hiC
          rw [hgs listed i j hil, if_neg this]; exact hrs j hj
      · have hird : i ∉ rd := fun hx => by have := hrd i hx; rw [hno'] at this; cases this
        have hirs : i ∈ rs := (hpt i hilt).elim (fun h => absurd h hiC) (fun h => h.elim (fun h => absurd h hird) (fun h => h))
        have hpr : preds ops rs i = false := by
          rw [preds, List.any_eq_false]
          intro p hp hb
          have h1 := hpre p hb
          have h2 := hrs p hp
          rw [h1] at h2; cases h2
        obtain ⟨n, hn⟩ : ∃ n, rs.length = n + 1 := ⟨rs.length - 1, by have := List.length_pos_of_mem hirs; omega⟩
        rw [hn] at hdl
        have h1 := AllB_mem hdl i hirs hpr w1 hpw _ ho
        rw [henv vals rd hC] at h1
        have hrep : Rep ops E0 vals (C ++ rd) (envAfter ops vals (C ++ rd) E0) := by simpa using (Rep.start ops E0 vals).after (C ++ rd)
        have hh : Holds N (restr ops i (envAfter ops vals (C ++ rd) E0)) a := by
          have hsT : ∀ t ∈ looks ops i, ∀ j, j < ops.size → dstOf ops j = some t → (j ∈ C → before? ops j i = true) ∧ (before? ops j i = true ∨ before? ops i j = true) := by
            intro t ht j hj hd
            have q1 := List.all_eq_true.1 hsrcT i (by rcases hin i hilt with h | h; exact absurd h hiC; exact h)
            have q2 := List.all_eq_true.1 (List.all_eq_true.1 q1 j (by simpa using hj)) t ht
            simp only [hd, bne_self_eq_false, Bool.false_or] at q2
            by_cases hjC : C.contains j = true
            · rw [hjC] at q2
              simp at q2
              exact ⟨fun _ => q2, .inl q2⟩
            · simp only [Bool.not_eq_true] at hjC
              rw [hjC] at q2
              simp at q2
              exact ⟨fun h => by simp [h] at hjC, q2⟩
          refine ⟨m.tsz, m.dfs, fun t v ht => ?_⟩
          obtain ⟨g1, g2⟩ := restr_lookup ht
          rcases hrep t v g2 with ⟨j, hj, hd, rfl⟩ | ⟨g3, g4⟩
          · have hjl : j < ops.size := by
              rcases List.mem_append.1 (by simpa using hj : j ∈ C ++ rd) with h | h
              · exact hlt j (by simp [h])
              · exact (hrl j (by simp [h])).1
            have hb : before? ops j i = true := by
              rcases List.mem_append.1 (by simpa using hj : j ∈ C ++ rd) with h | h
              · exact (hsT t g1 j hjl hd).1 h
              · rcases (hsT t g1 j hjl hd).2 with h5 | h5
                · exact h5
                · have h6 := m.clo j hjl (hrd j h) i h5
                  rw [hno'] at h6; cases h6
            exact m.done j hjl (hpre j hb) t hd
          · refine m.old t v g4 fun j hj hl hd => ?_
            rcases hpt j hj with h | h | h
            · exact g3 j (by simp [h]) hd
            · exact g3 j (by simp [h]) hd
            · rw [hrs j h] at hl; cases hl
        refine wpOp_mono ?_ (wpOp_of_WL ho hh (fun t ht => hNt i hilt t (by rw [hdo]; exact ht)) h1)
        rintro a' w' ⟨v, rfl, hM', hdl'⟩
        have hm' := m.put hilt hdst (hNt i hilt) hpre hno v
        rw [← hdo]
        have hC' : ∀ j ∈ C, (if j = i then v else vals j) = c j := fun j hj => by
          have : j ≠ i := by rintro rfl; exact hiC hj
          rw [if_neg this]; exact hC j hj
        have hcr : ∀ j ∈ C ++ rd, vals j = (if j = i then v else vals j) := fun j hj => by
          have : j ≠ i := by rintro rfl; exact (List.mem_append.1 hj).elim hiC hird
          rw [if_neg this]
        have her : ∀ j, j ∈ rs.erase i ↔ j ≠ i ∧ j ∈ rs := fun j => List.Nodup.mem_erase_iff hrn
        refine ih _ _ w' w' (fun j => if j = i then v else vals j) (rd ++ [i]) (rs.erase i) (fun j hj => ?_) (fun j hj => ?_) (hrn.erase i) (fun j hj => ?_) hm' hC' (fun j hj => ?_) (fun j hj => ?_) hM' (Chg.refl _ _) ?_ hf'
        · rcases hpt j hj with h | h | h
          · exact .inl h
          · exact .inr (.inl (by simp [h]))
          · by_cases e : j = i
            · exact .inr (.inl (by simp [e]))
            · exact .inr (.inr ((her j).2 ⟨e, h⟩))
        · rcases List.mem_append.1 hj with h | h
          · rcases List.mem_append.1 h with h | h
            · exact hrl j (by simp [h])
            · have : j = i := by simpa using h
              subst this
              exact hrl j (by simp [hirs])
          · exact hrl j (by simp [((her j).1 h).2])
        · intro h
          have h5 := (her j).1 h
          rcases List.mem_append.1 hj with h6 | h6
          · exact hdj j h6 h5.2
          · exact h5.1 (by simpa using h6)
        · rw [hgs listed i j hil]; split
          · rfl
          · rename_i hne
            rcases List.mem_append.1 hj with hj | hj
            · exact hrd j hj
            · exact absurd (by simpa using hj) hne
        · have h5 := (her j).1 hj
          rw [hgs listed i j hil, if_neg h5.1]; exact hrs j h5.2
        · rw [henv _ (rd ++ [i]) hC', ← List.append_assoc, envAfter_append, ← envAfter_congr ops vals _ (C ++ rd) E0 hcr]
          simp only [envAfter, if_true]
          rw [hdo, List.length_erase_of_mem hirs, hn]
          exact hdl'
  refine wp_region_any hm ?_
  refine key ops.size _ a0 w.drew w.drew c [] R (fun i hi => (hin i hi).elim .inl (fun h => .inr (.inr h))) (fun i hi => ⟨hlt i (by simpa using Or.inr (by simpa using hi)), fun h => (List.nodup_append.1 hnd).2.2 i h i (by simpa using hi) rfl⟩) (List.nodup_append.1 hnd).2.1 (fun i h => by cases h) ?_ (fun _ _ => rfl) (fun _ h => by cases h) (fun i hi => ?_) (fun _ => hK0) (Chg.refl _ _) hDL ?_
  · refine ⟨by simp, ha0.size, ha0.defs, fun i hi hl => ?_, fun t v ht _ => ha0.env t v ht, fun i hi hl => ?_⟩
    · simp [Array.getD_eq_getD_getElem?, hi] at hl
    · simp [Array.getD_eq_getD_getElem?, hi] at hl
  · have hi' := hlt i (by simp [hi])
    simp [Array.getD_eq_getD_getElem?, hi']
  · refine Nat.le_trans (List.length_filter_le _ _) (by simp)
theorem WC.drawL {id : Nat} (M : Nat → Prop) (C R C2 L : List Nat) (hlo : lateOk ops C C2 L = true) (hm : P.follows .mixedOrders = true) (hok : drawOkT ops C R = true) (hN : ((List.range ops.size).all fun i => (dstOf ops i).all fun t => Nat.blt t N) = true) {w : World}
    (h0 : ∀ wd, Chg Nob w wd → wd.heap.size = w.heap.size → DQU P ops Q N (Chg M wd) wd C2 L R C E0) : WC P (.region id ops true) Q N E0 w :=
  WC.drawU (fun wd => Chg M wd) C R C2 L hlo hm hok hN (Chg.refl _ _) (fun _ _ _ h k => h.pure k) h0
end
section
variable {P : Program} {ops : Array Oper} {Q : Exit → Act → World → Prop} {N : Nat} {M : Nat → Prop} {K : World → Prop} {w0 w : World} {E E' : Env} {R is C2 L : List Nat} {i : Nat} {o : Oper}
theorem DQU.step {v : Value} (E' : Env) (ho : ops[i]? = some o) (hs : Sub E' E) (hk : (E'.all fun p => (looks ops i).contains p.1) = true)
    (h1 : ∀ w', (C2.contains i = false → K w') → WL P ops (One o.dst fun u w'' => u = v ∧ Chg Nob w' w'') N [o] E' w') (h2 : DQU P ops Q N K w0 C2 L R is (putE E o.dst v)) : DQU P ops Q N K w0 C2 L R (i :: is) E :=
  ⟨v, fun o' ho' w' hw => by rw [ho] at ho'; injection ho' with ho'; subst ho'; exact (h1 w' hw).sub (sub_restr hs hk), by rw [dstOf_eq ho]; exact h2⟩
theorem DQU.split {b : Bool} (E' : Env) (ho : ops[i]? = some o) (hs : Sub E' E) (hk : (E'.all fun p => (looks ops i).contains p.1) = true)
    (h1 : ∀ w', (C2.contains i = false → K w') → WL P ops (One o.dst fun u w'' => u = .bool b ∧ Chg Nob w' w'') N [o] E' w') (ht : b = true → DQU P ops Q N K w0 C2 L R is (putE E o.dst (.bool true))) (hf : b = false → DQU P ops Q N K w0 C2 L R is (putE E o.dst (.bool false))) : DQU P ops Q N K w0 C2 L R (i :: is) E :=
  DQU.step E' ho hs hk h1 (by
    cases b
    · exact hf rfl
    · exact ht rfl)
theorem DQU.done (h : Chg M w0 w0 → DU P ops Q N (Chg M w0) L R.length R E w0) : DQU P ops Q N (Chg M w0) w0 C2 L R [] E := h (Chg.refl _ _)
theorem DU.step {T : Env → World → Prop} {F : Prop} (E' : Env) (ho : ops[i]? = some o) (hs : Sub E' E) (hk : (E'.all fun p => (looks ops i).contains p.1) = true)
    (h1 : ∀ w', Chg Nob w w' → WL P ops (One o.dst fun v w'' => (F → K w'') ∧ T (putE E o.dst v) w'') N [o] E' w') :
    ∀ w', Chg Nob w w' → ∀ o', ops[i]? = some o' → WL P ops (One o'.dst fun v w'' => (F → K w'') ∧ T (putE E o'.dst v) w'') N [o'] (restr ops i E) w' :=
  fun w' hw o' ho' => by rw [ho] at ho'; injection ho' with ho'; subst ho'; exact (h1 w' hw).sub (sub_restr hs hk)
theorem DU.done (h : ∀ w', Chg Nob w w' → WX Q .normal N E w') (rs : List Nat) : DU P ops Q N K L 0 rs E w := h
end
end Go.HL
namespace Go.Proofs.YtggecdldnpildaaGreat
open Go.RowKit Go.HL
set_option maxRecDepth 100000

/-! a block's rows are read -/
theorem errS_col {s : RA} (hu : Up s) {f c : Nat} (hi : inS s ((c % s.dn : Nat) : Int) ((f + c / s.dn : Nat) : Int)) : errS s ((c % s.dn : Nat) : Int) ((f + c / s.dn : Nat) : Int) = if goneS s ((c % s.dn : Nat) : Int) = true then 3 else 0 := by
  rw [errS, if_neg (fun h => h hi), hu.off]
  by_cases h : goneS s ((c % s.dn : Nat) : Int) = true
  · rw [if_pos h, if_pos h]
  · rw [if_neg h, if_neg h, if_neg (by decide)]
set_option maxHeartbeats 8000000 in
theorem stripes_calls {A : Nat → Prop} {w : World} {a R f : Nat} {s : RA} (hB : AB w a R s.dn f) (h : RK A w R s) (hu : Up s) (h5 : 5 ≤ s.dn) (hf : f < s.sn) (addr size : Nat) (hs : 1 ≤ size ∧ size ≤ 1024) (ha : addr + costA s.dn (secsA size) ≤ s.dn * (s.sn - f)) :
    Calls Tryz.prog 45 [ptr a, vi addr, vi size].toArray w (Ret fun v w' => (∃ ao c l, v = .tuple #[.slice ao l.length c, vi 0] ∧ Row (w.heap.size ≤ ·) w' 121 estp ao c l ∧ SI (w.heap.size ≤ ·) w' 26 5 3 l ∧ l.map Stp.abs = strA s f addr size) ∧ Chg Nob w w') := by
  have hw := Chg.refl Nob w
  have la := hB.lt
  have hok := h.ok
  have hdn := h.ok.dn
  have hsn := h.ok.sn
  replace h := h.old
  have hm : s.dn * (s.sn - f) ≤ 16 * 2000 := Nat.mul_le_mul (by omega) (by omega)
  have h8 := secsA_le hs.2
  refine Calls.of_WC Tryz.func45 rfl Tryz.ntmps45 (by simp) ?_
  refine WC.seq (WC.region (WL.assign rfl rfl (WL.assign rfl rfl (WL.nil (WX.then_normal (WC.seq (WC.region (?_))))))))
  refine WL.assign rfl rfl (WL.nil (WX.then_normal (WC.seq (WC.seq (WC.region (WL.move rfl rfl (WL.move rfl rfl (?_))))))))
  refine WL.move rfl rfl (?_)
  refine WL.call eg_39 rfl rfl (rows_calls hB ⟨h5, hdn.2⟩ addr size (by omega) hs.2) ?_
  rintro v w1 ⟨⟨ar, cr, rfl, hr⟩, k1⟩
  have zs_k1 := k1.size
  replace hB := hB.pure k1
  replace h := h.pure k1
  replace hw := hw.pure k1
  refine WL.len Tryz.underlying82 rfl rfl (WL.move rfl rfl (WL.nil (WX.then_normal (WC.block (?_)))))
  obtain ⟨rows, hrows⟩ : ∃ rows, rows = rowsA s.dn addr (secsA size) := ⟨_, rfl⟩
  have hrl : rows.length ≤ 8 := by rw [hrows]; exact Nat.le_trans (rowsA_len (by omega) _ _) h8
  have hstr : rows.map (stpA s f) = strA s f addr size := by rw [hrows]; rfl
  have hsum : sumR rows = costA s.dn (secsA size) := by rw [hrows]; exact sumR_rows (by omega) _ _ _
  rw [← hrows] at hr ⊢
  refine WC.loop (σ := Nat × ((Option Addr × Nat) × List Stp)) (fun q => [(0, ptr a), (8, .slice q.2.1.1 q.2.2.length q.2.1.2), (21, .slice ar rows.length cr), (22, vi rows.length), (23, vi (q.1 : Int))])
    (fun q w' => q.1 ≤ rows.length ∧ AB w' a R s.dn f ∧ RK (fun x => A x ∧ x < w.heap.size) w' R s ∧ RSK (w.heap.size ≤ ·) w' 85 er2 ar cr rows ∧ Row (w.heap.size ≤ ·) w' 121 estp q.2.1.1 q.2.1.2 q.2.2 ∧ SI (w.heap.size ≤ ·) w' 26 5 3 q.2.2 ∧ q.2.2.map Stp.abs = (rows.take q.1).map (stpA s f) ∧ Chg Nob w w') (fun q => rows.length - q.1) (0, ((none, 0), [])) ⟨rfl, rfl, rfl, rfl, rfl, trivial⟩
    ⟨Nat.zero_le _, hB, h, hr.rsk, Row.nil _ _ _ _, SI.nil _ _ _ _ _, rfl, hw⟩ ?_
  clear hB h hr hw
  rintro ⟨i, ⟨al, cl⟩, l⟩ w4 ⟨hi, hB, h, hr, hO, hI, hl, hw⟩
  simp only at hi hO hI hl
  dsimp only
  have zw4 := hw.size
  replace hr := hr.low
  replace hO := hO.lt
  replace hI := hI.low
  have hll : l.length = i := by
    have h1 : l.length = (l.map Stp.abs).length := by simp
    rw [h1, hl, List.length_map, List.length_take]
    omega
  refine WC.seq (WC.region (?_))
  refine WL.lss? rfl rfl rfl (fun h24 => ?_) (fun h24 => ?_)
  ·
    refine WL.nil (WX.then_normal (WC.seq (WC.cond_true rfl (WC.skip (WX.then_normal (WC.seq (WC.block (?_))))))))
    refine WC.seq (WC.region (?_))
    obtain ⟨x, hx⟩ : ∃ x, rows[i]? = some x := ⟨_, List.getElem?_eq_getElem (by omega)⟩
    have hxm := rowsA_mem (n := s.dn) (by omega) _ _ _ (hrows ▸ List.mem_of_getElem? hx)
    rw [← hrows, hsum] at hxm
    have hr1 := RSK.rsl hr
    refine WL.indexT Tryz.underlying82 Tryz.sizeOf85 hr1 rfl rfl ⟨hx, rfl⟩ rfl ?_
    intro bb oo hcc
    refine WL.loads _ Tryz.isAgg85 Tryz.sizeOf85 rfl hcc rfl rfl (?_)
    refine WL.alloc Tryz.zeroValue85 rfl ?_
    intro ga wa hgea hlta hba ka
    have zs_ka := ka.size
    replace hB := hB.pure ka
    replace h := h.pure ka
    replace hr := hr.pure ka
    replace hO := hO.pure ka
    replace hI := hI.pure ka
    replace hw := hw.pure ka
    refine WL.stores Tryz.sizeOf85 hba rfl rfl (by rfl) (by exact Enc.one _ _) (by exact Nat.le_of_ble_eq_true rfl) rfl ?_
    intro w_1 hs_1 hn_1 k_1
    have zs_k_1 := k_1.size
    replace hB := hB.chg k_1 (by intro h1; have h2 : _ = _ := h1; exfalso; omega)
    replace h := h.chg k_1 (by intro b h1 h2 h3; have h4 : _ = _ := h3; (try dsimp only at h2); exfalso; omega)
    replace hr := hr.chg k_1 (by intros; exfalso; (try dsimp only at *); omega)
    replace hO := hO.chg k_1 (by intro b h1 h2 h3; have h4 : _ = _ := h3; (try dsimp only at h2); exfalso; omega)
    replace hI := hI.chg k_1 (by intro b h1 h2 h3; have h4 : _ = _ := h3; (try dsimp only at h2); exfalso; omega)
    replace hw := hw.chg k_1 (by intro x h1 h2; have h3 : _ = _ := h2; exfalso; omega)
    replace hba := hn_1
    refine WL.nil (WX.then_normal (WC.seq (WC.region (?_))))
    have hb10 : Blk _ ga 85 [vi x.1, vi x.2] := hba
    refine WL.alloc Tryz.zeroValue121 rfl ?_
    intro gs ws hges hlts hbs ks
    have zs_ks := ks.size
    replace hB := hB.pure ks
    replace h := h.pure ks
    replace hr := hr.pure ks
    replace hO := hO.pure ks
    replace hI := hI.pure ks
    replace hw := hw.pure ks
    replace hb10 := hb10.pure ks
    have hb11 : Blk _ gs 121 [.slice none 0 0, .slice none 0 0] := hbs
    refine WL.nil (WX.then_normal (WC.seq (WC.seq (WC.region (WL.fieldAddr (fld_85_1) rfl rfl (WL.loadB Tryz.isAgg3 hb10 rfl rfl rfl (?_)))))))
    refine WL.add64 rfl rfl (by constructor <;> omega) rfl ?_
    refine WL.move rfl rfl (WL.nil (WX.then_normal (WC.block (?_))))
    have l10 := hb10.lt
    have l11 := hb11.lt
    have hne : ga ≠ gs := by omega
    have hga : w4.heap.size ≤ ga := by omega
    have hgs : w4.heap.size ≤ gs := by omega
    have zws := hw.size
    obtain ⟨C, hC⟩ : ∃ C : Nat → List (List UInt8), C = fun j => (stpA s f x).1.take j := ⟨_, rfl⟩
    obtain ⟨D, hD⟩ : ∃ D : Nat → List Int, D = fun j => (stpA s f x).2.take j := ⟨_, rfl⟩
    obtain ⟨sl1, sl2⟩ := stpA_len s f x
    have hCs : ∀ j, j < x.2 + 3 → C (j + 1) = C j ++ [colA s f (x.1 + cix x.2 j)] := fun j hj => by rw [hC]; show List.take (j + 1) _ = List.take j _ ++ _; rw [List.take_add_one, stpA_col hj]; rfl
    have hDs : ∀ j, j < x.2 + 3 → D (j + 1) = D j ++ [(((x.1 + cix x.2 j) % s.dn : Nat) : Int)] := fun j hj => by
      have h1 := stpA_drv (s := s) (f := f) (r := x) hj
      rw [List.getD_eq_getElem?_getD] at h1
      have h2 : (stpA s f x).2[j]? = some (((x.1 + cix x.2 j) % s.dn : Nat) : Int) := by
        rw [List.getElem?_eq_getElem (by rw [sl2]; exact hj)] at h1 ⊢
        exact congrArg some h1
      rw [hD]; show List.take (j + 1) _ = List.take j _ ++ _; rw [List.take_add_one, h2]; rfl
    have hDl : ∀ j, j ≤ x.2 + 3 → (D j).length = j := fun j hj => by rw [hD]; show (List.take j _).length = j; rw [List.length_take, sl2]; omega
    refine WC.loop (σ := Nat × ((Option Addr × Nat) × List Rw) × (Option Addr × Nat)) (fun q => [(0, ptr a), (8, .slice al l.length cl), (10, ptr ga), (11, ptr gs), (21, .slice ar rows.length cr), (22, vi rows.length), (23, vi (i : Int)), (29, vi ((x.2 : Int) + 3)), (30, vi (q.1 : Int))])
      (fun q w' => q.1 ≤ x.2 + 3 ∧ AB w' a R s.dn f ∧ RK (fun x => A x ∧ x < w.heap.size) w' R s ∧ RSK (fun b => w.heap.size ≤ b ∧ b < w4.heap.size) w' 85 er2 ar cr rows ∧ Row (fun b => w.heap.size ≤ b ∧ b < w4.heap.size) w' 121 estp al cl l ∧ SI (fun b => w.heap.size ≤ b ∧ b < w4.heap.size) w' 26 5 3 l ∧ Blk w' ga 85 [vi x.1, vi x.2] ∧ Blk w' gs 121 [.slice q.2.1.1.1 q.2.1.2.length q.2.1.1.2, .slice q.2.2.1 (D q.1).length q.2.2.2]
        ∧ KR (fun b => w4.heap.size ≤ b ∧ b ≠ ga ∧ b ≠ gs) w' 26 5 q.2.1.1.1 q.2.1.1.2 q.2.1.2 ∧ Row (fun b => w4.heap.size ≤ b ∧ b ≠ ga ∧ b ≠ gs) w' 3 ei q.2.2.1 q.2.2.2 (D q.1) ∧ q.2.1.2.map Rw.xs = C q.1 ∧ Chg Nob w w' ∧ (w4.heap.size ≤ w'.heap.size ∧ ga < w'.heap.size ∧ gs < w'.heap.size)) (fun q => x.2 + 3 - q.1) (0, ((none, 0), []), (none, 0)) ⟨rfl, rfl, rfl, rfl, rfl, rfl, rfl, rfl, rfl, trivial⟩
      ⟨Nat.zero_le _, hB, h, hr, hO, hI, hb10, by rw [show (D 0).length = 0 from hDl 0 (by omega)]; exact hb11, KR.nil _ _ _ _, by rw [show D 0 = [] from by rw [hD]; rfl]; exact Row.nil _ _ _ _, by rw [hC]; rfl, hw, by omega, l10, l11⟩ ?_
    clear hB h hr hO hI hw hb10 hb11 hbs hba
    rintro ⟨j, ⟨⟨ca, cc⟩, cs⟩, da, dc⟩ w5 ⟨hj, hB, h, hr, hO, hI, hb10, hb11, hK, hE, hcs, hw, zw5, l10, l11⟩
    simp only at hj hb11 hK hE hcs
    dsimp only
    have hcl : cs.length = j := by
      have h1 : cs.length = (cs.map Rw.xs).length := by simp
      rw [h1, hcs, hC]
      show (List.take j _).length = j
      rw [List.length_take, sl1]
      omega
    have hdl := hDl j hj
    have zw5' := hw.size
    refine WC.seq (WC.region (?_))
    refine WL.lss? rfl rfl rfl (fun h31 => ?_) (fun h31 => ?_)
    ·
      refine WL.nil (WX.then_normal (WC.seq (WC.cond_true rfl (WC.skip (WX.then_normal (WC.seq (WC.block (?_))))))))
      refine WC.seq (WC.region (WL.move rfl rfl (WL.assign rfl rfl (WL.nil (WX.then_normal (WC.seq (?_)))))))
      refine WC.draw (Nob) [0, 1, 2, 3, 4, 5, 6, 7, 8, 9] [] mixed rfl rfl (fun wd_2 kd_2 zd_2 => ?_)
      have zs_kd_2 := kd_2.size
      replace hB := hB.pure kd_2
      replace h := h.pure kd_2
      replace hr := hr.pure kd_2
      replace hO := hO.pure kd_2
      replace hI := hI.pure kd_2
      replace hb10 := hb10.pure kd_2
      replace hb11 := hb11.pure kd_2
      replace hK := hK.pure kd_2
      replace hE := hE.pure kd_2
      replace hw := hw.pure kd_2
      apply DQ.step (E' := [(10, _)])
      case ho => rfl
      case hs => exact ⟨rfl, trivial⟩
      case hk => rfl
      case h1 =>
        intro wq_3 kq_3
        refine WL.fieldAddr (fld_85_0) rfl rfl (?_)
        refine WL.nil ?_
        exact WX.one ⟨rfl, by exact Chg.refl _ _⟩
      apply DQ.step (E' := [(33, _)])
      case ho => rfl
      case hs => exact ⟨rfl, trivial⟩
      case hk => rfl
      case h1 =>
        intro wq_4 kq_4
        have zs_kq_4 := kq_4.size
        replace hB := hB.pure kq_4
        replace h := h.pure kq_4
        replace hr := hr.pure kq_4
        replace hO := hO.pure kq_4
        replace hI := hI.pure kq_4
        replace hb10 := hb10.pure kq_4
        replace hb11 := hb11.pure kq_4
        replace hK := hK.pure kq_4
        replace hE := hE.pure kq_4
        replace hw := hw.pure kq_4
        refine WL.loadB Tryz.isAgg3 hb10 rfl rfl rfl (?_)
        refine WL.nil ?_
        exact WX.one ⟨rfl, by exact Chg.refl _ _⟩
      apply DQ.step (E' := [(12, _)])
      case ho => rfl
      case hs => exact ⟨rfl, trivial⟩
      case hk => rfl
      case h1 =>
        intro wq_5 kq_5
        refine WL.move rfl rfl (?_)
        refine WL.nil ?_
        exact WX.one ⟨rfl, by exact Chg.refl _ _⟩
      apply DQ.step (E' := [(35, _)])
      case ho => rfl
      case hs => exact ⟨rfl, trivial⟩
      case hk => rfl
      case h1 =>
        intro wq_6 kq_6
        refine WL.add64 rfl rfl (by constructor <;> omega) rfl ?_
        refine WL.nil ?_
        exact WX.one ⟨rfl, by exact Chg.refl _ _⟩
      apply DQ.step (E' := [(10, _)])
      case ho => rfl
      case hs => exact ⟨rfl, trivial⟩
      case hk => rfl
      case h1 =>
        intro wq_7 kq_7
        refine WL.fieldAddr (fld_85_1) rfl rfl (?_)
        refine WL.nil ?_
        exact WX.one ⟨rfl, by exact Chg.refl _ _⟩
      apply DQ.step (E' := [(37, _)])
      case ho => rfl
      case hs => exact ⟨rfl, trivial⟩
      case hk => rfl
      case h1 =>
        intro wq_8 kq_8
        have zs_kq_8 := kq_8.size
        replace hB := hB.pure kq_8
        replace h := h.pure kq_8
        replace hr := hr.pure kq_8
        replace hO := hO.pure kq_8
        replace hI := hI.pure kq_8
        replace hb10 := hb10.pure kq_8
        replace hb11 := hb11.pure kq_8
        replace hK := hK.pure kq_8
        replace hE := hE.pure kq_8
        replace hw := hw.pure kq_8
        refine WL.loadB Tryz.isAgg3 hb10 rfl rfl rfl (?_)
        refine WL.nil ?_
        exact WX.one ⟨rfl, by exact Chg.refl _ _⟩
      apply DQ.step (E' := [(38, _)])
      case ho => rfl
      case hs => exact ⟨rfl, trivial⟩
      case hk => rfl
      case h1 =>
        intro wq_9 kq_9
        refine WL.add64 rfl rfl (by constructor <;> omega) rfl ?_
        refine WL.nil ?_
        exact WX.one ⟨rfl, by exact Chg.refl _ _⟩
      apply DQ.step (E' := [(36, _), (39, _)])
      case ho => rfl
      case hs => exact ⟨rfl, rfl, trivial⟩
      case hk => rfl
      case h1 =>
        intro wq_10 kq_10
        have hj3 : j < x.2 + 3 := by omega
        refine WL.rem64i rfl rfl (by constructor <;> omega) rfl ?_
        rw [show ((j : Int) + 3) % ((x.2 : Int) + 3) = ((cix x.2 j : Nat) : Int) from by rw [← cix_is hj3, Int.natCast_emod, Int.natCast_add, Int.natCast_add]; rfl]
        refine WL.nil ?_
        exact WX.one ⟨rfl, by exact Chg.refl _ _⟩
      apply DQ.step (E' := [(34, _), (40, _)])
      case ho => rfl
      case hs => exact ⟨rfl, rfl, trivial⟩
      case hk => rfl
      case h1 =>
        intro wq_11 kq_11
        have hj3 : j < x.2 + 3 := by omega
        have hcx := cix_lt hj3
        refine WL.add64 rfl rfl (by constructor <;> omega) rfl ?_
        rw [show (x.1 : Int) + ((cix x.2 j : Nat) : Int) = ((x.1 + cix x.2 j : Nat) : Int) from by omega]
        refine WL.nil ?_
        exact WX.one ⟨rfl, by exact Chg.refl _ _⟩
      apply DQ.step (E' := [(41, _)])
      case ho => rfl
      case hs => exact ⟨rfl, trivial⟩
      case hk => rfl
      case h1 =>
        intro wq_12 kq_12
        refine WL.assign rfl rfl (?_)
        refine WL.nil ?_
        exact WX.one ⟨rfl, by exact Chg.refl _ _⟩
      refine DQ.done (fun _ => ?_)
      refine DL.done (fun we_13 ke_13 => ?_)
      have zs_ke_13 := ke_13.size
      replace hB := hB.pure ke_13
      replace h := h.pure ke_13
      replace hr := hr.pure ke_13
      replace hO := hO.pure ke_13
      replace hI := hI.pure ke_13
      replace hb10 := hb10.pure ke_13
      replace hb11 := hb11.pure ke_13
      replace hK := hK.pure ke_13
      replace hE := hE.pure ke_13
      replace hw := hw.pure ke_13
      refine WX.then_normal (WC.seq (WC.region (WL.move rfl rfl (WL.move rfl rfl (?_)))))
      have hj3 : j < x.2 + 3 := by omega
      have hcx := cix_lt hj3
      obtain ⟨c, hc⟩ : ∃ c, c = x.1 + cix x.2 j := ⟨_, rfl⟩
      have hcb : c < s.dn * (s.sn - f) := by omega
      have hC1 := hCs j hj3
      have hD1 := hDs j hj3
      rw [← hc] at hC1 hD1 ⊢
      refine WL.call eg_60 rfl rfl (place_calls hB ⟨h5, hdn.2⟩ (by omega) c (by omega)) ?_
      rintro v w6 ⟨rfl, k6⟩
      have zs_k6 := k6.size
      replace hB := hB.pure k6
      replace h := h.pure k6
      replace hr := hr.pure k6
      replace hO := hO.pure k6
      replace hI := hI.pure k6
      replace hb10 := hb10.pure k6
      replace hb11 := hb11.pure k6
      replace hK := hK.pure k6
      replace hE := hE.pure k6
      replace hw := hw.pure k6
      refine WL.move rfl rfl (WL.extract rfl rfl rfl (WL.extract rfl rfl rfl (WL.assign rfl rfl (WL.assign rfl rfl (WL.nil (WX.then_normal (WC.seq (?_))))))))
      refine WC.region (WL.move rfl rfl (WL.nilCheck rfl rfl (WL.fieldAddr (fld_81_0) rfl rfl (WL.loadB Tryz.isAgg27 hB rfl rfl rfl (WL.move rfl rfl (WL.move rfl rfl (?_)))))))
      have hin := (plN_in h5 hcb).1
      have her := errS_col hu hin
      refine WL.call eg_30 rfl rfl (Read_calls h ((c % s.dn : Nat) : Int) ((f + c / s.dn : Nat) : Int)) ?_
      rintro v w7 ⟨⟨r, e, rfl, he, hx0, hxn, hq⟩, k7⟩
      rw [her] at he
      have zw6 := hw.size
      have zs_k7 := k7.size
      replace hB := hB.pure k7
      replace h := h.pure k7
      replace hr := hr.pure k7
      replace hO := hO.pure k7
      replace hI := hI.pure k7
      replace hb10 := hb10.pure k7
      replace hb11 := hb11.pure k7
      replace hK := hK.pure k7
      replace hE := hE.pure k7
      replace hw := hw.pure k7
      have hq7 : RSK (fun b => w4.heap.size ≤ b ∧ b ≠ ga ∧ b ≠ gs) w7 5 eb r.ao r.cap r.xs := RSK.mono hq.rsk (fun b _ hb => by have h9 : _ ≤ b := hb; exact ⟨by omega, by omega, by omega⟩)
      have hrx : r.xs = colA s f c := by
        rw [colA]
        by_cases hg : goneS s ((c % s.dn : Nat) : Int) = true
        ·
          rw [if_pos hg] at he ⊢
          rw [hxn (by omega)]
        ·
          rw [if_neg hg] at he ⊢
          exact hx0 he
      have he3 : e = 0 ∨ e = 3 := by rw [he]; split <;> simp
      clear he hx0 hxn hq
      rcases he3 with rfl | rfl
      ·
        refine WL.move rfl rfl (WL.extract rfl rfl rfl (WL.extract rfl rfl rfl (WL.assign rfl rfl (WL.assign rfl rfl (WL.nil (WX.then_normal (WC.seq (?_))))))))
        refine WC.seq (WC.region (WL.move rfl rfl (?_)))
        refine WL.neqF rfl rfl rfl (by rfl) ?_
        refine WL.move rfl rfl (WL.pass rfl rfl rfl rfl (WL.pass rfl rfl rfl rfl (WL.pickF rfl rfl rfl (WL.nil (WX.then_normal (WC.cond_false rfl (WC.skip (?_))))))))
        refine WX.then_normal (?_)
        refine WC.drawL ((fun x => w4.heap.size ≤ x ∧ x ≠ ga ∧ x ≠ gs)) [0, 1, 2, 5, 6, 7, 10, 12] [3, 4, 8, 9, 11, 13] [7, 12] [11, 13] rfl mixed rfl rfl (fun wd_14 kd_14 zd_14 => ?_)
        replace hB := hB.pure kd_14
        replace h := h.pure kd_14
        replace hr := hr.pure kd_14
        replace hO := hO.pure kd_14
        replace hI := hI.pure kd_14
        replace hb10 := hb10.pure kd_14
        replace hb11 := hb11.pure kd_14
        replace hK := hK.pure kd_14
        replace hE := hE.pure kd_14
        replace hw := hw.pure kd_14
        replace hq7 := hq7.pure kd_14
        apply DQU.step (E' := [(11, _)])
        case ho => rfl
        case hs => exact ⟨rfl, trivial⟩
        case hk => rfl
        case h1 =>
          intro wq_16 kq_16
          replace kq_16 := kq_16 rfl
          refine WL.fieldAddr (fld_121_0) rfl rfl (?_)
          refine WL.nil ?_
          exact WX.one ⟨rfl, by exact Chg.refl _ _⟩
        apply DQU.step (E' := [(65, _)])
        case ho => rfl
        case hs => exact ⟨rfl, trivial⟩
        case hk => rfl
        case h1 =>
          intro wq_17 kq_17
          replace kq_17 := kq_17 rfl
          replace hB := hB.chg kq_17 (by intro h1; have h2 := h1.1; omega)
          replace h := h.chg kq_17 (by intro b h1 h2 h3; have h4 := h3.1; have h5 := h2.2; omega)
          replace hr := hr.chg kq_17 (by intro b h1 h2 h3 h4; have h5 := h4.1; have h6 := h2.2; omega)
          replace hO := hO.chg kq_17 (by intro b h1 h2 h3; have h4 := h3.1; have h5 := h2.2; omega)
          replace hI := hI.chg kq_17 (by intro b h1 h2 h3; have h4 := h3.1; have h5 := h2.2; omega)
          replace hb10 := hb10.chg kq_17 (by intro h1; have h2 := h1.1; omega)
          replace hb11 := hb11.chg kq_17 (by intro h1; have h2 := h1.1; omega)
          replace hw := hw.chg kq_17 (by intro x h1 h2; have h3 := h2.1; omega)
          refine WL.loadB Tryz.isAgg87 hb11 rfl rfl rfl (?_)
          refine WL.nil ?_
          exact WX.one ⟨rfl, by exact Chg.refl _ _⟩
        apply DQU.step (E' := [(16, _)])
        case ho => rfl
        case hs => exact ⟨rfl, trivial⟩
        case hk => rfl
        case h1 =>
          intro wq_18 kq_18
          replace kq_18 := kq_18 rfl
          refine WL.move rfl rfl (?_)
          refine WL.nil ?_
          exact WX.one ⟨rfl, by exact Chg.refl _ _⟩
        apply DQU.step (E' := [(11, _)])
        case ho => rfl
        case hs => exact ⟨rfl, trivial⟩
        case hk => rfl
        case h1 =>
          intro wq_19 kq_19
          replace kq_19 := kq_19 rfl
          refine WL.fieldAddr (fld_121_1) rfl rfl (?_)
          refine WL.nil ?_
          exact WX.one ⟨rfl, by exact Chg.refl _ _⟩
        apply DQU.step (E' := [(70, _)])
        case ho => rfl
        case hs => exact ⟨rfl, trivial⟩
        case hk => rfl
        case h1 =>
          intro wq_20 kq_20
          replace kq_20 := kq_20 rfl
          replace hB := hB.chg kq_20 (by intro h1; have h2 := h1.1; omega)
          replace h := h.chg kq_20 (by intro b h1 h2 h3; have h4 := h3.1; have h5 := h2.2; omega)
          replace hr := hr.chg kq_20 (by intro b h1 h2 h3 h4; have h5 := h4.1; have h6 := h2.2; omega)
          replace hO := hO.chg kq_20 (by intro b h1 h2 h3; have h4 := h3.1; have h5 := h2.2; omega)
          replace hI := hI.chg kq_20 (by intro b h1 h2 h3; have h4 := h3.1; have h5 := h2.2; omega)
          replace hb10 := hb10.chg kq_20 (by intro h1; have h2 := h1.1; omega)
          replace hb11 := hb11.chg kq_20 (by intro h1; have h2 := h1.1; omega)
          replace hw := hw.chg kq_20 (by intro x h1 h2; have h3 := h2.1; omega)
          refine WL.loadB Tryz.isAgg39 hb11 rfl rfl rfl (?_)
          refine WL.nil ?_
          exact WX.one ⟨rfl, by exact Chg.refl _ _⟩
        apply DQU.step (E' := [(14, _)])
        case ho => rfl
        case hs => exact ⟨rfl, trivial⟩
        case hk => rfl
        case h1 =>
          intro wq_21 kq_21
          refine WL.move rfl rfl (?_)
          refine WL.nil ?_
          exact WX.one ⟨rfl, by exact Chg.refl _ _⟩
        apply DQU.step (E' := [(11, _)])
        case ho => rfl
        case hs => exact ⟨rfl, trivial⟩
        case hk => rfl
        case h1 =>
          intro wq_22 kq_22
          replace kq_22 := kq_22 rfl
          refine WL.fieldAddr (fld_121_0) rfl rfl (?_)
          refine WL.nil ?_
          exact WX.one ⟨rfl, by exact Chg.refl _ _⟩
        apply DQU.step (E' := [(11, _)])
        case ho => rfl
        case hs => exact ⟨rfl, trivial⟩
        case hk => rfl
        case h1 =>
          intro wq_23 kq_23
          refine WL.fieldAddr (fld_121_1) rfl rfl (?_)
          refine WL.nil ?_
          exact WX.one ⟨rfl, by exact Chg.refl _ _⟩
        refine DQU.done (fun hd_15 => ?_)
        refine ⟨?_, trivial, ?_, trivial, trivial, trivial, trivial⟩
        refine DU.step [(67, _)] rfl ⟨rfl, trivial⟩ rfl (fun wq_24 kq_24 => ?_)
        replace hB := hB.pure kq_24
        replace h := h.pure kq_24
        replace hr := hr.pure kq_24
        replace hO := hO.pure kq_24
        replace hI := hI.pure kq_24
        replace hb10 := hb10.pure kq_24
        replace hb11 := hb11.pure kq_24
        replace hK := hK.pure kq_24
        replace hE := hE.pure kq_24
        replace hw := hw.pure kq_24
        replace hq7 := hq7.pure kq_24
        replace hd_15 := hd_15.pure kq_24
        refine WL.build (e := erow) [r] Tryz.underlying87 Tryz.sizeOf26 Tryz.zeroValue26 rfl rfl rfl (by simp [Value.cells] <;> rfl) (by decide) rfl ?_
        intro a_q68 w_q68 q68 l_q68 z_q68 k_q68
        replace hB := hB.pure k_q68
        replace h := h.pure k_q68
        replace hr := hr.pure k_q68
        replace hO := hO.pure k_q68
        replace hI := hI.pure k_q68
        replace hb10 := hb10.pure k_q68
        replace hb11 := hb11.pure k_q68
        replace hK := hK.pure k_q68
        replace hE := hE.pure k_q68
        replace hw := hw.pure k_q68
        replace hq7 := hq7.pure k_q68
        replace hd_15 := hd_15.pure k_q68
        refine WL.nil (WX.one ⟨fun _ => hd_15, ?_⟩)
        refine ⟨?_, ?_, trivial, trivial, trivial, trivial⟩
        refine DU.step [(66, _), (68, _)] rfl ⟨rfl, rfl, trivial⟩ rfl (fun wq_25 kq_25 => ?_)
        replace hB := hB.pure kq_25
        replace h := h.pure kq_25
        replace hr := hr.pure kq_25
        replace hO := hO.pure kq_25
        replace hI := hI.pure kq_25
        replace hb10 := hb10.pure kq_25
        replace hb11 := hb11.pure kq_25
        replace hK := hK.pure kq_25
        replace hE := hE.pure kq_25
        replace hw := hw.pure kq_25
        replace hq7 := hq7.pure kq_25
        replace hd_15 := hd_15.pure kq_25
        replace q68 := q68.pure kq_25
        have l10 := hb10.lt
        have l11 := hb11.lt
        refine WL.append (e := erow) info_26 rfl Tryz.underlying87 rfl rfl hK.outer (q68.rsl.src Tryz.underlying87) (by constructor <;> (simp only [List.length_cons, List.length_nil]; omega)) (fun b hb => by have h9 : _ ≤ b := hb; exact ⟨by omega, by omega, by omega⟩) rfl ?_
        intro a69 c69 w69 hA69 g69 n69
        have z69 := g69.chg.size
        have hK69 := hK.app (by decide) (by intro q hq; rw [List.mem_singleton] at hq; subst hq; exact hq7) hA69 g69
        have k69 : ∀ b, (Eqb ca b ∧ w4.heap.size ≤ b ∧ b ≠ ga ∧ b ≠ gs) → kb _ b = some (some 26) := fun b hm => (hK.outer.kb.at_.eqb hm.1).2
        skip
        replace hE := hE.chgK g69.chg (fun b _ hm hk => by rw [k69 b hm] at hk; exact absurd hk (by decide))
        replace hB := hB.chg g69.chg (fun hm => by have := hm.2.1; omega)
        replace h := h.chg g69.chg (fun b _ h1 h2 => by have := h1.2; have := h2.2.1; omega)
        replace hr := hr.chg g69.chg (fun b _ h1 _ h2 => by have := h1.2; have := h2.2.1; omega)
        replace hO := hO.chg g69.chg (fun b _ h1 h2 => by have := h1.2; have := h2.2.1; omega)
        replace hI := hI.chg g69.chg (fun b _ h1 h2 => by have := h1.2; have := h2.2.1; omega)
        replace hb10 := hb10.chg g69.chg (fun hm => hm.2.2.1 rfl)
        replace hb11 := hb11.chg g69.chg (fun hm => hm.2.2.2 rfl)
        replace hw := hw.chg g69.chg (fun x h1 h2 => by have := h2.2.1; omega)
        replace hd_15 := hd_15.chg g69.chg (by intro x h1 h2; exact h2.2)
        refine WL.nil (WX.one ⟨fun _ => hd_15, ?_⟩)
        refine ⟨?_, trivial, trivial, trivial, trivial⟩
        refine DU.step [(72, _)] rfl ⟨rfl, trivial⟩ rfl (fun wq_26 kq_26 => ?_)
        replace hB := hB.pure kq_26
        replace h := h.pure kq_26
        replace hr := hr.pure kq_26
        replace hO := hO.pure kq_26
        replace hI := hI.pure kq_26
        replace hb10 := hb10.pure kq_26
        replace hb11 := hb11.pure kq_26
        replace hE := hE.pure kq_26
        replace hw := hw.pure kq_26
        replace hd_15 := hd_15.pure kq_26
        replace hK69 := hK69.pure kq_26
        refine WL.build (e := ei) [(((c % s.dn : Nat) : Int))] Tryz.underlying39 Tryz.sizeOf3 Tryz.zeroValue3 rfl rfl rfl (by simp [Value.cells] <;> rfl) (by decide) rfl ?_
        intro a_q73 w_q73 q73 l_q73 z_q73 k_q73
        replace hB := hB.pure k_q73
        replace h := h.pure k_q73
        replace hr := hr.pure k_q73
        replace hO := hO.pure k_q73
        replace hI := hI.pure k_q73
        replace hb10 := hb10.pure k_q73
        replace hb11 := hb11.pure k_q73
        replace hE := hE.pure k_q73
        replace hw := hw.pure k_q73
        replace hd_15 := hd_15.pure k_q73
        replace hK69 := hK69.pure k_q73
        refine WL.nil (WX.one ⟨fun _ => hd_15, ?_⟩)
        refine ⟨?_, trivial, trivial, trivial⟩
        refine DU.step [(71, _), (73, _)] rfl ⟨rfl, rfl, trivial⟩ rfl (fun wq_27 kq_27 => ?_)
        replace hB := hB.pure kq_27
        replace h := h.pure kq_27
        replace hr := hr.pure kq_27
        replace hO := hO.pure kq_27
        replace hI := hI.pure kq_27
        replace hb10 := hb10.pure kq_27
        replace hb11 := hb11.pure kq_27
        replace hE := hE.pure kq_27
        replace hw := hw.pure kq_27
        replace hd_15 := hd_15.pure kq_27
        replace hK69 := hK69.pure kq_27
        replace q73 := q73.pure kq_27
        have l10 := hb10.lt
        have l11 := hb11.lt
        refine WL.append (e := ei) info_3 rfl Tryz.underlying39 rfl rfl hE (q73.rsl.src Tryz.underlying39) (by constructor <;> (simp only [List.length_cons, List.length_nil]; omega)) (fun b hb => by have h9 : _ ≤ b := hb; exact ⟨by omega, by omega, by omega⟩) rfl ?_
        intro a74 c74 w74 hE74 g74 n74
        have z74 := g74.chg.size
        rw [← hD1] at hE74 ⊢
        have hK74 : KR (fun b => w4.heap.size ≤ b ∧ b ≠ ga ∧ b ≠ gs) w74 26 5 a69 c69 (cs ++ [r]) := ⟨hK69.outer.chgK g74.chg (fun b hb hm hk => by
          have h1 := (hE.kb.at_.eqb hm.1).2
          rw [hk] at h1
          exact absurd h1 (by decide)), fun q hq => (hK69.inner q hq).grow hE g74 (by decide)⟩
        replace hB := hB.chg g74.chg (fun hm => by have := hm.2.1; omega)
        replace h := h.chg g74.chg (fun b _ h1 h2 => by have := h1.2; have := h2.2.1; omega)
        replace hr := hr.chg g74.chg (fun b _ h1 _ h2 => by have := h1.2; have := h2.2.1; omega)
        replace hO := hO.chg g74.chg (fun b _ h1 h2 => by have := h1.2; have := h2.2.1; omega)
        replace hI := hI.chg g74.chg (fun b _ h1 h2 => by have := h1.2; have := h2.2.1; omega)
        replace hb10 := hb10.chg g74.chg (fun hm => hm.2.2.1 rfl)
        replace hb11 := hb11.chg g74.chg (fun hm => hm.2.2.2 rfl)
        replace hw := hw.chg g74.chg (fun x h1 h2 => by have := h2.2.1; omega)
        replace hd_15 := hd_15.chg g74.chg (by intro x h1 h2; exact h2.2)
        refine WL.nil (WX.one ⟨fun _ => hd_15, ?_⟩)
        refine ⟨?_, trivial, trivial⟩
        refine DU.step [(75, _), (69, _)] rfl ⟨rfl, rfl, trivial⟩ rfl (fun wq_28 kq_28 => ?_)
        replace hB := hB.pure kq_28
        replace h := h.pure kq_28
        replace hr := hr.pure kq_28
        replace hO := hO.pure kq_28
        replace hI := hI.pure kq_28
        replace hb10 := hb10.pure kq_28
        replace hb11 := hb11.pure kq_28
        replace hw := hw.pure kq_28
        replace hd_15 := hd_15.pure kq_28
        replace hE74 := hE74.pure kq_28
        replace hK74 := hK74.pure kq_28
        refine WL.store Tryz.sizeOf87 hb11 rfl rfl rfl rfl ?_
        intro w_29 hs_29 hn_29 k_29
        replace hB := hB.chg k_29 (by intro h1; have h2 : _ = _ := h1; omega)
        replace h := h.chg k_29 (by intro x h1 h2; have h3 := h2.1; omega)
        replace hr := hr.chg k_29 (by intro x h1 h2; have h3 := h2.1; omega)
        replace hO := hO.chg k_29 (by intro x h1 h2; have h3 := h2.1; omega)
        replace hI := hI.chg k_29 (by intro x h1 h2; have h3 := h2.1; omega)
        replace hb10 := hb10.chg k_29 (by intro h1; have h2 : _ = _ := h1; omega)
        replace hw := hw.chg k_29 (by intro x h1 h2; have h3 : x = gs := h2; omega)
        replace hE74 := hE74.chg k_29 (by intro x h1 h2; have h3 := h2.1; omega)
        replace hK74 := hK74.chg k_29 (by intro x h1 h2; have h3 := h2.1; omega)
        replace hb11 := hn_29
        refine WL.nil (WX.one0 (v := undef) ⟨fun h => absurd h (by decide), ?_⟩)
        refine ⟨?_, trivial⟩
        refine DU.step [(76, _), (74, _)] rfl ⟨rfl, rfl, trivial⟩ rfl (fun wq_30 kq_30 => ?_)
        replace hB := hB.pure kq_30
        replace h := h.pure kq_30
        replace hr := hr.pure kq_30
        replace hO := hO.pure kq_30
        replace hI := hI.pure kq_30
        replace hb10 := hb10.pure kq_30
        replace hb11 := hb11.pure kq_30
        replace hw := hw.pure kq_30
        replace hE74 := hE74.pure kq_30
        replace hK74 := hK74.pure kq_30
        refine WL.store Tryz.sizeOf39 hb11 rfl rfl rfl rfl ?_
        intro w_31 hs_31 hn_31 k_31
        replace hB := hB.chg k_31 (by intro h1; have h2 : _ = _ := h1; omega)
        replace h := h.chg k_31 (by intro x h1 h2; have h3 := h2.1; omega)
        replace hr := hr.chg k_31 (by intro x h1 h2; have h3 := h2.1; omega)
        replace hO := hO.chg k_31 (by intro x h1 h2; have h3 := h2.1; omega)
        replace hI := hI.chg k_31 (by intro x h1 h2; have h3 := h2.1; omega)
        replace hb10 := hb10.chg k_31 (by intro h1; have h2 : _ = _ := h1; omega)
        replace hw := hw.chg k_31 (by intro x h1 h2; have h3 : x = gs := h2; omega)
        replace hE74 := hE74.chg k_31 (by intro x h1 h2; have h3 := h2.1; omega)
        replace hK74 := hK74.chg k_31 (by intro x h1 h2; have h3 := h2.1; omega)
        replace hb11 := hn_31
        refine WL.nil (WX.one0 (v := undef) ⟨fun h => absurd h (by decide), ?_⟩)
        refine DU.done (fun we_32 ke_32 => ?_) _
        replace hB := hB.pure ke_32
        replace h := h.pure ke_32
        replace hr := hr.pure ke_32
        replace hO := hO.pure ke_32
        replace hI := hI.pure ke_32
        replace hb10 := hb10.pure ke_32
        replace hb11 := hb11.pure ke_32
        replace hw := hw.pure ke_32
        replace hE74 := hE74.pure ke_32
        replace hK74 := hK74.pure ke_32
        rotate_left
        refine DU.step [(72, _)] rfl ⟨rfl, trivial⟩ rfl (fun wq_25 kq_25 => ?_)
        replace hB := hB.pure kq_25
        replace h := h.pure kq_25
        replace hr := hr.pure kq_25
        replace hO := hO.pure kq_25
        replace hI := hI.pure kq_25
        replace hb10 := hb10.pure kq_25
        replace hb11 := hb11.pure kq_25
        replace hK := hK.pure kq_25
        replace hE := hE.pure kq_25
        replace hw := hw.pure kq_25
        replace hq7 := hq7.pure kq_25
        replace hd_15 := hd_15.pure kq_25
        replace q68 := q68.pure kq_25
        refine WL.build (e := ei) [(((c % s.dn : Nat) : Int))] Tryz.underlying39 Tryz.sizeOf3 Tryz.zeroValue3 rfl rfl rfl (by simp [Value.cells] <;> rfl) (by decide) rfl ?_
        intro a_q73 w_q73 q73 l_q73 z_q73 k_q73
        replace hB := hB.pure k_q73
        replace h := h.pure k_q73
        replace hr := hr.pure k_q73
        replace hO := hO.pure k_q73
        replace hI := hI.pure k_q73
        replace hb10 := hb10.pure k_q73
        replace hb11 := hb11.pure k_q73
        replace hK := hK.pure k_q73
        replace hE := hE.pure k_q73
        replace hw := hw.pure k_q73
        replace hq7 := hq7.pure k_q73
        replace hd_15 := hd_15.pure k_q73
        replace q68 := q68.pure k_q73
        refine WL.nil (WX.one ⟨fun _ => hd_15, ?_⟩)
        refine ⟨?_, trivial, trivial, trivial, trivial⟩
        refine DU.step [(66, _), (68, _)] rfl ⟨rfl, rfl, trivial⟩ rfl (fun wq_26 kq_26 => ?_)
        replace hB := hB.pure kq_26
        replace h := h.pure kq_26
        replace hr := hr.pure kq_26
        replace hO := hO.pure kq_26
        replace hI := hI.pure kq_26
        replace hb10 := hb10.pure kq_26
        replace hb11 := hb11.pure kq_26
        replace hK := hK.pure kq_26
        replace hE := hE.pure kq_26
        replace hw := hw.pure kq_26
        replace hq7 := hq7.pure kq_26
        replace hd_15 := hd_15.pure kq_26
        replace q68 := q68.pure kq_26
        replace q73 := q73.pure kq_26
        have l10 := hb10.lt
        have l11 := hb11.lt
        refine WL.append (e := erow) info_26 rfl Tryz.underlying87 rfl rfl hK.outer (q68.rsl.src Tryz.underlying87) (by constructor <;> (simp only [List.length_cons, List.length_nil]; omega)) (fun b hb => by have h9 : _ ≤ b := hb; exact ⟨by omega, by omega, by omega⟩) rfl ?_
        intro a69 c69 w69 hA69 g69 n69
        have z69 := g69.chg.size
        have hK69 := hK.app (by decide) (by intro q hq; rw [List.mem_singleton] at hq; subst hq; exact hq7) hA69 g69
        have k69 : ∀ b, (Eqb ca b ∧ w4.heap.size ≤ b ∧ b ≠ ga ∧ b ≠ gs) → kb _ b = some (some 26) := fun b hm => (hK.outer.kb.at_.eqb hm.1).2
        replace q73 := q73.chgK g69.chg (fun b _ hm hk => by rw [k69 b hm] at hk; exact absurd hk (by decide))
        replace hE := hE.chgK g69.chg (fun b _ hm hk => by rw [k69 b hm] at hk; exact absurd hk (by decide))
        replace hB := hB.chg g69.chg (fun hm => by have := hm.2.1; omega)
        replace h := h.chg g69.chg (fun b _ h1 h2 => by have := h1.2; have := h2.2.1; omega)
        replace hr := hr.chg g69.chg (fun b _ h1 _ h2 => by have := h1.2; have := h2.2.1; omega)
        replace hO := hO.chg g69.chg (fun b _ h1 h2 => by have := h1.2; have := h2.2.1; omega)
        replace hI := hI.chg g69.chg (fun b _ h1 h2 => by have := h1.2; have := h2.2.1; omega)
        replace hb10 := hb10.chg g69.chg (fun hm => hm.2.2.1 rfl)
        replace hb11 := hb11.chg g69.chg (fun hm => hm.2.2.2 rfl)
        replace hw := hw.chg g69.chg (fun x h1 h2 => by have := h2.2.1; omega)
        replace hd_15 := hd_15.chg g69.chg (by intro x h1 h2; exact h2.2)
        refine WL.nil (WX.one ⟨fun _ => hd_15, ?_⟩)
        refine ⟨?_, trivial, trivial, trivial⟩
        refine DU.step [(71, _), (73, _)] rfl ⟨rfl, rfl, trivial⟩ rfl (fun wq_27 kq_27 => ?_)
        replace hB := hB.pure kq_27
        replace h := h.pure kq_27
        replace hr := hr.pure kq_27
        replace hO := hO.pure kq_27
        replace hI := hI.pure kq_27
        replace hb10 := hb10.pure kq_27
        replace hb11 := hb11.pure kq_27
        replace hE := hE.pure kq_27
        replace hw := hw.pure kq_27
        replace hd_15 := hd_15.pure kq_27
        replace q73 := q73.pure kq_27
        replace hK69 := hK69.pure kq_27
        have l10 := hb10.lt
        have l11 := hb11.lt
        refine WL.append (e := ei) info_3 rfl Tryz.underlying39 rfl rfl hE (q73.rsl.src Tryz.underlying39) (by constructor <;> (simp only [List.length_cons, List.length_nil]; omega)) (fun b hb => by have h9 : _ ≤ b := hb; exact ⟨by omega, by omega, by omega⟩) rfl ?_
        intro a74 c74 w74 hE74 g74 n74
        have z74 := g74.chg.size
        rw [← hD1] at hE74 ⊢
        have hK74 : KR (fun b => w4.heap.size ≤ b ∧ b ≠ ga ∧ b ≠ gs) w74 26 5 a69 c69 (cs ++ [r]) := ⟨hK69.outer.chgK g74.chg (fun b hb hm hk => by
          have h1 := (hE.kb.at_.eqb hm.1).2
          rw [hk] at h1
          exact absurd h1 (by decide)), fun q hq => (hK69.inner q hq).grow hE g74 (by decide)⟩
        replace hB := hB.chg g74.chg (fun hm => by have := hm.2.1; omega)
        replace h := h.chg g74.chg (fun b _ h1 h2 => by have := h1.2; have := h2.2.1; omega)
        replace hr := hr.chg g74.chg (fun b _ h1 _ h2 => by have := h1.2; have := h2.2.1; omega)
        replace hO := hO.chg g74.chg (fun b _ h1 h2 => by have := h1.2; have := h2.2.1; omega)
        replace hI := hI.chg g74.chg (fun b _ h1 h2 => by have := h1.2; have := h2.2.1; omega)
        replace hb10 := hb10.chg g74.chg (fun hm => hm.2.2.1 rfl)
        replace hb11 := hb11.chg g74.chg (fun hm => hm.2.2.2 rfl)
        replace hw := hw.chg g74.chg (fun x h1 h2 => by have := h2.2.1; omega)
        replace hd_15 := hd_15.chg g74.chg (by intro x h1 h2; exact h2.2)
        refine WL.nil (WX.one ⟨fun _ => hd_15, ?_⟩)
        refine ⟨?_, trivial, trivial⟩
        refine DU.step [(75, _), (69, _)] rfl ⟨rfl, rfl, trivial⟩ rfl (fun wq_28 kq_28 => ?_)
        replace hB := hB.pure kq_28
        replace h := h.pure kq_28
        replace hr := hr.pure kq_28
        replace hO := hO.pure kq_28
        replace hI := hI.pure kq_28
        replace hb10 := hb10.pure kq_28
        replace hb11 := hb11.pure kq_28
        replace hw := hw.pure kq_28
        replace hd_15 := hd_15.pure kq_28
        replace hE74 := hE74.pure kq_28
        replace hK74 := hK74.pure kq_28
        refine WL.store Tryz.sizeOf87 hb11 rfl rfl rfl rfl ?_
        intro w_29 hs_29 hn_29 k_29
        replace hB := hB.chg k_29 (by intro h1; have h2 : _ = _ := h1; omega)
        replace h := h.chg k_29 (by intro x h1 h2; have h3 := h2.1; omega)
        replace hr := hr.chg k_29 (by intro x h1 h2; have h3 := h2.1; omega)
        replace hO := hO.chg k_29 (by intro x h1 h2; have h3 := h2.1; omega)
        replace hI := hI.chg k_29 (by intro x h1 h2; have h3 := h2.1; omega)
        replace hb10 := hb10.chg k_29 (by intro h1; have h2 : _ = _ := h1; omega)
        replace hw := hw.chg k_29 (by intro x h1 h2; have h3 : x = gs := h2; omega)
        replace hE74 := hE74.chg k_29 (by intro x h1 h2; have h3 := h2.1; omega)
        replace hK74 := hK74.chg k_29 (by intro x h1 h2; have h3 := h2.1; omega)
        replace hb11 := hn_29
        refine WL.nil (WX.one0 (v := undef) ⟨fun h => absurd h (by decide), ?_⟩)
        refine ⟨?_, trivial⟩
        refine DU.step [(76, _), (74, _)] rfl ⟨rfl, rfl, trivial⟩ rfl (fun wq_30 kq_30 => ?_)
        replace hB := hB.pure kq_30
        replace h := h.pure kq_30
        replace hr := hr.pure kq_30
        replace hO := hO.pure kq_30
        replace hI := hI.pure kq_30
        replace hb10 := hb10.pure kq_30
        replace hb11 := hb11.pure kq_30
        replace hw := hw.pure kq_30
        replace hE74 := hE74.pure kq_30
        replace hK74 := hK74.pure kq_30
        refine WL.store Tryz.sizeOf39 hb11 rfl rfl rfl rfl ?_
        intro w_31 hs_31 hn_31 k_31
        replace hB := hB.chg k_31 (by intro h1; have h2 : _ = _ := h1; omega)
        replace h := h.chg k_31 (by intro x h1 h2; have h3 := h2.1; omega)
        replace hr := hr.chg k_31 (by intro x h1 h2; have h3 := h2.1; omega)
        replace hO := hO.chg k_31 (by intro x h1 h2; have h3 := h2.1; omega)
        replace hI := hI.chg k_31 (by intro x h1 h2; have h3 := h2.1; omega)
        replace hb10 := hb10.chg k_31 (by intro h1; have h2 : _ = _ := h1; omega)
        replace hw := hw.chg k_31 (by intro x h1 h2; have h3 : x = gs := h2; omega)
        replace hE74 := hE74.chg k_31 (by intro x h1 h2; have h3 := h2.1; omega)
        replace hK74 := hK74.chg k_31 (by intro x h1 h2; have h3 := h2.1; omega)
        replace hb11 := hn_31
        refine WL.nil (WX.one0 (v := undef) ⟨fun h => absurd h (by decide), ?_⟩)
        refine DU.done (fun we_32 ke_32 => ?_) _
        replace hB := hB.pure ke_32
        replace h := h.pure ke_32
        replace hr := hr.pure ke_32
        replace hO := hO.pure ke_32
        replace hI := hI.pure ke_32
        replace hb10 := hb10.pure ke_32
        replace hb11 := hb11.pure ke_32
        replace hw := hw.pure ke_32
        replace hE74 := hE74.pure ke_32
        replace hK74 := hK74.pure ke_32
        rotate_left
        refine DU.step [(72, _)] rfl ⟨rfl, trivial⟩ rfl (fun wq_24 kq_24 => ?_)
        replace hB := hB.pure kq_24
        replace h := h.pure kq_24
        replace hr := hr.pure kq_24
        replace hO := hO.pure kq_24
        replace hI := hI.pure kq_24
        replace hb10 := hb10.pure kq_24
        replace hb11 := hb11.pure kq_24
        replace hK := hK.pure kq_24
        replace hE := hE.pure kq_24
        replace hw := hw.pure kq_24
        replace hq7 := hq7.pure kq_24
        replace hd_15 := hd_15.pure kq_24
        refine WL.build (e := ei) [(((c % s.dn : Nat) : Int))] Tryz.underlying39 Tryz.sizeOf3 Tryz.zeroValue3 rfl rfl rfl (by simp [Value.cells] <;> rfl) (by decide) rfl ?_
        intro a_q73 w_q73 q73 l_q73 z_q73 k_q73
        replace hB := hB.pure k_q73
        replace h := h.pure k_q73
        replace hr := hr.pure k_q73
        replace hO := hO.pure k_q73
        replace hI := hI.pure k_q73
        replace hb10 := hb10.pure k_q73
        replace hb11 := hb11.pure k_q73
        replace hK := hK.pure k_q73
        replace hE := hE.pure k_q73
        replace hw := hw.pure k_q73
        replace hq7 := hq7.pure k_q73
        replace hd_15 := hd_15.pure k_q73
        refine WL.nil (WX.one ⟨fun _ => hd_15, ?_⟩)
        refine ⟨?_, trivial, trivial, trivial, trivial, trivial⟩
        refine DU.step [(67, _)] rfl ⟨rfl, trivial⟩ rfl (fun wq_25 kq_25 => ?_)
        replace hB := hB.pure kq_25
        replace h := h.pure kq_25
        replace hr := hr.pure kq_25
        replace hO := hO.pure kq_25
        replace hI := hI.pure kq_25
        replace hb10 := hb10.pure kq_25
        replace hb11 := hb11.pure kq_25
        replace hK := hK.pure kq_25
        replace hE := hE.pure kq_25
        replace hw := hw.pure kq_25
        replace hq7 := hq7.pure kq_25
        replace hd_15 := hd_15.pure kq_25
        replace q73 := q73.pure kq_25
        refine WL.build (e := erow) [r] Tryz.underlying87 Tryz.sizeOf26 Tryz.zeroValue26 rfl rfl rfl (by simp [Value.cells] <;> rfl) (by decide) rfl ?_
        intro a_q68 w_q68 q68 l_q68 z_q68 k_q68
        replace hB := hB.pure k_q68
        replace h := h.pure k_q68
        replace hr := hr.pure k_q68
        replace hO := hO.pure k_q68
        replace hI := hI.pure k_q68
        replace hb10 := hb10.pure k_q68
        replace hb11 := hb11.pure k_q68
        replace hK := hK.pure k_q68
        replace hE := hE.pure k_q68
        replace hw := hw.pure k_q68
        replace hq7 := hq7.pure k_q68
        replace hd_15 := hd_15.pure k_q68
        replace q73 := q73.pure k_q68
        refine WL.nil (WX.one ⟨fun _ => hd_15, ?_⟩)
        refine ⟨?_, trivial, trivial, trivial, trivial⟩
        refine DU.step [(66, _), (68, _)] rfl ⟨rfl, rfl, trivial⟩ rfl (fun wq_26 kq_26 => ?_)
        replace hB := hB.pure kq_26
        replace h := h.pure kq_26
        replace hr := hr.pure kq_26
        replace hO := hO.pure kq_26
        replace hI := hI.pure kq_26
        replace hb10 := hb10.pure kq_26
        replace hb11 := hb11.pure kq_26
        replace hK := hK.pure kq_26
        replace hE := hE.pure kq_26
        replace hw := hw.pure kq_26
        replace hq7 := hq7.pure kq_26
        replace hd_15 := hd_15.pure kq_26
        replace q73 := q73.pure kq_26
        replace q68 := q68.pure kq_26
        have l10 := hb10.lt
        have l11 := hb11.lt
        refine WL.append (e := erow) info_26 rfl Tryz.underlying87 rfl rfl hK.outer (q68.rsl.src Tryz.underlying87) (by constructor <;> (simp only [List.length_cons, List.length_nil]; omega)) (fun b hb => by have h9 : _ ≤ b := hb; exact ⟨by omega, by omega, by omega⟩) rfl ?_
        intro a69 c69 w69 hA69 g69 n69
        have z69 := g69.chg.size
        have hK69 := hK.app (by decide) (by intro q hq; rw [List.mem_singleton] at hq; subst hq; exact hq7) hA69 g69
        have k69 : ∀ b, (Eqb ca b ∧ w4.heap.size ≤ b ∧ b ≠ ga ∧ b ≠ gs) → kb _ b = some (some 26) := fun b hm => (hK.outer.kb.at_.eqb hm.1).2
        replace q73 := q73.chgK g69.chg (fun b _ hm hk => by rw [k69 b hm] at hk; exact absurd hk (by decide))
        replace hE := hE.chgK g69.chg (fun b _ hm hk => by rw [k69 b hm] at hk; exact absurd hk (by decide))
        replace hB := hB.chg g69.chg (fun hm => by have := hm.2.1; omega)
        replace h := h.chg g69.chg (fun b _ h1 h2 => by have := h1.2; have := h2.2.1; omega)
        replace hr := hr.chg g69.chg (fun b _ h1 _ h2 => by have := h1.2; have := h2.2.1; omega)
        replace hO := hO.chg g69.chg (fun b _ h1 h2 => by have := h1.2; have := h2.2.1; omega)
        replace hI := hI.chg g69.chg (fun b _ h1 h2 => by have := h1.2; have := h2.2.1; omega)
        replace hb10 := hb10.chg g69.chg (fun hm => hm.2.2.1 rfl)
        replace hb11 := hb11.chg g69.chg (fun hm => hm.2.2.2 rfl)
        replace hw := hw.chg g69.chg (fun x h1 h2 => by have := h2.2.1; omega)
        replace hd_15 := hd_15.chg g69.chg (by intro x h1 h2; exact h2.2)
        refine WL.nil (WX.one ⟨fun _ => hd_15, ?_⟩)
        refine ⟨?_, trivial, trivial, trivial⟩
        refine DU.step [(71, _), (73, _)] rfl ⟨rfl, rfl, trivial⟩ rfl (fun wq_27 kq_27 => ?_)
        replace hB := hB.pure kq_27
        replace h := h.pure kq_27
        replace hr := hr.pure kq_27
        replace hO := hO.pure kq_27
        replace hI := hI.pure kq_27
        replace hb10 := hb10.pure kq_27
        replace hb11 := hb11.pure kq_27
        replace hE := hE.pure kq_27
        replace hw := hw.pure kq_27
        replace hd_15 := hd_15.pure kq_27
        replace q73 := q73.pure kq_27
        replace hK69 := hK69.pure kq_27
        have l10 := hb10.lt
        have l11 := hb11.lt
        refine WL.append (e := ei) info_3 rfl Tryz.underlying39 rfl rfl hE (q73.rsl.src Tryz.underlying39) (by constructor <;> (simp only [List.length_cons, List.length_nil]; omega)) (fun b hb => by have h9 : _ ≤ b := hb; exact ⟨by omega, by omega, by omega⟩) rfl ?_
        intro a74 c74 w74 hE74 g74 n74
        have z74 := g74.chg.size
        rw [← hD1] at hE74 ⊢
        have hK74 : KR (fun b => w4.heap.size ≤ b ∧ b ≠ ga ∧ b ≠ gs) w74 26 5 a69 c69 (cs ++ [r]) := ⟨hK69.outer.chgK g74.chg (fun b hb hm hk => by
          have h1 := (hE.kb.at_.eqb hm.1).2
          rw [hk] at h1
          exact absurd h1 (by decide)), fun q hq => (hK69.inner q hq).grow hE g74 (by decide)⟩
        replace hB := hB.chg g74.chg (fun hm => by have := hm.2.1; omega)
        replace h := h.chg g74.chg (fun b _ h1 h2 => by have := h1.2; have := h2.2.1; omega)
        replace hr := hr.chg g74.chg (fun b _ h1 _ h2 => by have := h1.2; have := h2.2.1; omega)
        replace hO := hO.chg g74.chg (fun b _ h1 h2 => by have := h1.2; have := h2.2.1; omega)
        replace hI := hI.chg g74.chg (fun b _ h1 h2 => by have := h1.2; have := h2.2.1; omega)
        replace hb10 := hb10.chg g74.chg (fun hm => hm.2.2.1 rfl)
        replace hb11 := hb11.chg g74.chg (fun hm => hm.2.2.2 rfl)
        replace hw := hw.chg g74.chg (fun x h1 h2 => by have := h2.2.1; omega)
        replace hd_15 := hd_15.chg g74.chg (by intro x h1 h2; exact h2.2)
        refine WL.nil (WX.one ⟨fun _ => hd_15, ?_⟩)
        refine ⟨?_, trivial, trivial⟩
        refine DU.step [(75, _), (69, _)] rfl ⟨rfl, rfl, trivial⟩ rfl (fun wq_28 kq_28 => ?_)
        replace hB := hB.pure kq_28
        replace h := h.pure kq_28
        replace hr := hr.pure kq_28
        replace hO := hO.pure kq_28
        replace hI := hI.pure kq_28
        replace hb10 := hb10.pure kq_28
        replace hb11 := hb11.pure kq_28
        replace hw := hw.pure kq_28
        replace hd_15 := hd_15.pure kq_28
        replace hE74 := hE74.pure kq_28
        replace hK74 := hK74.pure kq_28
        refine WL.store Tryz.sizeOf87 hb11 rfl rfl rfl rfl ?_
        intro w_29 hs_29 hn_29 k_29
        replace hB := hB.chg k_29 (by intro h1; have h2 : _ = _ := h1; omega)
        replace h := h.chg k_29 (by intro x h1 h2; have h3 := h2.1; omega)
        replace hr := hr.chg k_29 (by intro x h1 h2; have h3 := h2.1; omega)
        replace hO := hO.chg k_29 (by intro x h1 h2; have h3 := h2.1; omega)
        replace hI := hI.chg k_29 (by intro x h1 h2; have h3 := h2.1; omega)
        replace hb10 := hb10.chg k_29 (by intro h1; have h2 : _ = _ := h1; omega)
        replace hw := hw.chg k_29 (by intro x h1 h2; have h3 : x = gs := h2; omega)
        replace hE74 := hE74.chg k_29 (by intro x h1 h2; have h3 := h2.1; omega)
        replace hK74 := hK74.chg k_29 (by intro x h1 h2; have h3 := h2.1; omega)
        replace hb11 := hn_29
        refine WL.nil (WX.one0 (v := undef) ⟨fun h => absurd h (by decide), ?_⟩)
        refine ⟨?_, trivial⟩
        refine DU.step [(76, _), (74, _)] rfl ⟨rfl, rfl, trivial⟩ rfl (fun wq_30 kq_30 => ?_)
        replace hB := hB.pure kq_30
        replace h := h.pure kq_30
        replace hr := hr.pure kq_30
        replace hO := hO.pure kq_30
        replace hI := hI.pure kq_30
        replace hb10 := hb10.pure kq_30
        replace hb11 := hb11.pure kq_30
        replace hw := hw.pure kq_30
        replace hE74 := hE74.pure kq_30
        replace hK74 := hK74.pure kq_30
        refine WL.store Tryz.sizeOf39 hb11 rfl rfl rfl rfl ?_
        intro w_31 hs_31 hn_31 k_31
        replace hB := hB.chg k_31 (by intro h1; have h2 : _ = _ := h1; omega)
        replace h := h.chg k_31 (by intro x h1 h2; have h3 := h2.1; omega)
        replace hr := hr.chg k_31 (by intro x h1 h2; have h3 := h2.1; omega)
        replace hO := hO.chg k_31 (by intro x h1 h2; have h3 := h2.1; omega)
        replace hI := hI.chg k_31 (by intro x h1 h2; have h3 := h2.1; omega)
        replace hb10 := hb10.chg k_31 (by intro h1; have h2 : _ = _ := h1; omega)
        replace hw := hw.chg k_31 (by intro x h1 h2; have h3 : x = gs := h2; omega)
        replace hE74 := hE74.chg k_31 (by intro x h1 h2; have h3 := h2.1; omega)
        replace hK74 := hK74.chg k_31 (by intro x h1 h2; have h3 := h2.1; omega)
        replace hb11 := hn_31
        refine WL.nil (WX.one0 (v := undef) ⟨fun h => absurd h (by decide), ?_⟩)
        refine DU.done (fun we_32 ke_32 => ?_) _
        replace hB := hB.pure ke_32
        replace h := h.pure ke_32
        replace hr := hr.pure ke_32
        replace hO := hO.pure ke_32
        replace hI := hI.pure ke_32
        replace hb10 := hb10.pure ke_32
        replace hb11 := hb11.pure ke_32
        replace hw := hw.pure ke_32
        replace hE74 := hE74.pure ke_32
        replace hK74 := hK74.pure ke_32
        rotate_left
        all_goals
          refine WX.block_normal (WX.then_normal (WC.region (WL.add64 rfl rfl (by omega) rfl (WL.move rfl rfl (WL.nil (?_))))))
          exact WX.loop_next (j + 1, ((a69, c69), cs ++ [r]), (a74, c74)) ⟨rfl, rfl, rfl, rfl, rfl, rfl, rfl, rfl, rfl, trivial⟩ ⟨by show j + 1 ≤ x.2 + 3; omega, hB, h, hr, hO, hI, hb10, hb11, hK74, hE74, by show (cs ++ [r]).map Rw.xs = _; rw [List.map_append, hcs, hC1, ← hrx]; rfl, hw, by have := hb10.lt; have := hb11.lt; omega⟩ (by show x.2 + 3 - (j + 1) < x.2 + 3 - j; omega)
      ·
        refine WL.move rfl rfl (WL.extract rfl rfl rfl (WL.extract rfl rfl rfl (WL.assign rfl rfl (WL.assign rfl rfl (WL.nil (WX.then_normal (WC.seq (?_))))))))
        refine WC.seq (WC.region (WL.move rfl rfl (?_)))
        refine WL.neqT rfl rfl rfl (by omega) ?_
        refine WL.move rfl rfl (WL.want rfl rfl rfl (WL.move rfl rfl (WL.want rfl rfl rfl (?_))))
        refine WL.neqF rfl rfl rfl (by rfl) ?_
        refine WL.pickT rfl rfl rfl (WL.nil (WX.then_normal (WC.cond_false rfl (WC.skip (WX.then_normal (?_))))))
        refine WC.drawL ((fun x => w4.heap.size ≤ x ∧ x ≠ ga ∧ x ≠ gs)) [0, 1, 2, 5, 6, 7, 10, 12] [3, 4, 8, 9, 11, 13] [7, 12] [11, 13] rfl mixed rfl rfl (fun wd_14 kd_14 zd_14 => ?_)
        replace hB := hB.pure kd_14
        replace h := h.pure kd_14
        replace hr := hr.pure kd_14
        replace hO := hO.pure kd_14
        replace hI := hI.pure kd_14
        replace hb10 := hb10.pure kd_14
        replace hb11 := hb11.pure kd_14
        replace hK := hK.pure kd_14
        replace hE := hE.pure kd_14
        replace hw := hw.pure kd_14
        replace hq7 := hq7.pure kd_14
        apply DQU.step (E' := [(11, _)])
        case ho => rfl
        case hs => exact ⟨rfl, trivial⟩
        case hk => rfl
        case h1 =>
          intro wq_16 kq_16
          replace kq_16 := kq_16 rfl
          refine WL.fieldAddr (fld_121_0) rfl rfl (?_)
          refine WL.nil ?_
          exact WX.one ⟨rfl, by exact Chg.refl _ _⟩
        apply DQU.step (E' := [(65, _)])
        case ho => rfl
        case hs => exact ⟨rfl, trivial⟩
        case hk => rfl
        case h1 =>
          intro wq_17 kq_17
          replace kq_17 := kq_17 rfl
          replace hB := hB.chg kq_17 (by intro h1; have h2 := h1.1; omega)
          replace h := h.chg kq_17 (by intro b h1 h2 h3; have h4 := h3.1; have h5 := h2.2; omega)
          replace hr := hr.chg kq_17 (by intro b h1 h2 h3 h4; have h5 := h4.1; have h6 := h2.2; omega)
          replace hO := hO.chg kq_17 (by intro b h1 h2 h3; have h4 := h3.1; have h5 := h2.2; omega)
          replace hI := hI.chg kq_17 (by intro b h1 h2 h3; have h4 := h3.1; have h5 := h2.2; omega)
          replace hb10 := hb10.chg kq_17 (by intro h1; have h2 := h1.1; omega)
          replace hb11 := hb11.chg kq_17 (by intro h1; have h2 := h1.1; omega)
          replace hw := hw.chg kq_17 (by intro x h1 h2; have h3 := h2.1; omega)
          refine WL.loadB Tryz.isAgg87 hb11 rfl rfl rfl (?_)
          refine WL.nil ?_
          exact WX.one ⟨rfl, by exact Chg.refl _ _⟩
        apply DQU.step (E' := [(16, _)])
        case ho => rfl
        case hs => exact ⟨rfl, trivial⟩
        case hk => rfl
        case h1 =>
          intro wq_18 kq_18
          replace kq_18 := kq_18 rfl
          refine WL.move rfl rfl (?_)
          refine WL.nil ?_
          exact WX.one ⟨rfl, by exact Chg.refl _ _⟩
        apply DQU.step (E' := [(11, _)])
        case ho => rfl
        case hs => exact ⟨rfl, trivial⟩
        case hk => rfl
        case h1 =>
          intro wq_19 kq_19
          replace kq_19 := kq_19 rfl
          refine WL.fieldAddr (fld_121_1) rfl rfl (?_)
          refine WL.nil ?_
          exact WX.one ⟨rfl, by exact Chg.refl _ _⟩
        apply DQU.step (E' := [(70, _)])
        case ho => rfl
        case hs => exact ⟨rfl, trivial⟩
        case hk => rfl
        case h1 =>
          intro wq_20 kq_20
          replace kq_20 := kq_20 rfl
          replace hB := hB.chg kq_20 (by intro h1; have h2 := h1.1; omega)
          replace h := h.chg kq_20 (by intro b h1 h2 h3; have h4 := h3.1; have h5 := h2.2; omega)
          replace hr := hr.chg kq_20 (by intro b h1 h2 h3 h4; have h5 := h4.1; have h6 := h2.2; omega)
          replace hO := hO.chg kq_20 (by intro b h1 h2 h3; have h4 := h3.1; have h5 := h2.2; omega)
          replace hI := hI.chg kq_20 (by intro b h1 h2 h3; have h4 := h3.1; have h5 := h2.2; omega)
          replace hb10 := hb10.chg kq_20 (by intro h1; have h2 := h1.1; omega)
          replace hb11 := hb11.chg kq_20 (by intro h1; have h2 := h1.1; omega)
          replace hw := hw.chg kq_20 (by intro x h1 h2; have h3 := h2.1; omega)
          refine WL.loadB Tryz.isAgg39 hb11 rfl rfl rfl (?_)
          refine WL.nil ?_
          exact WX.one ⟨rfl, by exact Chg.refl _ _⟩
        apply DQU.step (E' := [(14, _)])
        case ho => rfl
        case hs => exact ⟨rfl, trivial⟩
        case hk => rfl
        case h1 =>
          intro wq_21 kq_21
          refine WL.move rfl rfl (?_)
          refine WL.nil ?_
          exact WX.one ⟨rfl, by exact Chg.refl _ _⟩
        apply DQU.step (E' := [(11, _)])
        case ho => rfl
        case hs => exact ⟨rfl, trivial⟩
        case hk => rfl
        case h1 =>
          intro wq_22 kq_22
          replace kq_22 := kq_22 rfl
          refine WL.fieldAddr (fld_121_0) rfl rfl (?_)
          refine WL.nil ?_
          exact WX.one ⟨rfl, by exact Chg.refl _ _⟩
        apply DQU.step (E' := [(11, _)])
        case ho => rfl
        case hs => exact ⟨rfl, trivial⟩
        case hk => rfl
        case h1 =>
          intro wq_23 kq_23
          refine WL.fieldAddr (fld_121_1) rfl rfl (?_)
          refine WL.nil ?_
          exact WX.one ⟨rfl, by exact Chg.refl _ _⟩
        refine DQU.done (fun hd_15 => ?_)
        refine ⟨?_, trivial, ?_, trivial, trivial, trivial, trivial⟩
        refine DU.step [(67, _)] rfl ⟨rfl, trivial⟩ rfl (fun wq_24 kq_24 => ?_)
        replace hB := hB.pure kq_24
        replace h := h.pure kq_24
        replace hr := hr.pure kq_24
        replace hO := hO.pure kq_24
        replace hI := hI.pure kq_24
        replace hb10 := hb10.pure kq_24
        replace hb11 := hb11.pure kq_24
        replace hK := hK.pure kq_24
        replace hE := hE.pure kq_24
        replace hw := hw.pure kq_24
        replace hq7 := hq7.pure kq_24
        replace hd_15 := hd_15.pure kq_24
        refine WL.build (e := erow) [r] Tryz.underlying87 Tryz.sizeOf26 Tryz.zeroValue26 rfl rfl rfl (by simp [Value.cells] <;> rfl) (by decide) rfl ?_
        intro a_q68 w_q68 q68 l_q68 z_q68 k_q68
        replace hB := hB.pure k_q68
        replace h := h.pure k_q68
        replace hr := hr.pure k_q68
        replace hO := hO.pure k_q68
        replace hI := hI.pure k_q68
        replace hb10 := hb10.pure k_q68
        replace hb11 := hb11.pure k_q68
        replace hK := hK.pure k_q68
        replace hE := hE.pure k_q68
        replace hw := hw.pure k_q68
        replace hq7 := hq7.pure k_q68
        replace hd_15 := hd_15.pure k_q68
        refine WL.nil (WX.one ⟨fun _ => hd_15, ?_⟩)
        refine ⟨?_, ?_, trivial, trivial, trivial, trivial⟩
        refine DU.step [(66, _), (68, _)] rfl ⟨rfl, rfl, trivial⟩ rfl (fun wq_25 kq_25 => ?_)
        replace hB := hB.pure kq_25
        replace h := h.pure kq_25
        replace hr := hr.pure kq_25
        replace hO := hO.pure kq_25
        replace hI := hI.pure kq_25
        replace hb10 := hb10.pure kq_25
        replace hb11 := hb11.pure kq_25
        replace hK := hK.pure kq_25
        replace hE := hE.pure kq_25
        replace hw := hw.pure kq_25
        replace hq7 := hq7.pure kq_25
        replace hd_15 := hd_15.pure kq_25
        replace q68 := q68.pure kq_25
        have l10 := hb10.lt
        have l11 := hb11.lt
        refine WL.append (e := erow) info_26 rfl Tryz.underlying87 rfl rfl hK.outer (q68.rsl.src Tryz.underlying87) (by constructor <;> (simp only [List.length_cons, List.length_nil]; omega)) (fun b hb => by have h9 : _ ≤ b := hb; exact ⟨by omega, by omega, by omega⟩) rfl ?_
        intro a69 c69 w69 hA69 g69 n69
        have z69 := g69.chg.size
        have hK69 := hK.app (by decide) (by intro q hq; rw [List.mem_singleton] at hq; subst hq; exact hq7) hA69 g69
        have k69 : ∀ b, (Eqb ca b ∧ w4.heap.size ≤ b ∧ b ≠ ga ∧ b ≠ gs) → kb _ b = some (some 26) := fun b hm => (hK.outer.kb.at_.eqb hm.1).2
        skip
        replace hE := hE.chgK g69.chg (fun b _ hm hk => by rw [k69 b hm] at hk; exact absurd hk (by decide))
        replace hB := hB.chg g69.chg (fun hm => by have := hm.2.1; omega)
        replace h := h.chg g69.chg (fun b _ h1 h2 => by have := h1.2; have := h2.2.1; omega)
        replace hr := hr.chg g69.chg (fun b _ h1 _ h2 => by have := h1.2; have := h2.2.1; omega)
        replace hO := hO.chg g69.chg (fun b _ h1 h2 => by have := h1.2; have := h2.2.1; omega)
        replace hI := hI.chg g69.chg (fun b _ h1 h2 => by have := h1.2; have := h2.2.1; omega)
        replace hb10 := hb10.chg g69.chg (fun hm => hm.2.2.1 rfl)
        replace hb11 := hb11.chg g69.chg (fun hm => hm.2.2.2 rfl)
        replace hw := hw.chg g69.chg (fun x h1 h2 => by have := h2.2.1; omega)
        replace hd_15 := hd_15.chg g69.chg (by intro x h1 h2; exact h2.2)
        refine WL.nil (WX.one ⟨fun _ => hd_15, ?_⟩)
        refine ⟨?_, trivial, trivial, trivial, trivial⟩
        refine DU.step [(72, _)] rfl ⟨rfl, trivial⟩ rfl (fun wq_26 kq_26 => ?_)
        replace hB := hB.pure kq_26
        replace h := h.pure kq_26
        replace hr := hr.pure kq_26
        replace hO := hO.pure kq_26
        replace hI := hI.pure kq_26
        replace hb10 := hb10.pure kq_26
        replace hb11 := hb11.pure kq_26
        replace hE := hE.pure kq_26
        replace hw := hw.pure kq_26
        replace hd_15 := hd_15.pure kq_26
        replace hK69 := hK69.pure kq_26
        refine WL.build (e := ei) [(((c % s.dn : Nat) : Int))] Tryz.underlying39 Tryz.sizeOf3 Tryz.zeroValue3 rfl rfl rfl (by simp [Value.cells] <;> rfl) (by decide) rfl ?_
        intro a_q73 w_q73 q73 l_q73 z_q73 k_q73
        replace hB := hB.pure k_q73
        replace h := h.pure k_q73
        replace hr := hr.pure k_q73
        replace hO := hO.pure k_q73
        replace hI := hI.pure k_q73
        replace hb10 := hb10.pure k_q73
        replace hb11 := hb11.pure k_q73
        replace hE := hE.pure k_q73
        replace hw := hw.pure k_q73
        replace hd_15 := hd_15.pure k_q73
        replace hK69 := hK69.pure k_q73
        refine WL.nil (WX.one ⟨fun _ => hd_15, ?_⟩)
        refine ⟨?_, trivial, trivial, trivial⟩
        refine DU.step [(71, _), (73, _)] rfl ⟨rfl, rfl, trivial⟩ rfl (fun wq_27 kq_27 => ?_)
        replace hB := hB.pure kq_27
        replace h := h.pure kq_27
        replace hr := hr.pure kq_27
        replace hO := hO.pure kq_27
        replace hI := hI.pure kq_27
        replace hb10 := hb10.pure kq_27
        replace hb11 := hb11.pure kq_27
        replace hE := hE.pure kq_27
        replace hw := hw.pure kq_27
        replace hd_15 := hd_15.pure kq_27
        replace hK69 := hK69.pure kq_27
        replace q73 := q73.pure kq_27
        have l10 := hb10.lt
        have l11 := hb11.lt
        refine WL.append (e := ei) info_3 rfl Tryz.underlying39 rfl rfl hE (q73.rsl.src Tryz.underlying39) (by constructor <;> (simp only [List.length_cons, List.length_nil]; omega)) (fun b hb => by have h9 : _ ≤ b := hb; exact ⟨by omega, by omega, by omega⟩) rfl ?_
        intro a74 c74 w74 hE74 g74 n74
        have z74 := g74.chg.size
        rw [← hD1] at hE74 ⊢
        have hK74 : KR (fun b => w4.heap.size ≤ b ∧ b ≠ ga ∧ b ≠ gs) w74 26 5 a69 c69 (cs ++ [r]) := ⟨hK69.outer.chgK g74.chg (fun b hb hm hk => by
          have h1 := (hE.kb.at_.eqb hm.1).2
          rw [hk] at h1
          exact absurd h1 (by decide)), fun q hq => (hK69.inner q hq).grow hE g74 (by decide)⟩
        replace hB := hB.chg g74.chg (fun hm => by have := hm.2.1; omega)
        replace h := h.chg g74.chg (fun b _ h1 h2 => by have := h1.2; have := h2.2.1; omega)
        replace hr := hr.chg g74.chg (fun b _ h1 _ h2 => by have := h1.2; have := h2.2.1; omega)
        replace hO := hO.chg g74.chg (fun b _ h1 h2 => by have := h1.2; have := h2.2.1; omega)
        replace hI := hI.chg g74.chg (fun b _ h1 h2 => by have := h1.2; have := h2.2.1; omega)
        replace hb10 := hb10.chg g74.chg (fun hm => hm.2.2.1 rfl)
        replace hb11 := hb11.chg g74.chg (fun hm => hm.2.2.2 rfl)
        replace hw := hw.chg g74.chg (fun x h1 h2 => by have := h2.2.1; omega)
        replace hd_15 := hd_15.chg g74.chg (by intro x h1 h2; exact h2.2)
        refine WL.nil (WX.one ⟨fun _ => hd_15, ?_⟩)
        refine ⟨?_, trivial, trivial⟩
        refine DU.step [(75, _), (69, _)] rfl ⟨rfl, rfl, trivial⟩ rfl (fun wq_28 kq_28 => ?_)
        replace hB := hB.pure kq_28
        replace h := h.pure kq_28
        replace hr := hr.pure kq_28
        replace hO := hO.pure kq_28
        replace hI := hI.pure kq_28
        replace hb10 := hb10.pure kq_28
        replace hb11 := hb11.pure kq_28
        replace hw := hw.pure kq_28
        replace hd_15 := hd_15.pure kq_28
        replace hE74 := hE74.pure kq_28
        replace hK74 := hK74.pure kq_28
        refine WL.store Tryz.sizeOf87 hb11 rfl rfl rfl rfl ?_
        intro w_29 hs_29 hn_29 k_29
        replace hB := hB.chg k_29 (by intro h1; have h2 : _ = _ := h1; omega)
        replace h := h.chg k_29 (by intro x h1 h2; have h3 := h2.1; omega)
        replace hr := hr.chg k_29 (by intro x h1 h2; have h3 := h2.1; omega)
        replace hO := hO.chg k_29 (by intro x h1 h2; have h3 := h2.1; omega)
        replace hI := hI.chg k_29 (by intro x h1 h2; have h3 := h2.1; omega)
        replace hb10 := hb10.chg k_29 (by intro h1; have h2 : _ = _ := h1; omega)
        replace hw := hw.chg k_29 (by intro x h1 h2; have h3 : x = gs := h2; omega)
        replace hE74 := hE74.chg k_29 (by intro x h1 h2; have h3 := h2.1; omega)
        replace hK74 := hK74.chg k_29 (by intro x h1 h2; have h3 := h2.1; omega)
        replace hb11 := hn_29
        refine WL.nil (WX.one0 (v := undef) ⟨fun h => absurd h (by decide), ?_⟩)
        refine ⟨?_, trivial⟩
        refine DU.step [(76, _), (74, _)] rfl ⟨rfl, rfl, trivial⟩ rfl (fun wq_30 kq_30 => ?_)
        replace hB := hB.pure kq_30
        replace h := h.pure kq_30
        replace hr := hr.pure kq_30
        replace hO := hO.pure kq_30
        replace hI := hI.pure kq_30
        replace hb10 := hb10.pure kq_30
        replace hb11 := hb11.pure kq_30
        replace hw := hw.pure kq_30
        replace hE74 := hE74.pure kq_30
        replace hK74 := hK74.pure kq_30
        refine WL.store Tryz.sizeOf39 hb11 rfl rfl rfl rfl ?_
        intro w_31 hs_31 hn_31 k_31
        replace hB := hB.chg k_31 (by intro h1; have h2 : _ = _ := h1; omega)
        replace h := h.chg k_31 (by intro x h1 h2; have h3 := h2.1; omega)
        replace hr := hr.chg k_31 (by intro x h1 h2; have h3 := h2.1; omega)
        replace hO := hO.chg k_31 (by intro x h1 h2; have h3 := h2.1; omega)
        replace hI := hI.chg k_31 (by intro x h1 h2; have h3 := h2.1; omega)
        replace hb10 := hb10.chg k_31 (by intro h1; have h2 : _ = _ := h1; omega)
        replace hw := hw.chg k_31 (by intro x h1 h2; have h3 : x = gs := h2; omega)
        replace hE74 := hE74.chg k_31 (by intro x h1 h2; have h3 := h2.1; omega)
        replace hK74 := hK74.chg k_31 (by intro x h1 h2; have h3 := h2.1; omega)
        replace hb11 := hn_31
        refine WL.nil (WX.one0 (v := undef) ⟨fun h => absurd h (by decide), ?_⟩)
        refine DU.done (fun we_32 ke_32 => ?_) _
        replace hB := hB.pure ke_32
        replace h := h.pure ke_32
        replace hr := hr.pure ke_32
        replace hO := hO.pure ke_32
        replace hI := hI.pure ke_32
        replace hb10 := hb10.pure ke_32
        replace hb11 := hb11.pure ke_32
        replace hw := hw.pure ke_32
        replace hE74 := hE74.pure ke_32
        replace hK74 := hK74.pure ke_32
        rotate_left
        refine DU.step [(72, _)] rfl ⟨rfl, trivial⟩ rfl (fun wq_25 kq_25 => ?_)
        replace hB := hB.pure kq_25
        replace h := h.pure kq_25
        replace hr := hr.pure kq_25
        replace hO := hO.pure kq_25
        replace hI := hI.pure kq_25
        replace hb10 := hb10.pure kq_25
        replace hb11 := hb11.pure kq_25
        replace hK := hK.pure kq_25
        replace hE := hE.pure kq_25
        replace hw := hw.pure kq_25
        replace hq7 := hq7.pure kq_25
        replace hd_15 := hd_15.pure kq_25
        replace q68 := q68.pure kq_25
        refine WL.build (e := ei) [(((c % s.dn : Nat) : Int))] Tryz.underlying39 Tryz.sizeOf3 Tryz.zeroValue3 rfl rfl rfl (by simp [Value.cells] <;> rfl) (by decide) rfl ?_
        intro a_q73 w_q73 q73 l_q73 z_q73 k_q73
        replace hB := hB.pure k_q73
        replace h := h.pure k_q73
        replace hr := hr.pure k_q73
        replace hO := hO.pure k_q73
        replace hI := hI.pure k_q73
        replace hb10 := hb10.pure k_q73
        replace hb11 := hb11.pure k_q73
        replace hK := hK.pure k_q73
        replace hE := hE.pure k_q73
        replace hw := hw.pure k_q73
        replace hq7 := hq7.pure k_q73
        replace hd_15 := hd_15.pure k_q73
        replace q68 := q68.pure k_q73
        refine WL.nil (WX.one ⟨fun _ => hd_15, ?_⟩)
        refine ⟨?_, trivial, trivial, trivial, trivial⟩
        refine DU.step [(66, _), (68, _)] rfl ⟨rfl, rfl, trivial⟩ rfl (fun wq_26 kq_26 => ?_)
        replace hB := hB.pure kq_26
        replace h := h.pure kq_26
        replace hr := hr.pure kq_26
        replace hO := hO.pure kq_26
        replace hI := hI.pure kq_26
        replace hb10 := hb10.pure kq_26
        replace hb11 := hb11.pure kq_26
        replace hK := hK.pure kq_26
        replace hE := hE.pure kq_26
        replace hw := hw.pure kq_26
        replace hq7 := hq7.pure kq_26
        replace hd_15 := hd_15.pure kq_26
        replace q68 := q68.pure kq_26
        replace q73 := q73.pure kq_26
        have l10 := hb10.lt
        have l11 := hb11.lt
        refine WL.append (e := erow) info_26 rfl Tryz.underlying87 rfl rfl hK.outer (q68.rsl.src Tryz.underlying87) (by constructor <;> (simp only [List.length_cons, List.length_nil]; omega)) (fun b hb => by have h9 : _ ≤ b := hb; exact ⟨by omega, by omega, by omega⟩) rfl ?_
        intro a69 c69 w69 hA69 g69 n69
        have z69 := g69.chg.size
        have hK69 := hK.app (by decide) (by intro q hq; rw [List.mem_singleton] at hq; subst hq; exact hq7) hA69 g69
        have k69 : ∀ b, (Eqb ca b ∧ w4.heap.size ≤ b ∧ b ≠ ga ∧ b ≠ gs) → kb _ b = some (some 26) := fun b hm => (hK.outer.kb.at_.eqb hm.1).2
        replace q73 := q73.chgK g69.chg (fun b _ hm hk => by rw [k69 b hm] at hk; exact absurd hk (by decide))
        replace hE := hE.chgK g69.chg (fun b _ hm hk => by rw [k69 b hm] at hk; exact absurd hk (by decide))
        replace hB := hB.chg g69.chg (fun hm => by have := hm.2.1; omega)
        replace h := h.chg g69.chg (fun b _ h1 h2 => by have := h1.2; have := h2.2.1; omega)
        replace hr := hr.chg g69.chg (fun b _ h1 _ h2 => by have := h1.2; have := h2.2.1; omega)
        replace hO := hO.chg g69.chg (fun b _ h1 h2 => by have := h1.2; have := h2.2.1; omega)
        replace hI := hI.chg g69.chg (fun b _ h1 h2 => by have := h1.2; have := h2.2.1; omega)
        replace hb10 := hb10.chg g69.chg (fun hm => hm.2.2.1 rfl)
        replace hb11 := hb11.chg g69.chg (fun hm => hm.2.2.2 rfl)
        replace hw := hw.chg g69.chg (fun x h1 h2 => by have := h2.2.1; omega)
        replace hd_15 := hd_15.chg g69.chg (by intro x h1 h2; exact h2.2)
        refine WL.nil (WX.one ⟨fun _ => hd_15, ?_⟩)
        refine ⟨?_, trivial, trivial, trivial⟩
        refine DU.step [(71, _), (73, _)] rfl ⟨rfl, rfl, trivial⟩ rfl (fun wq_27 kq_27 => ?_)
        replace hB := hB.pure kq_27
        replace h := h.pure kq_27
        replace hr := hr.pure kq_27
        replace hO := hO.pure kq_27
        replace hI := hI.pure kq_27
        replace hb10 := hb10.pure kq_27
        replace hb11 := hb11.pure kq_27
        replace hE := hE.pure kq_27
        replace hw := hw.pure kq_27
        replace hd_15 := hd_15.pure kq_27
        replace q73 := q73.pure kq_27
        replace hK69 := hK69.pure kq_27
        have l10 := hb10.lt
        have l11 := hb11.lt
        refine WL.append (e := ei) info_3 rfl Tryz.underlying39 rfl rfl hE (q73.rsl.src Tryz.underlying39) (by constructor <;> (simp only [List.length_cons, List.length_nil]; omega)) (fun b hb => by have h9 : _ ≤ b := hb; exact ⟨by omega, by omega, by omega⟩) rfl ?_
        intro a74 c74 w74 hE74 g74 n74
        have z74 := g74.chg.size
        rw [← hD1] at hE74 ⊢
        have hK74 : KR (fun b => w4.heap.size ≤ b ∧ b ≠ ga ∧ b ≠ gs) w74 26 5 a69 c69 (cs ++ [r]) := ⟨hK69.outer.chgK g74.chg (fun b hb hm hk => by
          have h1 := (hE.kb.at_.eqb hm.1).2
          rw [hk] at h1
          exact absurd h1 (by decide)), fun q hq => (hK69.inner q hq).grow hE g74 (by decide)⟩
        replace hB := hB.chg g74.chg (fun hm => by have := hm.2.1; omega)
        replace h := h.chg g74.chg (fun b _ h1 h2 => by have := h1.2; have := h2.2.1; omega)
        replace hr := hr.chg g74.chg (fun b _ h1 _ h2 => by have := h1.2; have := h2.2.1; omega)
        replace hO := hO.chg g74.chg (fun b _ h1 h2 => by have := h1.2; have := h2.2.1; omega)
        replace hI := hI.chg g74.chg (fun b _ h1 h2 => by have := h1.2; have := h2.2.1; omega)
        replace hb10 := hb10.chg g74.chg (fun hm => hm.2.2.1 rfl)
        replace hb11 := hb11.chg g74.chg (fun hm => hm.2.2.2 rfl)
        replace hw := hw.chg g74.chg (fun x h1 h2 => by have := h2.2.1; omega)
        replace hd_15 := hd_15.chg g74.chg (by intro x h1 h2; exact h2.2)
        refine WL.nil (WX.one ⟨fun _ => hd_15, ?_⟩)
        refine ⟨?_, trivial, trivial⟩
        refine DU.step [(75, _), (69, _)] rfl ⟨rfl, rfl, trivial⟩ rfl (fun wq_28 kq_28 => ?_)
        replace hB := hB.pure kq_28
        replace h := h.pure kq_28
        replace hr := hr.pure kq_28
        replace hO := hO.pure kq_28
        replace hI := hI.pure kq_28
        replace hb10 := hb10.pure kq_28
        replace hb11 := hb11.pure kq_28
        replace hw := hw.pure kq_28
        replace hd_15 := hd_15.pure kq_28
        replace hE74 := hE74.pure kq_28
        replace hK74 := hK74.pure kq_28
        refine WL.store Tryz.sizeOf87 hb11 rfl rfl rfl rfl ?_
        intro w_29 hs_29 hn_29 k_29
        replace hB := hB.chg k_29 (by intro h1; have h2 : _ = _ := h1; omega)
        replace h := h.chg k_29 (by intro x h1 h2; have h3 := h2.1; omega)
        replace hr := hr.chg k_29 (by intro x h1 h2; have h3 := h2.1; omega)
        replace hO := hO.chg k_29 (by intro x h1 h2; have h3 := h2.1; omega)
        replace hI := hI.chg k_29 (by intro x h1 h2; have h3 := h2.1; omega)
        replace hb10 := hb10.chg k_29 (by intro h1; have h2 : _ = _ := h1; omega)
        replace hw := hw.chg k_29 (by intro x h1 h2; have h3 : x = gs := h2; omega)
        replace hE74 := hE74.chg k_29 (by intro x h1 h2; have h3 := h2.1; omega)
        replace hK74 := hK74.chg k_29 (by intro x h1 h2; have h3 := h2.1; omega)
        replace hb11 := hn_29
        refine WL.nil (WX.one0 (v := undef) ⟨fun h => absurd h (by decide), ?_⟩)
        refine ⟨?_, trivial⟩
        refine DU.step [(76, _), (74, _)] rfl ⟨rfl, rfl, trivial⟩ rfl (fun wq_30 kq_30 => ?_)
        replace hB := hB.pure kq_30
        replace h := h.pure kq_30
        replace hr := hr.pure kq_30
        replace hO := hO.pure kq_30
        replace hI := hI.pure kq_30
        replace hb10 := hb10.pure kq_30
        replace hb11 := hb11.pure kq_30
        replace hw := hw.pure kq_30
        replace hE74 := hE74.pure kq_30
        replace hK74 := hK74.pure kq_30
        refine WL.store Tryz.sizeOf39 hb11 rfl rfl rfl rfl ?_
        intro w_31 hs_31 hn_31 k_31
        replace hB := hB.chg k_31 (by intro h1; have h2 : _ = _ := h1; omega)
        replace h := h.chg k_31 (by intro x h1 h2; have h3 := h2.1; omega)
        replace hr := hr.chg k_31 (by intro x h1 h2; have h3 := h2.1; omega)
        replace hO := hO.chg k_31 (by intro x h1 h2; have h3 := h2.1; omega)
        replace hI := hI.chg k_31 (by intro x h1 h2; have h3 := h2.1; omega)
        replace hb10 := hb10.chg k_31 (by intro h1; have h2 : _ = _ := h1; omega)
        replace hw := hw.chg k_31 (by intro x h1 h2; have h3 : x = gs := h2; omega)
        replace hE74 := hE74.chg k_31 (by intro x h1 h2; have h3 := h2.1; omega)
        replace hK74 := hK74.chg k_31 (by intro x h1 h2; have h3 := h2.1; omega)
        replace hb11 := hn_31
        refine WL.nil (WX.one0 (v := undef) ⟨fun h => absurd h (by decide), ?_⟩)
        refine DU.done (fun we_32 ke_32 => ?_) _
        replace hB := hB.pure ke_32
        replace h := h.pure ke_32
        replace hr := hr.pure ke_32
        replace hO := hO.pure ke_32
        replace hI := hI.pure ke_32
        replace hb10 := hb10.pure ke_32
        replace hb11 := hb11.pure ke_32
        replace hw := hw.pure ke_32
        replace hE74 := hE74.pure ke_32
        replace hK74 := hK74.pure ke_32
        rotate_left
        refine DU.step [(72, _)] rfl ⟨rfl, trivial⟩ rfl (fun wq_24 kq_24 => ?_)
        replace hB := hB.pure kq_24
        replace h := h.pure kq_24
        replace hr := hr.pure kq_24
        replace hO := hO.pure kq_24
        replace hI := hI.pure kq_24
        replace hb10 := hb10.pure kq_24
        replace hb11 := hb11.pure kq_24
        replace hK := hK.pure kq_24
        replace hE := hE.pure kq_24
        replace hw := hw.pure kq_24
        replace hq7 := hq7.pure kq_24
        replace hd_15 := hd_15.pure kq_24
        refine WL.build (e := ei) [(((c % s.dn : Nat) : Int))] Tryz.underlying39 Tryz.sizeOf3 Tryz.zeroValue3 rfl rfl rfl (by simp [Value.cells] <;> rfl) (by decide) rfl ?_
        intro a_q73 w_q73 q73 l_q73 z_q73 k_q73
        replace hB := hB.pure k_q73
        replace h := h.pure k_q73
        replace hr := hr.pure k_q73
        replace hO := hO.pure k_q73
        replace hI := hI.pure k_q73
        replace hb10 := hb10.pure k_q73
        replace hb11 := hb11.pure k_q73
        replace hK := hK.pure k_q73
        replace hE := hE.pure k_q73
        replace hw := hw.pure k_q73
        replace hq7 := hq7.pure k_q73
        replace hd_15 := hd_15.pure k_q73
        refine WL.nil (WX.one ⟨fun _ => hd_15, ?_⟩)
        refine ⟨?_, trivial, trivial, trivial, trivial, trivial⟩
        refine DU.step [(67, _)] rfl ⟨rfl, trivial⟩ rfl (fun wq_25 kq_25 => ?_)
        replace hB := hB.pure kq_25
        replace h := h.pure kq_25
        replace hr := hr.pure kq_25
        replace hO := hO.pure kq_25
        replace hI := hI.pure kq_25
        replace hb10 := hb10.pure kq_25
        replace hb11 := hb11.pure kq_25
        replace hK := hK.pure kq_25
        replace hE := hE.pure kq_25
        replace hw := hw.pure kq_25
        replace hq7 := hq7.pure kq_25
        replace hd_15 := hd_15.pure kq_25
        replace q73 := q73.pure kq_25
        refine WL.build (e := erow) [r] Tryz.underlying87 Tryz.sizeOf26 Tryz.zeroValue26 rfl rfl rfl (by simp [Value.cells] <;> rfl) (by decide) rfl ?_
        intro a_q68 w_q68 q68 l_q68 z_q68 k_q68
        replace hB := hB.pure k_q68
        replace h := h.pure k_q68
        replace hr := hr.pure k_q68
        replace hO := hO.pure k_q68
        replace hI := hI.pure k_q68
        replace hb10 := hb10.pure k_q68
        replace hb11 := hb11.pure k_q68
        replace hK := hK.pure k_q68
        replace hE := hE.pure k_q68
        replace hw := hw.pure k_q68
        replace hq7 := hq7.pure k_q68
        replace hd_15 := hd_15.pure k_q68
        replace q73 := q73.pure k_q68
        refine WL.nil (WX.one ⟨fun _ => hd_15, ?_⟩)
        refine ⟨?_, trivial, trivial, trivial, trivial⟩
        refine DU.step [(66, _), (68, _)] rfl ⟨rfl, rfl, trivial⟩ rfl (fun wq_26 kq_26 => ?_)
        replace hB := hB.pure kq_26
        replace h := h.pure kq_26
        replace hr := hr.pure kq_26
        replace hO := hO.pure kq_26
        replace hI := hI.pure kq_26
        replace hb10 := hb10.pure kq_26
        replace hb11 := hb11.pure kq_26
        replace hK := hK.pure kq_26
        replace hE := hE.pure kq_26
        replace hw := hw.pure kq_26
        replace hq7 := hq7.pure kq_26
        replace hd_15 := hd_15.pure kq_26
        replace q73 := q73.pure kq_26
        replace q68 := q68.pure kq_26
        have l10 := hb10.lt
        have l11 := hb11.lt
        refine WL.append (e := erow) info_26 rfl Tryz.underlying87 rfl rfl hK.outer (q68.rsl.src Tryz.underlying87) (by constructor <;> (simp only [List.length_cons, List.length_nil]; omega)) (fun b hb => by have h9 : _ ≤ b := hb; exact ⟨by omega, by omega, by omega⟩) rfl ?_
        intro a69 c69 w69 hA69 g69 n69
        have z69 := g69.chg.size
        have hK69 := hK.app (by decide) (by intro q hq; rw [List.mem_singleton] at hq; subst hq; exact hq7) hA69 g69
        have k69 : ∀ b, (Eqb ca b ∧ w4.heap.size ≤ b ∧ b ≠ ga ∧ b ≠ gs) → kb _ b = some (some 26) := fun b hm => (hK.outer.kb.at_.eqb hm.1).2
        replace q73 := q73.chgK g69.chg (fun b _ hm hk => by rw [k69 b hm] at hk; exact absurd hk (by decide))
        replace hE := hE.chgK g69.chg (fun b _ hm hk => by rw [k69 b hm] at hk; exact absurd hk (by decide))
        replace hB := hB.chg g69.chg (fun hm => by have := hm.2.1; omega)
        replace h := h.chg g69.chg (fun b _ h1 h2 => by have := h1.2; have := h2.2.1; omega)
        replace hr := hr.chg g69.chg (fun b _ h1 _ h2 => by have := h1.2; have := h2.2.1; omega)
        replace hO := hO.chg g69.chg (fun b _ h1 h2 => by have := h1.2; have := h2.2.1; omega)
        replace hI := hI.chg g69.chg (fun b _ h1 h2 => by have := h1.2; have := h2.2.1; omega)
        replace hb10 := hb10.chg g69.chg (fun hm => hm.2.2.1 rfl)
        replace hb11 := hb11.chg g69.chg (fun hm => hm.2.2.2 rfl)
        replace hw := hw.chg g69.chg (fun x h1 h2 => by have := h2.2.1; omega)
        replace hd_15 := hd_15.chg g69.chg (by intro x h1 h2; exact h2.2)
        refine WL.nil (WX.one ⟨fun _ => hd_15, ?_⟩)
        refine ⟨?_, trivial, trivial, trivial⟩
        refine DU.step [(71, _), (73, _)] rfl ⟨rfl, rfl, trivial⟩ rfl (fun wq_27 kq_27 => ?_)
        replace hB := hB.pure kq_27
        replace h := h.pure kq_27
        replace hr := hr.pure kq_27
        replace hO := hO.pure kq_27
        replace hI := hI.pure kq_27
        replace hb10 := hb10.pure kq_27
        replace hb11 := hb11.pure kq_27
        replace hE := hE.pure kq_27
        replace hw := hw.pure kq_27
        replace hd_15 := hd_15.pure kq_27
        replace q73 := q73.pure kq_27
        replace hK69 := hK69.pure kq_27
        have l10 := hb10.lt
        have l11 := hb11.lt
        refine WL.append (e := ei) info_3 rfl Tryz.underlying39 rfl rfl hE (q73.rsl.src Tryz.underlying39) (by constructor <;> (simp only [List.length_cons, List.length_nil]; omega)) (fun b hb => by have h9 : _ ≤ b := hb; exact ⟨by omega, by omega, by omega⟩) rfl ?_
        intro a74 c74 w74 hE74 g74 n74
        have z74 := g74.chg.size
        rw [← hD1] at hE74 ⊢
        have hK74 : KR (fun b => w4.heap.size ≤ b ∧ b ≠ ga ∧ b ≠ gs) w74 26 5 a69 c69 (cs ++ [r]) := ⟨hK69.outer.chgK g74.chg (fun b hb hm hk => by
          have h1 := (hE.kb.at_.eqb hm.1).2
          rw [hk] at h1
          exact absurd h1 (by decide)), fun q hq => (hK69.inner q hq).grow hE g74 (by decide)⟩
        replace hB := hB.chg g74.chg (fun hm => by have := hm.2.1; omega)
        replace h := h.chg g74.chg (fun b _ h1 h2 => by have := h1.2; have := h2.2.1; omega)
        replace hr := hr.chg g74.chg (fun b _ h1 _ h2 => by have := h1.2; have := h2.2.1; omega)
        replace hO := hO.chg g74.chg (fun b _ h1 h2 => by have := h1.2; have := h2.2.1; omega)
        replace hI := hI.chg g74.chg (fun b _ h1 h2 => by have := h1.2; have := h2.2.1; omega)
        replace hb10 := hb10.chg g74.chg (fun hm => hm.2.2.1 rfl)
        replace hb11 := hb11.chg g74.chg (fun hm => hm.2.2.2 rfl)
        replace hw := hw.chg g74.chg (fun x h1 h2 => by have := h2.2.1; omega)
        replace hd_15 := hd_15.chg g74.chg (by intro x h1 h2; exact h2.2)
        refine WL.nil (WX.one ⟨fun _ => hd_15, ?_⟩)
        refine ⟨?_, trivial, trivial⟩
        refine DU.step [(75, _), (69, _)] rfl ⟨rfl, rfl, trivial⟩ rfl (fun wq_28 kq_28 => ?_)
        replace hB := hB.pure kq_28
        replace h := h.pure kq_28
        replace hr := hr.pure kq_28
        replace hO := hO.pure kq_28
        replace hI := hI.pure kq_28
        replace hb10 := hb10.pure kq_28
        replace hb11 := hb11.pure kq_28
        replace hw := hw.pure kq_28
        replace hd_15 := hd_15.pure kq_28
        replace hE74 := hE74.pure kq_28
        replace hK74 := hK74.pure kq_28
        refine WL.store Tryz.sizeOf87 hb11 rfl rfl rfl rfl ?_
        intro w_29 hs_29 hn_29 k_29
        replace hB := hB.chg k_29 (by intro h1; have h2 : _ = _ := h1; omega)
        replace h := h.chg k_29 (by intro x h1 h2; have h3 := h2.1; omega)
        replace hr := hr.chg k_29 (by intro x h1 h2; have h3 := h2.1; omega)
        replace hO := hO.chg k_29 (by intro x h1 h2; have h3 := h2.1; omega)
        replace hI := hI.chg k_29 (by intro x h1 h2; have h3 := h2.1; omega)
        replace hb10 := hb10.chg k_29 (by intro h1; have h2 : _ = _ := h1; omega)
        replace hw := hw.chg k_29 (by intro x h1 h2; have h3 : x = gs := h2; omega)
        replace hE74 := hE74.chg k_29 (by intro x h1 h2; have h3 := h2.1; omega)
        replace hK74 := hK74.chg k_29 (by intro x h1 h2; have h3 := h2.1; omega)
        replace hb11 := hn_29
        refine WL.nil (WX.one0 (v := undef) ⟨fun h => absurd h (by decide), ?_⟩)
        refine ⟨?_, trivial⟩
        refine DU.step [(76, _), (74, _)] rfl ⟨rfl, rfl, trivial⟩ rfl (fun wq_30 kq_30 => ?_)
        replace hB := hB.pure kq_30
        replace h := h.pure kq_30
        replace hr := hr.pure kq_30
        replace hO := hO.pure kq_30
        replace hI := hI.pure kq_30
        replace hb10 := hb10.pure kq_30
        replace hb11 := hb11.pure kq_30
        replace hw := hw.pure kq_30
        replace hE74 := hE74.pure kq_30
        replace hK74 := hK74.pure kq_30
        refine WL.store Tryz.sizeOf39 hb11 rfl rfl rfl rfl ?_
        intro w_31 hs_31 hn_31 k_31
        replace hB := hB.chg k_31 (by intro h1; have h2 : _ = _ := h1; omega)
        replace h := h.chg k_31 (by intro x h1 h2; have h3 := h2.1; omega)
        replace hr := hr.chg k_31 (by intro x h1 h2; have h3 := h2.1; omega)
        replace hO := hO.chg k_31 (by intro x h1 h2; have h3 := h2.1; omega)
        replace hI := hI.chg k_31 (by intro x h1 h2; have h3 := h2.1; omega)
        replace hb10 := hb10.chg k_31 (by intro h1; have h2 : _ = _ := h1; omega)
        replace hw := hw.chg k_31 (by intro x h1 h2; have h3 : x = gs := h2; omega)
        replace hE74 := hE74.chg k_31 (by intro x h1 h2; have h3 := h2.1; omega)
        replace hK74 := hK74.chg k_31 (by intro x h1 h2; have h3 := h2.1; omega)
        replace hb11 := hn_31
        refine WL.nil (WX.one0 (v := undef) ⟨fun h => absurd h (by decide), ?_⟩)
        refine DU.done (fun we_32 ke_32 => ?_) _
        replace hB := hB.pure ke_32
        replace h := h.pure ke_32
        replace hr := hr.pure ke_32
        replace hO := hO.pure ke_32
        replace hI := hI.pure ke_32
        replace hb10 := hb10.pure ke_32
        replace hb11 := hb11.pure ke_32
        replace hw := hw.pure ke_32
        replace hE74 := hE74.pure ke_32
        replace hK74 := hK74.pure ke_32
        rotate_left
        all_goals
          refine WX.block_normal (WX.then_normal (WC.region (WL.add64 rfl rfl (by omega) rfl (WL.move rfl rfl (WL.nil (?_))))))
          exact WX.loop_next (j + 1, ((a69, c69), cs ++ [r]), (a74, c74)) ⟨rfl, rfl, rfl, rfl, rfl, rfl, rfl, rfl, rfl, trivial⟩ ⟨by show j + 1 ≤ x.2 + 3; omega, hB, h, hr, hO, hI, hb10, hb11, hK74, hE74, by show (cs ++ [r]).map Rw.xs = _; rw [List.map_append, hcs, hC1, ← hrx]; rfl, hw, by have := hb10.lt; have := hb11.lt; omega⟩ (by show x.2 + 3 - (j + 1) < x.2 + 3 - j; omega)
    ·
      refine WL.nil (WX.then_normal (WC.seq (WC.cond_false rfl (WC.exit (WX.then_exit (WX.then_exit (WX.block_here (?_))))))))
      refine WX.then_normal (WC.region (WL.move rfl rfl (WL.loadsB Tryz.isAgg121 Tryz.sizeOf121 hb11 rfl (by simp; done) rfl (?_))))
      have hjx : j = x.2 + 3 := by omega
      have htk : (rows.take (i + 1)).map (stpA s f) = (rows.take i).map (stpA s f) ++ [stpA s f x] := by rw [List.take_add_one, hx, Option.toList_some, List.map_append]; rfl
      have hCx : C j = (stpA s f x).1 := by rw [hC]; show List.take j _ = _; rw [List.take_of_length_le (by rw [sl1]; omega)]
      have hDx : D j = (stpA s f x).2 := by rw [hD]; show List.take j _ = _; rw [List.take_of_length_le (by rw [sl2]; omega)]
      refine WL.build (e := estp) [⟨ca, cc, cs, da, dc, D j⟩] Tryz.underlying91 Tryz.sizeOf121 Tryz.zeroValue121 rfl rfl rfl (by simp [Value.cells] <;> rfl) (by decide) rfl ?_
      intro a_q80 w_q80 q80 l_q80 z_q80 k_q80
      replace hB := hB.pure k_q80
      replace h := h.pure k_q80
      replace hr := hr.pure k_q80
      replace hO := hO.pure k_q80
      replace hI := hI.pure k_q80
      replace hb10 := hb10.pure k_q80
      replace hb11 := hb11.pure k_q80
      replace hK := hK.pure k_q80
      replace hE := hE.pure k_q80
      replace hw := hw.pure k_q80
      have l10 := hb10.lt
      refine WL.append (e := estp) info_121 rfl Tryz.underlying91 rfl rfl (hO.mono (S' := fun x => w.heap.size ≤ x) (fun b hb => hb.1)) (q80.rsl.src Tryz.underlying91) (by constructor <;> (simp only [List.length_cons, List.length_nil]; omega)) (fun b hb => by have h9 : _ ≤ b := hb; show w.heap.size ≤ b; omega) rfl ?_
      intro a81 c81 w81 hO81 g81 n81
      have k81 : ∀ b, (Eqb al b ∧ w.heap.size ≤ b) → kb _ b = some (some 121) := fun b hm => (hO.kb.at_.eqb hm.1).2
      have hI81 : SI (w.heap.size ≤ ·) w81 26 5 3 (l ++ [⟨ca, cc, cs, da, dc, D j⟩]) := by
        have h1 : SI (w.heap.size ≤ ·) w81 26 5 3 l := (hI.grow hO g81 (by decide) (by decide) (by decide)).mono (fun b _ hb => hb.1)
        refine h1.snoc ?_ ?_
        ·
          exact (hK.ks.grow hO g81 (by decide) (by decide)).mono (fun b _ hb => by have := hb.1; show w.heap.size ≤ b; omega)
        ·
          exact RSK.mono (hE.rsk.grow hO g81 (by decide)) (fun b _ hb => by have := hb.1; show w.heap.size ≤ b; omega)
      replace hB := hB.chg g81.chg (fun hm => by have := hm.2; omega)
      replace h := h.chg g81.chg (fun b _ h1 h2 => by have := h1.2; have := h2.2; omega)
      replace hr := hr.grow hO g81 (by decide)
      replace hw := hw.chg g81.chg (fun x h1 h2 => by have := h2.2; omega)
      refine WL.assign rfl rfl (WL.nil (WX.block_normal (WX.then_normal (WC.region (WL.add64 rfl rfl (by omega) rfl (WL.move rfl rfl (WL.nil (?_))))))))
      exact WX.loop_next (i + 1, ((a81, c81), l ++ [⟨ca, cc, cs, da, dc, D j⟩])) ⟨rfl, rfl, rfl, rfl, rfl, trivial⟩ ⟨by show i + 1 ≤ rows.length; omega, hB, h, RSK.mono hr (fun b _ hb => hb.1), hO81, hI81, by show (l ++ [_]).map Stp.abs = _; rw [List.map_append, hl, htk]; show _ ++ [(cs.map Rw.xs, D j)] = _; rw [hcs, hCx, hDx], hw⟩ (by show rows.length - (i + 1) < rows.length - i; omega)
  ·
    refine WL.nil (WX.then_normal (WC.seq (WC.cond_false rfl (WC.exit (WX.then_exit (WX.then_exit (WX.block_here (?_))))))))
    refine WX.then_normal (WC.seq (WC.region (WL.move rfl rfl (WL.assign rfl rfl (WL.assign rfl rfl (WL.nil (WX.then_normal (?_))))))))
    refine WC.ret (?_)
    refine WX.ret2 (.inl rfl) Tryz.results45 rfl rfl ?_
    have hil : i = rows.length := by omega
    subst hil
    rw [List.take_length, hstr] at hl
    exact ⟨_, rfl, ⟨al, cl, l, rfl, hO.mono (fun b hb => hb.1), hI.mono (fun b _ hb => hb.1), hl⟩, hw⟩
end Go.Proofs.YtggecdldnpildaaGreat
