import Derived.Test.YtfkaioldfmapjaaPc
namespace Go.Proofs.Ytfkaioldfmapjaa
open Go.RowKit Go.HL

/-! the bytes of items -/
def zigU (n : Int) : UInt64 := (B64 n <<< UInt64.ofNat 1) ^^^ B64 (n / 2 ^ 63)
def enc1 (i : Item) : List UInt8 := B8 i.kind :: (if i.kind = 1 then cnt (zigU i.n).toNat else cnt i.s.size ++ i.s.data.toList)
def encAll (l : List Item) : List UInt8 := l.flatMap enc1
theorem enc1_len {i : Item} (h : ¬ (i.kind = 2 ∧ 4000 < i.s.size)) (h2 : okI i = true) : (enc1 i).length ≤ 4011 := by
  unfold enc1
  have h3 := cnt_len64 (zigU i.n)
  simp only [okI, decide_eq_true_eq] at h2
  split
  · simp; omega
  · have h4 : i.s.size ≤ 4000 := by omega
    have h5 := cnt_len 9 i.s.size (by omega)
    simp only [List.length_cons, List.length_append, Array.length_toList]
    have : i.s.data.size = i.s.size := rfl
    omega
theorem checkE_ok {l : List Item} (h : checkE l = 0) : l.length ≤ 2000 ∧ ∀ i ∈ l, longI i = false ∧ okI i = true := by
  unfold checkE at h
  split at h
  · cases h
  · rename_i h1
    split at h
    · rename_i h2
      refine ⟨by omega, fun i hi => ⟨?_, List.all_eq_true.1 h2 i hi⟩⟩
      cases hx : longI i with
      | false => rfl
      | true => exact absurd (.inr (List.any_eq_true.2 ⟨i, hi, hx⟩)) h1
    · cases h
theorem encAll_len {l : List Item} (h : ∀ i ∈ l, longI i = false ∧ okI i = true) : (encAll l).length ≤ 4011 * l.length := by
  induction l with
  | nil => simp [encAll]
  | cons i r ih =>
    have h1 := ih (fun j hj => h j (by simp [hj]))
    have h2 := h i (by simp)
    have h3 := enc1_len (by simpa [longI] using h2.1) h2.2
    simp only [encAll, List.flatMap_cons, List.length_append, List.length_cons] at h1 ⊢
    omega
theorem encAll_snoc (l : List Item) (x : Item) : encAll (l ++ [x]) = encAll l ++ enc1 x := by simp [encAll]

theorem encode_calls {S : Nat → Prop} {w : World} {ao : Option Addr} {c : Nat} {l : List Item} (hr : RSl S w eit ao c l) (hl : l.length ≤ 9223372036854775807) :
    Calls Try.prog 14 [.slice ao l.length c].toArray w (Ret fun v w' => ∃ ao' c', v = .tuple #[.slice ao' (if checkE l = 0 then encAll l else []).length c', vi (checkE l)] ∧ Row (w.heap.size ≤ ·) w' 5 eb ao' c' (if checkE l = 0 then encAll l else []) ∧ Chg Nob w w') := by
  replace hr := hr.old
  refine Calls.of_WC Try.func14 rfl Try.ntmps14 (by simp) ?_
  refine WC.seq (WC.region (WL.assign rfl rfl (WL.assign rfl rfl (WL.nil (WX.then_normal (WC.seq (WC.seq (?_))))))))
  refine WC.region (WL.move rfl rfl (?_))
  refine WL.call eg_31 rfl rfl (check_calls hr hl) ?_
  rintro v w1 ⟨rfl, k⟩
  have zs_k := k.size
  replace hr := hr.pure k
  refine WL.assign rfl rfl (WL.nil (WX.then_normal (WC.seq (WC.region (WL.move rfl rfl (?_))))))
  refine WL.neq? rfl rfl rfl (fun h11 => ?_) (fun h11 => ?_)
  ·
    refine WL.nil (WX.then_normal (WC.cond_true rfl (WC.seq (WC.region (WL.move rfl rfl (WL.assign rfl rfl (WL.assign rfl rfl (?_))))))))
    refine WL.nil (WX.then_normal (WC.ret (WX.then_ret (?_))))
    refine WX.ret2 (.inl rfl) Try.results14 rfl rfl ?_
    first
      | (rw [if_neg h11]
         exact ⟨_, rfl, none, 0, rfl, Row.nil _ _ _ _, k⟩)
      | (have hx6 : l.take i = l := List.take_of_length_le (by omega)
         rw [hx6] at hb ⊢
         rw [if_pos hc0, hc0]
         exact ⟨_, rfl, a1, c1, rfl, hb, hw⟩)
  ·
    refine WL.nil (WX.then_normal (WC.cond_false rfl (WC.skip (WX.then_normal (WC.seq (WC.region (WL.assign rfl rfl (?_))))))))
    refine WL.nil (WX.then_normal (WC.seq (WC.seq (WC.region (WL.move rfl rfl (WL.len Try.underlying22 rfl rfl (WL.move rfl rfl (?_))))))))
    refine WL.nil (WX.then_normal (WC.block (?_)))
    have hc0 : checkE l = 0 := h11
    obtain ⟨hlen, hall⟩ := checkE_ok hc0
    refine WC.loop (σ := Nat × Option Addr × Nat) (fun s => [(5, .slice s.2.1 (encAll (l.take s.1)).length s.2.2), (13, .slice ao l.length c), (14, vi l.length), (15, vi s.1)])
      (fun s w' => s.1 ≤ l.length ∧ Row (w.heap.size ≤ ·) w' 5 eb s.2.1 s.2.2 (encAll (l.take s.1)) ∧ Chg Nob w w' ∧ RSl (· < w.heap.size) w' eit ao c l) (fun s => l.length - s.1) (0, none, 0) ⟨rfl, rfl, rfl, rfl, trivial⟩ ⟨Nat.zero_le _, Row.nil _ _ _ _, k, hr⟩ ?_
    clear hr
    rintro ⟨i, a1, c1⟩ w2 ⟨hi, hb, hw, hr⟩
    dsimp only at hi hb hw hr ⊢
    have zw := hw.size
    have hel := encAll_len (l := l.take i) (fun j hj => hall j (List.mem_of_mem_take hj))
    have hlt := List.length_take_le i l
    refine WC.seq (WC.region (?_))
    refine WL.lss? rfl rfl rfl (fun h16 => ?_) (fun h16 => ?_)
    ·
      refine WL.nil (WX.then_normal (WC.seq (WC.cond_true rfl (WC.skip (WX.then_normal (WC.seq (WC.block (?_))))))))
      refine WC.seq (WC.region (?_))
      obtain ⟨x, hx⟩ : ∃ x, l[i]? = some x := ⟨_, List.getElem?_eq_getElem (by omega)⟩
      have hx2 := hall x (List.mem_of_getElem? hx)
      replace hb := hb.lt
      refine WL.indexT Try.underlying22 Try.sizeOf37 hr rfl rfl ⟨hx, rfl⟩ rfl ?_
      intro b_1 o_1 hc_1
      refine WL.loads _ Try.isAgg37 Try.sizeOf37 rfl hc_1 rfl rfl (?_)
      refine WL.alloc Try.zeroValue37 rfl ?_
      intro g_2 w_2 hge_2 hlt_2 hb_2 k_2
      have zs_k_2 := k_2.size
      replace hr := hr.pure k_2
      replace hb := hb.pure k_2
      replace hw := hw.pure k_2
      refine WL.stores Try.sizeOf37 hb_2 rfl rfl rfl (by first | exact Enc.one _ _ | (simp [Value.oneCell']; done) | (simp [Value.oneCell', Value.cells]; done)) (Nat.le_of_ble_eq_true rfl) rfl ?_
      intro w_3 hs_3 hn_3 k_3
      have zs_k_3 := k_3.size
      replace hr := hr.chg k_3 (by first | (intro h1; have h2 : _ = _ := h1; exfalso; omega) | (intros; exfalso; (try dsimp only at *); omega) | (intro b h1 h2 h3; exfalso; have h4 := h3.2; (try dsimp only at *); omega) | (intro h1; exfalso; have h4 := h1.2; (try dsimp only at *); omega) | (intro x h1 h2; exfalso; have h4 := h2.2; (try dsimp only at *); omega))
      replace hb := hb.chg k_3 (by first | (intro h1; have h2 : _ = _ := h1; exfalso; omega) | (intros; exfalso; (try dsimp only at *); omega) | (intro b h1 h2 h3; exfalso; have h4 := h3.2; (try dsimp only at *); omega) | (intro h1; exfalso; have h4 := h1.2; (try dsimp only at *); omega) | (intro x h1 h2; exfalso; have h4 := h2.2; (try dsimp only at *); omega))
      replace hw := hw.chg k_3 (by first | (intro h1; have h2 : _ = _ := h1; exfalso; omega) | (intros; exfalso; (try dsimp only at *); omega) | (intro b h1 h2 h3; exfalso; have h4 := h3.2; (try dsimp only at *); omega) | (intro h1; exfalso; have h4 := h1.2; (try dsimp only at *); omega) | (intro x h1 h2; exfalso; have h4 := h2.2; (try dsimp only at *); omega))
      replace hb_2 := hn_3
      refine WL.nil (WX.then_normal (WC.seq (WC.region (WL.move rfl rfl (WL.fieldAddr (fld_37_0) rfl rfl (WL.loadB Try.isAgg3 hb_2 rfl rfl rfl (WL.c_i64_u8 Try.underlying3 Try.underlying5 rfl rfl (?_))))))))
      refine WL.build (e := eb) [B8 x.kind] Try.underlying24 Try.sizeOf5 Try.zeroValue5 rfl rfl rfl (by first | (simp [Value.cells]; done) | (simp [Value.cells] <;> rfl) | (simp [Value.cells, eb, ei, es, ebool, e32, e64]; done)) (by decide) rfl ?_
      intro a_hq w_hq hq l_hq z_hq k_hq
      have zs_k_hq := k_hq.size
      replace hr := hr.pure k_hq
      replace hb := hb.pure k_hq
      replace hw := hw.pure k_hq
      replace hb_2 := hb_2.pure k_hq
      have hb0 := hb.mono (S' := fun b => w.heap.size ≤ b ∧ b ≠ g_2) (fun b h => ⟨h.1, by have := h.2; omega⟩)
      refine WL.append (e := eb) info_5 rfl Try.underlying24 rfl rfl hb0 (hq.rsl.src Try.underlying24) (by (try simp only [List.length_append, List.length_cons, List.length_nil] at *); omega) (by intro b hb; first | (apply hS; omega) | ((try dsimp only); omega)) rfl ?_
      intro a_hb2 c_hb2 w_hb2 hb2 g_hb2 n_hb2
      have z_hb2 := g_hb2.chg.size
      have zs_g_hb2_chg := g_hb2.chg.size
      replace hr := hr.chg g_hb2.chg (by first | (intro h1; have h2 : _ = _ := h1; exfalso; omega) | (intros; exfalso; (try dsimp only at *); omega) | (intro b h1 h2 h3; exfalso; have h4 := h3.2; (try dsimp only at *); omega) | (intro h1; exfalso; have h4 := h1.2; (try dsimp only at *); omega) | (intro x h1 h2; exfalso; have h4 := h2.2; (try dsimp only at *); omega))
      replace hw := hw.chg g_hb2.chg (by first | (intro h1; have h2 : _ = _ := h1; exfalso; omega) | (intros; exfalso; (try dsimp only at *); omega) | (intro b h1 h2 h3; exfalso; have h4 := h3.2; (try dsimp only at *); omega) | (intro h1; exfalso; have h4 := h1.2; (try dsimp only at *); omega) | (intro x h1 h2; exfalso; have h4 := h2.2; (try dsimp only at *); omega))
      replace hb_2 := hb_2.chg g_hb2.chg (by first | (intro h1; have h2 : _ = _ := h1; exfalso; omega) | (intros; exfalso; (try dsimp only at *); omega) | (intro b h1 h2 h3; exfalso; have h4 := h3.2; (try dsimp only at *); omega) | (intro h1; exfalso; have h4 := h1.2; (try dsimp only at *); omega) | (intro x h1 h2; exfalso; have h4 := h2.2; (try dsimp only at *); omega))
      refine WL.assign rfl rfl (WL.nil (WX.then_normal (WC.seq (WC.seq (WC.region (WL.fieldAddr (fld_37_0) rfl rfl (WL.loadB Try.isAgg3 hb_2 rfl rfl rfl (?_))))))))
      refine WL.eql? rfl rfl rfl (fun h27 => ?_) (fun h27 => ?_)
      ·
        refine WL.nil (WX.then_normal (WC.cond_true rfl (WC.seq (WC.region (WL.move rfl rfl (WL.fieldAddr (fld_37_1) rfl rfl (WL.loadB Try.isAgg3 hb_2 rfl rfl rfl (?_))))))))
        refine WL.c_i64_u64 Try.underlying3 Try.underlying38 rfl rfl (WL.num rfl rfl (n_shl64 _ _ _ _ 1 (by decide)) rfl (WL.fieldAddr (fld_37_1) rfl rfl (WL.loadB Try.isAgg3 hb_2 rfl rfl rfl (?_))))
        refine WL.num rfl rfl (n_shri64 _ _ _ _ 63 (by decide)) rfl ?_
        refine WL.c_i64_u64 Try.underlying3 Try.underlying38 rfl rfl (WL.num rfl rfl (n_xor64 _ _ _ _) rfl (?_))
        refine WL.call eg_32 rfl rfl (count_calls _ hb2 (by intro b hb; first | (apply hS; omega) | ((try dsimp only); omega)) (by simp; omega)) ?_
        rintro v w4 ⟨a4, c4, rfl, hb3, g3⟩
        have z_hb3 := g3.chg.size
        have zs_g3_chg := g3.chg.size
        replace hr := hr.chg g3.chg (by first | (intro h1; have h2 : _ = _ := h1; exfalso; omega) | (intros; exfalso; (try dsimp only at *); omega) | (intro b h1 h2 h3; exfalso; have h4 := h3.2; (try dsimp only at *); omega) | (intro h1; exfalso; have h4 := h1.2; (try dsimp only at *); omega) | (intro x h1 h2; exfalso; have h4 := h2.2; (try dsimp only at *); omega))
        replace hw := hw.chg g3.chg (by first | (intro h1; have h2 : _ = _ := h1; exfalso; omega) | (intros; exfalso; (try dsimp only at *); omega) | (intro b h1 h2 h3; exfalso; have h4 := h3.2; (try dsimp only at *); omega) | (intro h1; exfalso; have h4 := h1.2; (try dsimp only at *); omega) | (intro x h1 h2; exfalso; have h4 := h2.2; (try dsimp only at *); omega))
        replace hb_2 := hb_2.chg g3.chg (by first | (intro h1; have h2 : _ = _ := h1; exfalso; omega) | (intros; exfalso; (try dsimp only at *); omega) | (intro b h1 h2 h3; exfalso; have h4 := h3.2; (try dsimp only at *); omega) | (intro h1; exfalso; have h4 := h1.2; (try dsimp only at *); omega) | (intro x h1 h2; exfalso; have h4 := h2.2; (try dsimp only at *); omega))
        refine WL.assign rfl rfl (WL.nil (WX.then_normal (WC.exit (WX.then_exit (WX.block_here (WX.then_normal (WC.region (?_))))))))
        refine WL.add64 rfl rfl (by first | omega | (constructor <;> omega)) rfl (WL.move rfl rfl (WL.nil (?_)))
        have hx3 : encAll (l.take (i + 1)) = encAll (l.take i) ++ enc1 x := by rw [List.take_add_one, hx]; exact encAll_snoc _ _
        first
          | (have hx4 : enc1 x = [B8 x.kind] ++ cnt (zigU x.n).toNat := by unfold enc1; rw [if_pos h27]; rfl
             have hx5 : encAll (l.take (i + 1)) = encAll (l.take i) ++ [B8 x.kind] ++ cnt (zigU x.n).toNat := by rw [hx3, hx4, List.append_assoc]
             refine WX.loop_next (i + 1, a4, c4) ⟨?_, rfl, rfl, rfl, trivial⟩ ⟨by dsimp only; omega, ?_, hw, hr⟩ (by show _ - _ < _ - _; omega)
             ·
               dsimp only
               rw [hx5]
               rfl
             ·
               dsimp only
               rw [hx5]
               exact hb3.mono (fun b h => h.1))
          | (have hx4 : enc1 x = [B8 x.kind] ++ (cnt x.s.size ++ x.s.data.toList) := by unfold enc1; rw [if_neg h27]; rfl
             have hx5 : encAll (l.take (i + 1)) = encAll (l.take i) ++ [B8 x.kind] ++ cnt (B64 x.s.size).toNat ++ x.s.data.toList := by rw [hx3, hx4, B64_nat (by have := hx2; omega)]; simp only [List.append_assoc]
             refine WX.loop_next (i + 1, a_hb4, c_hb4) ⟨?_, rfl, rfl, rfl, trivial⟩ ⟨by dsimp only; omega, ?_, hw, hr⟩ (by show _ - _ < _ - _; omega)
             ·
               dsimp only
               rw [hx5]
               rfl
             ·
               dsimp only
               rw [hx5]
               exact hb4.mono (fun b h => h.1))
      ·
        refine WL.nil (WX.then_normal (WC.cond_false rfl (WC.skip (WX.then_normal (?_)))))
        refine WC.draw (fun b => Eqb a_hb2 b ∧ (fun b => w.heap.size ≤ b ∧ b ≠ g_2) b) [0, 1, 2, 3, 4, 6, 7] [5, 8, 9] mixed rfl rfl (fun wd_4 kd_4 zd_4 => ?_)
        have zs_kd_4 := kd_4.size
        replace hr := hr.pure kd_4
        replace hw := hw.pure kd_4
        replace hb_2 := hb_2.pure kd_4
        replace hb2 := hb2.pure kd_4
        apply DQ.step (E' := [(5, _)])
        case ho => rfl
        case hs => exact ⟨rfl, trivial⟩
        case hk => rfl
        case h1 =>
          intro wq_6 kq_6
          refine WL.move rfl rfl (?_)
          refine WL.nil ?_
          exact WX.one ⟨rfl, by first | exact Chg.refl _ _ | assumption⟩
        apply DQ.step (E' := [(7, _)])
        case ho => rfl
        case hs => exact ⟨rfl, trivial⟩
        case hk => rfl
        case h1 =>
          intro wq_7 kq_7
          refine WL.fieldAddr (fld_37_2) rfl rfl (?_)
          refine WL.nil ?_
          exact WX.one ⟨rfl, by first | exact Chg.refl _ _ | assumption⟩
        apply DQ.step (E' := [(40, _)])
        case ho => rfl
        case hs => exact ⟨rfl, trivial⟩
        case hk => rfl
        case h1 =>
          intro wq_8 kq_8
          have zs_kq_8 := kq_8.size
          replace hr := hr.chg kq_8 (by first | (intro h1; have h2 : _ = _ := h1; exfalso; omega) | (intros; exfalso; (try dsimp only at *); omega) | (intro b h1 h2 h3; exfalso; have h4 := h3.2; (try dsimp only at *); omega) | (intro h1; exfalso; have h4 := h1.2; (try dsimp only at *); omega) | (intro x h1 h2; exfalso; have h4 := h2.2; (try dsimp only at *); omega))
          replace hw := hw.chg kq_8 (by first | (intro h1; have h2 : _ = _ := h1; exfalso; omega) | (intros; exfalso; (try dsimp only at *); omega) | (intro b h1 h2 h3; exfalso; have h4 := h3.2; (try dsimp only at *); omega) | (intro h1; exfalso; have h4 := h1.2; (try dsimp only at *); omega) | (intro x h1 h2; exfalso; have h4 := h2.2; (try dsimp only at *); omega))
          replace hb_2 := hb_2.chg kq_8 (by first | (intro h1; have h2 : _ = _ := h1; exfalso; omega) | (intros; exfalso; (try dsimp only at *); omega) | (intro b h1 h2 h3; exfalso; have h4 := h3.2; (try dsimp only at *); omega) | (intro h1; exfalso; have h4 := h1.2; (try dsimp only at *); omega) | (intro x h1 h2; exfalso; have h4 := h2.2; (try dsimp only at *); omega))
          refine WL.loadB Try.isAgg9 hb_2 rfl rfl rfl (?_)
          refine WL.nil ?_
          exact WX.one ⟨rfl, by first | exact Chg.refl _ _ | assumption⟩
        apply DQ.step (E' := [(41, _)])
        case ho => rfl
        case hs => exact ⟨rfl, trivial⟩
        case hk => rfl
        case h1 =>
          intro wq_9 kq_9
          have zs_kq_9 := kq_9.size
          replace hr := hr.chg kq_9 (by first | (intro h1; have h2 : _ = _ := h1; exfalso; omega) | (intros; exfalso; (try dsimp only at *); omega) | (intro b h1 h2 h3; exfalso; have h4 := h3.2; (try dsimp only at *); omega) | (intro h1; exfalso; have h4 := h1.2; (try dsimp only at *); omega) | (intro x h1 h2; exfalso; have h4 := h2.2; (try dsimp only at *); omega))
          replace hw := hw.chg kq_9 (by first | (intro h1; have h2 : _ = _ := h1; exfalso; omega) | (intros; exfalso; (try dsimp only at *); omega) | (intro b h1 h2 h3; exfalso; have h4 := h3.2; (try dsimp only at *); omega) | (intro h1; exfalso; have h4 := h1.2; (try dsimp only at *); omega) | (intro x h1 h2; exfalso; have h4 := h2.2; (try dsimp only at *); omega))
          replace hb_2 := hb_2.chg kq_9 (by first | (intro h1; have h2 : _ = _ := h1; exfalso; omega) | (intros; exfalso; (try dsimp only at *); omega) | (intro b h1 h2 h3; exfalso; have h4 := h3.2; (try dsimp only at *); omega) | (intro h1; exfalso; have h4 := h1.2; (try dsimp only at *); omega) | (intro x h1 h2; exfalso; have h4 := h2.2; (try dsimp only at *); omega))
          refine WL.lens Try.underlying9 rfl rfl (?_)
          refine WL.nil ?_
          exact WX.one ⟨rfl, by first | exact Chg.refl _ _ | assumption⟩
        apply DQ.step (E' := [(42, _)])
        case ho => rfl
        case hs => exact ⟨rfl, trivial⟩
        case hk => rfl
        case h1 =>
          intro wq_10 kq_10
          have zs_kq_10 := kq_10.size
          replace hr := hr.chg kq_10 (by first | (intro h1; have h2 : _ = _ := h1; exfalso; omega) | (intros; exfalso; (try dsimp only at *); omega) | (intro b h1 h2 h3; exfalso; have h4 := h3.2; (try dsimp only at *); omega) | (intro h1; exfalso; have h4 := h1.2; (try dsimp only at *); omega) | (intro x h1 h2; exfalso; have h4 := h2.2; (try dsimp only at *); omega))
          replace hw := hw.chg kq_10 (by first | (intro h1; have h2 : _ = _ := h1; exfalso; omega) | (intros; exfalso; (try dsimp only at *); omega) | (intro b h1 h2 h3; exfalso; have h4 := h3.2; (try dsimp only at *); omega) | (intro h1; exfalso; have h4 := h1.2; (try dsimp only at *); omega) | (intro x h1 h2; exfalso; have h4 := h2.2; (try dsimp only at *); omega))
          replace hb_2 := hb_2.chg kq_10 (by first | (intro h1; have h2 : _ = _ := h1; exfalso; omega) | (intros; exfalso; (try dsimp only at *); omega) | (intro b h1 h2 h3; exfalso; have h4 := h3.2; (try dsimp only at *); omega) | (intro h1; exfalso; have h4 := h1.2; (try dsimp only at *); omega) | (intro x h1 h2; exfalso; have h4 := h2.2; (try dsimp only at *); omega))
          refine WL.c_i64_u64 Try.underlying3 Try.underlying38 rfl rfl (?_)
          refine WL.nil ?_
          exact WX.one ⟨rfl, by first | exact Chg.refl _ _ | assumption⟩
        apply DQ.step (E' := [(7, _)])
        case ho => rfl
        case hs => exact ⟨rfl, trivial⟩
        case hk => rfl
        case h1 =>
          intro wq_11 kq_11
          refine WL.fieldAddr (fld_37_2) rfl rfl (?_)
          refine WL.nil ?_
          exact WX.one ⟨rfl, by first | exact Chg.refl _ _ | assumption⟩
        apply DQ.step (E' := [(45, _)])
        case ho => rfl
        case hs => exact ⟨rfl, trivial⟩
        case hk => rfl
        case h1 =>
          intro wq_12 kq_12
          have zs_kq_12 := kq_12.size
          replace hr := hr.chg kq_12 (by first | (intro h1; have h2 : _ = _ := h1; exfalso; omega) | (intros; exfalso; (try dsimp only at *); omega) | (intro b h1 h2 h3; exfalso; have h4 := h3.2; (try dsimp only at *); omega) | (intro h1; exfalso; have h4 := h1.2; (try dsimp only at *); omega) | (intro x h1 h2; exfalso; have h4 := h2.2; (try dsimp only at *); omega))
          replace hw := hw.chg kq_12 (by first | (intro h1; have h2 : _ = _ := h1; exfalso; omega) | (intros; exfalso; (try dsimp only at *); omega) | (intro b h1 h2 h3; exfalso; have h4 := h3.2; (try dsimp only at *); omega) | (intro h1; exfalso; have h4 := h1.2; (try dsimp only at *); omega) | (intro x h1 h2; exfalso; have h4 := h2.2; (try dsimp only at *); omega))
          replace hb_2 := hb_2.chg kq_12 (by first | (intro h1; have h2 : _ = _ := h1; exfalso; omega) | (intros; exfalso; (try dsimp only at *); omega) | (intro b h1 h2 h3; exfalso; have h4 := h3.2; (try dsimp only at *); omega) | (intro h1; exfalso; have h4 := h1.2; (try dsimp only at *); omega) | (intro x h1 h2; exfalso; have h4 := h2.2; (try dsimp only at *); omega))
          refine WL.loadB Try.isAgg9 hb_2 rfl rfl rfl (?_)
          refine WL.nil ?_
          exact WX.one ⟨rfl, by first | exact Chg.refl _ _ | assumption⟩
        refine DQ.doneG (S := fun b => w.heap.size ≤ b ∧ b ≠ g_2) (a := a_hb2) (fun hd_5 => ?_)
        refine DL.step [(39, _), (43, _)] rfl ⟨rfl, rfl, trivial⟩ rfl (fun wq_13 kq_13 => ?_)
        have zs_kq_13 := kq_13.size
        replace hd_5 := hd_5.pure kq_13
        replace hr := hr.pure kq_13
        replace hw := hw.pure kq_13
        replace hb_2 := hb_2.pure kq_13
        replace hb2 := hb2.pure kq_13
        refine WL.call eg_32 rfl rfl (count_calls _ hb2 (by intro b hb; first | (apply hS; omega) | ((try dsimp only); omega)) (by simp; omega)) ?_
        rintro v w4 ⟨a4, c4, rfl, hb3, g3⟩
        have z_hb3 := g3.chg.size
        replace hd_5 := hd_5.trans g3
        have zs_g3_chg := g3.chg.size
        replace hr := hr.chg g3.chg (by first | (intro h1; have h2 : _ = _ := h1; exfalso; omega) | (intros; exfalso; (try dsimp only at *); omega) | (intro b h1 h2 h3; exfalso; have h4 := h3.2; (try dsimp only at *); omega) | (intro h1; exfalso; have h4 := h1.2; (try dsimp only at *); omega) | (intro x h1 h2; exfalso; have h4 := h2.2; (try dsimp only at *); omega))
        replace hw := hw.chg g3.chg (by first | (intro h1; have h2 : _ = _ := h1; exfalso; omega) | (intros; exfalso; (try dsimp only at *); omega) | (intro b h1 h2 h3; exfalso; have h4 := h3.2; (try dsimp only at *); omega) | (intro h1; exfalso; have h4 := h1.2; (try dsimp only at *); omega) | (intro x h1 h2; exfalso; have h4 := h2.2; (try dsimp only at *); omega))
        replace hb_2 := hb_2.chg g3.chg (by first | (intro h1; have h2 : _ = _ := h1; exfalso; omega) | (intros; exfalso; (try dsimp only at *); omega) | (intro b h1 h2 h3; exfalso; have h4 := h3.2; (try dsimp only at *); omega) | (intro h1; exfalso; have h4 := h1.2; (try dsimp only at *); omega) | (intro x h1 h2; exfalso; have h4 := h2.2; (try dsimp only at *); omega))
        refine WL.nil ?_
        refine WX.one ⟨hd_5.chg, ?_⟩
        refine DL.step [(44, _), (46, _)] rfl ⟨rfl, rfl, trivial⟩ rfl (fun wq_14 kq_14 => ?_)
        have zs_kq_14 := kq_14.size
        replace hd_5 := hd_5.pure kq_14
        replace hr := hr.pure kq_14
        replace hw := hw.pure kq_14
        replace hb_2 := hb_2.pure kq_14
        replace hb3 := hb3.pure kq_14
        have hcl := cnt_len64 (B64 x.s.size)
        have hsz : x.s.data.toList.length = x.s.size := by simp
        have hs4 : x.s.size ≤ 4000 := by have := hx2.1; have h6 := hx2.2; simp only [longI, okI, decide_eq_false_iff_not, decide_eq_true_eq] at this h6; omega
        refine WL.append (e := eb) info_5 rfl Try.underlying24 rfl rfl hb3 (src_string _ Try.underlying9) (by (try simp only [List.length_append, List.length_cons, List.length_nil] at *); omega) (by intro b hb; first | (apply hS; omega) | ((try dsimp only); omega)) rfl ?_
        intro a_hb4 c_hb4 w_hb4 hb4 g_hb4 n_hb4
        have z_hb4 := g_hb4.chg.size
        replace hd_5 := hd_5.trans g_hb4
        have zs_g_hb4_chg := g_hb4.chg.size
        replace hr := hr.chg g_hb4.chg (by first | (intro h1; have h2 : _ = _ := h1; exfalso; omega) | (intros; exfalso; (try dsimp only at *); omega) | (intro b h1 h2 h3; exfalso; have h4 := h3.2; (try dsimp only at *); omega) | (intro h1; exfalso; have h4 := h1.2; (try dsimp only at *); omega) | (intro x h1 h2; exfalso; have h4 := h2.2; (try dsimp only at *); omega))
        replace hw := hw.chg g_hb4.chg (by first | (intro h1; have h2 : _ = _ := h1; exfalso; omega) | (intros; exfalso; (try dsimp only at *); omega) | (intro b h1 h2 h3; exfalso; have h4 := h3.2; (try dsimp only at *); omega) | (intro h1; exfalso; have h4 := h1.2; (try dsimp only at *); omega) | (intro x h1 h2; exfalso; have h4 := h2.2; (try dsimp only at *); omega))
        replace hb_2 := hb_2.chg g_hb4.chg (by first | (intro h1; have h2 : _ = _ := h1; exfalso; omega) | (intros; exfalso; (try dsimp only at *); omega) | (intro b h1 h2 h3; exfalso; have h4 := h3.2; (try dsimp only at *); omega) | (intro h1; exfalso; have h4 := h1.2; (try dsimp only at *); omega) | (intro x h1 h2; exfalso; have h4 := h2.2; (try dsimp only at *); omega))
        refine WL.nil ?_
        refine WX.one ⟨hd_5.chg, ?_⟩
        refine DL.step [(47, _)] rfl ⟨rfl, trivial⟩ rfl (fun wq_15 kq_15 => ?_)
        have zs_kq_15 := kq_15.size
        replace hd_5 := hd_5.pure kq_15
        replace hr := hr.pure kq_15
        replace hw := hw.pure kq_15
        replace hb_2 := hb_2.pure kq_15
        replace hb4 := hb4.pure kq_15
        refine WL.assign rfl rfl (?_)
        refine WL.nil ?_
        refine WX.one ⟨hd_5.chg, ?_⟩
        refine DL.done (fun we_16 ke_16 => ?_)
        have zs_ke_16 := ke_16.size
        replace hd_5 := hd_5.pure ke_16
        replace hr := hr.pure ke_16
        replace hw := hw.pure ke_16
        replace hb_2 := hb_2.pure ke_16
        replace hb4 := hb4.pure ke_16
        refine WX.block_normal (WX.then_normal (WC.region (WL.add64 rfl rfl (by first | omega | (constructor <;> omega)) rfl (WL.move rfl rfl (WL.nil (?_))))))
        have hx3 : encAll (l.take (i + 1)) = encAll (l.take i) ++ enc1 x := by rw [List.take_add_one, hx]; exact encAll_snoc _ _
        first
          | (have hx4 : enc1 x = [B8 x.kind] ++ cnt (zigU x.n).toNat := by unfold enc1; rw [if_pos h27]; rfl
             have hx5 : encAll (l.take (i + 1)) = encAll (l.take i) ++ [B8 x.kind] ++ cnt (zigU x.n).toNat := by rw [hx3, hx4, List.append_assoc]
             refine WX.loop_next (i + 1, a4, c4) ⟨?_, rfl, rfl, rfl, trivial⟩ ⟨by dsimp only; omega, ?_, hw, hr⟩ (by show _ - _ < _ - _; omega)
             ·
               dsimp only
               rw [hx5]
               rfl
             ·
               dsimp only
               rw [hx5]
               exact hb3.mono (fun b h => h.1))
          | (have hx4 : enc1 x = [B8 x.kind] ++ (cnt x.s.size ++ x.s.data.toList) := by unfold enc1; rw [if_neg h27]; rfl
             have hx5 : encAll (l.take (i + 1)) = encAll (l.take i) ++ [B8 x.kind] ++ cnt (B64 x.s.size).toNat ++ x.s.data.toList := by rw [hx3, hx4, B64_nat (by have := hx2; omega)]; simp only [List.append_assoc]
             refine WX.loop_next (i + 1, a_hb4, c_hb4) ⟨?_, rfl, rfl, rfl, trivial⟩ ⟨by dsimp only; omega, ?_, hw, hr⟩ (by show _ - _ < _ - _; omega)
             ·
               dsimp only
               rw [hx5]
               rfl
             ·
               dsimp only
               rw [hx5]
               exact hb4.mono (fun b h => h.1))
    ·
      refine WL.nil (WX.then_normal (WC.seq (WC.cond_false rfl (WC.exit (WX.then_exit (WX.then_exit (WX.block_here (?_))))))))
      refine WX.then_normal (WC.seq (WC.region (WL.move rfl rfl (WL.assign rfl rfl (WL.assign rfl rfl (WL.nil (WX.then_normal (?_))))))))
      refine WC.ret (?_)
      refine WX.ret2 (.inl rfl) Try.results14 rfl rfl ?_
      first
        | (rw [if_neg h11]
           exact ⟨_, rfl, none, 0, rfl, Row.nil _ _ _ _, k⟩)
        | (have hx6 : l.take i = l := List.take_of_length_le (by omega)
           rw [hx6] at hb ⊢
           rw [if_pos hc0, hc0]
           exact ⟨_, rfl, a1, c1, rfl, hb, hw⟩)
end Go.Proofs.Ytfkaioldfmapjaa
