import Derived.Test.YtjeldcjchipdgaaGreatDoorQIntentPlays2
namespace Go.Proofs.YtjeldcjchipdgaaGreatDoor
open Go.RowKit Go.HL
set_option maxRecDepth 100000
def zigU (n : Int) : UInt64 := (B64 n <<< UInt64.ofNat 1) ^^^ B64 (n / 2 ^ 63)
def enc1 (i : Item) : List UInt8 := B8 i.kind :: (if i.kind = 1 then cnt (zigU i.n).toNat else cnt i.s.size ++ i.s.data.toList)
def encAll (l : List Item) : List UInt8 := l.flatMap enc1
theorem enc1_len {i : Item} (h : ¬ (i.kind = 2 ∧ 4000 < i.s.size)) (h2 : okI i = true) : (enc1 i).length ≤ 4011 := by
 unfold enc1
 have h3 := cnt_len64 (zigU i.n)
 simp only [okI, decide_eq_true_eq] at h2
 split
 ·simp; omega
 ·have h4 : i.s.size ≤ 4000 := by omega
  have h5 := cnt_len 9 i.s.size (by omega)
  simp only [List.length_cons, List.length_append, Array.length_toList]
  have : i.s.data.size = i.s.size := rfl
  omega
theorem checkE_ok {l : List Item} (h : checkE l = 0) : l.length ≤ 2000 ∧ ∀ i ∈ l, longI i = false ∧ okI i = true := by
 unfold checkE at h
 split at h
 ·cases h
 ·rename_i h1
  split at h
  ·rename_i h2
   refine ⟨by omega, fun i hi => ⟨?_, List.all_eq_true.1 h2 i hi⟩⟩
   cases hx : longI i with
   |false => rfl
   |true => exact absurd (.inr (List.any_eq_true.2 ⟨i, hi, hx⟩)) h1
  ·cases h
theorem encAll_len {l : List Item} (h : ∀ i ∈ l, longI i = false ∧ okI i = true) : (encAll l).length ≤ 4011 * l.length := by
 induction l with
 |nil => simp [encAll]
 |cons i r ih =>
  have h1 := ih (fun j hj => h j (by simp [hj]))
  have h2 := h i (by simp)
  have h3 := enc1_len (by simpa [longI] using h2.1) h2.2
  simp only [encAll, List.flatMap_cons, List.length_append, List.length_cons] at h1 ⊢
  omega
theorem encAll_snoc (l : List Item) (x : Item) : encAll (l ++ [x]) = encAll l ++ enc1 x := by simp [encAll]
theorem encode_calls {S : Nat → Prop} {w : World} {ao : Option Addr} {c : Nat} {l : List Item} (hr : RSl S w eit ao c l) (hl : l.length ≤ 9223372036854775807) :
 Calls Tryz.prog 94 [.slice ao l.length c].toArray w (Ret fun v w' => ∃ ao' c', v = .tuple #[.slice ao' (if checkE l = 0 then encAll l else []).length c', vi (checkE l)] ∧ Row (w.heap.size ≤ ·) w' 5 eb ao' c' (if checkE l = 0 then encAll l else []) ∧ Chg Nob w w') := by
 replace hr := hr.old
 refine Calls.of_WC Tryz.func94 rfl Tryz.ntmps94 (by simp) ?_
 refine WC.sr (WL.assign rfl rfl (WL.assign rfl rfl (WL.t (WC.seq (WC.seq (WC.region (WL.move rfl rfl (WL.call eg_110 rfl rfl (check_calls hr hl) ?_))))))))
 rintro v w1 ⟨rfl, k⟩
 replace hr := hr.pure k
 refine WL.assign rfl rfl (WL.t (WC.sr (WL.move rfl rfl (WL.qo rfl rfl rfl (fun h11 => ?_) (fun h11 => ?_)))))
 ·refine WL.t (WC.qb rfl (WC.sr (WL.move rfl rfl (WL.assign rfl rfl (WL.assign rfl rfl (WL.t (WC.ret (WX.qb (WX.qi (.inl rfl) Tryz.results94 rfl rfl ?_)))))))))
  rw [if_neg h11]
  exact ⟨_, rfl, none, 0, rfl, Row.nil _ _ _ _, k⟩
 ·refine WL.t (WC.qa rfl (WC.skip (WX.qa (WC.sr (WL.assign rfl rfl (WL.t (WC.seq (WC.sr (WL.move rfl rfl (WL.len Tryz.underlying117 rfl rfl (WL.move rfl rfl (WL.t (WC.block (?_))))))))))))))
  have hc0 : checkE l = 0 := h11
  obtain ⟨hlen, hall⟩ := checkE_ok hc0
  refine WC.loop (σ := Nat × Option Addr × Nat) (fun s => [(5, .slice s.2.1 (encAll (l.take s.1)).length s.2.2), (13, .slice ao l.length c), (14, vi l.length), (15, vi s.1)])
   (fun s w' => s.1 ≤ l.length ∧ Row (w.heap.size ≤ ·) w' 5 eb s.2.1 s.2.2 (encAll (l.take s.1)) ∧ Chg Nob w w' ∧ RSl (· < w.heap.size) w' eit ao c l) (fun s => l.length - s.1) (0, none, 0) ⟨rfl, rfl, rfl, rfl, trivial⟩ ⟨Nat.zero_le _, Row.nil _ _ _ _, k, hr⟩ ?_
  clear hr
  rintro ⟨i, a1, c1⟩ w2 ⟨hi, hb, hw, hr⟩
  dsimp only at hi hb hw hr ⊢
  have zw := hw.size
  have hel := encAll_len (l := l.take i) (fun j hj => hall j (List.mem_of_mem_take hj))
  have hlt := List.length_take_le i l
  refine WC.sr (WL.qh rfl rfl rfl (fun h16 => ?_) (fun h16 => ?_))
  ·refine WL.t (WC.seq (WC.qb rfl (WC.skip (WX.qa (WC.seq (WC.block (WC.sr (?_))))))))
   obtain ⟨x, hx⟩ : ∃ x, l[i]? = some x := ⟨_, List.getElem?_eq_getElem (by omega)⟩
   have hx2 := hall x (List.mem_of_getElem? hx)
   replace hb := hb.lt
   refine WL.qg Tryz.underlying117 Tryz.sizeOf116 hr rfl rfl ⟨hx, rfl⟩ rfl ?_
   intro b_1 o_1 hc_1
   refine WL.qw _ Tryz.isAgg116 Tryz.sizeOf116 rfl hc_1 rfl rfl (WL.alloc Tryz.zeroValue116 rfl ?_)
   intro g_2 w_2 hge_2 hlt_2 hb_2 k_2
   replace hr := hr.pure k_2
   replace hb := hb.pure k_2
   replace hw := hw.pure k_2
   refine WL.ql Tryz.sizeOf116 hb_2 rfl rfl (by rfl) (by exact Enc.one _ _) (by exact Nat.le_of_ble_eq_true rfl) rfl ?_
   intro w_3 hs_3 hn_3 k_3
   replace hr := hr.chg k_3 (by intro b h1 h2 h3; have h4 : _ = _ := h3; (try dsimp only at h2); exfalso; omega)
   replace hb := hb.chg k_3 (by intro b h1 h2 h3; have h4 : _ = _ := h3; (try dsimp only at h2); exfalso; omega)
   replace hw := hw.chg k_3 (by intro x h1 h2; have h3 : _ = _ := h2; exfalso; omega)
   replace hb_2 := hn_3
   refine WL.t (WC.sr (WL.move rfl rfl (WL.fieldAddr (fld_116_0) rfl rfl (WL.qb Tryz.isAgg3 hb_2 rfl rfl rfl (WL.c_i64_u8 Tryz.underlying3 Tryz.underlying5 rfl rfl (?_))))))
   refine WL.build (e := eb) [B8 x.kind] Tryz.underlying51 Tryz.sizeOf5 Tryz.zeroValue5 rfl rfl rfl (by simp [Value.cells] <;> rfl) (by decide) rfl ?_
   intro a_hq w_hq hq l_hq z_hq k_hq
   replace hr := hr.pure k_hq
   replace hb := hb.pure k_hq
   replace hw := hw.pure k_hq
   replace hb_2 := hb_2.pure k_hq
   have hb0 := hb.mono (S' := fun b => w.heap.size ≤ b ∧ b ≠ g_2) (fun b h => ⟨h.1, by have := h.2; omega⟩)
   refine WL.append (e := eb) info_5 rfl Tryz.underlying51 rfl rfl hb0 (hq.rsl.src Tryz.underlying51) (by (try simp only [List.length_append, List.length_cons, List.length_nil] at *); omega) (by intro b hb; first | (apply hS; omega) | ((try dsimp only); omega)) rfl ?_
   intro a_hb2 c_hb2 w_hb2 hb2 g_hb2 n_hb2
   have z_hb2 := g_hb2.chg.size
   replace hr := hr.chg g_hb2.chg (by intros; exfalso; (try dsimp only at *); omega)
   replace hw := hw.chg g_hb2.chg (by intros; exfalso; (try dsimp only at *); omega)
   replace hb_2 := hb_2.chg g_hb2.chg (by intro h1; exfalso; have h4 := h1.2; (try dsimp only at *); omega)
   refine WL.assign rfl rfl (WL.t (WC.seq (WC.sr (WL.fieldAddr (fld_116_0) rfl rfl (WL.qb Tryz.isAgg3 hb_2 rfl rfl rfl (WL.qi rfl rfl rfl (fun h27 => ?_) (fun h27 => ?_)))))))
   ·refine WL.t (WC.qb rfl (WC.sr (WL.move rfl rfl (WL.fieldAddr (fld_116_1) rfl rfl (WL.qb Tryz.isAgg3 hb_2 rfl rfl rfl (WL.qt Tryz.underlying3 Tryz.underlying24 rfl rfl (WL.num rfl rfl (n_shl64 _ _ _ _ 1 (by decide)) rfl (WL.fieldAddr (fld_116_1) rfl rfl (WL.qb Tryz.isAgg3 hb_2 rfl rfl rfl (?_))))))))))
    refine WL.num rfl rfl (n_shri64 _ _ _ _ 63 (by decide)) rfl ?_
    refine WL.qt Tryz.underlying3 Tryz.underlying24 rfl rfl (WL.num rfl rfl (n_xor64 _ _ _ _) rfl (?_))
    refine WL.call eg_111 rfl rfl (count_calls _ hb2 (by intro b hb; first | (apply hS; omega) | ((try dsimp only); omega)) (by simp; omega)) ?_
    rintro v w4 ⟨a4, c4, rfl, hb3, g3⟩
    replace hr := hr.chg g3.chg (by intros; exfalso; (try dsimp only at *); omega)
    replace hw := hw.chg g3.chg (by intros; exfalso; (try dsimp only at *); omega)
    refine WL.assign rfl rfl (WL.t (WC.exit (WX.qd (WX.qh (WX.qa (WC.region (WL.qe rfl rfl (by omega) rfl (WL.move rfl rfl (WL.nil (?_))))))))))
    have hx3 : encAll (l.take (i + 1)) = encAll (l.take i) ++ enc1 x := by rw [List.take_add_one, hx]; exact encAll_snoc _ _
    have hx4 : enc1 x = [B8 x.kind] ++ cnt (zigU x.n).toNat := by unfold enc1; rw [if_pos h27]; rfl
    have hx5 : encAll (l.take (i + 1)) = encAll (l.take i) ++ [B8 x.kind] ++ cnt (zigU x.n).toNat := by rw [hx3, hx4, List.append_assoc]
    refine WX.qf (i + 1, a4, c4) ⟨?_, rfl, rfl, rfl, trivial⟩ ⟨by dsimp only; omega, ?_, hw, hr⟩ (by show _ - _ < _ - _; omega)
    ·dsimp only
     rw [hx5]
     rfl
    ·dsimp only
     rw [hx5]
     exact hb3.mono (fun b h => h.1)
   ·refine WL.t (WC.qa rfl (WC.skip (WX.qa (WC.qc (fun b => Eqb a_hb2 b ∧ (fun b => w.heap.size ≤ b ∧ b ≠ g_2) b) [0, 1, 2, 3, 4, 6, 7] [5, 8, 9] mixed rfl rfl (fun wd_4 kd_4 zd_4 => ?_)))))
    replace hr := hr.pure kd_4
    replace hw := hw.pure kd_4
    replace hb_2 := hb_2.pure kd_4
    replace hb2 := hb2.pure kd_4
    apply DQ.step [(5, _)] rfl ⟨rfl, trivial⟩ rfl (fun _ _ => WL.move rfl rfl  WL.q)
    apply DQ.step [(7, _)] rfl ⟨rfl, trivial⟩ rfl (fun _ _ => WL.fieldAddr (fld_116_2) rfl rfl  WL.q)
    apply DQ.step [(40, _)] rfl ⟨rfl, trivial⟩ rfl
    ·intro wq_8 kq_8
     replace hb_2 := hb_2.chg kq_8 (by intro h1; exfalso; have h4 := h1.2; (try dsimp only at *); omega)
     refine WL.qb Tryz.isAgg9 hb_2 rfl rfl rfl (WL.q)
    apply DQ.step [(41, _)] rfl ⟨rfl, trivial⟩ rfl (fun _ _ => WL.qr Tryz.underlying9 rfl rfl  WL.q)
    apply DQ.step [(42, _)] rfl ⟨rfl, trivial⟩ rfl (fun _ _ => WL.qt Tryz.underlying3 Tryz.underlying24 rfl rfl  WL.q)
    apply DQ.step [(7, _)] rfl ⟨rfl, trivial⟩ rfl (fun _ _ => WL.fieldAddr (fld_116_2) rfl rfl  WL.q)
    apply DQ.step [(45, _)] rfl ⟨rfl, trivial⟩ rfl
    ·intro wq_12 kq_12
     replace hb_2 := hb_2.chg kq_12 (by intro h1; exfalso; have h4 := h1.2; (try dsimp only at *); omega)
     refine WL.qb Tryz.isAgg9 hb_2 rfl rfl rfl (WL.q)
    refine DQ.doneG (S := fun b => w.heap.size ≤ b ∧ b ≠ g_2) (a := a_hb2) (fun hd_5 => ?_)
    refine DL.step [(39, _), (43, _)] rfl ⟨rfl, rfl, trivial⟩ rfl (fun wq_13 kq_13 => ?_)
    have zs_kq_13 := kq_13.size
    replace hd_5 := hd_5.pure kq_13
    replace hr := hr.pure kq_13
    replace hw := hw.pure kq_13
    replace hb2 := hb2.pure kq_13
    refine WL.call eg_111 rfl rfl (count_calls _ hb2 (by intro b hb; first | (apply hS; omega) | ((try dsimp only); omega)) (by simp; omega)) ?_
    rintro v w4 ⟨a4, c4, rfl, hb3, g3⟩
    have z_hb3 := g3.chg.size
    replace hd_5 := hd_5.trans g3
    replace hr := hr.chg g3.chg (by intros; exfalso; (try dsimp only at *); omega)
    replace hw := hw.chg g3.chg (by intros; exfalso; (try dsimp only at *); omega)
    refine WL.nil (WX.one ⟨hd_5.chg, ?_⟩)
    refine DL.step [(44, _), (46, _)] rfl ⟨rfl, rfl, trivial⟩ rfl (fun wq_14 kq_14 => ?_)
    have zs_kq_14 := kq_14.size
    replace hd_5 := hd_5.pure kq_14
    replace hr := hr.pure kq_14
    replace hw := hw.pure kq_14
    replace hb3 := hb3.pure kq_14
    have hcl := cnt_len64 (B64 x.s.size)
    have hsz : x.s.data.toList.length = x.s.size := by simp
    have hs4 : x.s.size ≤ 4000 := by have := hx2.1; have h6 := hx2.2; simp only [longI, okI, decide_eq_false_iff_not, decide_eq_true_eq] at this h6; omega
    refine WL.append (e := eb) info_5 rfl Tryz.underlying51 rfl rfl hb3 (src_string _ Tryz.underlying9) (by (try simp only [List.length_append, List.length_cons, List.length_nil] at *); omega) (by intro b hb; first | (apply hS; omega) | ((try dsimp only); omega)) rfl ?_
    intro a_hb4 c_hb4 w_hb4 hb4 g_hb4 n_hb4
    replace hd_5 := hd_5.trans g_hb4
    replace hr := hr.chg g_hb4.chg (by intros; exfalso; (try dsimp only at *); omega)
    replace hw := hw.chg g_hb4.chg (by intros; exfalso; (try dsimp only at *); omega)
    refine WL.nil (WX.one ⟨hd_5.chg, ?_⟩)
    refine DL.step [(47, _)] rfl ⟨rfl, trivial⟩ rfl (fun wq_15 kq_15 => ?_)
    replace hd_5 := hd_5.pure kq_15
    replace hr := hr.pure kq_15
    replace hw := hw.pure kq_15
    replace hb4 := hb4.pure kq_15
    refine WL.assign rfl rfl (WL.nil ?_)
    refine WX.one ⟨hd_5.chg, ?_⟩
    refine DL.done (fun we_16 ke_16 => ?_)
    replace hr := hr.pure ke_16
    replace hw := hw.pure ke_16
    replace hb4 := hb4.pure ke_16
    refine WX.qc (WX.qa (WC.region (WL.qe rfl rfl (by omega) rfl (WL.move rfl rfl (WL.nil (?_))))))
    have hx3 : encAll (l.take (i + 1)) = encAll (l.take i) ++ enc1 x := by rw [List.take_add_one, hx]; exact encAll_snoc _ _
    have hx4 : enc1 x = [B8 x.kind] ++ (cnt x.s.size ++ x.s.data.toList) := by unfold enc1; rw [if_neg h27]; rfl
    have hx5 : encAll (l.take (i + 1)) = encAll (l.take i) ++ [B8 x.kind] ++ cnt (B64 x.s.size).toNat ++ x.s.data.toList := by rw [hx3, hx4, B64_nat (by have := hx2; omega)]; simp only [List.append_assoc]
    refine WX.qf (i + 1, a_hb4, c_hb4) ⟨?_, rfl, rfl, rfl, trivial⟩ ⟨by dsimp only; omega, ?_, hw, hr⟩ (by show _ - _ < _ - _; omega)
    ·dsimp only
     rw [hx5]
     rfl
    ·dsimp only
     rw [hx5]
     exact hb4.mono (fun b h => h.1)
  ·refine WL.t (WC.seq (WC.qa rfl (WC.exit (WX.qd (WX.qd (WX.qh (WX.qa (WC.sr (WL.move rfl rfl (WL.assign rfl rfl (WL.assign rfl rfl (WL.t (WC.ret (WX.qi (.inl rfl) Tryz.results94 rfl rfl ?_))))))))))))))
   have hx6 : l.take i = l := List.take_of_length_le (by omega)
   rw [hx6] at hb ⊢
   rw [if_pos hc0, hc0]
   exact ⟨_, rfl, a1, c1, rfl, hb, hw⟩
end Go.Proofs.YtjeldcjchipdgaaGreatDoor
namespace Go.Proofs.YtjeldcjchipdgaaGreatDoor
open Go.RowKit Go.HL
set_option maxRecDepth 100000
def ctd (k : Nat) : List UInt8 → Option (Nat × List UInt8)
 |[] => none
 |x :: r => if k = 10 ∨ (k = 9 ∧ 1 < x.toNat) ∨ (0 < k ∧ x.toNat = 0) then none else if x.toNat < 128 then some (x.toNat, r) else (ctd (k + 1) r).map fun p => (x.toNat % 128 + 128 * p.1, p.2)
theorem ctd_bound : ∀ (bs : List UInt8) (k : Nat) {c : Nat} {r : List UInt8}, k ≤ 10 → ctd k bs = some (c, r) → k ≤ 9 ∧ c < 2 ^ (64 - 7 * k) ∧ r.length < bs.length
 |[], k, c, r, _, h => by simp [ctd] at h
 |x :: bs, k, c, r, hk, h => by
  have hx := x.toNat_lt
  unfold ctd at h
  split at h
  ·cases h
  ·rename_i hn
   split at h
   ·rename_i hl
    injection h with h
    injection h with h1 h2
    subst h1; subst h2
    refine ⟨by omega, ?_, by simp⟩
    have h9 : k = 9 ∨ k ≤ 8 := by omega
    rcases h9 with rfl | h9
    ·have : x.toNat ≤ 1 := by omega
     omega
    ·exact Nat.lt_of_lt_of_le hl (Nat.le_trans (by decide : 128 ≤ 2 ^ 8) (Nat.pow_le_pow_right (by decide) (by omega)))
   ·rename_i hl
    obtain ⟨⟨c', r'⟩, h1, h2⟩ := Option.map_eq_some_iff.1 h
    injection h2 with h3 h4
    subst h3; subst h4
    obtain ⟨h5, h6, h7⟩ := ctd_bound bs (k + 1) (by omega) h1
    refine ⟨by omega, ?_, by simp; omega⟩
    have e : 2 ^ (64 - 7 * k) = 128 * 2 ^ (64 - 7 * (k + 1)) := by
     rw [show 64 - 7 * k = (64 - 7 * (k + 1)) + 7 from by omega, Nat.pow_add]
     omega
    rw [e]
    omega
theorem ctd_step {bs : List UInt8} {k : Nat} {x : UInt8} (hx : bs[k]? = some x) : ctd k (bs.drop k) = if k = 10 ∨ (k = 9 ∧ 1 < x.toNat) ∨ (0 < k ∧ x.toNat = 0) then none else if x.toNat < 128 then some (x.toNat, bs.drop (k + 1)) else (ctd (k + 1) (bs.drop (k + 1))).map fun p => (x.toNat % 128 + 128 * p.1, p.2) := by
 have hlt := (List.getElem?_eq_some_iff.1 hx).1
 have e : bs.drop k = x :: bs.drop (k + 1) := by
  rw [List.drop_eq_getElem_cons hlt]
  congr 1
  exact (List.getElem?_eq_some_iff.1 hx).2
 rw [e, ctd]
theorem and127 (x : UInt8) : (x &&& 127).toNat = x.toNat % 128 := by
 have h : ∀ y : Fin 256, (UInt8.ofNat y.1 &&& 127).toNat = (UInt8.ofNat y.1).toNat % 128 := by decide +kernel
 have := h ⟨x.toNat, x.toNat_lt⟩
 simpa using this
theorem or_part {c : UInt64} {x : UInt8} {k : Nat} (hk : k ≤ 9) (hc : c.toNat < 2 ^ (7 * k)) (h9 : k = 9 → x.toNat ≤ 1) : (c ||| ((x &&& 127).toUInt64 <<< UInt64.ofNat (7 * k))).toNat = c.toNat + x.toNat % 128 * 2 ^ (7 * k) ∧ c.toNat + x.toNat % 128 * 2 ^ (7 * k) < 2 ^ (7 * (k + 1)) := by
 have hx := x.toNat_lt
 have hb : x.toNat % 128 * 2 ^ (7 * k) < 2 ^ 64 := by
  have h : k = 9 ∨ k ≤ 8 := by omega
  rcases h with rfl | h
  ·have := h9 rfl
   have h3 : x.toNat % 128 ≤ 1 := by omega
   exact Nat.lt_of_le_of_lt (Nat.mul_le_mul_right _ h3) (by decide)
  ·have h1 : x.toNat % 128 ≤ 127 := by omega
   have h2 : 2 ^ (7 * k) ≤ 2 ^ 56 := Nat.pow_le_pow_right (by decide) (by omega)
   exact Nat.lt_of_le_of_lt (Nat.mul_le_mul h1 h2) (by decide)
 have h1 : ((x &&& 127).toUInt64 <<< UInt64.ofNat (7 * k)).toNat = x.toNat % 128 * 2 ^ (7 * k) := by
  rw [UInt64.toNat_shiftLeft]
  simp only [UInt64.toNat_ofNat', UInt8.toNat_toUInt64, and127]
  rw [show 7 * k % 2 ^ 64 % 64 = 7 * k from by omega, Nat.shiftLeft_eq, Nat.mod_eq_of_lt hb]
 constructor
 ·rw [UInt64.toNat_or, h1, Nat.or_comm, ← Nat.shiftLeft_eq, ← Nat.shiftLeft_add_eq_or_of_lt hc]
  omega
 ·rw [show 7 * (k + 1) = 7 * k + 7 from by omega, Nat.pow_add]
  have : x.toNat % 128 ≤ 127 := by omega
  have h5 := Nat.mul_le_mul_right (2 ^ (7 * k)) this
  omega
theorem add_part {u y : UInt64} {x : UInt8} {k : Nat} (hk : k ≤ 9) (hu : u.toNat < 2 ^ (7 * k)) (hy : y.toNat = 2 ^ (7 * k)) (h9 : k = 9 → x.toNat ≤ 1) : (u + x.toUInt64 % 128 * y).toNat = u.toNat + x.toNat % 128 * 2 ^ (7 * k) ∧ u.toNat + x.toNat % 128 * 2 ^ (7 * k) < 2 ^ (7 * (k + 1)) := by
 obtain ⟨h1, h2⟩ := or_part (c := u) (x := x) hk hu h9
 refine ⟨?_, h2⟩
 have hlt := (u ||| ((x &&& 127).toUInt64 <<< UInt64.ofNat (7 * k))).toNat_lt
 rw [h1] at hlt
 rw [UInt64.toNat_add, UInt64.toNat_mul, UInt64.toNat_mod, hy, UInt8.toNat_toUInt64]
 simp only [show (128 : UInt64).toNat = 128 from rfl]
 rw [Nat.mod_eq_of_lt (a := x.toNat % 128 * 2 ^ (7 * k)) (by omega), Nat.mod_eq_of_lt hlt]
def ctdI (bs : List UInt8) (k c : Nat) : Prop := ctd 0 bs = (ctd k (bs.drop k)).map fun p => (c + 2 ^ (7 * k) * p.1, p.2)
theorem ctdI_start (bs : List UInt8) : ctdI bs 0 0 := by unfold ctdI; cases h : ctd 0 bs <;> simp [h]
theorem ctdI_bad {bs : List UInt8} {k c : Nat} {x : UInt8} (hi : ctdI bs k c) (hx : bs[k]? = some x) (h : k = 10 ∨ (k = 9 ∧ 1 < x.toNat) ∨ (0 < k ∧ x.toNat = 0)) : ctd 0 bs = none := by
 unfold ctdI at hi
 rw [hi, ctd_step hx, if_pos h]
 rfl
theorem ctdI_end {bs : List UInt8} {k c : Nat} (hi : ctdI bs k c) (h : bs.length ≤ k ∨ k = 10) : ctd 0 bs = none := by
 unfold ctdI at hi
 rw [hi]
 have : ctd k (bs.drop k) = none := by
  rcases h with h | rfl
  ·rw [List.drop_eq_nil_of_le h]; rfl
  ·cases hd : bs.drop 10 with
   |nil => rfl
   |cons y r => simp [ctd]
 rw [this]
 rfl
theorem ctdI_done {bs : List UInt8} {k c : Nat} {x : UInt8} (hi : ctdI bs k c) (hx : bs[k]? = some x) (h : ¬ (k = 10 ∨ (k = 9 ∧ 1 < x.toNat) ∨ (0 < k ∧ x.toNat = 0))) (hl : x.toNat < 128) : ctd 0 bs = some (c + x.toNat % 128 * 2 ^ (7 * k), bs.drop (k + 1)) := by
 unfold ctdI at hi
 rw [hi, ctd_step hx, if_neg h, if_pos hl, Option.map_some, Nat.mod_eq_of_lt hl, Nat.mul_comm]
theorem ctdI_more {bs : List UInt8} {k c : Nat} {x : UInt8} (hi : ctdI bs k c) (hx : bs[k]? = some x) (h : ¬ (k = 10 ∨ (k = 9 ∧ 1 < x.toNat) ∨ (0 < k ∧ x.toNat = 0))) (hl : ¬ x.toNat < 128) : ctdI bs (k + 1) (c + x.toNat % 128 * 2 ^ (7 * k)) := by
 unfold ctdI at hi ⊢
 rw [hi, ctd_step hx, if_neg h, if_neg hl, Option.map_map]
 congr 1
 funext p
 simp only [Function.comp, Prod.mk.injEq, and_true]
 rw [show 7 * (k + 1) = 7 * k + 7 from by omega, Nat.pow_add, Nat.mul_add, Nat.mul_comm (x.toNat % 128), ← Nat.mul_assoc, Nat.add_assoc]
theorem counted_calls {S : Nat → Prop} {w : World} {ao : Option Addr} {c : Nat} {bs : List UInt8} (hr : RSl S w eb ao c bs) (hl : bs.length ≤ 9223372036854775807) :
 Calls Tryz.prog 135 [.slice ao bs.length c].toArray w (Ret fun v w' => ((∃ (c : UInt64) (r : List UInt8) (ao' : Option Addr) (c' : Nat), v = .tuple #[v64 c, .slice ao' r.length c', .bool true] ∧ ctd 0 bs = some (c.toNat, r) ∧ RSl S w' eb ao' c' r) ∨ (v = .tuple #[v64 0, .slice none 0 0, .bool false] ∧ ctd 0 bs = none)) ∧ Chg Nob w w') := by
 refine Calls.of_WC Tryz.func135 rfl Tryz.ntmps135 (by simp) ?_
 refine WC.sr (WL.assign rfl rfl (WL.assign rfl rfl (WL.assign rfl rfl (WL.t (WC.seq (WC.region (WL.assign rfl rfl (WL.t (WC.seq (WC.sr (WL.move rfl rfl (WL.len Tryz.underlying51 rfl rfl (WL.move rfl rfl (WL.t (WC.block (?_))))))))))))))))
 refine WC.loop (σ := Nat × UInt64) (fun s => [(0, .slice ao bs.length c), (8, .slice ao bs.length c), (9, vi bs.length), (5, v64 s.2), (10, vi s.1)])
  (fun s w' => s.1 ≤ 10 ∧ s.1 ≤ bs.length ∧ s.2.toNat < 2 ^ (7 * s.1) ∧ ctdI bs s.1 s.2.toNat ∧ Chg Nob w w') (fun s => 10 - s.1) (0, 0) ⟨rfl, rfl, rfl, rfl, rfl, trivial⟩ ⟨by omega, by simp, by simp, ctdI_start _, Chg.refl _ _⟩ ?_
 rintro ⟨k, u⟩ w1 ⟨hk, hkl, hu, hi, kk⟩
 dsimp only at hk hkl hu hi kk ⊢
 replace hr := hr.pure kk
 refine WC.sr (WL.qh rfl rfl rfl (fun h11 => ?_) (fun h11 => ?_))
 ·refine WL.t (WC.seq (WC.qb rfl (WC.skip (WX.qa (WC.seq (WC.block (WC.sr (WL.move rfl rfl (?_)))))))))
  obtain ⟨x, hx⟩ : ∃ x, bs[k]? = some x := ⟨_, List.getElem?_eq_getElem (by omega)⟩
  refine WL.qg Tryz.underlying51 Tryz.sizeOf5 hr rfl rfl ⟨hx, rfl⟩ rfl ?_
  intro b_1 o_1 hc_1
  refine WL.load Tryz.isAgg5 rfl (hc_1 0 _ rfl) rfl (WL.assign rfl rfl (WL.assign rfl rfl (WL.t (WC.seq (WC.sr (WL.move rfl rfl (WL.qi rfl rfl rfl (fun h16 => ?_) (fun h16 => ?_))))))))
  ·refine WL.move rfl rfl (WL.pass rfl rfl rfl rfl (WL.pass rfl rfl rfl rfl (WL.pass rfl rfl rfl rfl (WL.qk rfl rfl rfl (WL.qk rfl rfl rfl (WL.pass rfl rfl rfl rfl (WL.qd rfl rfl rfl (WL.move rfl rfl (WL.pass rfl rfl rfl rfl (WL.pass rfl rfl rfl rfl (WL.pass rfl rfl rfl rfl (WL.qk rfl rfl rfl (WL.qk rfl rfl rfl (WL.pass rfl rfl rfl rfl (WL.qd rfl rfl rfl (WL.t (WC.qb rfl (WC.sr (WL.assign rfl rfl (WL.assign rfl rfl (WL.assign rfl rfl (WL.t (WC.ret (WX.qb (WX.qe (WX.qb (WX.qb (WX.qe (WX.qb (WX.qj (.inl rfl) Tryz.results135 rfl rfl rfl ?_))))))))))))))))))))))))))))))
   refine ⟨_, rfl, .inr ⟨rfl, ?_⟩, kk⟩
   first
    |exact ctdI_bad hi hx (by omega)
    |exact ctdI_end hi (by omega)
  ·refine WL.move rfl rfl (WL.qa rfl rfl rfl (WL.move rfl rfl (WL.qa rfl rfl rfl (WL.qi rfl rfl rfl (fun h19 => ?_) (fun h19 => ?_)))))
   ·refine WL.qa rfl rfl rfl (WL.move rfl rfl (WL.qa rfl rfl rfl (WL.move rfl rfl (WL.qa rfl rfl rfl (WL.qn rfl rfl rfl (fun h22 => ?_) (fun h22 => ?_))))))
    ·refine WL.qa rfl rfl rfl (WL.qd rfl rfl rfl (WL.qc rfl rfl rfl (WL.move rfl rfl (WL.pass rfl rfl rfl rfl (WL.pass rfl rfl rfl rfl (WL.pass rfl rfl rfl rfl (WL.qk rfl rfl rfl (WL.qk rfl rfl rfl (WL.pass rfl rfl rfl rfl (WL.qd rfl rfl rfl (WL.t (WC.qb rfl (WC.sr (WL.assign rfl rfl (WL.assign rfl rfl (WL.assign rfl rfl (WL.t (WC.ret (WX.qb (WX.qe (WX.qb (WX.qb (WX.qe (WX.qb (WX.qj (.inl rfl) Tryz.results135 rfl rfl rfl ?_)))))))))))))))))))))))))
     refine ⟨_, rfl, .inr ⟨rfl, ?_⟩, kk⟩
     first
      |exact ctdI_bad hi hx (by omega)
      |exact ctdI_end hi (by omega)
    ·refine WL.qa rfl rfl rfl (WL.qd rfl rfl rfl (WL.qc rfl rfl rfl (WL.move rfl rfl (WL.qa rfl rfl rfl (WL.move rfl rfl (WL.qa rfl rfl rfl (WL.qn rfl rfl rfl (fun h27 => ?_) (fun h27 => ?_))))))))
     ·refine WL.qa rfl rfl rfl (WL.move rfl rfl (WL.qa rfl rfl rfl (WL.move rfl rfl (WL.qa rfl rfl rfl (WL.qi rfl rfl rfl (fun h30 => ?_) (fun h30 => ?_))))))
      ·refine WL.qa rfl rfl rfl (WL.qd rfl rfl rfl (WL.qc rfl rfl rfl (WL.t (WC.qb rfl (WC.sr (WL.assign rfl rfl (WL.assign rfl rfl (WL.assign rfl rfl (WL.t (WC.ret (WX.qb (WX.qe (WX.qb (WX.qb (WX.qe (WX.qb (WX.qj (.inl rfl) Tryz.results135 rfl rfl rfl ?_)))))))))))))))))
       refine ⟨_, rfl, .inr ⟨rfl, ?_⟩, kk⟩
       first
        |exact ctdI_bad hi hx (by omega)
        |exact ctdI_end hi (by omega)
      ·refine WL.qa rfl rfl rfl (WL.qd rfl rfl rfl (WL.qc rfl rfl rfl (WL.t (WC.qa rfl (WC.skip (WX.qa (WC.sr (WL.move rfl rfl (WL.move rfl rfl (WL.num rfl rfl (n_and8 _ _ _ 127) rfl (WL.c_u8_u64 Tryz.underlying5 Tryz.underlying24 rfl rfl (WL.move rfl rfl (WL.qy rfl rfl (by omega) rfl (?_))))))))))))))
       have hbad : ¬ (k = 10 ∨ (k = 9 ∧ 1 < x.toNat) ∨ (0 < k ∧ x.toNat = 0)) := by omega
       have hor := or_part (c := u) (x := x) (k := k) (by omega) hu (by omega)
       refine WL.shlv (7 * k) rfl rfl ⟨by omega, by omega⟩ rfl ?_
       refine WL.num rfl rfl (n_or64 _ _ _ _) rfl (WL.assign rfl rfl (WL.t (WC.sr (WL.move rfl rfl (WL.qh rfl rfl rfl (fun h42 => ?_) (fun h42 => ?_))))))
       ·refine WL.t (WC.qb rfl (WC.seq (?_)))
        have hc := hr.cut (k + 1) bs.length (by constructor <;> omega)
        refine WC.qc (Nob) [0, 1, 2, 3, 4, 5, 6, 7] [] mixed rfl rfl (fun wd_2 kd_2 zd_2 => ?_)
        replace hr := hr.pure kd_2
        replace kk := kk.pure kd_2
        replace hc := hc.pure kd_2
        apply DQ.step [(5, _)] rfl ⟨rfl, trivial⟩ rfl (fun _ _ => WL.move rfl rfl  WL.q)
        apply DQ.step [(0, _)] rfl ⟨rfl, trivial⟩ rfl (fun _ _ => WL.move rfl rfl  WL.q)
        apply DQ.step [(6, _)] rfl ⟨rfl, trivial⟩ rfl (fun _ _ => WL.move rfl rfl  WL.q)
        apply DQ.step [(45, _)] rfl ⟨rfl, trivial⟩ rfl (fun _ _ => WL.qe rfl rfl (by omega) rfl  WL.q)
        apply DQ.step [(44, _), (46, _)] rfl ⟨rfl, rfl, trivial⟩ rfl
        ·intro wq_7 kq_7
         replace hr := hr.pure kq_7
         refine WL.sliceC (l := k + 1) (h := bs.length) (j := .i64) Tryz.underlying51 Tryz.sizeOf5 hr rfl (.inl rfl) (.inr ⟨rfl, rfl⟩) (by constructor <;> omega) rfl ?_
         exact WL.q
        apply DQ.step [(43, _)] rfl ⟨rfl, trivial⟩ rfl (fun _ _ => WL.assign rfl rfl  WL.q)
        apply DQ.step [(47, _)] rfl ⟨rfl, trivial⟩ rfl (fun _ _ => WL.assign rfl rfl  WL.q)
        apply DQ.step (E' := [])
        case ho => rfl
        case hs => exact trivial
        case hk => rfl
        case h1 =>
         intro wq_10 kq_10
         refine WL.assign rfl rfl (WL.q)
        refine DQ.done (fun _ => ?_)
        refine DL.done (fun we_11 ke_11 => ?_)
        replace kk := kk.pure ke_11
        replace hc := hc.pure ke_11
        refine WX.qa (WC.ret (WX.qe (WX.qb (WX.qb (WX.qe (WX.qb (WX.qj (.inl rfl) Tryz.results135 rfl rfl rfl ?_)))))))
        refine ⟨_, rfl, .inl ⟨_, _, _, _, rfl, ?_, hc⟩, kk⟩
        rw [hor.1]
        rw [List.take_of_length_le (Nat.le_refl _)]
        exact ctdI_done hi hx hbad (by omega)
       ·refine WL.t (WC.qa rfl (WC.skip (WX.qc (WX.qa (WC.region (WL.qe rfl rfl (by omega) rfl (?_)))))))
        refine WL.move rfl rfl (WL.nil (?_))
        refine WX.qf (k + 1, u ||| ((x &&& 127).toUInt64 <<< UInt64.ofNat (7 * k))) ⟨rfl, rfl, rfl, rfl, rfl, trivial⟩ ⟨by dsimp only; omega, by dsimp only; omega, ?_, ?_, kk⟩ (by show _ - _ < _ - _; omega)
        ·dsimp only
         rw [hor.1]; exact hor.2
        ·dsimp only
         rw [hor.1]; exact ctdI_more hi hx hbad (by omega)
     ·refine WL.qa rfl rfl rfl (WL.move rfl rfl (WL.pass rfl rfl rfl rfl (WL.pass rfl rfl rfl rfl (WL.qa rfl rfl rfl (WL.qc rfl rfl rfl (WL.qc rfl rfl rfl (WL.nil (WX.qa (WC.qa rfl (WC.skip (WX.qa (WC.sr (WL.move rfl rfl (WL.move rfl rfl (WL.num rfl rfl (n_and8 _ _ _ 127) rfl (WL.c_u8_u64 Tryz.underlying5 Tryz.underlying24 rfl rfl (WL.move rfl rfl (WL.qy rfl rfl (by omega) rfl (?_)))))))))))))))))))
      have hbad : ¬ (k = 10 ∨ (k = 9 ∧ 1 < x.toNat) ∨ (0 < k ∧ x.toNat = 0)) := by omega
      have hor := or_part (c := u) (x := x) (k := k) (by omega) hu (by omega)
      refine WL.shlv (7 * k) rfl rfl ⟨by omega, by omega⟩ rfl ?_
      refine WL.num rfl rfl (n_or64 _ _ _ _) rfl (WL.assign rfl rfl (WL.t (WC.sr (WL.move rfl rfl (WL.qh rfl rfl rfl (fun h42 => ?_) (fun h42 => ?_))))))
      ·refine WL.t (WC.qb rfl (WC.seq (?_)))
       have hc := hr.cut (k + 1) bs.length (by constructor <;> omega)
       refine WC.qc (Nob) [0, 1, 2, 3, 4, 5, 6, 7] [] mixed rfl rfl (fun wd_2 kd_2 zd_2 => ?_)
       replace hr := hr.pure kd_2
       replace kk := kk.pure kd_2
       replace hc := hc.pure kd_2
       apply DQ.step [(5, _)] rfl ⟨rfl, trivial⟩ rfl (fun _ _ => WL.move rfl rfl  WL.q)
       apply DQ.step [(0, _)] rfl ⟨rfl, trivial⟩ rfl (fun _ _ => WL.move rfl rfl  WL.q)
       apply DQ.step [(6, _)] rfl ⟨rfl, trivial⟩ rfl (fun _ _ => WL.move rfl rfl  WL.q)
       apply DQ.step [(45, _)] rfl ⟨rfl, trivial⟩ rfl (fun _ _ => WL.qe rfl rfl (by omega) rfl  WL.q)
       apply DQ.step [(44, _), (46, _)] rfl ⟨rfl, rfl, trivial⟩ rfl
       ·intro wq_7 kq_7
        replace hr := hr.pure kq_7
        refine WL.sliceC (l := k + 1) (h := bs.length) (j := .i64) Tryz.underlying51 Tryz.sizeOf5 hr rfl (.inl rfl) (.inr ⟨rfl, rfl⟩) (by constructor <;> omega) rfl ?_
        exact WL.q
       apply DQ.step [(43, _)] rfl ⟨rfl, trivial⟩ rfl (fun _ _ => WL.assign rfl rfl  WL.q)
       apply DQ.step [(47, _)] rfl ⟨rfl, trivial⟩ rfl (fun _ _ => WL.assign rfl rfl  WL.q)
       apply DQ.step (E' := [])
       case ho => rfl
       case hs => exact trivial
       case hk => rfl
       case h1 =>
        intro wq_10 kq_10
        refine WL.assign rfl rfl (WL.q)
       refine DQ.done (fun _ => ?_)
       refine DL.done (fun we_11 ke_11 => ?_)
       replace kk := kk.pure ke_11
       replace hc := hc.pure ke_11
       refine WX.qa (WC.ret (WX.qe (WX.qb (WX.qb (WX.qe (WX.qb (WX.qj (.inl rfl) Tryz.results135 rfl rfl rfl ?_)))))))
       refine ⟨_, rfl, .inl ⟨_, _, _, _, rfl, ?_, hc⟩, kk⟩
       rw [hor.1]
       rw [List.take_of_length_le (Nat.le_refl _)]
       exact ctdI_done hi hx hbad (by omega)
      ·refine WL.t (WC.qa rfl (WC.skip (WX.qc (WX.qa (WC.region (WL.qe rfl rfl (by omega) rfl (?_)))))))
       refine WL.move rfl rfl (WL.nil (?_))
       refine WX.qf (k + 1, u ||| ((x &&& 127).toUInt64 <<< UInt64.ofNat (7 * k))) ⟨rfl, rfl, rfl, rfl, rfl, trivial⟩ ⟨by dsimp only; omega, by dsimp only; omega, ?_, ?_, kk⟩ (by show _ - _ < _ - _; omega)
       ·dsimp only
        rw [hor.1]; exact hor.2
       ·dsimp only
        rw [hor.1]; exact ctdI_more hi hx hbad (by omega)
   ·refine WL.qa rfl rfl rfl (WL.move rfl rfl (WL.pass rfl rfl rfl rfl (WL.pass rfl rfl rfl rfl (WL.qa rfl rfl rfl (WL.qc rfl rfl rfl (WL.qc rfl rfl rfl (WL.move rfl rfl (WL.qa rfl rfl rfl (WL.move rfl rfl (WL.qa rfl rfl rfl (WL.qn rfl rfl rfl (fun h27 => ?_) (fun h27 => ?_))))))))))))
    ·refine WL.qa rfl rfl rfl (WL.move rfl rfl (WL.qa rfl rfl rfl (WL.move rfl rfl (WL.qa rfl rfl rfl (WL.qi rfl rfl rfl (fun h30 => ?_) (fun h30 => ?_))))))
     ·refine WL.qa rfl rfl rfl (WL.qd rfl rfl rfl (WL.qc rfl rfl rfl (WL.t (WC.qb rfl (WC.sr (WL.assign rfl rfl (WL.assign rfl rfl (WL.assign rfl rfl (WL.t (WC.ret (WX.qb (WX.qe (WX.qb (WX.qb (WX.qe (WX.qb (WX.qj (.inl rfl) Tryz.results135 rfl rfl rfl ?_)))))))))))))))))
      refine ⟨_, rfl, .inr ⟨rfl, ?_⟩, kk⟩
      first
       |exact ctdI_bad hi hx (by omega)
       |exact ctdI_end hi (by omega)
     ·refine WL.qa rfl rfl rfl (WL.qd rfl rfl rfl (WL.qc rfl rfl rfl (WL.t (WC.qa rfl (WC.skip (WX.qa (WC.sr (WL.move rfl rfl (WL.move rfl rfl (WL.num rfl rfl (n_and8 _ _ _ 127) rfl (WL.c_u8_u64 Tryz.underlying5 Tryz.underlying24 rfl rfl (WL.move rfl rfl (WL.qy rfl rfl (by omega) rfl (?_))))))))))))))
      have hbad : ¬ (k = 10 ∨ (k = 9 ∧ 1 < x.toNat) ∨ (0 < k ∧ x.toNat = 0)) := by omega
      have hor := or_part (c := u) (x := x) (k := k) (by omega) hu (by omega)
      refine WL.shlv (7 * k) rfl rfl ⟨by omega, by omega⟩ rfl ?_
      refine WL.num rfl rfl (n_or64 _ _ _ _) rfl (WL.assign rfl rfl (WL.t (WC.sr (WL.move rfl rfl (WL.qh rfl rfl rfl (fun h42 => ?_) (fun h42 => ?_))))))
      ·refine WL.t (WC.qb rfl (WC.seq (?_)))
       have hc := hr.cut (k + 1) bs.length (by constructor <;> omega)
       refine WC.qc (Nob) [0, 1, 2, 3, 4, 5, 6, 7] [] mixed rfl rfl (fun wd_2 kd_2 zd_2 => ?_)
       replace hr := hr.pure kd_2
       replace kk := kk.pure kd_2
       replace hc := hc.pure kd_2
       apply DQ.step [(5, _)] rfl ⟨rfl, trivial⟩ rfl (fun _ _ => WL.move rfl rfl  WL.q)
       apply DQ.step [(0, _)] rfl ⟨rfl, trivial⟩ rfl (fun _ _ => WL.move rfl rfl  WL.q)
       apply DQ.step [(6, _)] rfl ⟨rfl, trivial⟩ rfl (fun _ _ => WL.move rfl rfl  WL.q)
       apply DQ.step [(45, _)] rfl ⟨rfl, trivial⟩ rfl (fun _ _ => WL.qe rfl rfl (by omega) rfl  WL.q)
       apply DQ.step [(44, _), (46, _)] rfl ⟨rfl, rfl, trivial⟩ rfl
       ·intro wq_7 kq_7
        replace hr := hr.pure kq_7
        refine WL.sliceC (l := k + 1) (h := bs.length) (j := .i64) Tryz.underlying51 Tryz.sizeOf5 hr rfl (.inl rfl) (.inr ⟨rfl, rfl⟩) (by constructor <;> omega) rfl ?_
        exact WL.q
       apply DQ.step [(43, _)] rfl ⟨rfl, trivial⟩ rfl (fun _ _ => WL.assign rfl rfl  WL.q)
       apply DQ.step [(47, _)] rfl ⟨rfl, trivial⟩ rfl (fun _ _ => WL.assign rfl rfl  WL.q)
       apply DQ.step (E' := [])
       case ho => rfl
       case hs => exact trivial
       case hk => rfl
       case h1 =>
        intro wq_10 kq_10
        refine WL.assign rfl rfl (WL.q)
       refine DQ.done (fun _ => ?_)
       refine DL.done (fun we_11 ke_11 => ?_)
       replace kk := kk.pure ke_11
       replace hc := hc.pure ke_11
       refine WX.qa (WC.ret (WX.qe (WX.qb (WX.qb (WX.qe (WX.qb (WX.qj (.inl rfl) Tryz.results135 rfl rfl rfl ?_)))))))
       refine ⟨_, rfl, .inl ⟨_, _, _, _, rfl, ?_, hc⟩, kk⟩
       rw [hor.1]
       rw [List.take_of_length_le (Nat.le_refl _)]
       exact ctdI_done hi hx hbad (by omega)
      ·refine WL.t (WC.qa rfl (WC.skip (WX.qc (WX.qa (WC.region (WL.qe rfl rfl (by omega) rfl (?_)))))))
       refine WL.move rfl rfl (WL.nil (?_))
       refine WX.qf (k + 1, u ||| ((x &&& 127).toUInt64 <<< UInt64.ofNat (7 * k))) ⟨rfl, rfl, rfl, rfl, rfl, trivial⟩ ⟨by dsimp only; omega, by dsimp only; omega, ?_, ?_, kk⟩ (by show _ - _ < _ - _; omega)
       ·dsimp only
        rw [hor.1]; exact hor.2
       ·dsimp only
        rw [hor.1]; exact ctdI_more hi hx hbad (by omega)
    ·refine WL.qa rfl rfl rfl (WL.move rfl rfl (WL.pass rfl rfl rfl rfl (WL.pass rfl rfl rfl rfl (WL.qa rfl rfl rfl (WL.qc rfl rfl rfl (WL.qc rfl rfl rfl (WL.nil (WX.qa (WC.qa rfl (WC.skip (WX.qa (WC.sr (WL.move rfl rfl (WL.move rfl rfl (WL.num rfl rfl (n_and8 _ _ _ 127) rfl (WL.c_u8_u64 Tryz.underlying5 Tryz.underlying24 rfl rfl (WL.move rfl rfl (WL.qy rfl rfl (by omega) rfl (?_)))))))))))))))))))
     have hbad : ¬ (k = 10 ∨ (k = 9 ∧ 1 < x.toNat) ∨ (0 < k ∧ x.toNat = 0)) := by omega
     have hor := or_part (c := u) (x := x) (k := k) (by omega) hu (by omega)
     refine WL.shlv (7 * k) rfl rfl ⟨by omega, by omega⟩ rfl ?_
     refine WL.num rfl rfl (n_or64 _ _ _ _) rfl (WL.assign rfl rfl (WL.t (WC.sr (WL.move rfl rfl (WL.qh rfl rfl rfl (fun h42 => ?_) (fun h42 => ?_))))))
     ·refine WL.t (WC.qb rfl (WC.seq (?_)))
      have hc := hr.cut (k + 1) bs.length (by constructor <;> omega)
      refine WC.qc (Nob) [0, 1, 2, 3, 4, 5, 6, 7] [] mixed rfl rfl (fun wd_2 kd_2 zd_2 => ?_)
      replace hr := hr.pure kd_2
      replace kk := kk.pure kd_2
      replace hc := hc.pure kd_2
      apply DQ.step [(5, _)] rfl ⟨rfl, trivial⟩ rfl (fun _ _ => WL.move rfl rfl  WL.q)
      apply DQ.step [(0, _)] rfl ⟨rfl, trivial⟩ rfl (fun _ _ => WL.move rfl rfl  WL.q)
      apply DQ.step [(6, _)] rfl ⟨rfl, trivial⟩ rfl (fun _ _ => WL.move rfl rfl  WL.q)
      apply DQ.step [(45, _)] rfl ⟨rfl, trivial⟩ rfl (fun _ _ => WL.qe rfl rfl (by omega) rfl  WL.q)
      apply DQ.step [(44, _), (46, _)] rfl ⟨rfl, rfl, trivial⟩ rfl
      ·intro wq_7 kq_7
       replace hr := hr.pure kq_7
       refine WL.sliceC (l := k + 1) (h := bs.length) (j := .i64) Tryz.underlying51 Tryz.sizeOf5 hr rfl (.inl rfl) (.inr ⟨rfl, rfl⟩) (by constructor <;> omega) rfl ?_
       exact WL.q
      apply DQ.step [(43, _)] rfl ⟨rfl, trivial⟩ rfl (fun _ _ => WL.assign rfl rfl  WL.q)
      apply DQ.step [(47, _)] rfl ⟨rfl, trivial⟩ rfl (fun _ _ => WL.assign rfl rfl  WL.q)
      apply DQ.step (E' := [])
      case ho => rfl
      case hs => exact trivial
      case hk => rfl
      case h1 =>
       intro wq_10 kq_10
       refine WL.assign rfl rfl (WL.q)
      refine DQ.done (fun _ => ?_)
      refine DL.done (fun we_11 ke_11 => ?_)
      replace kk := kk.pure ke_11
      replace hc := hc.pure ke_11
      refine WX.qa (WC.ret (WX.qe (WX.qb (WX.qb (WX.qe (WX.qb (WX.qj (.inl rfl) Tryz.results135 rfl rfl rfl ?_)))))))
      refine ⟨_, rfl, .inl ⟨_, _, _, _, rfl, ?_, hc⟩, kk⟩
      rw [hor.1]
      rw [List.take_of_length_le (Nat.le_refl _)]
      exact ctdI_done hi hx hbad (by omega)
     ·refine WL.t (WC.qa rfl (WC.skip (WX.qc (WX.qa (WC.region (WL.qe rfl rfl (by omega) rfl (?_)))))))
      refine WL.move rfl rfl (WL.nil (?_))
      refine WX.qf (k + 1, u ||| ((x &&& 127).toUInt64 <<< UInt64.ofNat (7 * k))) ⟨rfl, rfl, rfl, rfl, rfl, trivial⟩ ⟨by dsimp only; omega, by dsimp only; omega, ?_, ?_, kk⟩ (by show _ - _ < _ - _; omega)
      ·dsimp only
       rw [hor.1]; exact hor.2
      ·dsimp only
       rw [hor.1]; exact ctdI_more hi hx hbad (by omega)
 ·refine WL.t (WC.seq (WC.qa rfl (WC.exit (WX.qd (WX.qd (WX.qh (WX.qa (WC.sr (WL.assign rfl rfl (WL.assign rfl rfl (WL.assign rfl rfl (WL.t (WC.ret (WX.qj (.inl rfl) Tryz.results135 rfl rfl rfl ?_))))))))))))))
  refine ⟨_, rfl, .inr ⟨rfl, ?_⟩, kk⟩
  first
   |exact ctdI_bad hi hx (by omega)
   |exact ctdI_end hi (by omega)
theorem number_calls {w : World} {s : ByteArray} (hl : s.size ≤ 9223372036854775807) :
 Calls Tryz.prog 136 [.string s].toArray w (Ret fun v w' => ((∃ (c : UInt64) (r : ByteArray), v = .tuple #[v64 c, .string r, .bool true] ∧ ctd 0 s.data.toList = some (c.toNat, r.data.toList)) ∨ (v = .tuple #[v64 0, .string ⟨#[]⟩, .bool false] ∧ ctd 0 s.data.toList = none)) ∧ Chg Nob w w') := by
 have hsz : s.data.toList.length = s.size := by simp
 refine Calls.of_WC Tryz.func136 rfl Tryz.ntmps136 (by simp) ?_
 refine WC.sr (WL.assign rfl rfl (WL.assign rfl rfl (WL.assign rfl rfl (WL.t (WC.seq (WC.region (WL.assign rfl rfl (WL.assign rfl rfl (WL.t (WC.seq (WC.sr (WL.assign rfl rfl (WL.t (WC.block (?_)))))))))))))))
 refine WC.loop (σ := Nat × UInt64 × UInt64) (fun q => [(0, .string s), (5, v64 q.2.1), (6, v64 q.2.2), (7, vi q.1)])
  (fun q w' => q.1 ≤ 10 ∧ q.1 ≤ s.size ∧ q.2.1.toNat < 2 ^ (7 * q.1) ∧ (q.1 ≤ 9 → q.2.2.toNat = 2 ^ (7 * q.1)) ∧ ctdI s.data.toList q.1 q.2.1.toNat ∧ Chg Nob w w') (fun q => 10 - q.1) (0, 0, 1) ⟨rfl, rfl, rfl, rfl, trivial⟩ ⟨by omega, by simp, by simp, by simp, ctdI_start _, Chg.refl _ _⟩ ?_
 rintro ⟨k, u, y⟩ w1 ⟨hk, hkl, hu, hy, hi, kk⟩
 dsimp only at hk hkl hu hy hi kk ⊢
 refine WC.seq (WC.sr (WL.move rfl rfl (WL.move rfl rfl (WL.qr Tryz.underlying9 rfl rfl (WL.qh rfl rfl rfl (fun h12 => ?_) (fun h12 => ?_))))))
 ·refine WL.move rfl rfl (WL.qa rfl rfl rfl (WL.move rfl rfl (WL.qa rfl rfl rfl (WL.qh rfl rfl rfl (fun h15 => ?_) (fun h15 => ?_)))))
  ·refine WL.qd rfl rfl rfl (WL.t (WC.qb rfl (WC.skip (WX.qa (WC.seq (WC.block (WC.sr (WL.move rfl rfl (WL.move rfl rfl (?_))))))))))
   obtain ⟨x, hx⟩ : ∃ x, s.data.toList[k]? = some x := ⟨_, List.getElem?_eq_getElem (by omega)⟩
   have hxl := x.toNat_lt
   refine WL.sindex Tryz.underlying9 rfl rfl _ rfl _ hx rfl (WL.c_u8_u64 Tryz.underlying5 Tryz.underlying24 rfl rfl (WL.assign rfl rfl (WL.t (WC.seq (WC.sr (WL.move rfl rfl (WL.qi rfl rfl rfl (fun h24 => ?_) (fun h24 => ?_))))))))
   ·refine WL.move rfl rfl (WL.qa rfl rfl rfl (WL.move rfl rfl (WL.qa rfl rfl rfl (WL.qn rfl rfl rfl (fun h27 => ?_) (fun h27 => ?_)))))
    ·refine WL.qd rfl rfl rfl (WL.move rfl rfl (WL.pass rfl rfl rfl rfl (WL.pass rfl rfl rfl rfl (WL.pass rfl rfl rfl rfl (WL.qk rfl rfl rfl (WL.qk rfl rfl rfl (WL.pass rfl rfl rfl rfl (WL.qd rfl rfl rfl (WL.t (WC.qb rfl (WC.sr (WL.assign rfl rfl (WL.assign rfl rfl (WL.assign rfl rfl (WL.t (WC.ret (WX.qb (WX.qe (WX.qb (WX.qb (WX.qe (WX.qb (WX.qj (.inl rfl) Tryz.results136 rfl rfl rfl ?_)))))))))))))))))))))))
     (try simp only [UInt8.toNat_toUInt64] at *)
     refine ⟨_, rfl, .inr ⟨rfl, ?_⟩, kk⟩
     first
      |exact ctdI_end hi (by omega)
      |exact ctdI_bad hi hx (by omega)
    ·refine WL.qd rfl rfl rfl (WL.move rfl rfl (WL.qa rfl rfl rfl (WL.move rfl rfl (WL.qa rfl rfl rfl (WL.qn rfl rfl rfl (fun h31 => ?_) (fun h31 => ?_))))))
     ·refine WL.qa rfl rfl rfl (WL.move rfl rfl (WL.qa rfl rfl rfl (WL.move rfl rfl (WL.qa rfl rfl rfl (WL.qi rfl rfl rfl (fun h34 => ?_) (fun h34 => ?_))))))
      ·refine WL.qa rfl rfl rfl (WL.qd rfl rfl rfl (WL.qc rfl rfl rfl (WL.t (WC.qb rfl (WC.sr (WL.assign rfl rfl (WL.assign rfl rfl (WL.assign rfl rfl (WL.t (WC.ret (WX.qb (WX.qe (WX.qb (WX.qb (WX.qe (WX.qb (WX.qj (.inl rfl) Tryz.results136 rfl rfl rfl ?_)))))))))))))))))
       (try simp only [UInt8.toNat_toUInt64] at *)
       refine ⟨_, rfl, .inr ⟨rfl, ?_⟩, kk⟩
       first
        |exact ctdI_end hi (by omega)
        |exact ctdI_bad hi hx (by omega)
      ·refine WL.qa rfl rfl rfl (WL.qd rfl rfl rfl (WL.qc rfl rfl rfl (WL.t (WC.qa rfl (WC.skip (WX.qa (WC.sr (WL.move rfl rfl (WL.move rfl rfl (WL.num rfl rfl (n_rem64 _ _ _ 128 (by decide)) rfl (WL.move rfl rfl (WL.num rfl rfl (n_mul64 _ _ _ _) rfl (WL.num rfl rfl (n_add64 _ _ _ _) rfl (?_))))))))))))))
       refine WL.assign rfl rfl (WL.t (WC.sr (WL.move rfl rfl (WL.num rfl rfl (n_mul64 _ _ _ 128) rfl (WL.assign rfl rfl (WL.t (WC.sr (WL.move rfl rfl (WL.qh rfl rfl rfl (fun h46 => ?_) (fun h46 => ?_))))))))))
       ·refine WL.t (WC.qb rfl (WC.seq (WC.qc (Nob) [0, 1, 2, 3, 4, 5, 6, 7] [] mixed rfl rfl (fun wd_1 kd_1 zd_1 => ?_))))
        replace kk := kk.pure kd_1
        apply DQ.step [(5, _)] rfl ⟨rfl, trivial⟩ rfl (fun _ _ => WL.move rfl rfl  WL.q)
        apply DQ.step [(0, _)] rfl ⟨rfl, trivial⟩ rfl (fun _ _ => WL.move rfl rfl  WL.q)
        apply DQ.step [(7, _)] rfl ⟨rfl, trivial⟩ rfl (fun _ _ => WL.move rfl rfl  WL.q)
        apply DQ.step [(49, _)] rfl ⟨rfl, trivial⟩ rfl (fun _ _ => WL.qe rfl rfl (by omega) rfl  WL.q)
        apply DQ.step [(48, _), (50, _)] rfl ⟨rfl, rfl, trivial⟩ rfl
        ·intro wq_6 kq_6
         refine WL.qv (l := k + 1) (h := s.size) (j := .i64) Tryz.underlying9 rfl (.inl rfl) (.inr ⟨rfl, rfl⟩) (by constructor <;> omega) rfl ?_
         exact WL.q
        apply DQ.step [(47, _)] rfl ⟨rfl, trivial⟩ rfl (fun _ _ => WL.assign rfl rfl  WL.q)
        apply DQ.step [(51, _)] rfl ⟨rfl, trivial⟩ rfl (fun _ _ => WL.assign rfl rfl  WL.q)
        apply DQ.step (E' := [])
        case ho => rfl
        case hs => exact trivial
        case hk => rfl
        case h1 =>
         intro wq_9 kq_9
         refine WL.assign rfl rfl (WL.q)
        refine DQ.done (fun _ => ?_)
        refine DL.done (fun we_10 ke_10 => ?_)
        replace kk := kk.pure ke_10
        refine WX.qa (WC.ret (WX.qe (WX.qb (WX.qb (WX.qe (WX.qb (WX.qj (.inl rfl) Tryz.results136 rfl rfl rfl ?_)))))))
        (try simp only [UInt8.toNat_toUInt64] at *)
        have hbad : ¬ (k = 10 ∨ (k = 9 ∧ 1 < x.toNat) ∨ (0 < k ∧ x.toNat = 0)) := by omega
        obtain ⟨ha1, ha2⟩ := add_part (x := x) (by omega) hu (hy (by omega)) (by omega)
        refine ⟨_, rfl, .inl ⟨_, _, rfl, ?_⟩, kk⟩
        rw [ha1, ctdI_done hi hx hbad (by omega)]
        congr 2
        simp
        rw [List.take_of_length_le (by simp)]
       ·refine WL.t (WC.qa rfl (WC.skip (WX.qc (WX.qa (WC.region (WL.move rfl rfl (WL.qe rfl rfl (by omega) rfl (WL.assign rfl rfl (WL.nil (?_))))))))))
        have hbad : ¬ (k = 10 ∨ (k = 9 ∧ 1 < x.toNat) ∨ (0 < k ∧ x.toNat = 0)) := by simp only [UInt8.toNat_toUInt64] at *; omega
        obtain ⟨ha1, ha2⟩ := add_part (x := x) (by omega) hu (hy (by omega)) (by simp only [UInt8.toNat_toUInt64] at *; omega)
        refine WX.qf (k + 1, u + x.toUInt64 % 128 * y, y * 128) ⟨rfl, rfl, rfl, rfl, trivial⟩ ⟨by dsimp only; omega, by dsimp only; omega, ?_, ?_, ?_, kk⟩ (by show _ - _ < _ - _; omega)
        ·dsimp only
         rw [ha1]; exact ha2
        ·dsimp only
         intro h9
         rw [UInt64.toNat_mul, hy (by omega), show 7 * (k + 1) = 7 * k + 7 from by omega, Nat.pow_add]
         have h2 : 2 ^ (7 * k) ≤ 2 ^ 56 := Nat.pow_le_pow_right (by decide) (by omega)
         rw [Nat.mod_eq_of_lt]
         ·rfl
         ·exact Nat.lt_of_le_of_lt (Nat.mul_le_mul_right 128 h2) (by decide)
        ·dsimp only
         rw [ha1]; exact ctdI_more hi hx hbad (by simp only [UInt8.toNat_toUInt64] at *; omega)
     ·refine WL.qa rfl rfl rfl (WL.move rfl rfl (WL.pass rfl rfl rfl rfl (WL.pass rfl rfl rfl rfl (WL.qa rfl rfl rfl (WL.qc rfl rfl rfl (WL.qc rfl rfl rfl (WL.nil (WX.qa (WC.qa rfl (WC.skip (WX.qa (WC.sr (WL.move rfl rfl (WL.move rfl rfl (WL.num rfl rfl (n_rem64 _ _ _ 128 (by decide)) rfl (WL.move rfl rfl (WL.num rfl rfl (n_mul64 _ _ _ _) rfl (WL.num rfl rfl (n_add64 _ _ _ _) rfl (WL.assign rfl rfl (WL.t (WC.seq (?_))))))))))))))))))))))
      refine WC.region (WL.move rfl rfl (WL.num rfl rfl (n_mul64 _ _ _ 128) rfl (WL.assign rfl rfl (WL.t (WC.sr (WL.move rfl rfl (WL.qh rfl rfl rfl (fun h46 => ?_) (fun h46 => ?_))))))))
      ·refine WL.t (WC.qb rfl (WC.seq (WC.qc (Nob) [0, 1, 2, 3, 4, 5, 6, 7] [] mixed rfl rfl (fun wd_1 kd_1 zd_1 => ?_))))
       replace kk := kk.pure kd_1
       apply DQ.step [(5, _)] rfl ⟨rfl, trivial⟩ rfl (fun _ _ => WL.move rfl rfl  WL.q)
       apply DQ.step [(0, _)] rfl ⟨rfl, trivial⟩ rfl (fun _ _ => WL.move rfl rfl  WL.q)
       apply DQ.step [(7, _)] rfl ⟨rfl, trivial⟩ rfl (fun _ _ => WL.move rfl rfl  WL.q)
       apply DQ.step [(49, _)] rfl ⟨rfl, trivial⟩ rfl (fun _ _ => WL.qe rfl rfl (by omega) rfl  WL.q)
       apply DQ.step [(48, _), (50, _)] rfl ⟨rfl, rfl, trivial⟩ rfl
       ·intro wq_6 kq_6
        refine WL.qv (l := k + 1) (h := s.size) (j := .i64) Tryz.underlying9 rfl (.inl rfl) (.inr ⟨rfl, rfl⟩) (by constructor <;> omega) rfl ?_
        exact WL.q
       apply DQ.step [(47, _)] rfl ⟨rfl, trivial⟩ rfl (fun _ _ => WL.assign rfl rfl  WL.q)
       apply DQ.step [(51, _)] rfl ⟨rfl, trivial⟩ rfl (fun _ _ => WL.assign rfl rfl  WL.q)
       apply DQ.step (E' := [])
       case ho => rfl
       case hs => exact trivial
       case hk => rfl
       case h1 =>
        intro wq_9 kq_9
        refine WL.assign rfl rfl (WL.q)
       refine DQ.done (fun _ => ?_)
       refine DL.done (fun we_10 ke_10 => ?_)
       replace kk := kk.pure ke_10
       refine WX.qa (WC.ret (WX.qe (WX.qb (WX.qb (WX.qe (WX.qb (WX.qj (.inl rfl) Tryz.results136 rfl rfl rfl ?_)))))))
       (try simp only [UInt8.toNat_toUInt64] at *)
       have hbad : ¬ (k = 10 ∨ (k = 9 ∧ 1 < x.toNat) ∨ (0 < k ∧ x.toNat = 0)) := by omega
       obtain ⟨ha1, ha2⟩ := add_part (x := x) (by omega) hu (hy (by omega)) (by omega)
       refine ⟨_, rfl, .inl ⟨_, _, rfl, ?_⟩, kk⟩
       rw [ha1, ctdI_done hi hx hbad (by omega)]
       congr 2
       simp
       rw [List.take_of_length_le (by simp)]
      ·refine WL.t (WC.qa rfl (WC.skip (WX.qc (WX.qa (WC.region (WL.move rfl rfl (WL.qe rfl rfl (by omega) rfl (WL.assign rfl rfl (WL.nil (?_))))))))))
       have hbad : ¬ (k = 10 ∨ (k = 9 ∧ 1 < x.toNat) ∨ (0 < k ∧ x.toNat = 0)) := by simp only [UInt8.toNat_toUInt64] at *; omega
       obtain ⟨ha1, ha2⟩ := add_part (x := x) (by omega) hu (hy (by omega)) (by simp only [UInt8.toNat_toUInt64] at *; omega)
       refine WX.qf (k + 1, u + x.toUInt64 % 128 * y, y * 128) ⟨rfl, rfl, rfl, rfl, trivial⟩ ⟨by dsimp only; omega, by dsimp only; omega, ?_, ?_, ?_, kk⟩ (by show _ - _ < _ - _; omega)
       ·dsimp only
        rw [ha1]; exact ha2
       ·dsimp only
        intro h9
        rw [UInt64.toNat_mul, hy (by omega), show 7 * (k + 1) = 7 * k + 7 from by omega, Nat.pow_add]
        have h2 : 2 ^ (7 * k) ≤ 2 ^ 56 := Nat.pow_le_pow_right (by decide) (by omega)
        rw [Nat.mod_eq_of_lt]
        ·rfl
        ·exact Nat.lt_of_le_of_lt (Nat.mul_le_mul_right 128 h2) (by decide)
       ·dsimp only
        rw [ha1]; exact ctdI_more hi hx hbad (by simp only [UInt8.toNat_toUInt64] at *; omega)
   ·refine WL.move rfl rfl (WL.pass rfl rfl rfl rfl (WL.pass rfl rfl rfl rfl (WL.qc rfl rfl rfl (WL.move rfl rfl (WL.qa rfl rfl rfl (WL.move rfl rfl (WL.qa rfl rfl rfl (WL.qn rfl rfl rfl (fun h31 => ?_) (fun h31 => ?_)))))))))
    ·refine WL.qa rfl rfl rfl (WL.move rfl rfl (WL.qa rfl rfl rfl (WL.move rfl rfl (WL.qa rfl rfl rfl (WL.qi rfl rfl rfl (fun h34 => ?_) (fun h34 => ?_))))))
     ·refine WL.qa rfl rfl rfl (WL.qd rfl rfl rfl (WL.qc rfl rfl rfl (WL.t (WC.qb rfl (WC.sr (WL.assign rfl rfl (WL.assign rfl rfl (WL.assign rfl rfl (WL.t (WC.ret (WX.qb (WX.qe (WX.qb (WX.qb (WX.qe (WX.qb (WX.qj (.inl rfl) Tryz.results136 rfl rfl rfl ?_)))))))))))))))))
      (try simp only [UInt8.toNat_toUInt64] at *)
      refine ⟨_, rfl, .inr ⟨rfl, ?_⟩, kk⟩
      first
       |exact ctdI_end hi (by omega)
       |exact ctdI_bad hi hx (by omega)
     ·refine WL.qa rfl rfl rfl (WL.qd rfl rfl rfl (WL.qc rfl rfl rfl (WL.t (WC.qa rfl (WC.skip (WX.qa (WC.sr (WL.move rfl rfl (WL.move rfl rfl (WL.num rfl rfl (n_rem64 _ _ _ 128 (by decide)) rfl (WL.move rfl rfl (WL.num rfl rfl (n_mul64 _ _ _ _) rfl (WL.num rfl rfl (n_add64 _ _ _ _) rfl (?_))))))))))))))
      refine WL.assign rfl rfl (WL.t (WC.sr (WL.move rfl rfl (WL.num rfl rfl (n_mul64 _ _ _ 128) rfl (WL.assign rfl rfl (WL.t (WC.sr (WL.move rfl rfl (WL.qh rfl rfl rfl (fun h46 => ?_) (fun h46 => ?_))))))))))
      ·refine WL.t (WC.qb rfl (WC.seq (WC.qc (Nob) [0, 1, 2, 3, 4, 5, 6, 7] [] mixed rfl rfl (fun wd_1 kd_1 zd_1 => ?_))))
       replace kk := kk.pure kd_1
       apply DQ.step [(5, _)] rfl ⟨rfl, trivial⟩ rfl (fun _ _ => WL.move rfl rfl  WL.q)
       apply DQ.step [(0, _)] rfl ⟨rfl, trivial⟩ rfl (fun _ _ => WL.move rfl rfl  WL.q)
       apply DQ.step [(7, _)] rfl ⟨rfl, trivial⟩ rfl (fun _ _ => WL.move rfl rfl  WL.q)
       apply DQ.step [(49, _)] rfl ⟨rfl, trivial⟩ rfl (fun _ _ => WL.qe rfl rfl (by omega) rfl  WL.q)
       apply DQ.step [(48, _), (50, _)] rfl ⟨rfl, rfl, trivial⟩ rfl
       ·intro wq_6 kq_6
        refine WL.qv (l := k + 1) (h := s.size) (j := .i64) Tryz.underlying9 rfl (.inl rfl) (.inr ⟨rfl, rfl⟩) (by constructor <;> omega) rfl ?_
        exact WL.q
       apply DQ.step [(47, _)] rfl ⟨rfl, trivial⟩ rfl (fun _ _ => WL.assign rfl rfl  WL.q)
       apply DQ.step [(51, _)] rfl ⟨rfl, trivial⟩ rfl (fun _ _ => WL.assign rfl rfl  WL.q)
       apply DQ.step (E' := [])
       case ho => rfl
       case hs => exact trivial
       case hk => rfl
       case h1 =>
        intro wq_9 kq_9
        refine WL.assign rfl rfl (WL.q)
       refine DQ.done (fun _ => ?_)
       refine DL.done (fun we_10 ke_10 => ?_)
       replace kk := kk.pure ke_10
       refine WX.qa (WC.ret (WX.qe (WX.qb (WX.qb (WX.qe (WX.qb (WX.qj (.inl rfl) Tryz.results136 rfl rfl rfl ?_)))))))
       (try simp only [UInt8.toNat_toUInt64] at *)
       have hbad : ¬ (k = 10 ∨ (k = 9 ∧ 1 < x.toNat) ∨ (0 < k ∧ x.toNat = 0)) := by omega
       obtain ⟨ha1, ha2⟩ := add_part (x := x) (by omega) hu (hy (by omega)) (by omega)
       refine ⟨_, rfl, .inl ⟨_, _, rfl, ?_⟩, kk⟩
       rw [ha1, ctdI_done hi hx hbad (by omega)]
       congr 2
       simp
       rw [List.take_of_length_le (by simp)]
      ·refine WL.t (WC.qa rfl (WC.skip (WX.qc (WX.qa (WC.region (WL.move rfl rfl (WL.qe rfl rfl (by omega) rfl (WL.assign rfl rfl (WL.nil (?_))))))))))
       have hbad : ¬ (k = 10 ∨ (k = 9 ∧ 1 < x.toNat) ∨ (0 < k ∧ x.toNat = 0)) := by simp only [UInt8.toNat_toUInt64] at *; omega
       obtain ⟨ha1, ha2⟩ := add_part (x := x) (by omega) hu (hy (by omega)) (by simp only [UInt8.toNat_toUInt64] at *; omega)
       refine WX.qf (k + 1, u + x.toUInt64 % 128 * y, y * 128) ⟨rfl, rfl, rfl, rfl, trivial⟩ ⟨by dsimp only; omega, by dsimp only; omega, ?_, ?_, ?_, kk⟩ (by show _ - _ < _ - _; omega)
       ·dsimp only
        rw [ha1]; exact ha2
       ·dsimp only
        intro h9
        rw [UInt64.toNat_mul, hy (by omega), show 7 * (k + 1) = 7 * k + 7 from by omega, Nat.pow_add]
        have h2 : 2 ^ (7 * k) ≤ 2 ^ 56 := Nat.pow_le_pow_right (by decide) (by omega)
        rw [Nat.mod_eq_of_lt]
        ·rfl
        ·exact Nat.lt_of_le_of_lt (Nat.mul_le_mul_right 128 h2) (by decide)
       ·dsimp only
        rw [ha1]; exact ctdI_more hi hx hbad (by simp only [UInt8.toNat_toUInt64] at *; omega)
    ·refine WL.qa rfl rfl rfl (WL.move rfl rfl (WL.pass rfl rfl rfl rfl (WL.pass rfl rfl rfl rfl (WL.qa rfl rfl rfl (WL.qc rfl rfl rfl (WL.qc rfl rfl rfl (WL.nil (WX.qa (WC.qa rfl (WC.skip (WX.qa (WC.sr (WL.move rfl rfl (WL.move rfl rfl (WL.num rfl rfl (n_rem64 _ _ _ 128 (by decide)) rfl (WL.move rfl rfl (WL.num rfl rfl (n_mul64 _ _ _ _) rfl (WL.num rfl rfl (n_add64 _ _ _ _) rfl (WL.assign rfl rfl (WL.t (WC.seq (?_))))))))))))))))))))))
     refine WC.region (WL.move rfl rfl (WL.num rfl rfl (n_mul64 _ _ _ 128) rfl (WL.assign rfl rfl (WL.t (WC.sr (WL.move rfl rfl (WL.qh rfl rfl rfl (fun h46 => ?_) (fun h46 => ?_))))))))
     ·refine WL.t (WC.qb rfl (WC.seq (WC.qc (Nob) [0, 1, 2, 3, 4, 5, 6, 7] [] mixed rfl rfl (fun wd_1 kd_1 zd_1 => ?_))))
      replace kk := kk.pure kd_1
      apply DQ.step [(5, _)] rfl ⟨rfl, trivial⟩ rfl (fun _ _ => WL.move rfl rfl  WL.q)
      apply DQ.step [(0, _)] rfl ⟨rfl, trivial⟩ rfl (fun _ _ => WL.move rfl rfl  WL.q)
      apply DQ.step [(7, _)] rfl ⟨rfl, trivial⟩ rfl (fun _ _ => WL.move rfl rfl  WL.q)
      apply DQ.step [(49, _)] rfl ⟨rfl, trivial⟩ rfl (fun _ _ => WL.qe rfl rfl (by omega) rfl  WL.q)
      apply DQ.step [(48, _), (50, _)] rfl ⟨rfl, rfl, trivial⟩ rfl
      ·intro wq_6 kq_6
       refine WL.qv (l := k + 1) (h := s.size) (j := .i64) Tryz.underlying9 rfl (.inl rfl) (.inr ⟨rfl, rfl⟩) (by constructor <;> omega) rfl ?_
       exact WL.q
      apply DQ.step [(47, _)] rfl ⟨rfl, trivial⟩ rfl (fun _ _ => WL.assign rfl rfl  WL.q)
      apply DQ.step [(51, _)] rfl ⟨rfl, trivial⟩ rfl (fun _ _ => WL.assign rfl rfl  WL.q)
      apply DQ.step (E' := [])
      case ho => rfl
      case hs => exact trivial
      case hk => rfl
      case h1 =>
       intro wq_9 kq_9
       refine WL.assign rfl rfl (WL.q)
      refine DQ.done (fun _ => ?_)
      refine DL.done (fun we_10 ke_10 => ?_)
      replace kk := kk.pure ke_10
      refine WX.qa (WC.ret (WX.qe (WX.qb (WX.qb (WX.qe (WX.qb (WX.qj (.inl rfl) Tryz.results136 rfl rfl rfl ?_)))))))
      (try simp only [UInt8.toNat_toUInt64] at *)
      have hbad : ¬ (k = 10 ∨ (k = 9 ∧ 1 < x.toNat) ∨ (0 < k ∧ x.toNat = 0)) := by omega
      obtain ⟨ha1, ha2⟩ := add_part (x := x) (by omega) hu (hy (by omega)) (by omega)
      refine ⟨_, rfl, .inl ⟨_, _, rfl, ?_⟩, kk⟩
      rw [ha1, ctdI_done hi hx hbad (by omega)]
      congr 2
      simp
      rw [List.take_of_length_le (by simp)]
     ·refine WL.t (WC.qa rfl (WC.skip (WX.qc (WX.qa (WC.region (WL.move rfl rfl (WL.qe rfl rfl (by omega) rfl (WL.assign rfl rfl (WL.nil (?_))))))))))
      have hbad : ¬ (k = 10 ∨ (k = 9 ∧ 1 < x.toNat) ∨ (0 < k ∧ x.toNat = 0)) := by simp only [UInt8.toNat_toUInt64] at *; omega
      obtain ⟨ha1, ha2⟩ := add_part (x := x) (by omega) hu (hy (by omega)) (by simp only [UInt8.toNat_toUInt64] at *; omega)
      refine WX.qf (k + 1, u + x.toUInt64 % 128 * y, y * 128) ⟨rfl, rfl, rfl, rfl, trivial⟩ ⟨by dsimp only; omega, by dsimp only; omega, ?_, ?_, ?_, kk⟩ (by show _ - _ < _ - _; omega)
      ·dsimp only
       rw [ha1]; exact ha2
      ·dsimp only
       intro h9
       rw [UInt64.toNat_mul, hy (by omega), show 7 * (k + 1) = 7 * k + 7 from by omega, Nat.pow_add]
       have h2 : 2 ^ (7 * k) ≤ 2 ^ 56 := Nat.pow_le_pow_right (by decide) (by omega)
       rw [Nat.mod_eq_of_lt]
       ·rfl
       ·exact Nat.lt_of_le_of_lt (Nat.mul_le_mul_right 128 h2) (by decide)
      ·dsimp only
       rw [ha1]; exact ctdI_more hi hx hbad (by simp only [UInt8.toNat_toUInt64] at *; omega)
  ·refine WL.qd rfl rfl rfl (WL.t (WC.qa rfl (WC.exit (WX.qd (WX.qd (WX.qh (WX.qa (WC.sr (WL.assign rfl rfl (WL.assign rfl rfl (WL.assign rfl rfl (WL.t (WC.ret (WX.qj (.inl rfl) Tryz.results136 rfl rfl rfl ?_))))))))))))))
   (try simp only [UInt8.toNat_toUInt64] at *)
   refine ⟨_, rfl, .inr ⟨rfl, ?_⟩, kk⟩
   first
    |exact ctdI_end hi (by omega)
    |exact ctdI_bad hi hx (by omega)
 ·refine WL.move rfl rfl (WL.pass rfl rfl rfl rfl (WL.pass rfl rfl rfl rfl (WL.qc rfl rfl rfl (WL.t (WC.qa rfl (WC.exit (WX.qd (WX.qd (WX.qh (WX.qa (WC.sr (WL.assign rfl rfl (WL.assign rfl rfl (WL.assign rfl rfl (WL.t (WC.ret (WX.qj (.inl rfl) Tryz.results136 rfl rfl rfl ?_)))))))))))))))))
  (try simp only [UInt8.toNat_toUInt64] at *)
  refine ⟨_, rfl, .inr ⟨rfl, ?_⟩, kk⟩
  first
   |exact ctdI_end hi (by omega)
   |exact ctdI_bad hi hx (by omega)
end Go.Proofs.YtjeldcjchipdgaaGreatDoor
namespace Go.Proofs.YtjeldcjchipdgaaGreatDoor
open Go.RowKit Go.HL
set_option maxRecDepth 100000
def unz (c : Nat) : Int := if c % 2 = 1 then -((c / 2 : Nat) : Int) - 1 else ((c / 2 : Nat) : Int)
def dec (n : Nat) (bs : List UInt8) : Option (List Item) :=
 match bs with
 |[] => some []
 |k :: r =>
  match h : ctd 0 r with
  |none => none
  |some (c, r') =>
   if n = 2000 then none
   else if k.toNat = 1 then (dec (n + 1) r').map (⟨1, unz c, ⟨#[]⟩⟩ :: ·)
   else if k.toNat = 2 ∧ c ≤ 4000 ∧ c ≤ r'.length then (dec (n + 1) (r'.drop c)).map (⟨2, 0, ⟨(r'.take c).toArray⟩⟩ :: ·)
   else none
termination_by bs.length
decreasing_by
 all_goals
  have := (ctd_bound r 0 (by omega) h).2.2
  simp
  omega
theorem dec_nil (n : Nat) : dec n [] = some [] := by rw [dec]
theorem dec_none {n : Nat} {k : UInt8} {r : List UInt8} (h : ctd 0 r = none) : dec n (k :: r) = none := by
 rw [dec]
 split
 ·rfl
 ·rename_i h2; rw [h] at h2; cases h2
theorem dec_some {n : Nat} {k : UInt8} {r r' : List UInt8} {c : Nat} (h : ctd 0 r = some (c, r')) : dec n (k :: r) = if n = 2000 then none
 else if k.toNat = 1 then (dec (n + 1) r').map (⟨1, unz c, ⟨#[]⟩⟩ :: ·)
 else if k.toNat = 2 ∧ c ≤ 4000 ∧ c ≤ r'.length then (dec (n + 1) (r'.drop c)).map (⟨2, 0, ⟨(r'.take c).toArray⟩⟩ :: ·)
 else none := by
 rw [dec]
 split
 ·rename_i h2; rw [h] at h2; cases h2
 ·rename_i h2
  rw [h] at h2
  injection h2 with h2
  injection h2 with h3 h4
  subst h3; subst h4
  rfl
def decI (b0 : List UInt8) (out : List Item) (bs : List UInt8) : Prop := dec 0 b0 = (dec out.length bs).map (out ++ ·)
theorem decI_start (b : List UInt8) : decI b [] b := by unfold decI; cases h : dec 0 b <;> simp [h]
theorem decI_end {b : List UInt8} {out : List Item} (h : decI b out []) : dec 0 b = some out := by unfold decI at h; rw [h, dec_nil]; simp
theorem decI_step {b : List UInt8} {out : List Item} {k : UInt8} {r r' : List UInt8} {i : Item} (h : decI b out (k :: r)) (hs : dec out.length (k :: r) = (dec (out.length + 1) r').map (i :: ·)) : decI b (out ++ [i]) r' := by
 unfold decI at *
 rw [h, hs, Option.map_map, List.length_append, List.length_singleton]
 congr 1
 funext l
 simp
theorem decI_bad {b : List UInt8} {out : List Item} {k : UInt8} {r : List UInt8} (h : decI b out (k :: r)) (hs : dec out.length (k :: r) = none) : dec 0 b = none := by
 unfold decI at h
 rw [h, hs]
 rfl
theorem shr1 (c : UInt64) : (c >>> UInt64.ofNat 1).toNat = c.toNat / 2 := by simp [Nat.shiftRight_eq_div_pow]
theorem and1 (c : UInt64) : (c &&& 1).toNat = c.toNat % 2 := by
 rw [UInt64.toNat_and]
 exact Nat.and_one_is_mod _
set_option maxHeartbeats 1000000 in
theorem decode_calls {w : World} {ao : Option Addr} {c : Nat} {b : List UInt8} (hr : RSl (· < w.heap.size) w eb ao c b) (hl : b.length ≤ 140737488351232) :
 Calls Tryz.prog 118 [.slice ao b.length c].toArray w (Ret fun v w' => ((∃ (l : List Item) (ao' : Option Addr) (c' : Nat), v = .tuple #[.slice ao' l.length c', vi 0] ∧ dec 0 b = some l ∧ Row (w.heap.size ≤ ·) w' 116 eit ao' c' l) ∨ (v = .tuple #[.slice none 0 0, vi 2] ∧ dec 0 b = none)) ∧ Chg Nob w w') := by
 refine Calls.of_WC Tryz.func118 rfl Tryz.ntmps118 (by simp) ?_
 refine WC.sr (WL.assign rfl rfl (WL.assign rfl rfl (WL.t (WC.sr (WL.assign rfl rfl (WL.t (WC.seq (WC.block (?_)))))))))
 refine WC.loop (σ := (List Item × Option Addr × Nat) × (List UInt8 × Option Addr × Nat)) (fun s => [(4, .slice s.1.2.1 s.1.1.length s.1.2.2), (0, .slice s.2.2.1 s.2.1.length s.2.2.2)])
  (fun s w' => s.1.1.length ≤ 2000 ∧ s.2.1.length ≤ b.length ∧ decI b s.1.1 s.2.1 ∧ Row (w.heap.size ≤ ·) w' 116 eit s.1.2.1 s.1.2.2 s.1.1 ∧ RSl (· < w.heap.size) w' eb s.2.2.1 s.2.2.2 s.2.1 ∧ Chg Nob w w') (fun s => s.2.1.length) (([], none, 0), (b, ao, c)) ⟨rfl, rfl, trivial⟩ ⟨by simp, Nat.le_refl _, decI_start _, Row.nil _ _ _ _, hr, Chg.refl _ _⟩ ?_
 clear hr
 rintro ⟨⟨out, a1, c1⟩, ⟨bs, ab, cb⟩⟩ w1 ⟨ho, hbl, hi, hq, hr, kk⟩
 dsimp only at ho hbl hi hq hr kk ⊢
 have zk := kk.size
 refine WC.seq (WC.sr (WL.move rfl rfl (WL.len Tryz.underlying51 rfl rfl (WL.qn rfl rfl rfl (fun h11 => ?_) (fun h11 => ?_)))))
 ·refine WL.t (WC.qb rfl (WC.skip (WX.qa (WC.block (WC.sr (WL.move rfl rfl (?_)))))))
  obtain ⟨x, bs', rfl⟩ : ∃ x bs', bs = x :: bs' := by cases bs with | nil => simp at h11 | cons x r => exact ⟨x, r, rfl⟩
  have hx : (x :: bs')[0]? = some x := rfl
  have hxl := x.toNat_lt
  refine WL.qg Tryz.underlying51 Tryz.sizeOf5 hr rfl rfl ⟨hx, rfl⟩ rfl ?_
  intro b_1 o_1 hc_1
  refine WL.load Tryz.isAgg5 rfl (hc_1 0 _ rfl) rfl (WL.assign rfl rfl (WL.t (WC.sr (WL.move rfl rfl (WL.slice (l := 1) (h := (x :: bs').length) (j := .i64) Tryz.underlying51 Tryz.sizeOf5 hr rfl (.inl rfl) (.inr ⟨rfl, rfl⟩) (by simp) rfl ?_)))))
  intro a_hb c_hb hb n_hb
  have e1 : (List.drop 1 (List.take (x :: bs').length (x :: bs'))) = bs' := by simp
  rw [e1] at hb ⊢
  have hxb : bs'.length + 1 ≤ b.length := by simpa using hbl
  have hlb : bs'.length ≤ 140737488351232 := by omega
  refine WL.call eg_135 rfl rfl (counted_calls hb (by omega)) ?_
  rintro v w2 ⟨(⟨u, r, ar, cr, rfl, hc, hr2⟩ | ⟨rfl, hc⟩), k2⟩
  ·have zs_k2 := k2.size
   replace kk := kk.pure k2
   replace hq := hq.pure k2
   have hrb := (ctd_bound bs' 0 (by omega) hc).2.2
   have e64 : ((B64 (r.length : Int)).toNat : Int) = r.length := by rw [B64_nat (by omega)]
   refine WL.move rfl rfl (WL.extract rfl rfl rfl (WL.extract rfl rfl rfl (WL.extract rfl rfl rfl (WL.assign rfl rfl (WL.assign rfl rfl (WL.assign rfl rfl (WL.nil (WX.qa (WC.block (WC.sr (WL.move rfl rfl (WL.not rfl rfl (WL.move rfl rfl (WL.qa rfl rfl rfl (WL.move rfl rfl (WL.qa rfl rfl rfl (WL.len Tryz.underlying117 rfl rfl (WL.qa rfl rfl rfl (WL.qi rfl rfl rfl (fun h28 => ?_) (fun h28 => ?_))))))))))))))))))))
   ·refine WL.qc rfl rfl rfl (WL.assign rfl rfl (WL.t (WC.qb rfl (WC.sr (WL.assign rfl rfl (WL.assign rfl rfl (WL.t (WC.ret (WX.qe (WX.qe (WX.qb (WX.qe (WX.qb (WX.qi (.inl rfl) Tryz.results118 rfl rfl ?_))))))))))))))
    refine ⟨_, rfl, .inr ⟨rfl, decI_bad hi ?_⟩, kk⟩
    first
     |exact dec_none hc
     |(rw [dec_some hc]
       first
        |(rw [if_pos (by omega)]; done)
        |(rw [if_neg (by omega), if_neg (by omega), if_neg (by omega)]))
   ·refine WL.qc rfl rfl rfl (WL.assign rfl rfl (WL.t (WC.qa rfl (WC.sr (WL.move rfl rfl (WL.qi rfl rfl rfl (fun h32 => ?_) (fun h32 => ?_)))))))
    ·refine WL.assign rfl rfl (WL.t (WC.qb rfl (WC.sr (WL.move rfl rfl (WL.move rfl rfl (WL.num rfl rfl (n_shr64 _ _ _ _ 1 (by decide)) rfl (?_)))))))
     refine WL.c_u64_i64s (n := u.toNat / 2) Tryz.underlying24 Tryz.underlying3 rfl ⟨shr1 u, by have := u.toNat_lt; omega⟩ rfl ?_
     refine WL.move rfl rfl (WL.num rfl rfl (n_and64 _ _ _ 1) rfl (WL.c_u64_i64s (n := u.toNat % 2) Tryz.underlying24 Tryz.underlying3 rfl ⟨and1 u, by omega⟩ rfl ?_))
     refine WL.neg64 rfl (by omega) rfl (?_)
     refine WL.num rfl rfl (n_xornegb _ _ (u.toNat / 2) (u.toNat % 2) (by omega) (by have := u.toNat_lt; omega)) rfl ?_
     refine WL.bld rfl (bld_116_0_1 _ _) rfl (?_)
     refine WL.build (e := eit) [⟨1, unz u.toNat, ⟨#[]⟩⟩] Tryz.underlying117 Tryz.sizeOf116 Tryz.zeroValue116 rfl rfl rfl (by simp [Value.cells] <;> rfl) (by decide) rfl ?_
     intro a_hn w_hn hn l_hn z_hn k_hn
     replace kk := kk.pure k_hn
     replace hq := hq.pure k_hn
     replace hr2 := hr2.pure k_hn
     refine WL.append (e := eit) info_116 rfl Tryz.underlying117 rfl rfl hq (hn.rsl.src Tryz.underlying117) (by (try simp only [List.length_append, List.length_cons, List.length_nil] at *); omega) (by intro b hb; first | (apply hS; omega) | ((try dsimp only); omega)) rfl ?_
     intro a_hq2 c_hq2 w_hq2 hq2 g_hq2 n_hq2
     replace kk := kk.chg g_hq2.chg (by intros; exfalso; (try dsimp only at *); omega)
     replace hr2 := hr2.chg g_hq2.chg (by intros; exfalso; (try dsimp only at *); omega)
     refine WL.assign rfl rfl (WL.t (WC.region (WL.move rfl rfl (WL.assign rfl rfl (WL.nil (WX.qc (WX.qc (?_))))))))
     refine WX.qf ((out ++ [⟨1, unz u.toNat, ⟨#[]⟩⟩], a_hq2, c_hq2), (r, ar, cr)) ⟨rfl, rfl, trivial⟩ ⟨by dsimp only; simp; omega, by dsimp only; omega, ?_, hq2, hr2, kk⟩ (by show r.length < (x :: bs').length; simp; omega)
     refine decI_step hi ?_
     rw [dec_some hc, if_neg (by omega), if_pos (by omega)]
    ·refine WL.assign rfl rfl (WL.t (WC.qa rfl (WC.sr (WL.move rfl rfl (WL.qi rfl rfl rfl (fun h48 => ?_) (fun h48 => ?_))))))
     ·refine WL.move rfl rfl (WL.qa rfl rfl rfl (WL.move rfl rfl (WL.qa rfl rfl rfl (WL.leq? rfl rfl rfl (fun h51 => ?_) (fun h51 => ?_)))))
      ·refine WL.qd rfl rfl rfl (WL.move rfl rfl (WL.qa rfl rfl rfl (WL.move rfl rfl (WL.qa rfl rfl rfl (WL.move rfl rfl (WL.qa rfl rfl rfl (WL.len Tryz.underlying51 rfl rfl (WL.qa rfl rfl rfl (WL.qt Tryz.underlying3 Tryz.underlying24 rfl rfl (WL.qa rfl rfl rfl (WL.leq? rfl rfl rfl (fun h58 => ?_) (fun h58 => ?_))))))))))))
       ·refine WL.qd rfl rfl rfl (WL.assign rfl rfl (WL.t (WC.qb rfl (WC.sr (WL.move rfl rfl (WL.move rfl rfl (WL.move rfl rfl (?_))))))))
        refine WL.slice (l := 0) (h := u.toNat) (k := .i64) Tryz.underlying51 Tryz.sizeOf5 hr2 rfl (.inr ⟨rfl, rfl⟩) (.inl rfl) (by constructor <;> omega) rfl ?_
        intro a_hs c_hs hs n_hs
        refine WL.qp Tryz.underlying51 Tryz.underlying5 Tryz.underlying9 hs rfl rfl (WL.bld rfl (bld_116_0_2 _ _) rfl (?_))
        refine WL.build (e := eit) [⟨2, 0, ⟨(List.drop 0 (List.take u.toNat r)).toArray⟩⟩] Tryz.underlying117 Tryz.sizeOf116 Tryz.zeroValue116 rfl rfl rfl (by simp [Value.cells] <;> rfl) (by decide) rfl ?_
        intro a_hn w_hn hn l_hn z_hn k_hn
        replace kk := kk.pure k_hn
        replace hq := hq.pure k_hn
        replace hr2 := hr2.pure k_hn
        refine WL.append (e := eit) info_116 rfl Tryz.underlying117 rfl rfl hq (hn.rsl.src Tryz.underlying117) (by (try simp only [List.length_append, List.length_cons, List.length_nil] at *); omega) (by intro b hb; first | (apply hS; omega) | ((try dsimp only); omega)) rfl ?_
        intro a_hq2 c_hq2 w_hq2 hq2 g_hq2 n_hq2
        replace kk := kk.chg g_hq2.chg (by intros; exfalso; (try dsimp only at *); omega)
        replace hr2 := hr2.chg g_hq2.chg (by intros; exfalso; (try dsimp only at *); omega)
        refine WL.assign rfl rfl (WL.t (WC.region (WL.move rfl rfl (WL.move rfl rfl (?_)))))
        refine WL.slice (l := u.toNat) (h := r.length) (j := .i64) Tryz.underlying51 Tryz.sizeOf5 hr2 rfl (.inl rfl) (.inr ⟨rfl, rfl⟩) (by constructor <;> omega) rfl ?_
        intro a_ht c_ht ht n_ht
        refine WL.assign rfl rfl (WL.nil (WX.qc (WX.qc (?_))))
        refine WX.qf ((out ++ [⟨2, 0, ⟨(List.drop 0 (List.take u.toNat r)).toArray⟩⟩], a_hq2, c_hq2), (List.drop u.toNat (List.take r.length r), a_ht, c_ht)) ⟨rfl, rfl, trivial⟩ ⟨by dsimp only; simp; omega, by dsimp only; simp; omega, ?_, hq2, ht, kk⟩ (by show (List.drop u.toNat (List.take r.length r)).length < (x :: bs').length; simp; omega)
        have e1 : List.drop u.toNat (List.take r.length r) = r.drop u.toNat := by simp
        rw [e1]
        refine decI_step hi ?_
        rw [dec_some hc, if_neg (by omega), if_neg (by omega), if_pos (by omega)]
        rfl
       ·refine WL.qd rfl rfl rfl (WL.assign rfl rfl (WL.t (WC.qa rfl (WC.sr (WL.assign rfl rfl (WL.assign rfl rfl (WL.t (WC.ret (WX.qe (WX.qe (WX.qb (WX.qe (WX.qb (WX.qi (.inl rfl) Tryz.results118 rfl rfl ?_))))))))))))))
        refine ⟨_, rfl, .inr ⟨rfl, decI_bad hi ?_⟩, kk⟩
        first
         |exact dec_none hc
         |(rw [dec_some hc]
           first
            |(rw [if_pos (by omega)]; done)
            |(rw [if_neg (by omega), if_neg (by omega), if_neg (by omega)]))
      ·refine WL.qd rfl rfl rfl (WL.move rfl rfl (WL.pass rfl rfl rfl rfl (WL.pass rfl rfl rfl rfl (WL.pass rfl rfl rfl rfl (WL.pass rfl rfl rfl rfl (WL.pass rfl rfl rfl rfl (WL.qc rfl rfl rfl (WL.assign rfl rfl (WL.t (WC.qa rfl (WC.sr (WL.assign rfl rfl (WL.assign rfl rfl (WL.t (WC.ret (WX.qe (WX.qe (WX.qb (WX.qe (WX.qb (WX.qi (.inl rfl) Tryz.results118 rfl rfl ?_)))))))))))))))))))))
       refine ⟨_, rfl, .inr ⟨rfl, decI_bad hi ?_⟩, kk⟩
       first
        |exact dec_none hc
        |(rw [dec_some hc]
          first
           |(rw [if_pos (by omega)]; done)
           |(rw [if_neg (by omega), if_neg (by omega), if_neg (by omega)]))
     ·refine WL.move rfl rfl (WL.pass rfl rfl rfl rfl (WL.pass rfl rfl rfl rfl (WL.qc rfl rfl rfl (WL.move rfl rfl (WL.pass rfl rfl rfl rfl (WL.pass rfl rfl rfl rfl (WL.pass rfl rfl rfl rfl (WL.pass rfl rfl rfl rfl (WL.pass rfl rfl rfl rfl (WL.qc rfl rfl rfl (WL.assign rfl rfl (WL.t (WC.qa rfl (WC.seq (WC.region (WL.assign rfl rfl (WL.assign rfl rfl (WL.t (WC.ret (WX.qe (WX.qe (WX.qb (WX.qe (WX.qb (WX.qi (.inl rfl) Tryz.results118 rfl rfl ?_)))))))))))))))))))))))))
      refine ⟨_, rfl, .inr ⟨rfl, decI_bad hi ?_⟩, kk⟩
      first
       |exact dec_none hc
       |(rw [dec_some hc]
         first
          |(rw [if_pos (by omega)]; done)
          |(rw [if_neg (by omega), if_neg (by omega), if_neg (by omega)]))
  ·replace kk := kk.pure k2
   replace hq := hq.pure k2
   refine WL.move rfl rfl (WL.extract rfl rfl rfl (WL.extract rfl rfl rfl (WL.extract rfl rfl rfl (WL.assign rfl rfl (WL.assign rfl rfl (WL.assign rfl rfl (WL.nil (WX.qa (WC.block (WC.sr (WL.move rfl rfl (WL.not rfl rfl (WL.move rfl rfl (WL.pass rfl rfl rfl rfl (WL.pass rfl rfl rfl rfl (WL.pass rfl rfl rfl rfl (WL.qd rfl rfl rfl (WL.assign rfl rfl (WL.t (WC.qb rfl (WC.seq (WC.region (WL.assign rfl rfl (WL.assign rfl rfl (WL.t (WC.ret (WX.qe (WX.qe (WX.qb (WX.qe (WX.qb (WX.qi (.inl rfl) Tryz.results118 rfl rfl ?_))))))))))))))))))))))))))))))))
   refine ⟨_, rfl, .inr ⟨rfl, decI_bad hi ?_⟩, kk⟩
   first
    |exact dec_none hc
    |(rw [dec_some hc]
      first
       |(rw [if_pos (by omega)]; done)
       |(rw [if_neg (by omega), if_neg (by omega), if_neg (by omega)]))
 ·refine WL.t (WC.qa rfl (WC.exit (WX.qd (WX.qd (WX.qh (WX.qa (WC.sr (WL.move rfl rfl (WL.assign rfl rfl (WL.assign rfl rfl (WL.t (WC.ret (WX.qi (.inl rfl) Tryz.results118 rfl rfl ?_)))))))))))))
  refine ⟨_, rfl, .inl ⟨out, a1, c1, rfl, ?_, hq⟩, kk⟩
  have : bs = [] := List.eq_nil_of_length_eq_zero (by omega)
  subst this
  exact decI_end hi
end Go.Proofs.YtjeldcjchipdgaaGreatDoor
namespace Go.Proofs.YtjeldcjchipdgaaGreatDoor
open Go.RowKit Go.HL
set_option maxRecDepth 100000
theorem rcheck_calls {S : Nat → Prop} {w : World} {ao : Option Addr} {c : Nat} {l : List Item} (hr : RSl S w eit ao c l) (hl : l.length ≤ 9223372036854775807) :
 Calls Tryz.prog 99 [.slice ao l.length c].toArray w (Ret fun v w' => v = vi (checkE l) ∧ Chg Nob w w') := by
 have hw := Chg.refl Nob w
 have hr00 := hr
 refine Calls.of_WC Tryz.func99 rfl Tryz.ntmps99 (by simp) ?_
 refine WC.sr (WL.assign rfl rfl (WL.t (WC.seq (WC.sr (WL.move rfl rfl (WL.len Tryz.underlying117 rfl rfl (WL.qn rfl rfl rfl (fun h7 => ?_) (fun h7 => ?_))))))))
 ·refine WL.t (WC.qb rfl (WC.sr (WL.assign rfl rfl (WL.t (WC.ret (WX.qb (WX.qg (.inl rfl) Tryz.results99 rfl ?_)))))))
  refine ⟨_, rfl, ?_, hw⟩
  congr 1
  unfold checkE
  by_cases h1 : 2000 < l.length ∨ l.any longI = true
  ·rw [if_pos h1]
   all_goals (exfalso; rcases h1 with h8 | h8; omega; rw [hno] at h8; cases h8)
  ·rw [if_neg h1]
   exfalso; apply h1; left; omega
 ·refine WL.t (WC.qa rfl (WC.skip (WX.qa (WC.seq (WC.sr (WL.assign rfl rfl (WL.t (WC.block (?_)))))))))
  refine WC.loop (σ := Nat) (fun i => [(0, .slice ao l.length c), (3, vi i)])
   (fun i w' => i ≤ l.length ∧ (l.take i).any longI = false ∧ Chg Nob w w') (fun i => l.length - i) 0 ⟨rfl, rfl, trivial⟩ ⟨Nat.zero_le _, by simp, hw⟩ ?_
  clear hw
  rintro i w1 ⟨hi, hno, hw⟩
  replace hr := hr.pure hw
  refine WC.seq (WC.sr (WL.move rfl rfl (WL.move rfl rfl (WL.len Tryz.underlying117 rfl rfl (WL.qh rfl rfl rfl (fun h11 => ?_) (fun h11 => ?_))))))
  ·refine WL.t (WC.qb rfl (WC.skip (WX.qa (WC.seq (WC.block (WC.seq (WC.region (WL.move rfl rfl (WL.move rfl rfl (?_))))))))))
   obtain ⟨x, hx⟩ : ∃ x, l[i]? = some x := ⟨_, List.getElem?_eq_getElem (by omega)⟩
   refine WL.qg Tryz.underlying117 Tryz.sizeOf116 hr rfl rfl ⟨hx, rfl⟩ rfl ?_
   intro b_1 o_1 hc_1
   refine WL.fieldAddr (fld_116_0) rfl rfl (WL.load Tryz.isAgg3 rfl (hc_1 _ _ rfl) rfl (WL.qi rfl rfl rfl (fun h19 => ?_) (fun h19 => ?_)))
   ·refine WL.move rfl rfl (WL.qa rfl rfl rfl (WL.move rfl rfl (WL.qa rfl rfl rfl (WL.move rfl rfl (WL.qa rfl rfl rfl (WL.qg Tryz.underlying117 Tryz.sizeOf116 hr rfl rfl ⟨hx, rfl⟩ rfl ?_))))))
    intro b_2 o_2 hc_2
    refine WL.qa rfl rfl rfl (WL.fieldAddr (fld_116_2) rfl rfl (WL.qa rfl rfl rfl (WL.load Tryz.isAgg9 rfl (hc_2 _ _ rfl) rfl (WL.qa rfl rfl rfl (WL.qr Tryz.underlying9 rfl rfl (WL.qa rfl rfl rfl (WL.qn rfl rfl rfl (fun h27 => ?_) (fun h27 => ?_))))))))
    ·refine WL.qd rfl rfl rfl (WL.t (WC.qb rfl (WC.sr (WL.assign rfl rfl (WL.nil (WX.qa (WC.ret (WX.qe (WX.qb (WX.qb (WX.qe (WX.qb (WX.qg (.inl rfl) Tryz.results99 rfl ?_)))))))))))))
     refine ⟨_, rfl, ?_, hw⟩
     congr 1
     unfold checkE
     by_cases h1 : 2000 < l.length ∨ l.any longI = true
     ·rw [if_pos h1]
      all_goals (exfalso; rcases h1 with h8 | h8; omega; rw [hno] at h8; cases h8)
     ·rw [if_neg h1]
      exfalso; apply h1; right; refine List.any_eq_true.2 ⟨x, List.mem_of_getElem? hx, ?_⟩; simp only [longI, decide_eq_true_eq]; omega
    ·refine WL.qd rfl rfl rfl (WL.t (WC.qa rfl (WC.skip (WX.qc (WX.qa (WC.region (WL.move rfl rfl (WL.qe rfl rfl (by omega) rfl (WL.assign rfl rfl (WL.nil (?_)))))))))))
     refine WX.qf (i + 1) ⟨rfl, rfl, trivial⟩ ⟨by omega, ?_, hw⟩ (by show _ - _ < _ - _; omega)
     have hx9 : longI x = false := by simp only [longI, decide_eq_false_iff_not]; omega
     rw [List.take_add_one, hx, List.any_append, hno]
     simp [hx9]
   ·refine WL.move rfl rfl (WL.pass rfl rfl rfl rfl (WL.pass rfl rfl rfl rfl (WL.pass rfl rfl rfl rfl (WL.pass rfl rfl rfl rfl (WL.pass rfl rfl rfl rfl (WL.pass rfl rfl rfl rfl (WL.pass rfl rfl rfl rfl (WL.qc rfl rfl rfl (WL.t (WC.qa rfl (WC.skip (WX.qc (WX.qa (WC.region (WL.move rfl rfl (WL.qe rfl rfl (by omega) rfl (WL.assign rfl rfl (WL.nil (?_)))))))))))))))))))
    refine WX.qf (i + 1) ⟨rfl, rfl, trivial⟩ ⟨by omega, ?_, hw⟩ (by show _ - _ < _ - _; omega)
    have hx9 : longI x = false := by simp only [longI, decide_eq_false_iff_not]; omega
    rw [List.take_add_one, hx, List.any_append, hno]
    simp [hx9]
  ·refine WL.t (WC.qa rfl (WC.exit (WX.qd (WX.qd (WX.qh (WX.qa (WC.seq (WC.sr (WL.assign rfl rfl (WL.t (WC.block (?_))))))))))))
   have hno' : l.any longI = false := by rw [List.take_of_length_le (by omega)] at hno; exact hno
   clear hno
   have hno := hno'
   refine WC.loop (σ := Nat) (fun i => [(0, .slice ao l.length c), (4, vi i)])
    (fun i w' => i ≤ l.length ∧ (l.take i).all okI = true ∧ Chg Nob w w') (fun i => l.length - i) 0 ⟨rfl, rfl, trivial⟩ ⟨Nat.zero_le _, by simp, hw⟩ ?_
   clear hw
   rintro j w2 ⟨hj, hall, hw⟩
   replace hr := hr00.pure hw
   refine WC.seq (WC.sr (WL.move rfl rfl (WL.move rfl rfl (WL.len Tryz.underlying117 rfl rfl (WL.qh rfl rfl rfl (fun h32 => ?_) (fun h32 => ?_))))))
   ·refine WL.t (WC.qb rfl (WC.skip (WX.qa (WC.seq (WC.block (WC.seq (WC.region (WL.move rfl rfl (WL.move rfl rfl (?_))))))))))
    obtain ⟨x, hx⟩ : ∃ x, l[j]? = some x := ⟨_, List.getElem?_eq_getElem (by omega)⟩
    refine WL.qg Tryz.underlying117 Tryz.sizeOf116 hr rfl rfl ⟨hx, rfl⟩ rfl ?_
    intro b_1 o_1 hc_1
    refine WL.fieldAddr (fld_116_0) rfl rfl (WL.load Tryz.isAgg3 rfl (hc_1 _ _ rfl) rfl (WL.qo rfl rfl rfl (fun h40 => ?_) (fun h40 => ?_)))
    ·refine WL.move rfl rfl (WL.qa rfl rfl rfl (WL.move rfl rfl (WL.qa rfl rfl rfl (WL.move rfl rfl (WL.qa rfl rfl rfl (WL.qg Tryz.underlying117 Tryz.sizeOf116 hr rfl rfl ⟨hx, rfl⟩ rfl ?_))))))
     intro b_2 o_2 hc_2
     refine WL.qa rfl rfl rfl (WL.fieldAddr (fld_116_0) rfl rfl (WL.qa rfl rfl rfl (WL.load Tryz.isAgg3 rfl (hc_2 _ _ rfl) rfl (WL.qa rfl rfl rfl (WL.qo rfl rfl rfl (fun h47 => ?_) (fun h47 => ?_))))))
     ·refine WL.qd rfl rfl rfl (WL.move rfl rfl (WL.pass rfl rfl rfl rfl (WL.pass rfl rfl rfl rfl (WL.pass rfl rfl rfl rfl (WL.pass rfl rfl rfl rfl (WL.pass rfl rfl rfl rfl (WL.pass rfl rfl rfl rfl (WL.pass rfl rfl rfl rfl (WL.qk rfl rfl rfl (WL.qk rfl rfl rfl (WL.qk rfl rfl rfl (WL.qk rfl rfl rfl (WL.qk rfl rfl rfl (WL.qk rfl rfl rfl (WL.pass rfl rfl rfl rfl (WL.qd rfl rfl rfl (WL.move rfl rfl (WL.pass rfl rfl rfl rfl (WL.pass rfl rfl rfl rfl (WL.pass rfl rfl rfl rfl (WL.pass rfl rfl rfl rfl (WL.pass rfl rfl rfl rfl (WL.pass rfl rfl rfl rfl (WL.pass rfl rfl rfl rfl (WL.qk rfl rfl rfl (WL.qk rfl rfl rfl (WL.qk rfl rfl rfl (WL.qk rfl rfl rfl (WL.qk rfl rfl rfl (WL.qk rfl rfl rfl (WL.pass rfl rfl rfl rfl (WL.qd rfl rfl rfl (WL.t (WC.qb rfl (WC.sr (WL.assign rfl rfl (WL.nil (WX.qa (WC.ret (WX.qe (WX.qb (WX.qb (WX.qe (WX.qb (WX.qg (.inl rfl) Tryz.results99 rfl ?_)))))))))))))))))))))))))))))))))))))))))))))
      refine ⟨_, rfl, ?_, hw⟩
      congr 1
      unfold checkE
      by_cases h1 : 2000 < l.length ∨ l.any longI = true
      ·rw [if_pos h1]
       all_goals (exfalso; rcases h1 with h8 | h8; omega; rw [hno] at h8; cases h8)
      ·rw [if_neg h1]
       by_cases hall' : l.all okI = true
       ·rw [if_pos hall']
        all_goals
         exfalso
         have h9 := List.all_eq_true.1 hall' x (List.mem_of_getElem? hx)
         simp only [okI, decide_eq_true_eq] at h9
         rcases h9 with ⟨h8, h9⟩ | ⟨h8, h9⟩
         ·first | omega | exact absurd h9 (by assumption)
         ·omega
       ·rw [if_neg hall']
        all_goals
         exfalso
         have h9 : l.length ≤ j := by omega
         rw [List.take_of_length_le h9] at hall
         exact hall' hall
     ·refine WL.qd rfl rfl rfl (WL.move rfl rfl (WL.qa rfl rfl rfl (WL.move rfl rfl (WL.qa rfl rfl rfl (WL.move rfl rfl (WL.qa rfl rfl rfl (WL.qg Tryz.underlying117 Tryz.sizeOf116 hr rfl rfl ⟨hx, rfl⟩ rfl ?_)))))))
      intro b_3 o_3 hc_3
      refine WL.qa rfl rfl rfl (WL.fieldAddr (fld_116_0) rfl rfl (WL.qa rfl rfl rfl (WL.load Tryz.isAgg3 rfl (hc_3 _ _ rfl) rfl (WL.qa rfl rfl rfl (WL.qi rfl rfl rfl (fun h55 => ?_) (fun h55 => ?_))))))
      ·refine WL.qa rfl rfl rfl (WL.move rfl rfl (WL.qa rfl rfl rfl (WL.move rfl rfl (WL.qa rfl rfl rfl (WL.move rfl rfl (WL.qa rfl rfl rfl (WL.qg Tryz.underlying117 Tryz.sizeOf116 hr rfl rfl ⟨hx, rfl⟩ rfl ?_)))))))
       intro b_4 o_4 hc_4
       refine WL.qa rfl rfl rfl (WL.fieldAddr (fld_116_2) rfl rfl (WL.qa rfl rfl rfl (WL.load Tryz.isAgg9 rfl (hc_4 _ _ rfl) rfl (WL.qa rfl rfl rfl (WL.sneq? rfl rfl rfl (fun h62 => ?_) (fun h62 => ?_))))))
       ·refine WL.qa rfl rfl rfl (WL.qd rfl rfl rfl (WL.qc rfl rfl rfl (WL.move rfl rfl (WL.pass rfl rfl rfl rfl (WL.pass rfl rfl rfl rfl (WL.pass rfl rfl rfl rfl (WL.pass rfl rfl rfl rfl (WL.pass rfl rfl rfl rfl (WL.pass rfl rfl rfl rfl (WL.pass rfl rfl rfl rfl (WL.qk rfl rfl rfl (WL.qk rfl rfl rfl (WL.qk rfl rfl rfl (WL.qk rfl rfl rfl (WL.qk rfl rfl rfl (WL.qk rfl rfl rfl (WL.pass rfl rfl rfl rfl (WL.qd rfl rfl rfl (WL.t (WC.qb rfl (WC.sr (WL.assign rfl rfl (WL.t (WC.ret (WX.qe (WX.qb (WX.qb (WX.qe (WX.qb (WX.qg (.inl rfl) Tryz.results99 rfl ?_))))))))))))))))))))))))))))))
        refine ⟨_, rfl, ?_, hw⟩
        congr 1
        unfold checkE
        by_cases h1 : 2000 < l.length ∨ l.any longI = true
        ·rw [if_pos h1]
         all_goals (exfalso; rcases h1 with h8 | h8; omega; rw [hno] at h8; cases h8)
        ·rw [if_neg h1]
         exfalso; apply h1; left; omega
       ·refine WL.qa rfl rfl rfl (WL.qd rfl rfl rfl (WL.qc rfl rfl rfl (WL.move rfl rfl (WL.qa rfl rfl rfl (WL.move rfl rfl (WL.qa rfl rfl rfl (WL.move rfl rfl (WL.qa rfl rfl rfl (WL.qg Tryz.underlying117 Tryz.sizeOf116 hr rfl rfl ⟨hx, rfl⟩ rfl ?_)))))))))
        intro b_5 o_5 hc_5
        refine WL.qa rfl rfl rfl (WL.fieldAddr (fld_116_0) rfl rfl (WL.qa rfl rfl rfl (WL.load Tryz.isAgg3 rfl (hc_5 _ _ rfl) rfl (WL.qa rfl rfl rfl (WL.qi rfl rfl rfl (fun h71 => ?_) (fun h71 => ?_))))))
        ·refine WL.qa rfl rfl rfl (WL.move rfl rfl (WL.qa rfl rfl rfl (WL.move rfl rfl (WL.qa rfl rfl rfl (WL.move rfl rfl (WL.qa rfl rfl rfl (WL.qg Tryz.underlying117 Tryz.sizeOf116 hr rfl rfl ⟨hx, rfl⟩ rfl ?_)))))))
         intro b_6 o_6 hc_6
         refine WL.qa rfl rfl rfl (WL.fieldAddr (fld_116_1) rfl rfl (WL.qa rfl rfl rfl (WL.load Tryz.isAgg3 rfl (hc_6 _ _ rfl) rfl (WL.qa rfl rfl rfl (WL.qo rfl rfl rfl (fun h78 => ?_) (fun h78 => ?_))))))
         ·refine WL.qa rfl rfl rfl (WL.qd rfl rfl rfl (WL.qc rfl rfl rfl (WL.t (WC.qb rfl (WC.sr (WL.assign rfl rfl (WL.t (WC.ret (WX.qe (WX.qb (WX.qb (WX.qe (WX.qb (WX.qg (.inl rfl) Tryz.results99 rfl ?_))))))))))))))
          refine ⟨_, rfl, ?_, hw⟩
          congr 1
          unfold checkE
          by_cases h1 : 2000 < l.length ∨ l.any longI = true
          ·rw [if_pos h1]
           all_goals (exfalso; rcases h1 with h8 | h8; omega; rw [hno] at h8; cases h8)
          ·rw [if_neg h1]
           exfalso; apply h1; left; omega
         ·refine WL.qa rfl rfl rfl (WL.qd rfl rfl rfl (WL.qc rfl rfl rfl (WL.t (WC.qa rfl (WC.skip (WX.qc (WX.qa (WC.region (WL.move rfl rfl (WL.qe rfl rfl (by omega) rfl (WL.assign rfl rfl (WL.nil (?_)))))))))))))
          refine WX.qf (j + 1) ⟨rfl, rfl, trivial⟩ ⟨by omega, ?_, hw⟩ (by show _ - _ < _ - _; omega)
          have hx9 : okI x = true := by
           simp only [okI, decide_eq_true_eq]
           first
            |exact .inl ⟨by omega, by assumption⟩
            |exact .inr ⟨by omega, by omega⟩
          rw [List.take_add_one, hx, List.all_append, hall]
          simp [hx9]
        ·refine WL.qa rfl rfl rfl (WL.move rfl rfl (WL.pass rfl rfl rfl rfl (WL.pass rfl rfl rfl rfl (WL.pass rfl rfl rfl rfl (WL.pass rfl rfl rfl rfl (WL.pass rfl rfl rfl rfl (WL.pass rfl rfl rfl rfl (WL.qa rfl rfl rfl (WL.qc rfl rfl rfl (WL.qc rfl rfl rfl (WL.t (WC.qa rfl (WC.skip (WX.qc (WX.qa (WC.region (WL.move rfl rfl (WL.qe rfl rfl (by omega) rfl (WL.assign rfl rfl (WL.nil (?_)))))))))))))))))))))
         refine WX.qf (j + 1) ⟨rfl, rfl, trivial⟩ ⟨by omega, ?_, hw⟩ (by show _ - _ < _ - _; omega)
         have hx9 : okI x = true := by
          simp only [okI, decide_eq_true_eq]
          first
           |exact .inl ⟨by omega, by assumption⟩
           |exact .inr ⟨by omega, by omega⟩
         rw [List.take_add_one, hx, List.all_append, hall]
         simp [hx9]
      ·refine WL.qa rfl rfl rfl (WL.move rfl rfl (WL.pass rfl rfl rfl rfl (WL.pass rfl rfl rfl rfl (WL.pass rfl rfl rfl rfl (WL.pass rfl rfl rfl rfl (WL.pass rfl rfl rfl rfl (WL.pass rfl rfl rfl rfl (WL.qa rfl rfl rfl (WL.qc rfl rfl rfl (WL.qc rfl rfl rfl (WL.move rfl rfl (WL.qa rfl rfl rfl (WL.move rfl rfl (WL.qa rfl rfl rfl (WL.move rfl rfl (WL.qa rfl rfl rfl (WL.qg Tryz.underlying117 Tryz.sizeOf116 hr rfl rfl ⟨hx, rfl⟩ rfl ?_)))))))))))))))))
       intro b_4 o_4 hc_4
       refine WL.qa rfl rfl rfl (WL.fieldAddr (fld_116_0) rfl rfl (WL.qa rfl rfl rfl (WL.load Tryz.isAgg3 rfl (hc_4 _ _ rfl) rfl (WL.qa rfl rfl rfl (WL.qi rfl rfl rfl (fun h71 => ?_) (fun h71 => ?_))))))
       ·refine WL.qa rfl rfl rfl (WL.move rfl rfl (WL.qa rfl rfl rfl (WL.move rfl rfl (WL.qa rfl rfl rfl (WL.move rfl rfl (WL.qa rfl rfl rfl (WL.qg Tryz.underlying117 Tryz.sizeOf116 hr rfl rfl ⟨hx, rfl⟩ rfl ?_)))))))
        intro b_5 o_5 hc_5
        refine WL.qa rfl rfl rfl (WL.fieldAddr (fld_116_1) rfl rfl (WL.qa rfl rfl rfl (WL.load Tryz.isAgg3 rfl (hc_5 _ _ rfl) rfl (WL.qa rfl rfl rfl (WL.qo rfl rfl rfl (fun h78 => ?_) (fun h78 => ?_))))))
        ·refine WL.qa rfl rfl rfl (WL.qd rfl rfl rfl (WL.qc rfl rfl rfl (WL.t (WC.qb rfl (WC.sr (WL.assign rfl rfl (WL.t (WC.ret (WX.qe (WX.qb (WX.qb (WX.qe (WX.qb (WX.qg (.inl rfl) Tryz.results99 rfl ?_))))))))))))))
         refine ⟨_, rfl, ?_, hw⟩
         congr 1
         unfold checkE
         by_cases h1 : 2000 < l.length ∨ l.any longI = true
         ·rw [if_pos h1]
          all_goals (exfalso; rcases h1 with h8 | h8; omega; rw [hno] at h8; cases h8)
         ·rw [if_neg h1]
          by_cases hall' : l.all okI = true
          ·rw [if_pos hall']
           all_goals
            exfalso
            have h9 := List.all_eq_true.1 hall' x (List.mem_of_getElem? hx)
            simp only [okI, decide_eq_true_eq] at h9
            rcases h9 with ⟨h8, h9⟩ | ⟨h8, h9⟩
            ·first | omega | exact absurd h9 (by assumption)
            ·omega
          ·rw [if_neg hall']
           all_goals
            exfalso
            have h9 : l.length ≤ j := by omega
            rw [List.take_of_length_le h9] at hall
            exact hall' hall
        ·refine WL.qa rfl rfl rfl (WL.qd rfl rfl rfl (WL.qc rfl rfl rfl (WL.t (WC.qa rfl (WC.skip (WX.qc (WX.qa (WC.region (WL.move rfl rfl (WL.qe rfl rfl (by omega) rfl (WL.assign rfl rfl (WL.nil (?_)))))))))))))
         refine WX.qf (j + 1) ⟨rfl, rfl, trivial⟩ ⟨by omega, ?_, hw⟩ (by show _ - _ < _ - _; omega)
         have hx9 : okI x = true := by
          simp only [okI, decide_eq_true_eq]
          first
           |exact .inl ⟨by omega, by assumption⟩
           |exact .inr ⟨by omega, by omega⟩
         rw [List.take_add_one, hx, List.all_append, hall]
         simp [hx9]
       ·refine WL.qa rfl rfl rfl (WL.move rfl rfl (WL.pass rfl rfl rfl rfl (WL.pass rfl rfl rfl rfl (WL.pass rfl rfl rfl rfl (WL.pass rfl rfl rfl rfl (WL.pass rfl rfl rfl rfl (WL.pass rfl rfl rfl rfl (WL.qa rfl rfl rfl (WL.qc rfl rfl rfl (WL.qc rfl rfl rfl (WL.t (WC.qa rfl (WC.skip (WX.qc (WX.qa (WC.region (WL.move rfl rfl (WL.qe rfl rfl (by omega) rfl (WL.assign rfl rfl (WL.nil (?_)))))))))))))))))))))
        refine WX.qf (j + 1) ⟨rfl, rfl, trivial⟩ ⟨by omega, ?_, hw⟩ (by show _ - _ < _ - _; omega)
        have hx9 : okI x = true := by
         simp only [okI, decide_eq_true_eq]
         first
          |exact .inl ⟨by omega, by assumption⟩
          |exact .inr ⟨by omega, by omega⟩
        rw [List.take_add_one, hx, List.all_append, hall]
        simp [hx9]
    ·refine WL.move rfl rfl (WL.pass rfl rfl rfl rfl (WL.pass rfl rfl rfl rfl (WL.pass rfl rfl rfl rfl (WL.pass rfl rfl rfl rfl (WL.pass rfl rfl rfl rfl (WL.pass rfl rfl rfl rfl (WL.qc rfl rfl rfl (WL.move rfl rfl (WL.qa rfl rfl rfl (WL.move rfl rfl (WL.qa rfl rfl rfl (WL.move rfl rfl (WL.qa rfl rfl rfl (WL.qg Tryz.underlying117 Tryz.sizeOf116 hr rfl rfl ⟨hx, rfl⟩ rfl ?_))))))))))))))
     intro b_2 o_2 hc_2
     refine WL.qa rfl rfl rfl (WL.fieldAddr (fld_116_0) rfl rfl (WL.qa rfl rfl rfl (WL.load Tryz.isAgg3 rfl (hc_2 _ _ rfl) rfl (WL.qa rfl rfl rfl (WL.qi rfl rfl rfl (fun h55 => ?_) (fun h55 => ?_))))))
     ·refine WL.qa rfl rfl rfl (WL.move rfl rfl (WL.qa rfl rfl rfl (WL.move rfl rfl (WL.qa rfl rfl rfl (WL.move rfl rfl (WL.qa rfl rfl rfl (WL.qg Tryz.underlying117 Tryz.sizeOf116 hr rfl rfl ⟨hx, rfl⟩ rfl ?_)))))))
      intro b_3 o_3 hc_3
      refine WL.qa rfl rfl rfl (WL.fieldAddr (fld_116_2) rfl rfl (WL.qa rfl rfl rfl (WL.load Tryz.isAgg9 rfl (hc_3 _ _ rfl) rfl (WL.qa rfl rfl rfl (WL.sneq? rfl rfl rfl (fun h62 => ?_) (fun h62 => ?_))))))
      ·refine WL.qa rfl rfl rfl (WL.qd rfl rfl rfl (WL.qc rfl rfl rfl (WL.move rfl rfl (WL.pass rfl rfl rfl rfl (WL.pass rfl rfl rfl rfl (WL.pass rfl rfl rfl rfl (WL.pass rfl rfl rfl rfl (WL.pass rfl rfl rfl rfl (WL.pass rfl rfl rfl rfl (WL.pass rfl rfl rfl rfl (WL.qk rfl rfl rfl (WL.qk rfl rfl rfl (WL.qk rfl rfl rfl (WL.qk rfl rfl rfl (WL.qk rfl rfl rfl (WL.qk rfl rfl rfl (WL.pass rfl rfl rfl rfl (WL.qd rfl rfl rfl (WL.t (WC.qb rfl (WC.sr (WL.assign rfl rfl (WL.t (WC.ret (WX.qe (WX.qb (WX.qb (WX.qe (WX.qb (WX.qg (.inl rfl) Tryz.results99 rfl ?_))))))))))))))))))))))))))))))
       refine ⟨_, rfl, ?_, hw⟩
       congr 1
       unfold checkE
       by_cases h1 : 2000 < l.length ∨ l.any longI = true
       ·rw [if_pos h1]
        all_goals (exfalso; rcases h1 with h8 | h8; omega; rw [hno] at h8; cases h8)
       ·rw [if_neg h1]
        by_cases hall' : l.all okI = true
        ·rw [if_pos hall']
         all_goals
          exfalso
          have h9 := List.all_eq_true.1 hall' x (List.mem_of_getElem? hx)
          simp only [okI, decide_eq_true_eq] at h9
          rcases h9 with ⟨h8, h9⟩ | ⟨h8, h9⟩
          ·first | omega | exact absurd h9 (by assumption)
          ·omega
        ·rw [if_neg hall']
         all_goals
          exfalso
          have h9 : l.length ≤ j := by omega
          rw [List.take_of_length_le h9] at hall
          exact hall' hall
      ·refine WL.qa rfl rfl rfl (WL.qd rfl rfl rfl (WL.qc rfl rfl rfl (WL.move rfl rfl (WL.qa rfl rfl rfl (WL.move rfl rfl (WL.qa rfl rfl rfl (WL.move rfl rfl (WL.qa rfl rfl rfl (WL.qg Tryz.underlying117 Tryz.sizeOf116 hr rfl rfl ⟨hx, rfl⟩ rfl ?_)))))))))
       intro b_4 o_4 hc_4
       refine WL.qa rfl rfl rfl (WL.fieldAddr (fld_116_0) rfl rfl (WL.qa rfl rfl rfl (WL.load Tryz.isAgg3 rfl (hc_4 _ _ rfl) rfl (WL.qa rfl rfl rfl (WL.qi rfl rfl rfl (fun h71 => ?_) (fun h71 => ?_))))))
       ·refine WL.qa rfl rfl rfl (WL.move rfl rfl (WL.qa rfl rfl rfl (WL.move rfl rfl (WL.qa rfl rfl rfl (WL.move rfl rfl (WL.qa rfl rfl rfl (WL.qg Tryz.underlying117 Tryz.sizeOf116 hr rfl rfl ⟨hx, rfl⟩ rfl ?_)))))))
        intro b_5 o_5 hc_5
        refine WL.qa rfl rfl rfl (WL.fieldAddr (fld_116_1) rfl rfl (WL.qa rfl rfl rfl (WL.load Tryz.isAgg3 rfl (hc_5 _ _ rfl) rfl (WL.qa rfl rfl rfl (WL.qo rfl rfl rfl (fun h78 => ?_) (fun h78 => ?_))))))
        ·refine WL.qa rfl rfl rfl (WL.qd rfl rfl rfl (WL.qc rfl rfl rfl (WL.t (WC.qb rfl (WC.sr (WL.assign rfl rfl (WL.t (WC.ret (WX.qe (WX.qb (WX.qb (WX.qe (WX.qb (WX.qg (.inl rfl) Tryz.results99 rfl ?_))))))))))))))
         refine ⟨_, rfl, ?_, hw⟩
         congr 1
         unfold checkE
         by_cases h1 : 2000 < l.length ∨ l.any longI = true
         ·rw [if_pos h1]
          all_goals (exfalso; rcases h1 with h8 | h8; omega; rw [hno] at h8; cases h8)
         ·rw [if_neg h1]
          exfalso; apply h1; left; omega
        ·refine WL.qa rfl rfl rfl (WL.qd rfl rfl rfl (WL.qc rfl rfl rfl (WL.t (WC.qa rfl (WC.skip (WX.qc (WX.qa (WC.region (WL.move rfl rfl (WL.qe rfl rfl (by omega) rfl (WL.assign rfl rfl (WL.nil (?_)))))))))))))
         refine WX.qf (j + 1) ⟨rfl, rfl, trivial⟩ ⟨by omega, ?_, hw⟩ (by show _ - _ < _ - _; omega)
         have hx9 : okI x = true := by
          simp only [okI, decide_eq_true_eq]
          first
           |exact .inl ⟨by omega, by assumption⟩
           |exact .inr ⟨by omega, by omega⟩
         rw [List.take_add_one, hx, List.all_append, hall]
         simp [hx9]
       ·refine WL.qa rfl rfl rfl (WL.move rfl rfl (WL.pass rfl rfl rfl rfl (WL.pass rfl rfl rfl rfl (WL.pass rfl rfl rfl rfl (WL.pass rfl rfl rfl rfl (WL.pass rfl rfl rfl rfl (WL.pass rfl rfl rfl rfl (WL.qa rfl rfl rfl (WL.qc rfl rfl rfl (WL.qc rfl rfl rfl (WL.t (WC.qa rfl (WC.skip (WX.qc (WX.qa (WC.region (WL.move rfl rfl (WL.qe rfl rfl (by omega) rfl (WL.assign rfl rfl (WL.nil (?_)))))))))))))))))))))
        refine WX.qf (j + 1) ⟨rfl, rfl, trivial⟩ ⟨by omega, ?_, hw⟩ (by show _ - _ < _ - _; omega)
        have hx9 : okI x = true := by
         simp only [okI, decide_eq_true_eq]
         first
          |exact .inl ⟨by omega, by assumption⟩
          |exact .inr ⟨by omega, by omega⟩
        rw [List.take_add_one, hx, List.all_append, hall]
        simp [hx9]
     ·refine WL.qa rfl rfl rfl (WL.move rfl rfl (WL.pass rfl rfl rfl rfl (WL.pass rfl rfl rfl rfl (WL.pass rfl rfl rfl rfl (WL.pass rfl rfl rfl rfl (WL.pass rfl rfl rfl rfl (WL.pass rfl rfl rfl rfl (WL.qa rfl rfl rfl (WL.qc rfl rfl rfl (WL.qc rfl rfl rfl (WL.move rfl rfl (WL.qa rfl rfl rfl (WL.move rfl rfl (WL.qa rfl rfl rfl (WL.move rfl rfl (WL.qa rfl rfl rfl (WL.qg Tryz.underlying117 Tryz.sizeOf116 hr rfl rfl ⟨hx, rfl⟩ rfl ?_)))))))))))))))))
      intro b_3 o_3 hc_3
      refine WL.qa rfl rfl rfl (WL.fieldAddr (fld_116_0) rfl rfl (WL.qa rfl rfl rfl (WL.load Tryz.isAgg3 rfl (hc_3 _ _ rfl) rfl (WL.qa rfl rfl rfl (WL.qi rfl rfl rfl (fun h71 => ?_) (fun h71 => ?_))))))
      ·refine WL.qa rfl rfl rfl (WL.move rfl rfl (WL.qa rfl rfl rfl (WL.move rfl rfl (WL.qa rfl rfl rfl (WL.move rfl rfl (WL.qa rfl rfl rfl (WL.qg Tryz.underlying117 Tryz.sizeOf116 hr rfl rfl ⟨hx, rfl⟩ rfl ?_)))))))
       intro b_4 o_4 hc_4
       refine WL.qa rfl rfl rfl (WL.fieldAddr (fld_116_1) rfl rfl (WL.qa rfl rfl rfl (WL.load Tryz.isAgg3 rfl (hc_4 _ _ rfl) rfl (WL.qa rfl rfl rfl (WL.qo rfl rfl rfl (fun h78 => ?_) (fun h78 => ?_))))))
       ·refine WL.qa rfl rfl rfl (WL.qd rfl rfl rfl (WL.qc rfl rfl rfl (WL.t (WC.qb rfl (WC.sr (WL.assign rfl rfl (WL.t (WC.ret (WX.qe (WX.qb (WX.qb (WX.qe (WX.qb (WX.qg (.inl rfl) Tryz.results99 rfl ?_))))))))))))))
        refine ⟨_, rfl, ?_, hw⟩
        congr 1
        unfold checkE
        by_cases h1 : 2000 < l.length ∨ l.any longI = true
        ·rw [if_pos h1]
         all_goals (exfalso; rcases h1 with h8 | h8; omega; rw [hno] at h8; cases h8)
        ·rw [if_neg h1]
         exfalso; apply h1; left; omega
       ·refine WL.qa rfl rfl rfl (WL.qd rfl rfl rfl (WL.qc rfl rfl rfl (WL.t (WC.qa rfl (WC.skip (WX.qc (WX.qa (WC.region (WL.move rfl rfl (WL.qe rfl rfl (by omega) rfl (WL.assign rfl rfl (WL.nil (?_)))))))))))))
        refine WX.qf (j + 1) ⟨rfl, rfl, trivial⟩ ⟨by omega, ?_, hw⟩ (by show _ - _ < _ - _; omega)
        have hx9 : okI x = true := by
         simp only [okI, decide_eq_true_eq]
         first
          |exact .inl ⟨by omega, by assumption⟩
          |exact .inr ⟨by omega, by omega⟩
        rw [List.take_add_one, hx, List.all_append, hall]
        simp [hx9]
      ·refine WL.qa rfl rfl rfl (WL.move rfl rfl (WL.pass rfl rfl rfl rfl (WL.pass rfl rfl rfl rfl (WL.pass rfl rfl rfl rfl (WL.pass rfl rfl rfl rfl (WL.pass rfl rfl rfl rfl (WL.pass rfl rfl rfl rfl (WL.qa rfl rfl rfl (WL.qc rfl rfl rfl (WL.qc rfl rfl rfl (WL.t (WC.qa rfl (WC.skip (WX.qc (WX.qa (WC.region (WL.move rfl rfl (WL.qe rfl rfl (by omega) rfl (WL.assign rfl rfl (WL.nil (?_)))))))))))))))))))))
       refine WX.qf (j + 1) ⟨rfl, rfl, trivial⟩ ⟨by omega, ?_, hw⟩ (by show _ - _ < _ - _; omega)
       have hx9 : okI x = true := by
        simp only [okI, decide_eq_true_eq]
        first
         |exact .inl ⟨by omega, by assumption⟩
         |exact .inr ⟨by omega, by omega⟩
       rw [List.take_add_one, hx, List.all_append, hall]
       simp [hx9]
   ·refine WL.t (WC.qa rfl (WC.exit (WX.qd (WX.qd (WX.qh (WX.qa (WC.sr (WL.assign rfl rfl (WL.t (WC.ret (WX.qg (.inl rfl) Tryz.results99 rfl ?_)))))))))))
    refine ⟨_, rfl, ?_, hw⟩
    congr 1
    unfold checkE
    by_cases h1 : 2000 < l.length ∨ l.any longI = true
    ·rw [if_pos h1]
     all_goals (exfalso; rcases h1 with h8 | h8; omega; rw [hno] at h8; cases h8)
    ·rw [if_neg h1]
     by_cases hall' : l.all okI = true
     ·rw [if_pos hall']
      all_goals
       exfalso
       have h9 := List.all_eq_true.1 hall' x (List.mem_of_getElem? hx)
       simp only [okI, decide_eq_true_eq] at h9
       rcases h9 with ⟨h8, h9⟩ | ⟨h8, h9⟩
       ·first | omega | exact absurd h9 (by assumption)
       ·omega
     ·rw [if_neg hall']
      all_goals
       exfalso
       have h9 : l.length ≤ j := by omega
       rw [List.take_of_length_le h9] at hall
       exact hall' hall
end Go.Proofs.YtjeldcjchipdgaaGreatDoor
namespace Go.Proofs.YtjeldcjchipdgaaGreatDoor
open Go.RowKit Go.HL
set_option maxRecDepth 100000
def zig (n : Int) : Nat := if n < 0 then (-2 * n - 1).toNat else (2 * n).toNat
theorem zigU_zig {n : Int} (h : -9223372036854775808 ≤ n ∧ n ≤ 9223372036854775807) : (zigU n).toNat = zig n := by
 unfold zigU zig
 rw [UInt64.toNat_xor, UInt64.toNat_shiftLeft]
 have e1 : (UInt64.ofNat 1).toNat % 64 = 1 := by decide
 rw [e1, Nat.shiftLeft_eq]
 split
 ·have e2 : n / 2 ^ 63 = -1 := by omega
  have e3 : (B64 (n / 2 ^ 63)).toNat = 18446744073709551615 := by rw [e2]; decide
  have e4 : (B64 n).toNat = (n + 18446744073709551616).toNat := by simp [B64]; omega
  rw [e3, e4]
  have e5 : (n + 18446744073709551616).toNat * 2 ^ 1 % 2 ^ 64 = (2 * n + 18446744073709551616).toNat := by omega
  rw [e5]
  have hlt : (2 * n + 18446744073709551616).toNat < 2 ^ 64 := by omega
  have e6 : (2 * n + 18446744073709551616).toNat ^^^ 18446744073709551615 = 18446744073709551615 - (2 * n + 18446744073709551616).toNat := by
   have := BitVec.toNat_not (x := BitVec.ofNat 64 (2 * n + 18446744073709551616).toNat)
   rw [BitVec.toNat_ofNat, Nat.mod_eq_of_lt hlt] at this
   rw [← BitVec.xor_allOnes, BitVec.toNat_xor, BitVec.toNat_ofNat, Nat.mod_eq_of_lt hlt, BitVec.toNat_allOnes] at this
   exact this
  rw [e6]
  omega
 ·have e2 : n / 2 ^ 63 = 0 := by omega
  have e3 : (B64 (n / 2 ^ 63)).toNat = 0 := by rw [e2]; decide
  have e4 : (B64 n).toNat = n.toNat := by simp [B64]; omega
  rw [e3, e4, Nat.xor_zero]
  omega
theorem told_calls {n : Int} (w : World) (h : -9223372036854775808 ≤ n ∧ n ≤ 9223372036854775807) : Calls Tryz.prog 98 [vi n].toArray w (Ret fun v w' => (∃ u : UInt64, v = v64 u ∧ u.toNat = zig n) ∧ Chg Nob w w') := by
 have hw := Chg.refl Nob w
 refine Calls.of_WC Tryz.func98 rfl Tryz.ntmps98 (by simp) ?_
 refine WC.sr (WL.assign rfl rfl (WL.t (WC.seq (WC.sr (WL.move rfl rfl (WL.qh rfl rfl rfl (fun h4 => ?_) (fun h4 => ?_)))))))
 ·refine WL.t (WC.qb rfl (WC.sr (WL.move rfl rfl (WL.qe rfl rfl (by omega) rfl (WL.neg64 rfl (by omega) rfl (?_))))))
  refine WL.qt Tryz.underlying3 Tryz.underlying24 rfl rfl (WL.num rfl rfl (n_mul64 _ _ 2 _) rfl (WL.num rfl rfl (n_add64 _ _ _ 1) rfl (WL.assign rfl rfl (WL.t (WC.ret (WX.qb (WX.qg (.inl rfl) Tryz.results98 rfl ?_)))))))
  refine ⟨_, rfl, ⟨_, rfl, ?_⟩, hw⟩
  unfold zig
  rw [if_pos h4]
  have e4 : (B64 (-(n + 1))).toNat = (-(n + 1)).toNat := by simp [B64]; omega
  simp only [UInt64.toNat_add, UInt64.toNat_mul, e4]
  simp
  omega
 ·refine WL.t (WC.qa rfl (WC.skip (WX.qa (WC.sr (WL.move rfl rfl (WL.qt Tryz.underlying3 Tryz.underlying24 rfl rfl (WL.num rfl rfl (n_mul64 _ _ 2 _) rfl (WL.assign rfl rfl (WL.t (WC.ret (WX.qg (.inl rfl) Tryz.results98 rfl ?_)))))))))))
  refine ⟨_, rfl, ⟨_, rfl, ?_⟩, hw⟩
  unfold zig
  rw [if_neg (Int.not_lt.2 h4)]
  have e4 : (B64 n).toNat = n.toNat := by simp [B64]; omega
  simp only [UInt64.toNat_mul, e4]
  simp
  omega
theorem rcount_calls (n : UInt64) (w : World) : Calls Tryz.prog 97 [v64 n].toArray w (Ret fun v w' => v = .string ⟨(cnt n.toNat).toArray⟩ ∧ Chg Nob w w') := by
 refine Calls.of_WC Tryz.func97 rfl Tryz.ntmps97 (by simp) ?_
 refine WC.sr (WL.assign rfl rfl (WL.t (WC.sr (WL.assign rfl rfl (WL.t (WC.seq (WC.block (?_))))))))
 refine WC.loop (σ := List UInt8 × Option Addr × Nat × UInt64) (fun s => [(3, .slice s.2.1 s.1.length s.2.2.1), (0, v64 s.2.2.2)])
  (fun s w' => s.1 ++ cnt s.2.2.2.toNat = cnt n.toNat ∧ Row (w.heap.size ≤ ·) w' 5 eb s.2.1 s.2.2.1 s.1 ∧ Chg Nob w w') (fun s => s.2.2.2.toNat) ([], none, 0, n) ⟨rfl, rfl, trivial⟩ ⟨rfl, Row.nil _ _ _ _, Chg.refl _ _⟩ ?_
 rintro ⟨ys, a1, c1, m⟩ w1 ⟨he, hq, hw⟩
 dsimp only at he hq hw ⊢
 have hlen : ys.length ≤ 10 := by
  have h1 := congrArg List.length he
  have h2 := cnt_len64 n
  simp only [List.length_append] at h1
  omega
 have zw := hw.size
 refine WC.seq (WC.sr (WL.move rfl rfl (WL.za rfl rfl rfl (fun h5 => ?_) (fun h5 => ?_))))
 ·refine WL.t (WC.qb rfl (WC.skip (WX.qa (WC.block (WC.sr (WL.move rfl rfl (WL.move rfl rfl (WL.num rfl rfl (n_rem64 _ _ _ 128 (by decide)) rfl (WL.num rfl rfl (n_add64 _ _ 128 _) rfl (WL.c_u64_u8 Tryz.underlying24 Tryz.underlying5 rfl rfl (?_)))))))))))
  refine WL.build (e := eb) [(128 + m % 128).toUInt8] Tryz.underlying51 Tryz.sizeOf5 Tryz.zeroValue5 rfl rfl rfl (by simp [Value.cells] <;> rfl) (by decide) rfl ?_
  intro a_hn w_hn hn l_hn z_hn k_hn
  replace hq := hq.pure k_hn
  replace hw := hw.pure k_hn
  refine WL.append (e := eb) info_5 rfl Tryz.underlying51 rfl rfl hq (hn.rsl.src Tryz.underlying51) (by (try simp only [List.length_append, List.length_cons, List.length_nil] at *); omega) (by intro b hb; first | (apply hS; omega) | ((try dsimp only); omega)) rfl ?_
  intro a_hq2 c_hq2 w_hq2 hq2 g_hq2 n_hq2
  replace hw := hw.chg g_hq2.chg (by intros; exfalso; (try dsimp only at *); omega)
  refine WL.assign rfl rfl (WL.t (WC.region (WL.move rfl rfl (WL.num rfl rfl (n_quo64 _ _ _ 128 (by decide)) rfl (WL.assign rfl rfl (WL.nil (?_)))))))
  refine WX.qc (?_)
  have hm : (m / 128).toNat = m.toNat / 128 := by simp
  have hb : (128 + m % 128).toUInt8 = UInt8.ofNat (m.toNat % 128 + 128) := by
   apply UInt8.toNat_inj.1
   simp
   omega
  refine WX.qf (ys ++ [(128 + m % 128).toUInt8], a_hq2, c_hq2, m / 128) ⟨rfl, rfl, trivial⟩ ⟨?_, hq2, hw⟩ ?_
  ·dsimp only
   rw [← he, hm, cnt_big (n := m.toNat) (by omega), hb]
   simp
  ·show (m / 128).toNat < m.toNat
   rw [hm]; omega
 ·refine WL.t (WC.qa rfl (WC.exit (WX.qd (WX.qd (WX.qh (WX.qa (WC.sr (WL.move rfl rfl (WL.move rfl rfl (WL.c_u64_u8 Tryz.underlying24 Tryz.underlying5 rfl rfl (?_)))))))))))
  refine WL.build (e := eb) [m.toUInt8] Tryz.underlying51 Tryz.sizeOf5 Tryz.zeroValue5 rfl rfl rfl (by simp [Value.cells] <;> rfl) (by decide) rfl ?_
  intro a_hn w_hn hn l_hn z_hn k_hn
  replace hq := hq.pure k_hn
  replace hw := hw.pure k_hn
  refine WL.append (e := eb) info_5 rfl Tryz.underlying51 rfl rfl hq (hn.rsl.src Tryz.underlying51) (by (try simp only [List.length_append, List.length_cons, List.length_nil] at *); omega) (by intro b hb; first | (apply hS; omega) | ((try dsimp only); omega)) rfl ?_
  intro a_hq2 c_hq2 w_hq2 hq2 g_hq2 n_hq2
  replace hw := hw.chg g_hq2.chg (by intros; exfalso; (try dsimp only at *); omega)
  refine WL.qp Tryz.underlying51 Tryz.underlying5 Tryz.underlying9 hq2.rsl rfl rfl (WL.assign rfl rfl (WL.t (WC.ret (WX.qg (.inl rfl) Tryz.results97 rfl ?_))))
  refine ⟨_, rfl, ?_, hw⟩
  have hx : cnt n.toNat = ys ++ [m.toUInt8] := by
   rw [← he, cnt_small (by omega)]; rfl
  rw [hx]
def RIt (i : Item) : Prop := -9223372036854775808 ≤ i.n ∧ i.n ≤ 9223372036854775807
def renc1 (i : Item) : List UInt8 := if i.kind = 1 then 1 :: cnt (zig i.n) else 2 :: (cnt i.s.size ++ i.s.data.toList)
theorem renc1_eq {i : Item} (h : okI i = true) (hr : RIt i) : renc1 i = enc1 i := by
 unfold renc1 enc1
 simp only [okI, decide_eq_true_eq] at h
 split
 ·rename_i h1
  rw [zigU_zig hr, h1]
  rfl
 ·have h1 : i.kind = 2 := by omega
  rw [h1]
  rfl
theorem rencode_calls {w : World} {ao : Option Addr} {c : Nat} {l : List Item} (hr : RSl (· < w.heap.size) w eit ao c l) (hl : l.length ≤ 2000) (hok : ∀ i ∈ l, longI i = false ∧ okI i = true) (hwf : ∀ i ∈ l, RIt i) :
 Calls Tryz.prog 82 [.slice ao l.length c].toArray w (Ret fun v w' => v = .string ⟨(encAll l).toArray⟩ ∧ Chg Nob w w') := by
 refine Calls.of_WC Tryz.func82 rfl Tryz.ntmps82 (by simp) ?_
 refine WC.sr (WL.assign rfl rfl (WL.t (WC.sr (WL.assign rfl rfl (WL.t (WC.seq (WC.sr (WL.assign rfl rfl (WL.t (WC.block (?_)))))))))))
 refine WC.loop (σ := Nat × Option Addr × Nat) (fun s => [(3, .slice s.2.1 (encAll (l.take s.1)).length s.2.2), (0, .slice ao l.length c), (4, vi s.1)])
  (fun s w' => s.1 ≤ l.length ∧ Row (w.heap.size ≤ ·) w' 5 eb s.2.1 s.2.2 (encAll (l.take s.1)) ∧ Chg Nob w w' ∧ RSl (· < w.heap.size) w' eit ao c l) (fun s => l.length - s.1) (0, none, 0) ⟨rfl, rfl, rfl, trivial⟩ ⟨Nat.zero_le _, Row.nil _ _ _ _, Chg.refl _ _, hr⟩ ?_
 clear hr
 rintro ⟨i, a1, c1⟩ w2 ⟨hi, hb, hw, hr⟩
 dsimp only at hi hb hw hr ⊢
 have zw := hw.size
 have hel := encAll_len (l := l.take i) (fun j hj => hok j (List.mem_of_mem_take hj))
 have hlt := List.length_take_le i l
 refine WC.seq (WC.sr (WL.move rfl rfl (WL.move rfl rfl (WL.len Tryz.underlying117 rfl rfl (WL.qh rfl rfl rfl (fun h8 => ?_) (fun h8 => ?_))))))
 ·refine WL.t (WC.qb rfl (WC.skip (WX.qa (WC.seq (WC.block (WC.seq (WC.region (WL.move rfl rfl (WL.move rfl rfl (?_))))))))))
  obtain ⟨x, hx⟩ : ∃ x, l[i]? = some x := ⟨_, List.getElem?_eq_getElem (by omega)⟩
  have hx2 := hok x (List.mem_of_getElem? hx)
  have hxr := hwf x (List.mem_of_getElem? hx)
  have hx3 : encAll (l.take (i + 1)) = encAll (l.take i) ++ renc1 x := by rw [List.take_add_one, hx, renc1_eq hx2.2 hxr]; exact encAll_snoc _ _
  obtain ⟨bp, op, rfl⟩ := hr.place hx
  refine WL.qg Tryz.underlying117 Tryz.sizeOf116 hr rfl rfl ⟨hx, rfl⟩ rfl ?_
  intro b_1 o_1 hc_1
  refine WL.fieldAddr (fld_116_0) rfl rfl (WL.load Tryz.isAgg3 rfl (hc_1 _ _ rfl) rfl (WL.qi rfl rfl rfl (fun h16 => ?_) (fun h16 => ?_)))
  ·refine WL.t (WC.qb rfl (WC.qc (fun b => Eqb a1 b ∧ (fun b => w.heap.size ≤ b) b) [0, 3, 4, 5, 6, 7] [1, 2, 8, 9, 10, 11] mixed rfl rfl (fun wd_2 kd_2 zd_2 => ?_)))
   replace hr := hr.pure kd_2
   replace hb := hb.pure kd_2
   replace hw := hw.pure kd_2
   apply DQ.step [(3, _)] rfl ⟨rfl, trivial⟩ rfl (fun _ _ => WL.move rfl rfl  WL.q)
   apply DQ.step [(0, _)] rfl ⟨rfl, trivial⟩ rfl (fun _ _ => WL.move rfl rfl  WL.q)
   apply DQ.step [(4, _)] rfl ⟨rfl, trivial⟩ rfl (fun _ _ => WL.move rfl rfl  WL.q)
   apply DQ.step [(20, _), (21, _)] rfl ⟨rfl, rfl, trivial⟩ rfl
   ·intro wq_7 kq_7
    replace hr := hr.chg kq_7 (by intros; exfalso; (try dsimp only at *); omega)
    refine WL.qf hr Tryz.underlying117 Tryz.sizeOf116 rfl rfl ⟨hx, rfl⟩ rfl (WL.q)
   apply DQ.step [(22, _)] rfl ⟨rfl, trivial⟩ rfl (fun _ _ => WL.fieldAddr (fld_116_1) rfl rfl  WL.q)
   apply DQ.step [(23, _)] rfl ⟨rfl, trivial⟩ rfl
   ·intro wq_9 kq_9
    replace hr := hr.chg kq_9 (by intros; exfalso; (try dsimp only at *); omega)
    refine WL.load Tryz.isAgg3 rfl ((hr.cellsAt hx) _ _ rfl) rfl (WL.q)
   refine DQ.doneG (S := fun b => w.heap.size ≤ b) (a := a1) (fun hd_3 => ?_)
   refine DL.step [] rfl trivial rfl (fun wq_10 kq_10 => ?_)
   have zs_kq_10 := kq_10.size
   replace hd_3 := hd_3.pure kq_10
   replace hr := hr.pure kq_10
   replace hb := hb.pure kq_10
   replace hw := hw.pure kq_10
   refine WL.build (e := eb) [1] Tryz.underlying51 Tryz.sizeOf5 Tryz.zeroValue5 rfl rfl rfl (by simp [Value.cells] <;> rfl) (by decide) rfl ?_
   intro a_hq w_hq hq l_hq z_hq k_hq
   replace hd_3 := hd_3.pure k_hq
   replace hr := hr.pure k_hq
   replace hb := hb.pure k_hq
   replace hw := hw.pure k_hq
   refine WL.nil (WX.one ⟨hd_3.chg, ?_⟩)
   refine DL.step [(17, _), (18, _)] rfl ⟨rfl, rfl, trivial⟩ rfl (fun wq_11 kq_11 => ?_)
   have zs_kq_11 := kq_11.size
   replace hd_3 := hd_3.pure kq_11
   replace hr := hr.pure kq_11
   replace hb := hb.pure kq_11
   replace hw := hw.pure kq_11
   replace hq := hq.pure kq_11
   refine WL.append (e := eb) info_5 rfl Tryz.underlying51 rfl rfl hb (hq.rsl.src Tryz.underlying51) (by (try simp only [List.length_append, List.length_cons, List.length_nil] at *); omega) (by intro b hb; first | (apply hS; omega) | ((try dsimp only); omega)) rfl ?_
   intro a_hb2 c_hb2 w_hb2 hb2 g_hb2 n_hb2
   have z_hb2 := g_hb2.chg.size
   replace hd_3 := hd_3.trans g_hb2
   replace hr := hr.chg g_hb2.chg (by intros; exfalso; (try dsimp only at *); omega)
   replace hw := hw.chg g_hb2.chg (by intros; exfalso; (try dsimp only at *); omega)
   refine WL.nil (WX.one ⟨hd_3.chg, ?_⟩)
   refine DL.step [(24, _)] rfl ⟨rfl, trivial⟩ rfl (fun wq_12 kq_12 => ?_)
   have zs_kq_12 := kq_12.size
   replace hd_3 := hd_3.pure kq_12
   replace hr := hr.pure kq_12
   replace hw := hw.pure kq_12
   replace hb2 := hb2.pure kq_12
   refine WL.call eg_98 rfl rfl (told_calls _ hxr) ?_
   rintro v w4 ⟨⟨u, rfl, hu⟩, k4⟩
   have zs_k4 := k4.size
   replace hd_3 := hd_3.pure k4
   replace hr := hr.pure k4
   replace hw := hw.pure k4
   replace hb2 := hb2.pure k4
   refine WL.nil (WX.one ⟨hd_3.chg, ?_⟩)
   refine DL.step [(25, _)] rfl ⟨rfl, trivial⟩ rfl (fun wq_13 kq_13 => ?_)
   have zs_kq_13 := kq_13.size
   replace hd_3 := hd_3.pure kq_13
   replace hr := hr.pure kq_13
   replace hw := hw.pure kq_13
   replace hb2 := hb2.pure kq_13
   have hcl := cnt_len64 u
   refine WL.call eg_97 rfl rfl (rcount_calls u _) ?_
   rintro v w5 ⟨rfl, k5⟩
   have zs_k5 := k5.size
   replace hd_3 := hd_3.pure k5
   replace hr := hr.pure k5
   replace hw := hw.pure k5
   replace hb2 := hb2.pure k5
   refine WL.nil (WX.one ⟨hd_3.chg, ?_⟩)
   refine DL.step [(19, _), (26, _)] rfl ⟨rfl, rfl, trivial⟩ rfl (fun wq_14 kq_14 => ?_)
   have zs_kq_14 := kq_14.size
   replace hd_3 := hd_3.pure kq_14
   replace hr := hr.pure kq_14
   replace hw := hw.pure kq_14
   replace hb2 := hb2.pure kq_14
   refine WL.append (e := eb) info_5 rfl Tryz.underlying51 rfl rfl hb2 (src_string _ Tryz.underlying9) (by (try simp only [List.length_append, List.length_cons, List.length_nil] at *); omega) (by intro b hb; first | (apply hS; omega) | ((try dsimp only); omega)) rfl ?_
   intro a_hb3 c_hb3 w_hb3 hb3 g_hb3 n_hb3
   replace hd_3 := hd_3.trans g_hb3
   replace hr := hr.chg g_hb3.chg (by intros; exfalso; (try dsimp only at *); omega)
   replace hw := hw.chg g_hb3.chg (by intros; exfalso; (try dsimp only at *); omega)
   refine WL.nil (WX.one ⟨hd_3.chg, ?_⟩)
   refine DL.step [(27, _)] rfl ⟨rfl, trivial⟩ rfl (fun wq_15 kq_15 => ?_)
   replace hd_3 := hd_3.pure kq_15
   replace hr := hr.pure kq_15
   replace hw := hw.pure kq_15
   replace hb3 := hb3.pure kq_15
   refine WL.assign rfl rfl (WL.nil ?_)
   refine WX.one ⟨hd_3.chg, ?_⟩
   refine DL.done (fun we_16 ke_16 => ?_)
   replace hr := hr.pure ke_16
   replace hw := hw.pure ke_16
   replace hb3 := hb3.pure ke_16
   refine WX.qc (WX.qa (WC.region (WL.move rfl rfl (WL.qe rfl rfl (by omega) rfl (WL.assign rfl rfl (WL.nil (?_)))))))
   have h1 : encAll (l.take (i + 1)) = encAll (l.take i) ++ [1] ++ cnt u.toNat := by rw [hx3, renc1, if_pos h16, hu]; simp
   refine WX.qf (i + 1, a_hb3, c_hb3) ⟨?_, rfl, rfl, trivial⟩ ⟨by dsimp only; omega, ?_, hw, hr⟩ (by show _ - _ < _ - _; omega)
   ·dsimp only; rw [h1]; rfl
   ·dsimp only; rw [h1]; exact hb3
  ·refine WL.t (WC.qa rfl (WC.qc (fun b => Eqb a1 b ∧ (fun b => w.heap.size ≤ b) b) [0, 3, 4, 5, 6, 7, 8, 9, 12, 13, 14, 15, 16] [1, 2, 10, 11, 17, 18] mixed rfl rfl (fun wd_2 kd_2 zd_2 => ?_)))
   replace hr := hr.pure kd_2
   replace hb := hb.pure kd_2
   replace hw := hw.pure kd_2
   apply DQ.step [(3, _)] rfl ⟨rfl, trivial⟩ rfl (fun _ _ => WL.move rfl rfl  WL.q)
   apply DQ.step [(0, _)] rfl ⟨rfl, trivial⟩ rfl (fun _ _ => WL.move rfl rfl  WL.q)
   apply DQ.step [(4, _)] rfl ⟨rfl, trivial⟩ rfl (fun _ _ => WL.move rfl rfl  WL.q)
   apply DQ.step [(31, _), (32, _)] rfl ⟨rfl, rfl, trivial⟩ rfl
   ·intro wq_7 kq_7
    replace hr := hr.chg kq_7 (by intros; exfalso; (try dsimp only at *); omega)
    refine WL.qf hr Tryz.underlying117 Tryz.sizeOf116 rfl rfl ⟨hx, rfl⟩ rfl (WL.q)
   apply DQ.step [(33, _)] rfl ⟨rfl, trivial⟩ rfl (fun _ _ => WL.fieldAddr (fld_116_2) rfl rfl  WL.q)
   apply DQ.step [(34, _)] rfl ⟨rfl, trivial⟩ rfl
   ·intro wq_9 kq_9
    replace hr := hr.chg kq_9 (by intros; exfalso; (try dsimp only at *); omega)
    refine WL.load Tryz.isAgg9 rfl ((hr.cellsAt hx) _ _ rfl) rfl (WL.q)
   apply DQ.step [(35, _)] rfl ⟨rfl, trivial⟩ rfl (fun _ _ => WL.qr Tryz.underlying9 rfl rfl  WL.q)
   apply DQ.step [(36, _)] rfl ⟨rfl, trivial⟩ rfl (fun _ _ => WL.qt Tryz.underlying3 Tryz.underlying24 rfl rfl  WL.q)
   apply DQ.step [(0, _)] rfl ⟨rfl, trivial⟩ rfl (fun _ _ => WL.move rfl rfl  WL.q)
   apply DQ.step [(4, _)] rfl ⟨rfl, trivial⟩ rfl (fun _ _ => WL.move rfl rfl  WL.q)
   apply DQ.step [(40, _), (41, _)] rfl ⟨rfl, rfl, trivial⟩ rfl
   ·intro wq_14 kq_14
    replace hr := hr.chg kq_14 (by intros; exfalso; (try dsimp only at *); omega)
    refine WL.qf hr Tryz.underlying117 Tryz.sizeOf116 rfl rfl ⟨hx, rfl⟩ rfl (WL.q)
   apply DQ.step [(42, _)] rfl ⟨rfl, trivial⟩ rfl (fun _ _ => WL.fieldAddr (fld_116_2) rfl rfl  WL.q)
   apply DQ.step [(43, _)] rfl ⟨rfl, trivial⟩ rfl
   ·intro wq_16 kq_16
    replace hr := hr.chg kq_16 (by intros; exfalso; (try dsimp only at *); omega)
    refine WL.load Tryz.isAgg9 rfl ((hr.cellsAt hx) _ _ rfl) rfl (WL.q)
   refine DQ.doneG (S := fun b => w.heap.size ≤ b) (a := a1) (fun hd_3 => ?_)
   refine DL.step [] rfl trivial rfl (fun wq_17 kq_17 => ?_)
   have zs_kq_17 := kq_17.size
   replace hd_3 := hd_3.pure kq_17
   replace hr := hr.pure kq_17
   replace hb := hb.pure kq_17
   replace hw := hw.pure kq_17
   refine WL.build (e := eb) [2] Tryz.underlying51 Tryz.sizeOf5 Tryz.zeroValue5 rfl rfl rfl (by simp [Value.cells] <;> rfl) (by decide) rfl ?_
   intro a_hq w_hq hq l_hq z_hq k_hq
   replace hd_3 := hd_3.pure k_hq
   replace hr := hr.pure k_hq
   replace hb := hb.pure k_hq
   replace hw := hw.pure k_hq
   refine WL.nil (WX.one ⟨hd_3.chg, ?_⟩)
   refine DL.step [(28, _), (29, _)] rfl ⟨rfl, rfl, trivial⟩ rfl (fun wq_18 kq_18 => ?_)
   have zs_kq_18 := kq_18.size
   replace hd_3 := hd_3.pure kq_18
   replace hr := hr.pure kq_18
   replace hb := hb.pure kq_18
   replace hw := hw.pure kq_18
   replace hq := hq.pure kq_18
   refine WL.append (e := eb) info_5 rfl Tryz.underlying51 rfl rfl hb (hq.rsl.src Tryz.underlying51) (by (try simp only [List.length_append, List.length_cons, List.length_nil] at *); omega) (by intro b hb; first | (apply hS; omega) | ((try dsimp only); omega)) rfl ?_
   intro a_hb2 c_hb2 w_hb2 hb2 g_hb2 n_hb2
   have z_hb2 := g_hb2.chg.size
   replace hd_3 := hd_3.trans g_hb2
   replace hr := hr.chg g_hb2.chg (by intros; exfalso; (try dsimp only at *); omega)
   replace hw := hw.chg g_hb2.chg (by intros; exfalso; (try dsimp only at *); omega)
   refine WL.nil (WX.one ⟨hd_3.chg, ?_⟩)
   refine DL.step [(37, _)] rfl ⟨rfl, trivial⟩ rfl (fun wq_19 kq_19 => ?_)
   have zs_kq_19 := kq_19.size
   replace hd_3 := hd_3.pure kq_19
   replace hr := hr.pure kq_19
   replace hw := hw.pure kq_19
   replace hb2 := hb2.pure kq_19
   have hcl := cnt_len64 (B64 x.s.size)
   have hs4 : x.s.data.toList.length ≤ 4000 := by have h5 := hx2.1; have h6 := hx2.2; simp only [longI, okI, decide_eq_false_iff_not, decide_eq_true_eq] at h5 h6; rw [show x.s.data.toList.length = x.s.size from by simp]; omega
   refine WL.call eg_97 rfl rfl (rcount_calls (B64 x.s.size) _) ?_
   rintro v w5 ⟨rfl, k5⟩
   have zs_k5 := k5.size
   replace hd_3 := hd_3.pure k5
   replace hr := hr.pure k5
   replace hw := hw.pure k5
   replace hb2 := hb2.pure k5
   refine WL.nil (WX.one ⟨hd_3.chg, ?_⟩)
   refine DL.step [(30, _), (38, _)] rfl ⟨rfl, rfl, trivial⟩ rfl (fun wq_20 kq_20 => ?_)
   have zs_kq_20 := kq_20.size
   replace hd_3 := hd_3.pure kq_20
   replace hr := hr.pure kq_20
   replace hw := hw.pure kq_20
   replace hb2 := hb2.pure kq_20
   refine WL.append (e := eb) info_5 rfl Tryz.underlying51 rfl rfl hb2 (src_string _ Tryz.underlying9) (by (try simp only [List.length_append, List.length_cons, List.length_nil] at *); omega) (by intro b hb; first | (apply hS; omega) | ((try dsimp only); omega)) rfl ?_
   intro a_hb3 c_hb3 w_hb3 hb3 g_hb3 n_hb3
   have z_hb3 := g_hb3.chg.size
   replace hd_3 := hd_3.trans g_hb3
   replace hr := hr.chg g_hb3.chg (by intros; exfalso; (try dsimp only at *); omega)
   replace hw := hw.chg g_hb3.chg (by intros; exfalso; (try dsimp only at *); omega)
   refine WL.nil (WX.one ⟨hd_3.chg, ?_⟩)
   refine DL.step [(39, _), (44, _)] rfl ⟨rfl, rfl, trivial⟩ rfl (fun wq_21 kq_21 => ?_)
   have zs_kq_21 := kq_21.size
   replace hd_3 := hd_3.pure kq_21
   replace hr := hr.pure kq_21
   replace hw := hw.pure kq_21
   replace hb3 := hb3.pure kq_21
   refine WL.append (e := eb) info_5 rfl Tryz.underlying51 rfl rfl hb3 (src_string _ Tryz.underlying9) (by (try simp only [List.length_append, List.length_cons, List.length_nil] at *); omega) (by intro b hb; first | (apply hS; omega) | ((try dsimp only); omega)) rfl ?_
   intro a_hb4 c_hb4 w_hb4 hb4 g_hb4 n_hb4
   replace hd_3 := hd_3.trans g_hb4
   replace hr := hr.chg g_hb4.chg (by intros; exfalso; (try dsimp only at *); omega)
   replace hw := hw.chg g_hb4.chg (by intros; exfalso; (try dsimp only at *); omega)
   refine WL.nil (WX.one ⟨hd_3.chg, ?_⟩)
   refine DL.step [(45, _)] rfl ⟨rfl, trivial⟩ rfl (fun wq_22 kq_22 => ?_)
   replace hd_3 := hd_3.pure kq_22
   replace hr := hr.pure kq_22
   replace hw := hw.pure kq_22
   replace hb4 := hb4.pure kq_22
   refine WL.assign rfl rfl (WL.nil ?_)
   refine WX.one ⟨hd_3.chg, ?_⟩
   refine DL.done (fun we_23 ke_23 => ?_)
   replace hr := hr.pure ke_23
   replace hw := hw.pure ke_23
   replace hb4 := hb4.pure ke_23
   refine WX.qc (WX.qa (WC.region (WL.move rfl rfl (WL.qe rfl rfl (by omega) rfl (WL.assign rfl rfl (WL.nil (?_)))))))
   have h1 : encAll (l.take (i + 1)) = encAll (l.take i) ++ [2] ++ cnt (B64 x.s.size).toNat ++ x.s.data.toList := by
    have h5 : x.s.data.toList.length = x.s.size := by simp
    rw [hx3, renc1, if_neg h16, B64_nat (by omega)]; simp
   refine WX.qf (i + 1, a_hb4, c_hb4) ⟨?_, rfl, rfl, trivial⟩ ⟨by dsimp only; omega, ?_, hw, hr⟩ (by show _ - _ < _ - _; omega)
   ·dsimp only; rw [h1]; rfl
   ·dsimp only; rw [h1]; exact hb4
 ·refine WL.t (WC.qa rfl (WC.exit (WX.qd (WX.qd (WX.qh (WX.qa (WC.sr (WL.move rfl rfl (WL.qp Tryz.underlying51 Tryz.underlying5 Tryz.underlying9 hb.rsl rfl rfl ?_)))))))))
  refine WL.assign rfl rfl (WL.t (WC.ret (WX.qg (.inl rfl) Tryz.results82 rfl ?_)))
  refine ⟨_, rfl, ?_, hw⟩
  rw [List.take_of_length_le (by omega)]
end Go.Proofs.YtjeldcjchipdgaaGreatDoor
