import Derived.Test.YtfkaioldfmapjaaPi
namespace Go.Proofs.Ytfkaioldfmapjaa
open Go.RowKit Go.HL

/-! numbers: the document's count -/
def zig (n : Int) : Nat := if n < 0 then (-2 * n - 1).toNat else (2 * n).toNat
theorem zigU_zig {n : Int} (h : -9223372036854775808 ≤ n ∧ n ≤ 9223372036854775807) : (zigU n).toNat = zig n := by
  unfold zigU zig
  rw [UInt64.toNat_xor, UInt64.toNat_shiftLeft]
  have e1 : (UInt64.ofNat 1).toNat % 64 = 1 := by decide
  rw [e1, Nat.shiftLeft_eq]
  split
  · have e2 : n / 2 ^ 63 = -1 := by omega
    have e3 : (B64 (n / 2 ^ 63)).toNat = 18446744073709551615 := by rw [e2]; decide
    have e4 : (B64 n).toNat = (n + 18446744073709551616).toNat := by simp [B64]; omega
    rw [e3, e4]
    have e5 : (n + 18446744073709551616).toNat * 2 ^ 1 % 2 ^ 64 = (2 * n + 18446744073709551616).toNat := by omega
    rw [e5]
    have hlt : (2 * n + 18446744073709551616).toNat < 2 ^ 64 := by omega
    have e6 : (2 * n + 18446744073709551616).toNat ^^^ 18446744073709551615 = 18446744073709551615 - (2 * n + 18446744073709551616).toNat := by
      have := BitVec.toNat_not (x := BitVec.ofNat 64 (2 * n + 18446744073709551616).toNat)
      rw [BitVec.toNat_ofNat, Nat.mod_eq_of_lt hlt] at this
      rw [← BitVec.xor_allOnes, BitVec.toNat_xor, BitVec.toNat_ofNat, Nat.mod_eq_of_lt hlt, BitVec.toNat_allOnes] at this
      exact this
    rw [e6]
    omega
  · have e2 : n / 2 ^ 63 = 0 := by omega
    have e3 : (B64 (n / 2 ^ 63)).toNat = 0 := by rw [e2]; decide
    have e4 : (B64 n).toNat = n.toNat := by simp [B64]; omega
    rw [e3, e4, Nat.xor_zero]
    omega
theorem told_calls {n : Int} (w : World) (h : -9223372036854775808 ≤ n ∧ n ≤ 9223372036854775807) : Calls Try.prog 51 [vi n].toArray w (Ret fun v w' => (∃ u : UInt64, v = v64 u ∧ u.toNat = zig n) ∧ Chg Nob w w') := by
  have hw := Chg.refl Nob w
  refine Calls.of_WC Try.func51 rfl Try.ntmps51 (by simp) ?_
  refine WC.seq (WC.region (WL.assign rfl rfl (WL.nil (WX.then_normal (WC.seq (WC.seq (WC.region (?_))))))))
  refine WL.move rfl rfl (?_)
  refine WL.lss? rfl rfl rfl (fun h4 => ?_) (fun h4 => ?_)
  ·
    refine WL.nil (WX.then_normal (WC.cond_true rfl (WC.seq (WC.region (WL.move rfl rfl (WL.add64 rfl rfl (by first | omega | (constructor <;> omega)) rfl (WL.neg64 rfl (by first | omega | (constructor <;> omega)) rfl (?_))))))))
    refine WL.c_i64_u64 Try.underlying3 Try.underlying38 rfl rfl (WL.num rfl rfl (n_mul64 _ _ 2 _) rfl (WL.num rfl rfl (n_add64 _ _ _ 1) rfl (WL.assign rfl rfl (WL.nil (WX.then_normal (WC.ret (WX.then_ret (?_))))))))
    refine WX.ret1 (.inl rfl) Try.results51 rfl ?_
    refine ⟨_, rfl, ⟨_, rfl, ?_⟩, hw⟩
    unfold zig
    first
      | (rw [if_pos h4]
         have e4 : (B64 (-(n + 1))).toNat = (-(n + 1)).toNat := by simp [B64]; omega
         simp only [UInt64.toNat_add, UInt64.toNat_mul, e4]
         simp
         omega)
      | (rw [if_neg (Int.not_lt.2 h4)]
         have e4 : (B64 n).toNat = n.toNat := by simp [B64]; omega
         simp only [UInt64.toNat_mul, e4]
         simp
         omega)
  ·
    refine WL.nil (WX.then_normal (WC.cond_false rfl (WC.skip (WX.then_normal (WC.seq (WC.region (WL.move rfl rfl (?_))))))))
    refine WL.c_i64_u64 Try.underlying3 Try.underlying38 rfl rfl (WL.num rfl rfl (n_mul64 _ _ 2 _) rfl (WL.assign rfl rfl (WL.nil (WX.then_normal (WC.ret (?_))))))
    refine WX.ret1 (.inl rfl) Try.results51 rfl ?_
    refine ⟨_, rfl, ⟨_, rfl, ?_⟩, hw⟩
    unfold zig
    first
      | (rw [if_pos h4]
         have e4 : (B64 (-(n + 1))).toNat = (-(n + 1)).toNat := by simp [B64]; omega
         simp only [UInt64.toNat_add, UInt64.toNat_mul, e4]
         simp
         omega)
      | (rw [if_neg (Int.not_lt.2 h4)]
         have e4 : (B64 n).toNat = n.toNat := by simp [B64]; omega
         simp only [UInt64.toNat_mul, e4]
         simp
         omega)
theorem rcount_calls (n : UInt64) (w : World) : Calls Try.prog 50 [v64 n].toArray w (Ret fun v w' => v = .string ⟨(cnt n.toNat).toArray⟩ ∧ Chg Nob w w') := by
  refine Calls.of_WC Try.func50 rfl Try.ntmps50 (by simp) ?_
  refine WC.seq (WC.region (WL.assign rfl rfl (WL.nil (WX.then_normal (WC.seq (WC.region (WL.assign rfl rfl (?_))))))))
  refine WL.nil (WX.then_normal (WC.seq (WC.block (?_))))
  refine WC.loop (σ := List UInt8 × Option Addr × Nat × UInt64) (fun s => [(3, .slice s.2.1 s.1.length s.2.2.1), (0, v64 s.2.2.2)])
    (fun s w' => s.1 ++ cnt s.2.2.2.toNat = cnt n.toNat ∧ Row (w.heap.size ≤ ·) w' 5 eb s.2.1 s.2.2.1 s.1 ∧ Chg Nob w w') (fun s => s.2.2.2.toNat) ([], none, 0, n) ⟨rfl, rfl, trivial⟩ ⟨rfl, Row.nil _ _ _ _, Chg.refl _ _⟩ ?_
  rintro ⟨ys, a1, c1, m⟩ w1 ⟨he, hq, hw⟩
  dsimp only at he hq hw ⊢
  have hlen : ys.length ≤ 10 := by
    have h1 := congrArg List.length he
    have h2 := cnt_len64 n
    simp only [List.length_append] at h1
    omega
  have zw := hw.size
  refine WC.seq (WC.seq (WC.region (WL.move rfl rfl (?_))))
  refine WL.geq? rfl rfl rfl (fun h5 => ?_) (fun h5 => ?_)
  ·
    refine WL.nil (WX.then_normal (WC.cond_true rfl (WC.skip (WX.then_normal (WC.block (WC.seq (WC.region (?_))))))))
    refine WL.move rfl rfl (WL.move rfl rfl (WL.num rfl rfl (n_rem64 _ _ _ 128 (by decide)) rfl (WL.num rfl rfl (n_add64 _ _ 128 _) rfl (WL.c_u64_u8 Try.underlying38 Try.underlying5 rfl rfl (?_)))))
    refine WL.build (e := eb) [(128 + m % 128).toUInt8] Try.underlying24 Try.sizeOf5 Try.zeroValue5 rfl rfl rfl (by first | (simp [Value.cells]; done) | (simp [Value.cells] <;> rfl) | (simp [Value.cells, eb, ei, es, ebool, e32, e64]; done)) (by decide) rfl ?_
    intro a_hn w_hn hn l_hn z_hn k_hn
    have zs_k_hn := k_hn.size
    replace hq := hq.pure k_hn
    replace hw := hw.pure k_hn
    refine WL.append (e := eb) info_5 rfl Try.underlying24 rfl rfl hq (hn.rsl.src Try.underlying24) (by (try simp only [List.length_append, List.length_cons, List.length_nil] at *); omega) (by intro b hb; first | (apply hS; omega) | ((try dsimp only); omega)) rfl ?_
    intro a_hq2 c_hq2 w_hq2 hq2 g_hq2 n_hq2
    have z_hq2 := g_hq2.chg.size
    have zs_g_hq2_chg := g_hq2.chg.size
    replace hw := hw.chg g_hq2.chg (by first | (intro h1; have h2 : _ = _ := h1; exfalso; omega) | (intros; exfalso; (try dsimp only at *); omega) | (intro b h1 h2 h3; exfalso; have h4 := h3.2; (try dsimp only at *); omega) | (intro h1; exfalso; have h4 := h1.2; (try dsimp only at *); omega) | (intro x h1 h2; exfalso; have h4 := h2.2; (try dsimp only at *); omega))
    refine WL.assign rfl rfl (WL.nil (WX.then_normal (WC.region (WL.move rfl rfl (WL.num rfl rfl (n_quo64 _ _ _ 128 (by decide)) rfl (WL.assign rfl rfl (WL.nil (?_))))))))
    refine WX.block_normal (?_)
    have hm : (m / 128).toNat = m.toNat / 128 := by simp
    have hb : (128 + m % 128).toUInt8 = UInt8.ofNat (m.toNat % 128 + 128) := by
      apply UInt8.toNat_inj.1
      simp
      omega
    refine WX.loop_next (ys ++ [(128 + m % 128).toUInt8], a_hq2, c_hq2, m / 128) ⟨rfl, rfl, trivial⟩ ⟨?_, hq2, hw⟩ ?_
    ·
      dsimp only
      rw [← he, hm, cnt_big (n := m.toNat) (by omega), hb]
      simp
    ·
      show (m / 128).toNat < m.toNat
      rw [hm]; omega
  ·
    refine WL.nil (WX.then_normal (WC.cond_false rfl (WC.exit (WX.then_exit (WX.then_exit (WX.block_here (WX.then_normal (?_))))))))
    refine WC.seq (WC.region (WL.move rfl rfl (WL.move rfl rfl (WL.c_u64_u8 Try.underlying38 Try.underlying5 rfl rfl (?_)))))
    refine WL.build (e := eb) [m.toUInt8] Try.underlying24 Try.sizeOf5 Try.zeroValue5 rfl rfl rfl (by first | (simp [Value.cells]; done) | (simp [Value.cells] <;> rfl) | (simp [Value.cells, eb, ei, es, ebool, e32, e64]; done)) (by decide) rfl ?_
    intro a_hn w_hn hn l_hn z_hn k_hn
    have zs_k_hn := k_hn.size
    replace hq := hq.pure k_hn
    replace hw := hw.pure k_hn
    refine WL.append (e := eb) info_5 rfl Try.underlying24 rfl rfl hq (hn.rsl.src Try.underlying24) (by (try simp only [List.length_append, List.length_cons, List.length_nil] at *); omega) (by intro b hb; first | (apply hS; omega) | ((try dsimp only); omega)) rfl ?_
    intro a_hq2 c_hq2 w_hq2 hq2 g_hq2 n_hq2
    have z_hq2 := g_hq2.chg.size
    have zs_g_hq2_chg := g_hq2.chg.size
    replace hw := hw.chg g_hq2.chg (by first | (intro h1; have h2 : _ = _ := h1; exfalso; omega) | (intros; exfalso; (try dsimp only at *); omega) | (intro b h1 h2 h3; exfalso; have h4 := h3.2; (try dsimp only at *); omega) | (intro h1; exfalso; have h4 := h1.2; (try dsimp only at *); omega) | (intro x h1 h2; exfalso; have h4 := h2.2; (try dsimp only at *); omega))
    refine WL.toStr Try.underlying24 Try.underlying5 Try.underlying9 hq2.rsl rfl rfl (WL.assign rfl rfl (WL.nil (WX.then_normal (WC.ret (?_)))))
    refine WX.ret1 (.inl rfl) Try.results50 rfl ?_
    refine ⟨_, rfl, ?_, hw⟩
    have hx : cnt n.toNat = ys ++ [m.toUInt8] := by
      rw [← he, cnt_small (by omega)]; rfl
    rw [hx]
theorem cnt_size (n : Nat) : (ByteArray.mk (cnt n).toArray).data.toList = cnt n := rfl

def RIt (i : Item) : Prop := -9223372036854775808 ≤ i.n ∧ i.n ≤ 9223372036854775807
/-- the document's bytes of an item -/
def renc1 (i : Item) : List UInt8 := if i.kind = 1 then 1 :: cnt (zig i.n) else 2 :: (cnt i.s.size ++ i.s.data.toList)
theorem renc1_eq {i : Item} (h : okI i = true) (hr : RIt i) : renc1 i = enc1 i := by
  unfold renc1 enc1
  simp only [okI, decide_eq_true_eq] at h
  split
  · rename_i h1
    rw [zigU_zig hr, h1]
    rfl
  · have h1 : i.kind = 2 := by omega
    rw [h1]
    rfl
theorem rencode_calls {w : World} {ao : Option Addr} {c : Nat} {l : List Item} (hr : RSl (· < w.heap.size) w eit ao c l) (hl : l.length ≤ 2000) (hok : ∀ i ∈ l, longI i = false ∧ okI i = true) (hwf : ∀ i ∈ l, RIt i) :
    Calls Try.prog 34 [.slice ao l.length c].toArray w (Ret fun v w' => v = .string ⟨(encAll l).toArray⟩ ∧ Chg Nob w w') := by
  refine Calls.of_WC Try.func34 rfl Try.ntmps34 (by simp) ?_
  refine WC.seq (WC.region (WL.assign rfl rfl (WL.nil (WX.then_normal (WC.seq (WC.region (WL.assign rfl rfl (?_))))))))
  refine WL.nil (WX.then_normal (WC.seq (WC.seq (WC.region (WL.assign rfl rfl (WL.nil (WX.then_normal (?_))))))))
  refine WC.block (?_)
  refine WC.loop (σ := Nat × Option Addr × Nat) (fun s => [(3, .slice s.2.1 (encAll (l.take s.1)).length s.2.2), (0, .slice ao l.length c), (4, vi s.1)])
    (fun s w' => s.1 ≤ l.length ∧ Row (w.heap.size ≤ ·) w' 5 eb s.2.1 s.2.2 (encAll (l.take s.1)) ∧ Chg Nob w w' ∧ RSl (· < w.heap.size) w' eit ao c l) (fun s => l.length - s.1) (0, none, 0) ⟨rfl, rfl, rfl, trivial⟩ ⟨Nat.zero_le _, Row.nil _ _ _ _, Chg.refl _ _, hr⟩ ?_
  clear hr
  rintro ⟨i, a1, c1⟩ w2 ⟨hi, hb, hw, hr⟩
  dsimp only at hi hb hw hr ⊢
  have zw := hw.size
  have hel := encAll_len (l := l.take i) (fun j hj => hok j (List.mem_of_mem_take hj))
  have hlt := List.length_take_le i l
  refine WC.seq (WC.seq (WC.region (WL.move rfl rfl (WL.move rfl rfl (WL.len Try.underlying22 rfl rfl (?_))))))
  refine WL.lss? rfl rfl rfl (fun h8 => ?_) (fun h8 => ?_)
  ·
    refine WL.nil (WX.then_normal (WC.cond_true rfl (WC.skip (WX.then_normal (WC.seq (WC.block (WC.seq (?_))))))))
    refine WC.region (WL.move rfl rfl (WL.move rfl rfl (?_)))
    obtain ⟨x, hx⟩ : ∃ x, l[i]? = some x := ⟨_, List.getElem?_eq_getElem (by omega)⟩
    have hx2 := hok x (List.mem_of_getElem? hx)
    have hxr := hwf x (List.mem_of_getElem? hx)
    have hx3 : encAll (l.take (i + 1)) = encAll (l.take i) ++ renc1 x := by rw [List.take_add_one, hx, renc1_eq hx2.2 hxr]; exact encAll_snoc _ _
    obtain ⟨bp, op, rfl⟩ := hr.place hx
    refine WL.indexT Try.underlying22 Try.sizeOf37 hr rfl rfl ⟨hx, rfl⟩ rfl ?_
    intro b_1 o_1 hc_1
    refine WL.fieldAddr (fld_37_0) rfl rfl (WL.load Try.isAgg3 rfl (hc_1 _ _ rfl) rfl (?_))
    refine WL.eql? rfl rfl rfl (fun h16 => ?_) (fun h16 => ?_)
    ·
      refine WL.nil (WX.then_normal (WC.cond_true rfl (?_)))
      refine WC.draw (fun b => Eqb a1 b ∧ (fun b => w.heap.size ≤ b) b) [0, 3, 4, 5, 6, 7] [1, 2, 8, 9, 10, 11] mixed rfl rfl (fun wd_2 kd_2 zd_2 => ?_)
      have zs_kd_2 := kd_2.size
      replace hr := hr.pure kd_2
      replace hb := hb.pure kd_2
      replace hw := hw.pure kd_2
      apply DQ.step (E' := [(3, _)])
      case ho => rfl
      case hs => exact ⟨rfl, trivial⟩
      case hk => rfl
      case h1 =>
        intro wq_4 kq_4
        refine WL.move rfl rfl (?_)
        refine WL.nil ?_
        exact WX.one ⟨rfl, by first | exact Chg.refl _ _ | assumption⟩
      apply DQ.step (E' := [(0, _)])
      case ho => rfl
      case hs => exact ⟨rfl, trivial⟩
      case hk => rfl
      case h1 =>
        intro wq_5 kq_5
        refine WL.move rfl rfl (?_)
        refine WL.nil ?_
        exact WX.one ⟨rfl, by first | exact Chg.refl _ _ | assumption⟩
      apply DQ.step (E' := [(4, _)])
      case ho => rfl
      case hs => exact ⟨rfl, trivial⟩
      case hk => rfl
      case h1 =>
        intro wq_6 kq_6
        refine WL.move rfl rfl (?_)
        refine WL.nil ?_
        exact WX.one ⟨rfl, by first | exact Chg.refl _ _ | assumption⟩
      apply DQ.step (E' := [(20, _), (21, _)])
      case ho => rfl
      case hs => exact ⟨rfl, rfl, trivial⟩
      case hk => rfl
      case h1 =>
        intro wq_7 kq_7
        have zs_kq_7 := kq_7.size
        replace hr := hr.chg kq_7 (by first | (intro h1; have h2 : _ = _ := h1; exfalso; omega) | (intros; exfalso; (try dsimp only at *); omega) | (intro b h1 h2 h3; exfalso; have h4 := h3.2; (try dsimp only at *); omega) | (intro h1; exfalso; have h4 := h1.2; (try dsimp only at *); omega) | (intro x h1 h2; exfalso; have h4 := h2.2; (try dsimp only at *); omega))
        replace hw := hw.chg kq_7 (by first | (intro h1; have h2 : _ = _ := h1; exfalso; omega) | (intros; exfalso; (try dsimp only at *); omega) | (intro b h1 h2 h3; exfalso; have h4 := h3.2; (try dsimp only at *); omega) | (intro h1; exfalso; have h4 := h1.2; (try dsimp only at *); omega) | (intro x h1 h2; exfalso; have h4 := h2.2; (try dsimp only at *); omega))
        refine WL.indexC hr Try.underlying22 Try.sizeOf37 rfl rfl ⟨hx, rfl⟩ rfl ?_
        refine WL.nil ?_
        exact WX.one ⟨rfl, by first | exact Chg.refl _ _ | assumption⟩
      apply DQ.step (E' := [(22, _)])
      case ho => rfl
      case hs => exact ⟨rfl, trivial⟩
      case hk => rfl
      case h1 =>
        intro wq_8 kq_8
        refine WL.fieldAddr (fld_37_1) rfl rfl (?_)
        refine WL.nil ?_
        exact WX.one ⟨rfl, by first | exact Chg.refl _ _ | assumption⟩
      apply DQ.step (E' := [(23, _)])
      case ho => rfl
      case hs => exact ⟨rfl, trivial⟩
      case hk => rfl
      case h1 =>
        intro wq_9 kq_9
        have zs_kq_9 := kq_9.size
        replace hr := hr.chg kq_9 (by first | (intro h1; have h2 : _ = _ := h1; exfalso; omega) | (intros; exfalso; (try dsimp only at *); omega) | (intro b h1 h2 h3; exfalso; have h4 := h3.2; (try dsimp only at *); omega) | (intro h1; exfalso; have h4 := h1.2; (try dsimp only at *); omega) | (intro x h1 h2; exfalso; have h4 := h2.2; (try dsimp only at *); omega))
        replace hw := hw.chg kq_9 (by first | (intro h1; have h2 : _ = _ := h1; exfalso; omega) | (intros; exfalso; (try dsimp only at *); omega) | (intro b h1 h2 h3; exfalso; have h4 := h3.2; (try dsimp only at *); omega) | (intro h1; exfalso; have h4 := h1.2; (try dsimp only at *); omega) | (intro x h1 h2; exfalso; have h4 := h2.2; (try dsimp only at *); omega))
        refine WL.load Try.isAgg3 rfl ((hr.cellsAt hx) _ _ rfl) rfl (?_)
        refine WL.nil ?_
        exact WX.one ⟨rfl, by first | exact Chg.refl _ _ | assumption⟩
      refine DQ.doneG (S := fun b => w.heap.size ≤ b) (a := a1) (fun hd_3 => ?_)
      refine DL.step [] rfl trivial rfl (fun wq_10 kq_10 => ?_)
      have zs_kq_10 := kq_10.size
      replace hd_3 := hd_3.pure kq_10
      replace hr := hr.pure kq_10
      replace hb := hb.pure kq_10
      replace hw := hw.pure kq_10
      refine WL.build (e := eb) [1] Try.underlying24 Try.sizeOf5 Try.zeroValue5 rfl rfl rfl (by first | (simp [Value.cells]; done) | (simp [Value.cells] <;> rfl) | (simp [Value.cells, eb, ei, es, ebool, e32, e64]; done)) (by decide) rfl ?_
      intro a_hq w_hq hq l_hq z_hq k_hq
      have zs_k_hq := k_hq.size
      replace hd_3 := hd_3.pure k_hq
      replace hr := hr.pure k_hq
      replace hb := hb.pure k_hq
      replace hw := hw.pure k_hq
      refine WL.nil ?_
      refine WX.one ⟨hd_3.chg, ?_⟩
      refine DL.step [(17, _), (18, _)] rfl ⟨rfl, rfl, trivial⟩ rfl (fun wq_11 kq_11 => ?_)
      have zs_kq_11 := kq_11.size
      replace hd_3 := hd_3.pure kq_11
      replace hr := hr.pure kq_11
      replace hb := hb.pure kq_11
      replace hw := hw.pure kq_11
      replace hq := hq.pure kq_11
      refine WL.append (e := eb) info_5 rfl Try.underlying24 rfl rfl hb (hq.rsl.src Try.underlying24) (by (try simp only [List.length_append, List.length_cons, List.length_nil] at *); omega) (by intro b hb; first | (apply hS; omega) | ((try dsimp only); omega)) rfl ?_
      intro a_hb2 c_hb2 w_hb2 hb2 g_hb2 n_hb2
      have z_hb2 := g_hb2.chg.size
      replace hd_3 := hd_3.trans g_hb2
      have zs_g_hb2_chg := g_hb2.chg.size
      replace hr := hr.chg g_hb2.chg (by first | (intro h1; have h2 : _ = _ := h1; exfalso; omega) | (intros; exfalso; (try dsimp only at *); omega) | (intro b h1 h2 h3; exfalso; have h4 := h3.2; (try dsimp only at *); omega) | (intro h1; exfalso; have h4 := h1.2; (try dsimp only at *); omega) | (intro x h1 h2; exfalso; have h4 := h2.2; (try dsimp only at *); omega))
      replace hw := hw.chg g_hb2.chg (by first | (intro h1; have h2 : _ = _ := h1; exfalso; omega) | (intros; exfalso; (try dsimp only at *); omega) | (intro b h1 h2 h3; exfalso; have h4 := h3.2; (try dsimp only at *); omega) | (intro h1; exfalso; have h4 := h1.2; (try dsimp only at *); omega) | (intro x h1 h2; exfalso; have h4 := h2.2; (try dsimp only at *); omega))
      refine WL.nil ?_
      refine WX.one ⟨hd_3.chg, ?_⟩
      refine DL.step [(24, _)] rfl ⟨rfl, trivial⟩ rfl (fun wq_12 kq_12 => ?_)
      have zs_kq_12 := kq_12.size
      replace hd_3 := hd_3.pure kq_12
      replace hr := hr.pure kq_12
      replace hw := hw.pure kq_12
      replace hb2 := hb2.pure kq_12
      refine WL.call eg_51 rfl rfl (told_calls _ hxr) ?_
      rintro v w4 ⟨⟨u, rfl, hu⟩, k4⟩
      have zs_k4 := k4.size
      replace hd_3 := hd_3.pure k4
      replace hr := hr.pure k4
      replace hw := hw.pure k4
      replace hb2 := hb2.pure k4
      refine WL.nil ?_
      refine WX.one ⟨hd_3.chg, ?_⟩
      refine DL.step [(25, _)] rfl ⟨rfl, trivial⟩ rfl (fun wq_13 kq_13 => ?_)
      have zs_kq_13 := kq_13.size
      replace hd_3 := hd_3.pure kq_13
      replace hr := hr.pure kq_13
      replace hw := hw.pure kq_13
      replace hb2 := hb2.pure kq_13
      have hcl := cnt_len64 u
      refine WL.call eg_50 rfl rfl (rcount_calls u _) ?_
      rintro v w5 ⟨rfl, k5⟩
      have zs_k5 := k5.size
      replace hd_3 := hd_3.pure k5
      replace hr := hr.pure k5
      replace hw := hw.pure k5
      replace hb2 := hb2.pure k5
      refine WL.nil ?_
      refine WX.one ⟨hd_3.chg, ?_⟩
      refine DL.step [(19, _), (26, _)] rfl ⟨rfl, rfl, trivial⟩ rfl (fun wq_14 kq_14 => ?_)
      have zs_kq_14 := kq_14.size
      replace hd_3 := hd_3.pure kq_14
      replace hr := hr.pure kq_14
      replace hw := hw.pure kq_14
      replace hb2 := hb2.pure kq_14
      refine WL.append (e := eb) info_5 rfl Try.underlying24 rfl rfl hb2 (src_string _ Try.underlying9) (by (try simp only [List.length_append, List.length_cons, List.length_nil] at *); omega) (by intro b hb; first | (apply hS; omega) | ((try dsimp only); omega)) rfl ?_
      intro a_hb3 c_hb3 w_hb3 hb3 g_hb3 n_hb3
      have z_hb3 := g_hb3.chg.size
      replace hd_3 := hd_3.trans g_hb3
      have zs_g_hb3_chg := g_hb3.chg.size
      replace hr := hr.chg g_hb3.chg (by first | (intro h1; have h2 : _ = _ := h1; exfalso; omega) | (intros; exfalso; (try dsimp only at *); omega) | (intro b h1 h2 h3; exfalso; have h4 := h3.2; (try dsimp only at *); omega) | (intro h1; exfalso; have h4 := h1.2; (try dsimp only at *); omega) | (intro x h1 h2; exfalso; have h4 := h2.2; (try dsimp only at *); omega))
      replace hw := hw.chg g_hb3.chg (by first | (intro h1; have h2 : _ = _ := h1; exfalso; omega) | (intros; exfalso; (try dsimp only at *); omega) | (intro b h1 h2 h3; exfalso; have h4 := h3.2; (try dsimp only at *); omega) | (intro h1; exfalso; have h4 := h1.2; (try dsimp only at *); omega) | (intro x h1 h2; exfalso; have h4 := h2.2; (try dsimp only at *); omega))
      refine WL.nil ?_
      refine WX.one ⟨hd_3.chg, ?_⟩
      refine DL.step [(27, _)] rfl ⟨rfl, trivial⟩ rfl (fun wq_15 kq_15 => ?_)
      have zs_kq_15 := kq_15.size
      replace hd_3 := hd_3.pure kq_15
      replace hr := hr.pure kq_15
      replace hw := hw.pure kq_15
      replace hb3 := hb3.pure kq_15
      refine WL.assign rfl rfl (?_)
      refine WL.nil ?_
      refine WX.one ⟨hd_3.chg, ?_⟩
      refine DL.done (fun we_16 ke_16 => ?_)
      have zs_ke_16 := ke_16.size
      replace hd_3 := hd_3.pure ke_16
      replace hr := hr.pure ke_16
      replace hw := hw.pure ke_16
      replace hb3 := hb3.pure ke_16
      refine WX.block_normal (WX.then_normal (WC.region (WL.move rfl rfl (WL.add64 rfl rfl (by first | omega | (constructor <;> omega)) rfl (WL.assign rfl rfl (WL.nil (?_)))))))
      first
        | (have h1 : encAll (l.take (i + 1)) = encAll (l.take i) ++ [1] ++ cnt u.toNat := by rw [hx3, renc1, if_pos h16, hu]; simp
           refine WX.loop_next (i + 1, a_hb3, c_hb3) ⟨?_, rfl, rfl, trivial⟩ ⟨by dsimp only; omega, ?_, hw, hr⟩ (by show _ - _ < _ - _; omega)
           ·
             dsimp only; rw [h1]; rfl
           ·
             dsimp only; rw [h1]; exact hb3)
        | (have h1 : encAll (l.take (i + 1)) = encAll (l.take i) ++ [2] ++ cnt (B64 x.s.size).toNat ++ x.s.data.toList := by
             have h5 : x.s.data.toList.length = x.s.size := by simp
             rw [hx3, renc1, if_neg h16, B64_nat (by omega)]; simp
           refine WX.loop_next (i + 1, a_hb4, c_hb4) ⟨?_, rfl, rfl, trivial⟩ ⟨by dsimp only; omega, ?_, hw, hr⟩ (by show _ - _ < _ - _; omega)
           ·
             dsimp only; rw [h1]; rfl
           ·
             dsimp only; rw [h1]; exact hb4)
    ·
      refine WL.nil (WX.then_normal (WC.cond_false rfl (?_)))
      refine WC.draw (fun b => Eqb a1 b ∧ (fun b => w.heap.size ≤ b) b) [0, 3, 4, 5, 6, 7, 8, 9, 12, 13, 14, 15, 16] [1, 2, 10, 11, 17, 18] mixed rfl rfl (fun wd_2 kd_2 zd_2 => ?_)
      have zs_kd_2 := kd_2.size
      replace hr := hr.pure kd_2
      replace hb := hb.pure kd_2
      replace hw := hw.pure kd_2
      apply DQ.step (E' := [(3, _)])
      case ho => rfl
      case hs => exact ⟨rfl, trivial⟩
      case hk => rfl
      case h1 =>
        intro wq_4 kq_4
        refine WL.move rfl rfl (?_)
        refine WL.nil ?_
        exact WX.one ⟨rfl, by first | exact Chg.refl _ _ | assumption⟩
      apply DQ.step (E' := [(0, _)])
      case ho => rfl
      case hs => exact ⟨rfl, trivial⟩
      case hk => rfl
      case h1 =>
        intro wq_5 kq_5
        refine WL.move rfl rfl (?_)
        refine WL.nil ?_
        exact WX.one ⟨rfl, by first | exact Chg.refl _ _ | assumption⟩
      apply DQ.step (E' := [(4, _)])
      case ho => rfl
      case hs => exact ⟨rfl, trivial⟩
      case hk => rfl
      case h1 =>
        intro wq_6 kq_6
        refine WL.move rfl rfl (?_)
        refine WL.nil ?_
        exact WX.one ⟨rfl, by first | exact Chg.refl _ _ | assumption⟩
      apply DQ.step (E' := [(31, _), (32, _)])
      case ho => rfl
      case hs => exact ⟨rfl, rfl, trivial⟩
      case hk => rfl
      case h1 =>
        intro wq_7 kq_7
        have zs_kq_7 := kq_7.size
        replace hr := hr.chg kq_7 (by first | (intro h1; have h2 : _ = _ := h1; exfalso; omega) | (intros; exfalso; (try dsimp only at *); omega) | (intro b h1 h2 h3; exfalso; have h4 := h3.2; (try dsimp only at *); omega) | (intro h1; exfalso; have h4 := h1.2; (try dsimp only at *); omega) | (intro x h1 h2; exfalso; have h4 := h2.2; (try dsimp only at *); omega))
        replace hw := hw.chg kq_7 (by first | (intro h1; have h2 : _ = _ := h1; exfalso; omega) | (intros; exfalso; (try dsimp only at *); omega) | (intro b h1 h2 h3; exfalso; have h4 := h3.2; (try dsimp only at *); omega) | (intro h1; exfalso; have h4 := h1.2; (try dsimp only at *); omega) | (intro x h1 h2; exfalso; have h4 := h2.2; (try dsimp only at *); omega))
        refine WL.indexC hr Try.underlying22 Try.sizeOf37 rfl rfl ⟨hx, rfl⟩ rfl ?_
        refine WL.nil ?_
        exact WX.one ⟨rfl, by first | exact Chg.refl _ _ | assumption⟩
      apply DQ.step (E' := [(33, _)])
      case ho => rfl
      case hs => exact ⟨rfl, trivial⟩
      case hk => rfl
      case h1 =>
        intro wq_8 kq_8
        refine WL.fieldAddr (fld_37_2) rfl rfl (?_)
        refine WL.nil ?_
        exact WX.one ⟨rfl, by first | exact Chg.refl _ _ | assumption⟩
      apply DQ.step (E' := [(34, _)])
      case ho => rfl
      case hs => exact ⟨rfl, trivial⟩
      case hk => rfl
      case h1 =>
        intro wq_9 kq_9
        have zs_kq_9 := kq_9.size
        replace hr := hr.chg kq_9 (by first | (intro h1; have h2 : _ = _ := h1; exfalso; omega) | (intros; exfalso; (try dsimp only at *); omega) | (intro b h1 h2 h3; exfalso; have h4 := h3.2; (try dsimp only at *); omega) | (intro h1; exfalso; have h4 := h1.2; (try dsimp only at *); omega) | (intro x h1 h2; exfalso; have h4 := h2.2; (try dsimp only at *); omega))
        replace hw := hw.chg kq_9 (by first | (intro h1; have h2 : _ = _ := h1; exfalso; omega) | (intros; exfalso; (try dsimp only at *); omega) | (intro b h1 h2 h3; exfalso; have h4 := h3.2; (try dsimp only at *); omega) | (intro h1; exfalso; have h4 := h1.2; (try dsimp only at *); omega) | (intro x h1 h2; exfalso; have h4 := h2.2; (try dsimp only at *); omega))
        refine WL.load Try.isAgg9 rfl ((hr.cellsAt hx) _ _ rfl) rfl (?_)
        refine WL.nil ?_
        exact WX.one ⟨rfl, by first | exact Chg.refl _ _ | assumption⟩
      apply DQ.step (E' := [(35, _)])
      case ho => rfl
      case hs => exact ⟨rfl, trivial⟩
      case hk => rfl
      case h1 =>
        intro wq_10 kq_10
        have zs_kq_10 := kq_10.size
        replace hr := hr.chg kq_10 (by first | (intro h1; have h2 : _ = _ := h1; exfalso; omega) | (intros; exfalso; (try dsimp only at *); omega) | (intro b h1 h2 h3; exfalso; have h4 := h3.2; (try dsimp only at *); omega) | (intro h1; exfalso; have h4 := h1.2; (try dsimp only at *); omega) | (intro x h1 h2; exfalso; have h4 := h2.2; (try dsimp only at *); omega))
        replace hw := hw.chg kq_10 (by first | (intro h1; have h2 : _ = _ := h1; exfalso; omega) | (intros; exfalso; (try dsimp only at *); omega) | (intro b h1 h2 h3; exfalso; have h4 := h3.2; (try dsimp only at *); omega) | (intro h1; exfalso; have h4 := h1.2; (try dsimp only at *); omega) | (intro x h1 h2; exfalso; have h4 := h2.2; (try dsimp only at *); omega))
        refine WL.lens Try.underlying9 rfl rfl (?_)
        refine WL.nil ?_
        exact WX.one ⟨rfl, by first | exact Chg.refl _ _ | assumption⟩
      apply DQ.step (E' := [(36, _)])
      case ho => rfl
      case hs => exact ⟨rfl, trivial⟩
      case hk => rfl
      case h1 =>
        intro wq_11 kq_11
        have zs_kq_11 := kq_11.size
        replace hr := hr.chg kq_11 (by first | (intro h1; have h2 : _ = _ := h1; exfalso; omega) | (intros; exfalso; (try dsimp only at *); omega) | (intro b h1 h2 h3; exfalso; have h4 := h3.2; (try dsimp only at *); omega) | (intro h1; exfalso; have h4 := h1.2; (try dsimp only at *); omega) | (intro x h1 h2; exfalso; have h4 := h2.2; (try dsimp only at *); omega))
        replace hw := hw.chg kq_11 (by first | (intro h1; have h2 : _ = _ := h1; exfalso; omega) | (intros; exfalso; (try dsimp only at *); omega) | (intro b h1 h2 h3; exfalso; have h4 := h3.2; (try dsimp only at *); omega) | (intro h1; exfalso; have h4 := h1.2; (try dsimp only at *); omega) | (intro x h1 h2; exfalso; have h4 := h2.2; (try dsimp only at *); omega))
        refine WL.c_i64_u64 Try.underlying3 Try.underlying38 rfl rfl (?_)
        refine WL.nil ?_
        exact WX.one ⟨rfl, by first | exact Chg.refl _ _ | assumption⟩
      apply DQ.step (E' := [(0, _)])
      case ho => rfl
      case hs => exact ⟨rfl, trivial⟩
      case hk => rfl
      case h1 =>
        intro wq_12 kq_12
        refine WL.move rfl rfl (?_)
        refine WL.nil ?_
        exact WX.one ⟨rfl, by first | exact Chg.refl _ _ | assumption⟩
      apply DQ.step (E' := [(4, _)])
      case ho => rfl
      case hs => exact ⟨rfl, trivial⟩
      case hk => rfl
      case h1 =>
        intro wq_13 kq_13
        refine WL.move rfl rfl (?_)
        refine WL.nil ?_
        exact WX.one ⟨rfl, by first | exact Chg.refl _ _ | assumption⟩
      apply DQ.step (E' := [(40, _), (41, _)])
      case ho => rfl
      case hs => exact ⟨rfl, rfl, trivial⟩
      case hk => rfl
      case h1 =>
        intro wq_14 kq_14
        have zs_kq_14 := kq_14.size
        replace hr := hr.chg kq_14 (by first | (intro h1; have h2 : _ = _ := h1; exfalso; omega) | (intros; exfalso; (try dsimp only at *); omega) | (intro b h1 h2 h3; exfalso; have h4 := h3.2; (try dsimp only at *); omega) | (intro h1; exfalso; have h4 := h1.2; (try dsimp only at *); omega) | (intro x h1 h2; exfalso; have h4 := h2.2; (try dsimp only at *); omega))
        replace hw := hw.chg kq_14 (by first | (intro h1; have h2 : _ = _ := h1; exfalso; omega) | (intros; exfalso; (try dsimp only at *); omega) | (intro b h1 h2 h3; exfalso; have h4 := h3.2; (try dsimp only at *); omega) | (intro h1; exfalso; have h4 := h1.2; (try dsimp only at *); omega) | (intro x h1 h2; exfalso; have h4 := h2.2; (try dsimp only at *); omega))
        refine WL.indexC hr Try.underlying22 Try.sizeOf37 rfl rfl ⟨hx, rfl⟩ rfl ?_
        refine WL.nil ?_
        exact WX.one ⟨rfl, by first | exact Chg.refl _ _ | assumption⟩
      apply DQ.step (E' := [(42, _)])
      case ho => rfl
      case hs => exact ⟨rfl, trivial⟩
      case hk => rfl
      case h1 =>
        intro wq_15 kq_15
        refine WL.fieldAddr (fld_37_2) rfl rfl (?_)
        refine WL.nil ?_
        exact WX.one ⟨rfl, by first | exact Chg.refl _ _ | assumption⟩
      apply DQ.step (E' := [(43, _)])
      case ho => rfl
      case hs => exact ⟨rfl, trivial⟩
      case hk => rfl
      case h1 =>
        intro wq_16 kq_16
        have zs_kq_16 := kq_16.size
        replace hr := hr.chg kq_16 (by first | (intro h1; have h2 : _ = _ := h1; exfalso; omega) | (intros; exfalso; (try dsimp only at *); omega) | (intro b h1 h2 h3; exfalso; have h4 := h3.2; (try dsimp only at *); omega) | (intro h1; exfalso; have h4 := h1.2; (try dsimp only at *); omega) | (intro x h1 h2; exfalso; have h4 := h2.2; (try dsimp only at *); omega))
        replace hw := hw.chg kq_16 (by first | (intro h1; have h2 : _ = _ := h1; exfalso; omega) | (intros; exfalso; (try dsimp only at *); omega) | (intro b h1 h2 h3; exfalso; have h4 := h3.2; (try dsimp only at *); omega) | (intro h1; exfalso; have h4 := h1.2; (try dsimp only at *); omega) | (intro x h1 h2; exfalso; have h4 := h2.2; (try dsimp only at *); omega))
        refine WL.load Try.isAgg9 rfl ((hr.cellsAt hx) _ _ rfl) rfl (?_)
        refine WL.nil ?_
        exact WX.one ⟨rfl, by first | exact Chg.refl _ _ | assumption⟩
      refine DQ.doneG (S := fun b => w.heap.size ≤ b) (a := a1) (fun hd_3 => ?_)
      refine DL.step [] rfl trivial rfl (fun wq_17 kq_17 => ?_)
      have zs_kq_17 := kq_17.size
      replace hd_3 := hd_3.pure kq_17
      replace hr := hr.pure kq_17
      replace hb := hb.pure kq_17
      replace hw := hw.pure kq_17
      refine WL.build (e := eb) [2] Try.underlying24 Try.sizeOf5 Try.zeroValue5 rfl rfl rfl (by first | (simp [Value.cells]; done) | (simp [Value.cells] <;> rfl) | (simp [Value.cells, eb, ei, es, ebool, e32, e64]; done)) (by decide) rfl ?_
      intro a_hq w_hq hq l_hq z_hq k_hq
      have zs_k_hq := k_hq.size
      replace hd_3 := hd_3.pure k_hq
      replace hr := hr.pure k_hq
      replace hb := hb.pure k_hq
      replace hw := hw.pure k_hq
      refine WL.nil ?_
      refine WX.one ⟨hd_3.chg, ?_⟩
      refine DL.step [(28, _), (29, _)] rfl ⟨rfl, rfl, trivial⟩ rfl (fun wq_18 kq_18 => ?_)
      have zs_kq_18 := kq_18.size
      replace hd_3 := hd_3.pure kq_18
      replace hr := hr.pure kq_18
      replace hb := hb.pure kq_18
      replace hw := hw.pure kq_18
      replace hq := hq.pure kq_18
      refine WL.append (e := eb) info_5 rfl Try.underlying24 rfl rfl hb (hq.rsl.src Try.underlying24) (by (try simp only [List.length_append, List.length_cons, List.length_nil] at *); omega) (by intro b hb; first | (apply hS; omega) | ((try dsimp only); omega)) rfl ?_
      intro a_hb2 c_hb2 w_hb2 hb2 g_hb2 n_hb2
      have z_hb2 := g_hb2.chg.size
      replace hd_3 := hd_3.trans g_hb2
      have zs_g_hb2_chg := g_hb2.chg.size
      replace hr := hr.chg g_hb2.chg (by first | (intro h1; have h2 : _ = _ := h1; exfalso; omega) | (intros; exfalso; (try dsimp only at *); omega) | (intro b h1 h2 h3; exfalso; have h4 := h3.2; (try dsimp only at *); omega) | (intro h1; exfalso; have h4 := h1.2; (try dsimp only at *); omega) | (intro x h1 h2; exfalso; have h4 := h2.2; (try dsimp only at *); omega))
      replace hw := hw.chg g_hb2.chg (by first | (intro h1; have h2 : _ = _ := h1; exfalso; omega) | (intros; exfalso; (try dsimp only at *); omega) | (intro b h1 h2 h3; exfalso; have h4 := h3.2; (try dsimp only at *); omega) | (intro h1; exfalso; have h4 := h1.2; (try dsimp only at *); omega) | (intro x h1 h2; exfalso; have h4 := h2.2; (try dsimp only at *); omega))
      refine WL.nil ?_
      refine WX.one ⟨hd_3.chg, ?_⟩
      refine DL.step [(37, _)] rfl ⟨rfl, trivial⟩ rfl (fun wq_19 kq_19 => ?_)
      have zs_kq_19 := kq_19.size
      replace hd_3 := hd_3.pure kq_19
      replace hr := hr.pure kq_19
      replace hw := hw.pure kq_19
      replace hb2 := hb2.pure kq_19
      have hcl := cnt_len64 (B64 x.s.size)
      have hs4 : x.s.data.toList.length ≤ 4000 := by have h5 := hx2.1; have h6 := hx2.2; simp only [longI, okI, decide_eq_false_iff_not, decide_eq_true_eq] at h5 h6; rw [show x.s.data.toList.length = x.s.size from by simp]; omega
      refine WL.call eg_50 rfl rfl (rcount_calls (B64 x.s.size) _) ?_
      rintro v w5 ⟨rfl, k5⟩
      have zs_k5 := k5.size
      replace hd_3 := hd_3.pure k5
      replace hr := hr.pure k5
      replace hw := hw.pure k5
      replace hb2 := hb2.pure k5
      refine WL.nil ?_
      refine WX.one ⟨hd_3.chg, ?_⟩
      refine DL.step [(30, _), (38, _)] rfl ⟨rfl, rfl, trivial⟩ rfl (fun wq_20 kq_20 => ?_)
      have zs_kq_20 := kq_20.size
      replace hd_3 := hd_3.pure kq_20
      replace hr := hr.pure kq_20
      replace hw := hw.pure kq_20
      replace hb2 := hb2.pure kq_20
      refine WL.append (e := eb) info_5 rfl Try.underlying24 rfl rfl hb2 (src_string _ Try.underlying9) (by (try simp only [List.length_append, List.length_cons, List.length_nil] at *); omega) (by intro b hb; first | (apply hS; omega) | ((try dsimp only); omega)) rfl ?_
      intro a_hb3 c_hb3 w_hb3 hb3 g_hb3 n_hb3
      have z_hb3 := g_hb3.chg.size
      replace hd_3 := hd_3.trans g_hb3
      have zs_g_hb3_chg := g_hb3.chg.size
      replace hr := hr.chg g_hb3.chg (by first | (intro h1; have h2 : _ = _ := h1; exfalso; omega) | (intros; exfalso; (try dsimp only at *); omega) | (intro b h1 h2 h3; exfalso; have h4 := h3.2; (try dsimp only at *); omega) | (intro h1; exfalso; have h4 := h1.2; (try dsimp only at *); omega) | (intro x h1 h2; exfalso; have h4 := h2.2; (try dsimp only at *); omega))
      replace hw := hw.chg g_hb3.chg (by first | (intro h1; have h2 : _ = _ := h1; exfalso; omega) | (intros; exfalso; (try dsimp only at *); omega) | (intro b h1 h2 h3; exfalso; have h4 := h3.2; (try dsimp only at *); omega) | (intro h1; exfalso; have h4 := h1.2; (try dsimp only at *); omega) | (intro x h1 h2; exfalso; have h4 := h2.2; (try dsimp only at *); omega))
      refine WL.nil ?_
      refine WX.one ⟨hd_3.chg, ?_⟩
      refine DL.step [(39, _), (44, _)] rfl ⟨rfl, rfl, trivial⟩ rfl (fun wq_21 kq_21 => ?_)
      have zs_kq_21 := kq_21.size
      replace hd_3 := hd_3.pure kq_21
      replace hr := hr.pure kq_21
      replace hw := hw.pure kq_21
      replace hb3 := hb3.pure kq_21
      refine WL.append (e := eb) info_5 rfl Try.underlying24 rfl rfl hb3 (src_string _ Try.underlying9) (by (try simp only [List.length_append, List.length_cons, List.length_nil] at *); omega) (by intro b hb; first | (apply hS; omega) | ((try dsimp only); omega)) rfl ?_
      intro a_hb4 c_hb4 w_hb4 hb4 g_hb4 n_hb4
      have z_hb4 := g_hb4.chg.size
      replace hd_3 := hd_3.trans g_hb4
      have zs_g_hb4_chg := g_hb4.chg.size
      replace hr := hr.chg g_hb4.chg (by first | (intro h1; have h2 : _ = _ := h1; exfalso; omega) | (intros; exfalso; (try dsimp only at *); omega) | (intro b h1 h2 h3; exfalso; have h4 := h3.2; (try dsimp only at *); omega) | (intro h1; exfalso; have h4 := h1.2; (try dsimp only at *); omega) | (intro x h1 h2; exfalso; have h4 := h2.2; (try dsimp only at *); omega))
      replace hw := hw.chg g_hb4.chg (by first | (intro h1; have h2 : _ = _ := h1; exfalso; omega) | (intros; exfalso; (try dsimp only at *); omega) | (intro b h1 h2 h3; exfalso; have h4 := h3.2; (try dsimp only at *); omega) | (intro h1; exfalso; have h4 := h1.2; (try dsimp only at *); omega) | (intro x h1 h2; exfalso; have h4 := h2.2; (try dsimp only at *); omega))
      refine WL.nil ?_
      refine WX.one ⟨hd_3.chg, ?_⟩
      refine DL.step [(45, _)] rfl ⟨rfl, trivial⟩ rfl (fun wq_22 kq_22 => ?_)
      have zs_kq_22 := kq_22.size
      replace hd_3 := hd_3.pure kq_22
      replace hr := hr.pure kq_22
      replace hw := hw.pure kq_22
      replace hb4 := hb4.pure kq_22
      refine WL.assign rfl rfl (?_)
      refine WL.nil ?_
      refine WX.one ⟨hd_3.chg, ?_⟩
      refine DL.done (fun we_23 ke_23 => ?_)
      have zs_ke_23 := ke_23.size
      replace hd_3 := hd_3.pure ke_23
      replace hr := hr.pure ke_23
      replace hw := hw.pure ke_23
      replace hb4 := hb4.pure ke_23
      refine WX.block_normal (WX.then_normal (WC.region (WL.move rfl rfl (WL.add64 rfl rfl (by first | omega | (constructor <;> omega)) rfl (WL.assign rfl rfl (WL.nil (?_)))))))
      first
        | (have h1 : encAll (l.take (i + 1)) = encAll (l.take i) ++ [1] ++ cnt u.toNat := by rw [hx3, renc1, if_pos h16, hu]; simp
           refine WX.loop_next (i + 1, a_hb3, c_hb3) ⟨?_, rfl, rfl, trivial⟩ ⟨by dsimp only; omega, ?_, hw, hr⟩ (by show _ - _ < _ - _; omega)
           ·
             dsimp only; rw [h1]; rfl
           ·
             dsimp only; rw [h1]; exact hb3)
        | (have h1 : encAll (l.take (i + 1)) = encAll (l.take i) ++ [2] ++ cnt (B64 x.s.size).toNat ++ x.s.data.toList := by
             have h5 : x.s.data.toList.length = x.s.size := by simp
             rw [hx3, renc1, if_neg h16, B64_nat (by omega)]; simp
           refine WX.loop_next (i + 1, a_hb4, c_hb4) ⟨?_, rfl, rfl, trivial⟩ ⟨by dsimp only; omega, ?_, hw, hr⟩ (by show _ - _ < _ - _; omega)
           ·
             dsimp only; rw [h1]; rfl
           ·
             dsimp only; rw [h1]; exact hb4)
  ·
    refine WL.nil (WX.then_normal (WC.cond_false rfl (WC.exit (WX.then_exit (WX.then_exit (WX.block_here (WX.then_normal (?_))))))))
    refine WC.seq (WC.region (WL.move rfl rfl (?_)))
    refine WL.toStr Try.underlying24 Try.underlying5 Try.underlying9 hb.rsl rfl rfl ?_
    refine WL.assign rfl rfl (WL.nil (WX.then_normal (WC.ret (?_))))
    refine WX.ret1 (.inl rfl) Try.results34 rfl ?_
    refine ⟨_, rfl, ?_, hw⟩
    rw [List.take_of_length_le (by omega)]
end Go.Proofs.Ytfkaioldfmapjaa
