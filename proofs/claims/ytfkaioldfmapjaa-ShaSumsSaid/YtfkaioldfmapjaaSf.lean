import Derived.Test.YtfkaioldfmapjaaSe
import Derived.Test.YtfkaioldfmapjaaHn
namespace Go.Proofs.Ytfkaioldfmapjaa
open Go.RowKit Go.HL

/-! digits -/
def HEX : List UInt8 := [48, 49, 50, 51, 52, 53, 54, 55, 56, 57, 97, 98, 99, 100, 101, 102]
def hexd (n : UInt8) : UInt8 := HEX.getD n.toNat 0
def hex2 (x : UInt8) : List UInt8 := [hexd (x >>> UInt8.ofNat 4), hexd (x &&& 15)]
theorem hexd_at {n : UInt8} (h : n.toNat < 16) : HEX[n.toNat]? = some (hexd n) := by
  rw [hexd, List.getD_eq_getElem?_getD, List.getElem?_eq_getElem (by exact h)]
  rfl
theorem hex_bound (x : UInt8) : (x >>> UInt8.ofNat 4).toNat < 16 ∧ (x &&& 15).toNat < 16 := by
  have h : ∀ n : Fin 256, (UInt8.ofNat n.1 >>> UInt8.ofNat 4).toNat < 16 ∧ (UInt8.ofNat n.1 &&& 15).toNat < 16 := by decide +kernel
  have := h ⟨x.toNat, x.toNat_lt⟩
  simpa using this
def digR (s : ByteArray) : ByteArray × Int := if s.size = 32 then (⟨(s.data.toList.flatMap hex2).toArray⟩, 0) else (ByteArray.empty, 1)
theorem flat2_len (l : List UInt8) : (l.flatMap hex2).length = 2 * l.length := by
  induction l with
  | nil => rfl
  | cons x r ih => simp [hex2] at ih ⊢; omega
set_option maxHeartbeats 1000000 in
theorem digits_calls (s : ByteArray) (w : World) : Calls Try.prog 21 [.string s].toArray w (Ret fun v w' => v = .tuple #[.string (digR s).1, vi (digR s).2] ∧ Chg Nob w w') := by
  have hw := Chg.refl Nob w
  have hsz : s.data.toList.length = s.size := by simp
  refine Calls.of_WC Try.func21 rfl Try.ntmps21 (by simp) ?_
  refine WC.seq (WC.region (WL.assign rfl rfl (WL.assign rfl rfl (WL.nil (WX.then_normal (WC.seq (WC.seq (?_))))))))
  refine WC.region (WL.move rfl rfl (WL.lens Try.underlying9 rfl rfl (?_)))
  refine WL.neq? rfl rfl rfl (fun h8 => ?_) (fun h8 => ?_)
  ·
    refine WL.nil (WX.then_normal (WC.cond_true rfl (WC.seq (WC.region (WL.assign rfl rfl (WL.assign rfl rfl (WL.nil (?_))))))))
    refine WX.then_normal (WC.ret (WX.then_ret (?_)))
    refine WX.ret2 (.inl rfl) Try.results21 rfl rfl ?_
    first
      | (have h32 : s.size = 32 := by omega
         refine ⟨_, rfl, ?_, hw⟩
         rw [digR, if_pos h32]
         have hi2 : i = s.data.toList.length := by omega
         rw [hi2, List.take_length])
      | (refine ⟨_, rfl, ?_, hw⟩
         rw [digR, if_neg (by omega)]
         rfl)
  ·
    refine WL.nil (WX.then_normal (WC.cond_false rfl (WC.skip (WX.then_normal (WC.seq (WC.region (WL.assign rfl rfl (?_))))))))
    refine WL.nil (WX.then_normal (WC.seq (WC.seq (WC.region (WL.move rfl rfl (WL.lens Try.underlying9 rfl rfl (WL.move rfl rfl (?_))))))))
    refine WL.nil (WX.then_normal (WC.block (?_)))
    refine WC.loop (σ := Nat × Option Addr × Nat) (fun q => [(0, .string s), (4, .slice q.2.1 ((s.data.toList.take q.1).flatMap hex2).length q.2.2), (10, vi s.size), (11, vi q.1)])
      (fun q w' => q.1 ≤ s.size ∧ Row (w.heap.size ≤ ·) w' 5 eb q.2.1 q.2.2 ((s.data.toList.take q.1).flatMap hex2) ∧ Chg Nob w w') (fun q => s.size - q.1) (0, none, 0) ⟨rfl, rfl, rfl, rfl, trivial⟩ ⟨Nat.zero_le _, Row.nil _ _ _ _, hw⟩ ?_
    clear hw
    rintro ⟨i, ai, ci⟩ w8 ⟨hi, hq, hw⟩
    dsimp only at hi hq hw ⊢
    have zw := hw.size
    have hlen : ((s.data.toList.take i).flatMap hex2).length = 2 * i := by rw [flat2_len]; simp; omega
    refine WC.seq (WC.region (?_))
    refine WL.lss? rfl rfl rfl (fun h12 => ?_) (fun h12 => ?_)
    ·
      refine WL.nil (WX.then_normal (WC.seq (WC.cond_true rfl (WC.skip (WX.then_normal (WC.seq (WC.block (?_))))))))
      refine WC.seq (WC.region (WL.move rfl rfl (WL.assign rfl rfl (WL.nil (WX.then_normal (?_))))))
      obtain ⟨x, hx⟩ : ∃ x, s.data.toList[i]? = some x := ⟨_, List.getElem?_eq_getElem (by omega)⟩
      have hxb := hex_bound x
      refine WC.draw (fun b => Eqb ai b ∧ (fun b => w.heap.size ≤ b) b) [0, 1, 2, 3, 4, 5, 6, 7, 8, 9, 10] [11, 12, 13] mixed rfl rfl (fun wd_1 kd_1 zd_1 => ?_)
      have zs_kd_1 := kd_1.size
      replace hq := hq.pure kd_1
      replace hw := hw.pure kd_1
      apply DQ.step (E' := [(4, _)])
      case ho => rfl
      case hs => exact ⟨rfl, trivial⟩
      case hk => rfl
      case h1 =>
        intro wq_3 kq_3
        refine WL.move rfl rfl (?_)
        refine WL.nil ?_
        exact WX.one ⟨rfl, by first | exact Chg.refl _ _ | assumption⟩
      apply DQ.step (E' := [(0, _)])
      case ho => rfl
      case hs => exact ⟨rfl, trivial⟩
      case hk => rfl
      case h1 =>
        intro wq_4 kq_4
        refine WL.move rfl rfl (?_)
        refine WL.nil ?_
        exact WX.one ⟨rfl, by first | exact Chg.refl _ _ | assumption⟩
      apply DQ.step (E' := [(5, _)])
      case ho => rfl
      case hs => exact ⟨rfl, trivial⟩
      case hk => rfl
      case h1 =>
        intro wq_5 kq_5
        refine WL.move rfl rfl (?_)
        refine WL.nil ?_
        exact WX.one ⟨rfl, by first | exact Chg.refl _ _ | assumption⟩
      apply DQ.step (E' := [(15, _), (16, _)])
      case ho => rfl
      case hs => exact ⟨rfl, rfl, trivial⟩
      case hk => rfl
      case h1 =>
        intro wq_6 kq_6
        have zs_kq_6 := kq_6.size
        replace hw := hw.chg kq_6 (by first | (intro x h1 h2; exact h2) | (intro x h1 h2; have h3 : _ = _ := h2; exfalso; omega) | (intro b h1 h2 h3; have h4 : _ = _ := h3; (try dsimp only at h2); exfalso; omega) | (intro h1; have h2 : _ = _ := h1; exfalso; omega) | (intros; exfalso; (try dsimp only at *); omega) | (intro b h1 h2 h3; exfalso; have h4 := h3.2; (try dsimp only at *); omega) | (intro h1; exfalso; have h4 := h1.2; (try dsimp only at *); omega) | (intro x h1 h2; exfalso; have h4 := h2.2; (try dsimp only at *); omega) | (intro x h1 h2; exact h2.1))
        refine WL.sindex Try.underlying9 rfl rfl _ rfl _ hx rfl ?_
        refine WL.nil ?_
        exact WX.one ⟨rfl, by first | exact Chg.refl _ _ | assumption⟩
      apply DQ.step (E' := [(17, _)])
      case ho => rfl
      case hs => exact ⟨rfl, trivial⟩
      case hk => rfl
      case h1 =>
        intro wq_7 kq_7
        refine WL.num rfl rfl (n_shr8 _ _ _ _ 4 (by decide)) rfl (?_)
        refine WL.nil ?_
        exact WX.one ⟨rfl, by first | exact Chg.refl _ _ | assumption⟩
      apply DQ.step (E' := [(18, _)])
      case ho => rfl
      case hs => exact ⟨rfl, trivial⟩
      case hk => rfl
      case h1 =>
        intro wq_8 kq_8
        have zs_kq_8 := kq_8.size
        replace hw := hw.chg kq_8 (by first | (intro x h1 h2; exact h2) | (intro x h1 h2; have h3 : _ = _ := h2; exfalso; omega) | (intro b h1 h2 h3; have h4 : _ = _ := h3; (try dsimp only at h2); exfalso; omega) | (intro h1; have h2 : _ = _ := h1; exfalso; omega) | (intros; exfalso; (try dsimp only at *); omega) | (intro b h1 h2 h3; exfalso; have h4 := h3.2; (try dsimp only at *); omega) | (intro h1; exfalso; have h4 := h1.2; (try dsimp only at *); omega) | (intro x h1 h2; exfalso; have h4 := h2.2; (try dsimp only at *); omega) | (intro x h1 h2; exact h2.1))
        refine WL.sindex Try.underlying9 rfl rfl _ rfl _ (hexd_at hxb.1) rfl ?_
        refine WL.nil ?_
        exact WX.one ⟨rfl, by first | exact Chg.refl _ _ | assumption⟩
      apply DQ.step (E' := [(0, _)])
      case ho => rfl
      case hs => exact ⟨rfl, trivial⟩
      case hk => rfl
      case h1 =>
        intro wq_9 kq_9
        refine WL.move rfl rfl (?_)
        refine WL.nil ?_
        exact WX.one ⟨rfl, by first | exact Chg.refl _ _ | assumption⟩
      apply DQ.step (E' := [(5, _)])
      case ho => rfl
      case hs => exact ⟨rfl, trivial⟩
      case hk => rfl
      case h1 =>
        intro wq_10 kq_10
        refine WL.move rfl rfl (?_)
        refine WL.nil ?_
        exact WX.one ⟨rfl, by first | exact Chg.refl _ _ | assumption⟩
      apply DQ.step (E' := [(20, _), (21, _)])
      case ho => rfl
      case hs => exact ⟨rfl, rfl, trivial⟩
      case hk => rfl
      case h1 =>
        intro wq_11 kq_11
        have zs_kq_11 := kq_11.size
        replace hw := hw.chg kq_11 (by first | (intro x h1 h2; exact h2) | (intro x h1 h2; have h3 : _ = _ := h2; exfalso; omega) | (intro b h1 h2 h3; have h4 : _ = _ := h3; (try dsimp only at h2); exfalso; omega) | (intro h1; have h2 : _ = _ := h1; exfalso; omega) | (intros; exfalso; (try dsimp only at *); omega) | (intro b h1 h2 h3; exfalso; have h4 := h3.2; (try dsimp only at *); omega) | (intro h1; exfalso; have h4 := h1.2; (try dsimp only at *); omega) | (intro x h1 h2; exfalso; have h4 := h2.2; (try dsimp only at *); omega) | (intro x h1 h2; exact h2.1))
        refine WL.sindex Try.underlying9 rfl rfl _ rfl _ hx rfl ?_
        refine WL.nil ?_
        exact WX.one ⟨rfl, by first | exact Chg.refl _ _ | assumption⟩
      apply DQ.step (E' := [(22, _)])
      case ho => rfl
      case hs => exact ⟨rfl, trivial⟩
      case hk => rfl
      case h1 =>
        intro wq_12 kq_12
        refine WL.num rfl rfl (n_and8 _ _ _ 15) rfl (?_)
        refine WL.nil ?_
        exact WX.one ⟨rfl, by first | exact Chg.refl _ _ | assumption⟩
      apply DQ.step (E' := [(23, _)])
      case ho => rfl
      case hs => exact ⟨rfl, trivial⟩
      case hk => rfl
      case h1 =>
        intro wq_13 kq_13
        have zs_kq_13 := kq_13.size
        replace hw := hw.chg kq_13 (by first | (intro x h1 h2; exact h2) | (intro x h1 h2; have h3 : _ = _ := h2; exfalso; omega) | (intro b h1 h2 h3; have h4 : _ = _ := h3; (try dsimp only at h2); exfalso; omega) | (intro h1; have h2 : _ = _ := h1; exfalso; omega) | (intros; exfalso; (try dsimp only at *); omega) | (intro b h1 h2 h3; exfalso; have h4 := h3.2; (try dsimp only at *); omega) | (intro h1; exfalso; have h4 := h1.2; (try dsimp only at *); omega) | (intro x h1 h2; exfalso; have h4 := h2.2; (try dsimp only at *); omega) | (intro x h1 h2; exact h2.1))
        refine WL.sindex Try.underlying9 rfl rfl _ rfl _ (hexd_at hxb.2) rfl ?_
        refine WL.nil ?_
        exact WX.one ⟨rfl, by first | exact Chg.refl _ _ | assumption⟩
      refine DQ.doneG (S := fun b => w.heap.size ≤ b) (a := ai) (fun hd_2 => ?_)
      refine DL.step [(19, _), (24, _)] rfl ⟨rfl, rfl, trivial⟩ rfl (fun wq_14 kq_14 => ?_)
      have zs_kq_14 := kq_14.size
      replace hd_2 := hd_2.pure kq_14
      replace hq := hq.pure kq_14
      replace hw := hw.pure kq_14
      refine WL.build (e := eb) (hex2 x) Try.underlying24 Try.sizeOf5 Try.zeroValue5 rfl rfl rfl (by first | (simp [Value.cells]; done) | (simp [Value.cells] <;> rfl) | (simp [Value.cells, eb, ei, es, ebool, e32, e64]; done)) (by decide) rfl ?_
      intro a_hn w_hn hn l_hn z_hn k_hn
      have zs_k_hn := k_hn.size
      replace hd_2 := hd_2.pure k_hn
      replace hq := hq.pure k_hn
      replace hw := hw.pure k_hn
      refine WL.nil ?_
      refine WX.one ⟨hd_2.chg, ?_⟩
      refine DL.step [(14, _), (25, _)] rfl ⟨rfl, rfl, trivial⟩ rfl (fun wq_15 kq_15 => ?_)
      have zs_kq_15 := kq_15.size
      replace hd_2 := hd_2.pure kq_15
      replace hq := hq.pure kq_15
      replace hw := hw.pure kq_15
      replace hn := hn.pure kq_15
      refine WL.append (e := eb) info_5 rfl Try.underlying24 rfl rfl hq (hn.rsl.src Try.underlying24) (by (try simp only [List.length_append, List.length_cons, List.length_nil] at *); omega) (by intro b hb; first | (apply hS; omega) | ((try dsimp only); omega)) rfl ?_
      intro a_hq2 c_hq2 w_hq2 hq2 g_hq2 n_hq2
      have z_hq2 := g_hq2.chg.size
      replace hd_2 := hd_2.trans g_hq2
      have zs_g_hq2_chg := g_hq2.chg.size
      replace hw := hw.chg g_hq2.chg (by first | (intro x h1 h2; exact h2) | (intro x h1 h2; have h3 : _ = _ := h2; exfalso; omega) | (intro b h1 h2 h3; have h4 : _ = _ := h3; (try dsimp only at h2); exfalso; omega) | (intro h1; have h2 : _ = _ := h1; exfalso; omega) | (intros; exfalso; (try dsimp only at *); omega) | (intro b h1 h2 h3; exfalso; have h4 := h3.2; (try dsimp only at *); omega) | (intro h1; exfalso; have h4 := h1.2; (try dsimp only at *); omega) | (intro x h1 h2; exfalso; have h4 := h2.2; (try dsimp only at *); omega) | (intro x h1 h2; exact h2.1))
      refine WL.nil ?_
      refine WX.one ⟨hd_2.chg, ?_⟩
      refine DL.step [(26, _)] rfl ⟨rfl, trivial⟩ rfl (fun wq_16 kq_16 => ?_)
      have zs_kq_16 := kq_16.size
      replace hd_2 := hd_2.pure kq_16
      replace hw := hw.pure kq_16
      replace hq2 := hq2.pure kq_16
      refine WL.assign rfl rfl (?_)
      refine WL.nil ?_
      refine WX.one ⟨hd_2.chg, ?_⟩
      refine DL.done (fun we_17 ke_17 => ?_)
      have zs_ke_17 := ke_17.size
      replace hd_2 := hd_2.pure ke_17
      replace hw := hw.pure ke_17
      replace hq2 := hq2.pure ke_17
      refine WX.block_normal (WX.then_normal (WC.region (WL.add64 rfl rfl (by first | omega | (constructor <;> omega)) rfl (WL.move rfl rfl (WL.nil (?_))))))
      have e1 : (s.data.toList.take (i + 1)).flatMap hex2 = (s.data.toList.take i).flatMap hex2 ++ hex2 x := by
        rw [List.take_add_one, hx, List.flatMap_append]
        simp
      refine WX.loop_next (i + 1, a_hq2, c_hq2) ⟨rfl, ?_, rfl, rfl, trivial⟩ ⟨by dsimp only; omega, ?_, hw⟩ (by show _ - _ < _ - _; omega)
      ·
        dsimp only; rw [e1]; rfl
      ·
        dsimp only; rw [e1]; exact hq2
    ·
      refine WL.nil (WX.then_normal (WC.seq (WC.cond_false rfl (WC.exit (WX.then_exit (WX.then_exit (WX.block_here (?_))))))))
      refine WX.then_normal (WC.seq (WC.region (WL.move rfl rfl (WL.toStr Try.underlying24 Try.underlying5 Try.underlying9 hq.rsl rfl rfl (WL.assign rfl rfl (WL.assign rfl rfl (WL.nil (?_))))))))
      refine WX.then_normal (WC.ret (?_))
      refine WX.ret2 (.inl rfl) Try.results21 rfl rfl ?_
      first
        | (have h32 : s.size = 32 := by omega
           refine ⟨_, rfl, ?_, hw⟩
           rw [digR, if_pos h32]
           have hi2 : i = s.data.toList.length := by omega
           rw [hi2, List.take_length])
        | (refine ⟨_, rfl, ?_, hw⟩
           rw [digR, if_neg (by omega)]
           rfl)
/-! sealed and opened -/
theorem sum_calls' {S : Nat → Prop} {w : World} {ao : Option Addr} {c : Nat} {b : List UInt8} (hr : RSl S w eb ao c b) (hl : b.length ≤ 4000) :
    Calls Try.prog 20 [.slice ao b.length c].toArray w (Ret fun v w' => v = .string ⟨(sumB b).toArray⟩ ∧ Chg Nob w w') := sum_calls hr (by omega)
theorem seal_calls {S : Nat → Prop} {w : World} {ao : Option Addr} {c : Nat} {b : List UInt8} (hr : RSl S w eb ao c b) (hl : b.length ≤ 4000) :
    Calls Try.prog 22 [.slice ao b.length c].toArray w (Ret fun v w' => (∃ (ao' : Option Addr) (c' : Nat), v = .slice ao' (b ++ sumB b).length c' ∧ Row (w.heap.size ≤ ·) w' 5 eb ao' c' (b ++ sumB b)) ∧ Chg Nob w w') := by
  replace hr := hr.old
  have hw := Chg.refl Nob w
  have hsl := sumB_len b
  refine Calls.of_WC Try.func22 rfl Try.ntmps22 (by simp) ?_
  refine WC.seq (WC.region (WL.assign rfl rfl (WL.nil (WX.then_normal (WC.seq (WC.region (WL.move rfl rfl (?_))))))))
  refine WL.call eg_41 rfl rfl (clone_calls hr (by omega)) ?_
  rintro v w1 ⟨⟨a1, c1, rfl, hq⟩, k⟩
  have zs_k := k.size
  replace hr := hr.pure k
  replace hw := hw.pure k
  refine WL.move rfl rfl (?_)
  have hr2 := hr.old
  refine WL.call eg_20 rfl rfl (sum_calls' hr2 hl) ?_
  rintro v w2 ⟨rfl, k⟩
  have zs_k := k.size
  replace hr := hr.pure k
  replace hw := hw.pure k
  replace hq := hq.pure k
  refine WL.append (e := eb) info_5 rfl Try.underlying24 rfl rfl hq (src_string _ Try.underlying9) (by (try simp only [List.length_append, List.length_cons, List.length_nil] at *); omega) (by intro b hb; first | (apply hS; omega) | ((try dsimp only); omega)) rfl ?_
  intro a_hq2 c_hq2 w_hq2 hq2 g_hq2 n_hq2
  have z_hq2 := g_hq2.chg.size
  have zs_g_hq2_chg := g_hq2.chg.size
  replace hr := hr.chg g_hq2.chg (by first | (intro x h1 h2; exact h2) | (intro x h1 h2; have h3 : _ = _ := h2; exfalso; omega) | (intro b h1 h2 h3; have h4 : _ = _ := h3; (try dsimp only at h2); exfalso; omega) | (intro h1; have h2 : _ = _ := h1; exfalso; omega) | (intros; exfalso; (try dsimp only at *); omega) | (intro b h1 h2 h3; exfalso; have h4 := h3.2; (try dsimp only at *); omega) | (intro h1; exfalso; have h4 := h1.2; (try dsimp only at *); omega) | (intro x h1 h2; exfalso; have h4 := h2.2; (try dsimp only at *); omega) | (intro x h1 h2; exact h2.1))
  replace hw := hw.chg g_hq2.chg (by first | (intro x h1 h2; exact h2) | (intro x h1 h2; have h3 : _ = _ := h2; exfalso; omega) | (intro b h1 h2 h3; have h4 : _ = _ := h3; (try dsimp only at h2); exfalso; omega) | (intro h1; have h2 : _ = _ := h1; exfalso; omega) | (intros; exfalso; (try dsimp only at *); omega) | (intro b h1 h2 h3; exfalso; have h4 := h3.2; (try dsimp only at *); omega) | (intro h1; exfalso; have h4 := h1.2; (try dsimp only at *); omega) | (intro x h1 h2; exfalso; have h4 := h2.2; (try dsimp only at *); omega) | (intro x h1 h2; exact h2.1))
  refine WL.assign rfl rfl (WL.nil (WX.then_normal (WC.ret (?_))))
  refine WX.ret1 (.inl rfl) Try.results22 rfl ?_
  exact ⟨_, rfl, ⟨_, _, rfl, hq2⟩, hw⟩
def openR (b : List UInt8) : List UInt8 × Int := if 32 ≤ b.length ∧ sumB (b.take (b.length - 32)) = b.drop (b.length - 32) then (b.take (b.length - 32), 0) else ([], 2)
theorem open_bad {S : Nat → Prop} {w : World} {ao : Option Addr} {c : Nat} {b : List UInt8} (hr : RSl S w eb ao c b) (hl : b.length < 32) :
    Calls Try.prog 23 [.slice ao b.length c].toArray w (Ret fun v w' => (∃ (ao' : Option Addr) (c' : Nat), v = .tuple #[.slice ao' (openR b).1.length c', vi (openR b).2] ∧ Row (w.heap.size ≤ ·) w' 5 eb ao' c' (openR b).1) ∧ Chg Nob w w') := by
  replace hr := hr.old
  have hw := Chg.refl Nob w
  refine Calls.of_WC Try.func23 rfl Try.ntmps23 (by simp) ?_
  refine WC.seq (WC.region (WL.assign rfl rfl (WL.assign rfl rfl (WL.nil (WX.then_normal (WC.seq (WC.region (?_))))))))
  refine WL.move rfl rfl (WL.len Try.underlying24 rfl rfl (WL.sub64 rfl rfl (by first | omega | (constructor <;> omega)) rfl (WL.assign rfl rfl (WL.nil (WX.then_normal (WC.seq (WC.seq (?_))))))))
  refine WC.draw (Nob) [0, 1, 2, 3, 4, 5, 6, 7, 8, 9, 10, 11, 12] [] mixed rfl rfl (fun wd_1 kd_1 zd_1 => ?_)
  have zs_kd_1 := kd_1.size
  replace hr := hr.pure kd_1
  replace hw := hw.pure kd_1
  apply DQ.step (E' := [(4, _)])
  case ho => rfl
  case hs => exact ⟨rfl, trivial⟩
  case hk => rfl
  case h1 =>
    intro wq_2 kq_2
    refine WL.move rfl rfl (?_)
    refine WL.nil ?_
    exact WX.one ⟨rfl, by first | exact Chg.refl _ _ | assumption⟩
  apply DQ.step (E' := [(8, _)])
  case ho => rfl
  case hs => exact ⟨rfl, trivial⟩
  case hk => rfl
  case h1 =>
    intro wq_3 kq_3
    refine WL.lss rfl rfl rfl ?_
    rw [show decide ((b.length : Int) - 32 < 0) = true from decide_eq_true (by omega)]
    refine WL.nil ?_
    exact WX.one ⟨rfl, by first | exact Chg.refl _ _ | assumption⟩
  apply DQ.step (E' := [(9, _)])
  case ho => rfl
  case hs => exact ⟨rfl, trivial⟩
  case hk => rfl
  case h1 =>
    intro wq_4 kq_4
    refine WL.move rfl rfl (?_)
    refine WL.nil ?_
    exact WX.one ⟨rfl, by first | exact Chg.refl _ _ | assumption⟩
  apply DQ.step (E' := [(0, _), (10, _)])
  case ho => rfl
  case hs => exact ⟨rfl, rfl, trivial⟩
  case hk => rfl
  case h1 =>
    intro wq_5 kq_5
    refine WL.pass rfl rfl rfl rfl (WL.nil (?_))
    exact WX.one ⟨rfl, by first | exact Chg.refl _ _ | assumption⟩
  apply DQ.step (E' := [(4, _), (10, _)])
  case ho => rfl
  case hs => exact ⟨rfl, rfl, trivial⟩
  case hk => rfl
  case h1 =>
    intro wq_6 kq_6
    refine WL.pass rfl rfl rfl rfl (WL.nil (?_))
    exact WX.one ⟨rfl, by first | exact Chg.refl _ _ | assumption⟩
  apply DQ.step (E' := [(11, _), (12, _), (10, _)])
  case ho => rfl
  case hs => exact ⟨rfl, rfl, rfl, trivial⟩
  case hk => rfl
  case h1 =>
    intro wq_7 kq_7
    have zs_kq_7 := kq_7.size
    replace hr := hr.pure kq_7
    replace hw := hw.pure kq_7
    refine WL.pass rfl rfl rfl rfl (WL.nil (?_))
    exact WX.one ⟨rfl, by first | exact Chg.refl _ _ | assumption⟩
  apply DQ.step (E' := [(13, _), (10, _)])
  case ho => rfl
  case hs => exact ⟨rfl, rfl, trivial⟩
  case hk => rfl
  case h1 =>
    intro wq_8 kq_8
    have zs_kq_8 := kq_8.size
    replace hr := hr.pure kq_8
    replace hw := hw.pure kq_8
    refine WL.pass rfl rfl rfl rfl (WL.nil (?_))
    exact WX.one ⟨rfl, by first | exact Chg.refl _ _ | assumption⟩
  apply DQ.step (E' := [(0, _), (10, _)])
  case ho => rfl
  case hs => exact ⟨rfl, rfl, trivial⟩
  case hk => rfl
  case h1 =>
    intro wq_9 kq_9
    refine WL.pass rfl rfl rfl rfl (WL.nil (?_))
    exact WX.one ⟨rfl, by first | exact Chg.refl _ _ | assumption⟩
  apply DQ.step (E' := [(4, _), (10, _)])
  case ho => rfl
  case hs => exact ⟨rfl, rfl, trivial⟩
  case hk => rfl
  case h1 =>
    intro wq_10 kq_10
    refine WL.pass rfl rfl rfl rfl (WL.nil (?_))
    exact WX.one ⟨rfl, by first | exact Chg.refl _ _ | assumption⟩
  apply DQ.step (E' := [(15, _), (16, _), (10, _)])
  case ho => rfl
  case hs => exact ⟨rfl, rfl, rfl, trivial⟩
  case hk => rfl
  case h1 =>
    intro wq_11 kq_11
    have zs_kq_11 := kq_11.size
    replace hr := hr.pure kq_11
    replace hw := hw.pure kq_11
    refine WL.pass rfl rfl rfl rfl (WL.nil (?_))
    exact WX.one ⟨rfl, by first | exact Chg.refl _ _ | assumption⟩
  apply DQ.step (E' := [(17, _), (10, _)])
  case ho => rfl
  case hs => exact ⟨rfl, rfl, trivial⟩
  case hk => rfl
  case h1 =>
    intro wq_12 kq_12
    have zs_kq_12 := kq_12.size
    replace hr := hr.pure kq_12
    replace hw := hw.pure kq_12
    refine WL.pass rfl rfl rfl rfl (WL.nil (?_))
    exact WX.one ⟨rfl, by first | exact Chg.refl _ _ | assumption⟩
  apply DQ.step (E' := [(14, _), (18, _), (10, _)])
  case ho => rfl
  case hs => exact ⟨rfl, rfl, rfl, trivial⟩
  case hk => rfl
  case h1 =>
    intro wq_13 kq_13
    refine WL.pass rfl rfl rfl rfl (WL.nil (?_))
    exact WX.one ⟨rfl, by first | exact Chg.refl _ _ | assumption⟩
  apply DQ.step (E' := [(10, _), (19, _)])
  case ho => rfl
  case hs => exact ⟨rfl, rfl, trivial⟩
  case hk => rfl
  case h1 =>
    intro wq_14 kq_14
    refine WL.pickT rfl rfl rfl (?_)
    refine WL.nil ?_
    exact WX.one ⟨rfl, by first | exact Chg.refl _ _ | assumption⟩
  refine DQ.done (fun _ => ?_)
  refine DL.done (fun we_15 ke_15 => ?_)
  have zs_ke_15 := ke_15.size
  replace hr := hr.pure ke_15
  replace hw := hw.pure ke_15
  refine WX.then_normal (WC.cond_true rfl (WC.seq (WC.region (WL.assign rfl rfl (WL.assign rfl rfl (WL.nil (WX.then_normal (?_))))))))
  refine WC.ret (WX.then_ret (?_))
  refine WX.ret2 (.inl rfl) Try.results23 rfl rfl ?_
  rw [openR, if_neg (by omega)]
  exact ⟨_, rfl, ⟨none, 0, rfl, Row.nil _ _ _ _⟩, hw⟩
theorem open_good {S : Nat → Prop} {w : World} {ao : Option Addr} {c : Nat} {b : List UInt8} (hr : RSl S w eb ao c b) (n : Nat) (hn : b.length = n + 32) (hl : b.length ≤ 4000) :
    Calls Try.prog 23 [.slice ao b.length c].toArray w (Ret fun v w' => (∃ (ao' : Option Addr) (c' : Nat), v = .tuple #[.slice ao' (openR b).1.length c', vi (openR b).2] ∧ Row (w.heap.size ≤ ·) w' 5 eb ao' c' (openR b).1) ∧ Chg Nob w w') := by
  replace hr := hr.old
  have hw := Chg.refl Nob w
  have hc1 := hr.cut 0 n ⟨by omega, by omega⟩
  have hc2 := hr.cut n b.length ⟨by omega, by omega⟩
  have e1 : (b.take n).drop 0 = b.take n := by simp
  have e2 : (b.take b.length).drop n = b.drop n := by simp
  have e3 : b.length - 32 = n := by omega
  refine Calls.of_WC Try.func23 rfl Try.ntmps23 (by simp) ?_
  refine WC.seq (WC.region (WL.assign rfl rfl (WL.assign rfl rfl (WL.nil (WX.then_normal (WC.seq (WC.region (?_))))))))
  refine WL.move rfl rfl (WL.len Try.underlying24 rfl rfl (?_))
  refine WL.sub64 rfl rfl (by constructor <;> omega) rfl ?_
  rw [show ((b.length : Int) - 32) = (n : Int) from by omega]
  refine WL.assign rfl rfl (WL.nil (WX.then_normal (WC.seq (WC.seq (?_)))))
  refine WC.draw (Nob) [0, 1, 2, 3, 4, 5, 6, 7, 8, 9, 10, 11, 12] [] mixed rfl rfl (fun wd_1 kd_1 zd_1 => ?_)
  have zs_kd_1 := kd_1.size
  replace hr := hr.pure kd_1
  replace hc1 := hc1.pure kd_1
  replace hc2 := hc2.pure kd_1
  replace hw := hw.pure kd_1
  apply DQ.step (E' := [(4, _)])
  case ho => rfl
  case hs => exact ⟨rfl, trivial⟩
  case hk => rfl
  case h1 =>
    intro wq_2 kq_2
    refine WL.move rfl rfl (?_)
    refine WL.nil ?_
    exact WX.one ⟨rfl, by first | exact Chg.refl _ _ | assumption⟩
  apply DQ.step (E' := [(8, _)])
  case ho => rfl
  case hs => exact ⟨rfl, trivial⟩
  case hk => rfl
  case h1 =>
    intro wq_3 kq_3
    refine WL.lss rfl rfl rfl ?_
    rw [show decide ((n : Int) < 0) = false from decide_eq_false (by omega)]
    refine WL.nil ?_
    exact WX.one ⟨rfl, by first | exact Chg.refl _ _ | assumption⟩
  apply DQ.step (E' := [(9, _)])
  case ho => rfl
  case hs => exact ⟨rfl, trivial⟩
  case hk => rfl
  case h1 =>
    intro wq_4 kq_4
    refine WL.move rfl rfl (?_)
    refine WL.nil ?_
    exact WX.one ⟨rfl, by first | exact Chg.refl _ _ | assumption⟩
  apply DQ.step (E' := [(0, _), (10, _)])
  case ho => rfl
  case hs => exact ⟨rfl, rfl, trivial⟩
  case hk => rfl
  case h1 =>
    intro wq_5 kq_5
    refine WL.want rfl rfl rfl (WL.move rfl rfl (?_))
    refine WL.nil ?_
    exact WX.one ⟨rfl, by first | exact Chg.refl _ _ | assumption⟩
  apply DQ.step (E' := [(4, _), (10, _)])
  case ho => rfl
  case hs => exact ⟨rfl, rfl, trivial⟩
  case hk => rfl
  case h1 =>
    intro wq_6 kq_6
    refine WL.want rfl rfl rfl (WL.move rfl rfl (?_))
    refine WL.nil ?_
    exact WX.one ⟨rfl, by first | exact Chg.refl _ _ | assumption⟩
  apply DQ.step (E' := [(11, _), (12, _), (10, _)])
  case ho => rfl
  case hs => exact ⟨rfl, rfl, rfl, trivial⟩
  case hk => rfl
  case h1 =>
    intro wq_7 kq_7
    have zs_kq_7 := kq_7.size
    replace hr := hr.pure kq_7
    replace hc1 := hc1.pure kq_7
    replace hc2 := hc2.pure kq_7
    replace hw := hw.pure kq_7
    refine WL.want rfl rfl rfl (?_)
    refine WL.sliceC (l := 0) (h := n) (k := .i64) Try.underlying24 Try.sizeOf5 hr rfl (.inr ⟨rfl, rfl⟩) (.inl rfl) (by constructor <;> omega) rfl ?_
    refine WL.nil ?_
    exact WX.one ⟨rfl, by first | exact Chg.refl _ _ | assumption⟩
  apply DQ.step (E' := [(13, _), (10, _)])
  case ho => rfl
  case hs => exact ⟨rfl, rfl, trivial⟩
  case hk => rfl
  case h1 =>
    intro wq_8 kq_8
    have zs_kq_8 := kq_8.size
    replace hr := hr.pure kq_8
    replace hc1 := hc1.pure kq_8
    replace hc2 := hc2.pure kq_8
    replace hw := hw.pure kq_8
    refine WL.want rfl rfl rfl (?_)
    have hc3 := hc1.old
    refine WL.call eg_20 rfl rfl (sum_calls' hc3 (by simp; omega)) ?_
    rintro v w2 ⟨rfl, k⟩
    have zs_k := k.size
    replace hr := hr.pure k
    replace hc1 := hc1.pure k
    replace hc2 := hc2.pure k
    replace hw := hw.pure k
    refine WL.nil ?_
    exact WX.one ⟨rfl, by first | exact Chg.refl _ _ | assumption⟩
  apply DQ.step (E' := [(0, _), (10, _)])
  case ho => rfl
  case hs => exact ⟨rfl, rfl, trivial⟩
  case hk => rfl
  case h1 =>
    intro wq_9 kq_9
    refine WL.want rfl rfl rfl (WL.move rfl rfl (?_))
    refine WL.nil ?_
    exact WX.one ⟨rfl, by first | exact Chg.refl _ _ | assumption⟩
  apply DQ.step (E' := [(4, _), (10, _)])
  case ho => rfl
  case hs => exact ⟨rfl, rfl, trivial⟩
  case hk => rfl
  case h1 =>
    intro wq_10 kq_10
    refine WL.want rfl rfl rfl (WL.move rfl rfl (?_))
    refine WL.nil ?_
    exact WX.one ⟨rfl, by first | exact Chg.refl _ _ | assumption⟩
  apply DQ.step (E' := [(15, _), (16, _), (10, _)])
  case ho => rfl
  case hs => exact ⟨rfl, rfl, rfl, trivial⟩
  case hk => rfl
  case h1 =>
    intro wq_11 kq_11
    have zs_kq_11 := kq_11.size
    replace hr := hr.pure kq_11
    replace hc1 := hc1.pure kq_11
    replace hc2 := hc2.pure kq_11
    replace hw := hw.pure kq_11
    refine WL.want rfl rfl rfl (?_)
    refine WL.sliceC (l := n) (h := b.length) (j := .i64) Try.underlying24 Try.sizeOf5 hr rfl (.inl rfl) (.inr ⟨rfl, rfl⟩) (by constructor <;> omega) rfl ?_
    refine WL.nil ?_
    exact WX.one ⟨rfl, by first | exact Chg.refl _ _ | assumption⟩
  apply DQ.step (E' := [(17, _), (10, _)])
  case ho => rfl
  case hs => exact ⟨rfl, rfl, trivial⟩
  case hk => rfl
  case h1 =>
    intro wq_12 kq_12
    have zs_kq_12 := kq_12.size
    replace hr := hr.pure kq_12
    replace hc1 := hc1.pure kq_12
    replace hc2 := hc2.pure kq_12
    replace hw := hw.pure kq_12
    refine WL.want rfl rfl rfl (?_)
    refine WL.toStr Try.underlying24 Try.underlying5 Try.underlying9 hc2 rfl rfl ?_
    refine WL.nil ?_
    exact WX.one ⟨rfl, by first | exact Chg.refl _ _ | assumption⟩
  apply DQ.split (E' := [(14, _), (18, _), (10, _)])
  case ho => rfl
  case hs => exact ⟨rfl, rfl, rfl, trivial⟩
  case hk => rfl
  case h1 =>
    intro wq_13 kq_13
    refine WL.want rfl rfl rfl (?_)
    refine WL.sneq rfl rfl rfl ?_
    refine WL.nil ?_
    exact WX.one ⟨rfl, by first | exact Chg.refl _ _ | assumption⟩
  case ht =>
    intro h19
    replace h19 := of_decide_eq_true h19
    apply DQ.step (E' := [(10, _), (19, _)])
    case ho => rfl
    case hs => exact ⟨rfl, rfl, trivial⟩
    case hk => rfl
    case h1 =>
      intro wq_14 kq_14
      refine WL.pickF rfl rfl rfl (?_)
      refine WL.nil ?_
      exact WX.one ⟨rfl, by first | exact Chg.refl _ _ | assumption⟩
    refine DQ.done (fun _ => ?_)
    refine DL.done (fun we_15 ke_15 => ?_)
    have zs_ke_15 := ke_15.size
    replace hr := hr.pure ke_15
    replace hc1 := hc1.pure ke_15
    replace hc2 := hc2.pure ke_15
    replace hw := hw.pure ke_15
    refine WX.then_normal (WC.cond_true rfl (WC.seq (WC.region (WL.assign rfl rfl (WL.assign rfl rfl (WL.nil (WX.then_normal (?_))))))))
    refine WC.ret (WX.then_ret (?_))
    refine WX.ret2 (.inl rfl) Try.results23 rfl rfl ?_
    simp only [openR, e3]
    first
      | (have h2 : sumB (b.take n) = b.drop n := by
           have h3 := congrArg (fun s : ByteArray => s.data.toList) (Classical.not_not.1 h19)
           rw [e1, e2] at h3
           exact h3
         rw [e1] at hq
         rw [if_pos ⟨by omega, h2⟩]
         exact ⟨_, rfl, ⟨_, _, by rw [e1], hq.mono (fun x hx => by omega)⟩, hw⟩)
      | (have h2 : ¬ sumB (b.take n) = b.drop n := fun h => h19 (by rw [e1, e2, h])
         rw [if_neg (fun h => h2 h.2)]
         exact ⟨_, rfl, ⟨none, 0, rfl, Row.nil _ _ _ _⟩, hw⟩)
  case hf =>
    intro h19
    replace h19 := of_decide_eq_false h19
    apply DQ.step (E' := [(10, _), (19, _)])
    case ho => rfl
    case hs => exact ⟨rfl, rfl, trivial⟩
    case hk => rfl
    case h1 =>
      intro wq_14 kq_14
      refine WL.pickF rfl rfl rfl (?_)
      refine WL.nil ?_
      exact WX.one ⟨rfl, by first | exact Chg.refl _ _ | assumption⟩
    refine DQ.done (fun _ => ?_)
    refine DL.done (fun we_15 ke_15 => ?_)
    have zs_ke_15 := ke_15.size
    replace hr := hr.pure ke_15
    replace hc1 := hc1.pure ke_15
    replace hc2 := hc2.pure ke_15
    replace hw := hw.pure ke_15
    refine WX.then_normal (WC.cond_false rfl (WC.skip (WX.then_normal (WC.seq (WC.region (WL.move rfl rfl (WL.move rfl rfl (?_))))))))
    refine WL.slice (l := 0) (h := n) (k := .i64) Try.underlying24 Try.sizeOf5 hr rfl (.inr ⟨rfl, rfl⟩) (.inl rfl) (by constructor <;> omega) rfl ?_
    intro a_hx c_hx hx n_hx
    have hx2 := hx.old
    refine WL.call eg_41 rfl rfl (clone_calls hx2 (by simp; omega)) ?_
    rintro v w1 ⟨⟨a1, c1, rfl, hq⟩, k⟩
    have zs_k := k.size
    replace hr := hr.pure k
    replace hc1 := hc1.pure k
    replace hc2 := hc2.pure k
    replace hw := hw.pure k
    replace hx := hx.pure k
    refine WL.assign rfl rfl (WL.assign rfl rfl (WL.nil (WX.then_normal (WC.ret (?_)))))
    refine WX.ret2 (.inl rfl) Try.results23 rfl rfl ?_
    simp only [openR, e3]
    first
      | (have h2 : sumB (b.take n) = b.drop n := by
           have h3 := congrArg (fun s : ByteArray => s.data.toList) (Classical.not_not.1 h19)
           rw [e1, e2] at h3
           exact h3
         rw [e1] at hq
         rw [if_pos ⟨by omega, h2⟩]
         exact ⟨_, rfl, ⟨_, _, by rw [e1], hq.mono (fun x hx => by omega)⟩, hw⟩)
      | (have h2 : ¬ sumB (b.take n) = b.drop n := fun h => h19 (by rw [e1, e2, h])
         rw [if_neg (fun h => h2 h.2)]
         exact ⟨_, rfl, ⟨none, 0, rfl, Row.nil _ _ _ _⟩, hw⟩)
theorem open_calls {S : Nat → Prop} {w : World} {ao : Option Addr} {c : Nat} {b : List UInt8} (hr : RSl S w eb ao c b) (hl : b.length ≤ 4000) :
    Calls Try.prog 23 [.slice ao b.length c].toArray w (Ret fun v w' => (∃ (ao' : Option Addr) (c' : Nat), v = .tuple #[.slice ao' (openR b).1.length c', vi (openR b).2] ∧ Row (w.heap.size ≤ ·) w' 5 eb ao' c' (openR b).1) ∧ Chg Nob w w') := by
  rcases Nat.lt_or_ge b.length 32 with h | h
  · exact open_bad hr h
  · exact open_good hr (b.length - 32) (by omega) hl
/-! the sum of three letters -/
theorem sumB_small {b : List UInt8} (h : (padded b).length = 64) : sumB b = (mix st0 (padded b)).list.flatMap bytes4 := by
  rw [sumB, comp_more (by omega), List.take_of_length_le (by omega), comp_end (by simp; omega)]
theorem sum_abc : digR ⟨(sumB [97, 98, 99]).toArray⟩ = (⟨#[98, 97, 55, 56, 49, 54, 98, 102, 56, 102, 48, 49, 99, 102, 101, 97, 52, 49, 52, 49, 52, 48, 100, 101, 53, 100, 97, 101, 50, 50, 50, 51, 98, 48, 48, 51, 54, 49, 97, 51, 57, 54, 49, 55, 55, 97, 57, 99, 98, 52, 49, 48, 102, 102, 54, 49, 102, 50, 48, 48, 49, 53, 97, 100]⟩, 0) := by
  have h1 : sumB [97, 98, 99] = [0xba, 0x78, 0x16, 0xbf, 0x8f, 0x01, 0xcf, 0xea, 0x41, 0x41, 0x40, 0xde, 0x5d, 0xae, 0x22, 0x23, 0xb0, 0x03, 0x61, 0xa3, 0x96, 0x17, 0x7a, 0x9c, 0xb4, 0x10, 0xff, 0x61, 0xf2, 0x00, 0x15, 0xad] := by
    rw [sumB_small (by decide +kernel)]
    decide +kernel
  rw [h1]
  rfl
theorem known4_calls (w : World) : Calls Try.prog 19 [].toArray w (Ret fun v w' => v = .bool true ∧ Chg Nob w w') := by
  have hw := Chg.refl Nob w
  refine Calls.of_WC Try.func19 rfl Try.ntmps19 (by simp) ?_
  refine WC.seq (WC.region (WL.assign rfl rfl (WL.nil (WX.then_normal (WC.seq (WC.region (?_)))))))
  refine WL.build (e := eb) [97, 98, 99] Try.underlying24 Try.sizeOf5 Try.zeroValue5 rfl rfl rfl (by first | (simp [Value.cells]; done) | (simp [Value.cells] <;> rfl) | (simp [Value.cells, eb, ei, es, ebool, e32, e64]; done)) (by decide) rfl ?_
  intro a_hn w_hn hn l_hn z_hn k_hn
  have zs_k_hn := k_hn.size
  replace hw := hw.pure k_hn
  refine WL.mark Try.underlying24 Try.underlying5 hn (by decide) rfl rfl ?_
  intro w5 hm k5 z5
  have zs_k5 := k5.size
  replace hw := hw.chg k5 (by first | (intro x h1 h2; exact h2) | (intro x h1 h2; have h3 : _ = _ := h2; exfalso; omega) | (intro b h1 h2 h3; have h4 : _ = _ := h3; (try dsimp only at h2); exfalso; omega) | (intro h1; have h2 : _ = _ := h1; exfalso; omega) | (intros; exfalso; (try dsimp only at *); omega) | (intro b h1 h2 h3; exfalso; have h4 := h3.2; (try dsimp only at *); omega) | (intro h1; exfalso; have h4 := h1.2; (try dsimp only at *); omega) | (intro x h1 h2; exfalso; have h4 := h2.2; (try dsimp only at *); omega) | (intro x h1 h2; exact h2.1))
  refine WL.call eg_20 rfl rfl (sum_calls' hm (by decide)) ?_
  rintro v w6 ⟨rfl, k⟩
  have zs_k := k.size
  replace hw := hw.pure k
  refine WL.call eg_21 rfl rfl (digits_calls _ _) ?_
  rintro v w7 ⟨rfl, k⟩
  rw [sum_abc]
  have zs_k := k.size
  replace hw := hw.pure k
  refine WL.move rfl rfl (WL.extract rfl rfl rfl (WL.extract rfl rfl rfl (WL.assign rfl rfl (WL.assign rfl rfl (WL.nil (WX.then_normal (WC.seq (?_))))))))
  refine WC.region (WL.move rfl rfl (?_))
  refine WL.eql? rfl rfl rfl (fun h11 => ?_) (fun h11 => ?_)
  ·
    refine WL.move rfl rfl (WL.want rfl rfl rfl (WL.move rfl rfl (WL.want rfl rfl rfl (WL.seql rfl rfl rfl (WL.pickT rfl rfl rfl (WL.assign rfl rfl (WL.nil (?_))))))))
    refine WX.then_normal (WC.ret (?_))
    refine WX.ret1 (.inl rfl) Try.results19 rfl ?_
    first
      | exact ⟨_, rfl, congrArg Value.bool (decide_eq_true rfl), hw⟩
      | (exfalso; exact h11 rfl)
  ·
    refine WL.move rfl rfl (WL.pass rfl rfl rfl rfl (WL.pass rfl rfl rfl rfl (WL.pickF rfl rfl rfl (WL.assign rfl rfl (WL.nil (WX.then_normal (WC.ret (?_))))))))
    refine WX.ret1 (.inl rfl) Try.results19 rfl ?_
    first
      | exact ⟨_, rfl, congrArg Value.bool (decide_eq_true rfl), hw⟩
      | (exfalso; exact h11 rfl)
end Go.Proofs.Ytfkaioldfmapjaa
