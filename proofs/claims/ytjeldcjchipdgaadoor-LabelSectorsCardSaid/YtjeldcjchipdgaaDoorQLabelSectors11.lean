import Derived.Test.YtjeldcjchipdgaaDoorQLabelSectors10
namespace Go.Proofs.YtjeldcjchipdgaaDoor
open Go.RowKit Go.HL
set_option maxRecDepth 100000

/-! sizes -/
theorem e1_len {n : Int} (h : RIt ⟨1, n, ⟨#[]⟩⟩) : (enc1 ⟨1, n, ⟨#[]⟩⟩).length ≤ 11 := by
  have h1 : enc1 ⟨1, n, ⟨#[]⟩⟩ = B8 1 :: cnt (zigU n).toNat := rfl
  have h2 : (zigU n).toNat = zig n := zigU_zig h
  rw [h1, h2, List.length_cons]
  have hz : zig n < 18446744073709551616 := zig_lt h
  have hc : (cnt (zig n)).length ≤ 10 := cnt_len 9 (zig n) (by omega)
  omega
theorem e1_small {n : Int} (h : 0 ≤ n ∧ n ≤ 1024) : (enc1 ⟨1, n, ⟨#[]⟩⟩).length ≤ 3 := by
  have h1 : enc1 ⟨1, n, ⟨#[]⟩⟩ = B8 1 :: cnt (zigU n).toNat := rfl
  rw [h1, zigU_zig (by constructor <;> omega), List.length_cons]
  have h2 : zig n < 128 ^ 2 := by
    unfold zig
    split <;> omega
  have := cnt_len 1 (zig n) h2
  omega
theorem e2_len {s : ByteArray} (h : s.size < 128) : (enc1 ⟨2, 0, s⟩).length = 2 + s.size := by
  have h1 : enc1 ⟨2, 0, s⟩ = B8 2 :: (cnt s.size ++ s.data.toList) := rfl
  rw [h1, cnt_small h]
  simp
  omega
theorem ptrS_len {p : PtrV} (h : rightP p) (hw : WfP p) : (ptrS p).size ≤ 59 := by
  rw [ptrS, if_pos h]
  show (encAll (pit p)).toArray.size ≤ 59
  obtain ⟨h1, h2, h3, h4, h5⟩ := h
  rw [List.size_toArray, pit, encAll_cons, encAll_cons, encAll_cons, encAll_cons]
  simp only [List.length_append]
  have a1 := e1_len (n := p.a) hw.1
  have a2 := e1_small (n := p.z) (by omega)
  have a3 := e1_len (n := p.b) hw.2.2
  have a4 := e2_len (s := p.s) (by omega)
  have a5 : (encAll []).length = 0 := rfl
  omega
theorem encE_ok {u : UbV} (hr : rightP u.p) (h1 : 1 ≤ u.t) (hw : WfU u) : encE u = 0 := by
  have hs := ptrS_len hr hw.2
  have hg : ∀ i ∈ uit u, Good i := by
    intro i hi
    have hri := uit_rit hw i hi
    simp only [uit, List.mem_cons, List.not_mem_nil, or_false] at hi
    rcases hi with rfl | rfl | rfl
    · exact ⟨by simp [longI], by simp [okI], hri⟩
    · exact ⟨by simp [longI], by simp [okI], hri⟩
    · exact ⟨by simp [longI]; omega, by simp [okI], hri⟩
  have hc : checkE (uit u) = 0 := icheck_good (by simp [uit]) hg
  have hl : (encAll (uit u)).length ≤ 75 := by
    rw [uit, encAll_cons, encAll_cons, encAll_cons]
    simp only [List.length_append]
    have a1 := e1_small (n := 77) (by omega)
    have a2 := e1_len (n := u.t) hw.1
    have a3 := e2_len (s := ptrS u.p) (by omega)
    have a5 : (encAll []).length = 0 := rfl
    omega
  rw [encE, if_pos ⟨hr, h1⟩, secE, if_pos hc, if_neg (by omega)]
/-! a pointer by a number -/
def ptrL (n : Int) (k : Nat) : List UInt8 := (List.range 32).map fun i => if i < k then B8 (n + i) else 0
def ptrV (n : Int) : PtrV := ⟨n % 1000, 1 + n % 1024, n % 77, ⟨(ptrL n 32).toArray⟩⟩
theorem ptrL_len (n : Int) (k : Nat) : (ptrL n k).length = 32 := by simp [ptrL]
theorem ptrL_0 (n : Int) : ptrL n 0 = List.replicate 32 0 := by simp [ptrL]; decide
theorem ptrL_set (n : Int) {k : Nat} (hk : k < 32) : (ptrL n k).set k (B8 (n + k)) = ptrL n (k + 1) := by
  apply List.ext_getElem?
  intro i
  simp only [ptrL, List.getElem?_set, List.length_map, List.length_range, List.getElem?_map]
  by_cases h : k = i
  · subst h
    simp [hk]
  · by_cases hi : i < 32
    · simp only [h, if_false, List.getElem?_range hi, Option.map_some]
      have : (i < k) ↔ (i < k + 1) := by omega
      simp only [this]
    · simp [h, hi]
theorem ptrV_right (n : Int) : rightP (ptrV n) := by
  refine ⟨by show 0 ≤ n % 1000; omega, by show 0 ≤ n % 77; omega, by show 1 ≤ 1 + n % 1024; omega, by show 1 + n % 1024 ≤ 1024; omega, ?_⟩
  show (ptrL n 32).toArray.size = 32
  rw [List.size_toArray, ptrL_len]
theorem ptrV_wf (n : Int) : WfP (ptrV n) := by
  refine ⟨?_, ?_, ?_⟩
  · show _ ≤ n % 1000 ∧ n % 1000 ≤ _; omega
  · show _ ≤ 1 + n % 1024 ∧ 1 + n % 1024 ≤ _; omega
  · show _ ≤ n % 77 ∧ n % 77 ≤ _; omega
theorem lptr_calls (n : Int) (hn : 0 ≤ n ∧ n ≤ 1000000) (w : World) : Calls Tryd.prog 17 [vi n].toArray w (Ret fun v w' => v = .agg (ept.f (ptrV n)).toArray ∧ Chg Nob w w') := by
  have hw := Chg.refl Nob w
  refine Calls.of_WC Tryd.func17 rfl Tryd.ntmps17 (by simp) ?_
  refine WC.seq (WC.region (?_))
  refine WL.alloc Tryd.zeroValue23 rfl ?_
  intro g_1 w_1 hge_1 hlt_1 hb_1 k_1
  have zs_k_1 := k_1.size
  replace hw := hw.pure k_1
  refine WL.nil (WX.then_normal (WC.seq (WC.region (?_))))
  refine WL.make (e := eb) (0 : UInt8) 32 32 Tryd.underlying26 info_5 rfl rfl rfl ⟨rfl, rfl, Nat.le_refl _⟩ (by constructor <;> omega) rfl ?_
  intro g0 w0 hO k0 z0 eg0
  rw [← ptrL_0 n] at hO ⊢
  rw [ptrL_len]
  have zs_k0 := k0.size
  replace hw := hw.pure k0
  replace hb_1 := hb_1.pure k0
  refine WL.assign rfl rfl (WL.nil (WX.then_normal (WC.seq (WC.seq (WC.region (WL.assign rfl rfl (WL.nil (?_))))))))
  refine WX.then_normal (WC.block (?_))
  have hb1 := Blk.eqc (cs' := ept.f ⟨0, 0, 0, ⟨#[]⟩⟩) hb_1 rfl
  refine WC.loop (σ := Nat) (fun k => [(0, vi n), (2, ptr g_1), (3, .slice (some ⟨g0, 0, none⟩) 32 32), (4, vi (k : Int))])
    (fun k w' => k ≤ 32 ∧ Blk w' g_1 23 (ept.f ⟨0, 0, 0, ⟨#[]⟩⟩) ∧ Row (fun x => x = g0) w' 5 eb (some ⟨g0, 0, none⟩) 32 (ptrL n k) ∧ Chg Nob w w') (fun k => 32 - k) 0 ⟨rfl, rfl, rfl, rfl, trivial⟩
    ⟨Nat.zero_le _, hb1, ⟨fun a ea => by injection ea with ea; subst ea; rfl, hO.own⟩, hw⟩ ?_
  have hg1 : w.heap.size ≤ g_1 ∧ g_1 < g0 := by omega
  clear hb1 hb_1 hO hw
  rintro k w1 ⟨hk, hb1, hO, hw⟩
  have hbl := ptrL_len n k
  have lg0 : g0 < w1.heap.size := hO.own.lt _ rfl
  have hO' := hO.rsl
  refine WC.seq (WC.seq (WC.region (WL.move rfl rfl (WL.move rfl rfl (WL.len Tryd.underlying26 rfl rfl (?_))))))
  refine WL.lss? rfl rfl rfl (fun h9 => ?_) (fun h9 => ?_)
  ·
    refine WL.nil (WX.then_normal (WC.cond_true rfl (WC.skip (WX.then_normal (WC.seq (WC.block (WC.region (?_))))))))
    refine WL.move rfl rfl (WL.move rfl rfl (WL.move rfl rfl (WL.move rfl rfl (WL.add64 rfl rfl (by omega) rfl (WL.c_i64_u8 Tryd.underlying3 Tryd.underlying5 rfl rfl (?_))))))
    refine WL.index (j := k) Tryd.underlying26 Tryd.sizeOf5 rfl rfl rfl (by omega) rfl ?_
    refine WL.storeRow (z := B8 (n + k)) (k) Tryd.sizeOf5 hO rfl rfl rfl (by simp; done) (by omega) rfl ?_
    intro w_2 zs_2 nr_2 k_2
    have zs_k_2 := k_2.size
    replace hb1 := hb1.chg k_2 (by intro h1; have h2 : _ = _ := h1; exfalso; omega)
    replace hw := hw.chg k_2 (by intro x h1 h2; have h3 : _ = _ := h2; exfalso; omega)
    replace hO := nr_2
    refine WL.nil (WX.block_normal (WX.then_normal (WC.region (WL.move rfl rfl (WL.add64 rfl rfl (by omega) rfl (WL.assign rfl rfl (WL.nil (?_))))))))
    have hO2 := hO
    rw [ptrL_set n (by omega)] at hO2
    exact WX.loop_next (k + 1) ⟨rfl, rfl, rfl, rfl, trivial⟩ ⟨by omega, hb1, hO2, hw⟩ (by show _ - _ < _ - _; omega)
  ·
    refine WL.nil (WX.then_normal (WC.cond_false rfl (WC.exit (WX.then_exit (WX.then_exit (WX.block_here (WX.then_normal (?_))))))))
    refine WC.seq (WC.region (WL.move rfl rfl (WL.rem64i rfl rfl (by constructor <;> omega) rfl (WL.move rfl rfl (WL.rem64i rfl rfl (by constructor <;> omega) rfl (WL.add64 rfl rfl (by omega) rfl (WL.move rfl rfl (?_))))))))
    refine WL.rem64i rfl rfl (by constructor <;> omega) rfl (WL.move rfl rfl (?_))
    have hk32 : k = 32 := by omega
    refine WL.toStr Tryd.underlying26 Tryd.underlying5 Tryd.underlying9 hO.rsl (by rw [hbl]; rfl) rfl ?_
    refine WL.bld rfl (bld_23_0_1_2_3 _ _ _ _) rfl (?_)
    refine WL.stores Tryd.sizeOf23 hb1 rfl rfl (by simp; done) (by simp [Value.oneCell']; done) (by exact Nat.le_of_ble_eq_true rfl) rfl ?_
    intro w_2 hs_2 hn_2 k_2
    have zs_k_2 := k_2.size
    replace hO := hO.chg k_2 (by intro b h1 h2 h3; have h4 : _ = _ := h3; (try dsimp only at h2); exfalso; omega)
    replace hw := hw.chg k_2 (by intro x h1 h2; have h3 : _ = _ := h2; exfalso; omega)
    replace hb1 := hn_2
    refine WL.nil (WX.then_normal (WC.ret (?_)))
    refine WX.ret1c (.inl rfl) Tryd.results17 Tryd.isAgg23 Tryd.sizeOf23 hb1 rfl (by rfl) ?_
    subst hk32
    exact ⟨_, rfl, rfl, hw⟩
end Go.Proofs.YtjeldcjchipdgaaDoor
namespace Go.HL
open Go.RowKit
theorem partN {P : Program} {w : World} {t : TypeId} {cs ds : List Value} {o k : Nat} (hs : ∀ w, (sizeOf t).run P w = .ok k w) (hg : ∀ w, (isAgg t).run P w = .ok true w) (hv : (cs.drop o).take k = ds) : (part t cs.toArray o).run P w = .ok (.agg ds.toArray) w := by
  simp [part, hs, hg, hv]
end Go.HL
namespace Go.Proofs.YtjeldcjchipdgaaDoor
open Go.RowKit Go.HL
set_option maxRecDepth 100000

theorem eqg_ub : Tryd.prog.eqGuardType Tryd.prog.depth 25 = false := by kernel_rfl
theorem eq_ptr9 (a b : PtrV) (w : World) : (Op.equalIn 9999 23 (.agg (ept.f a).toArray) (.agg (ept.f b).toArray)).run Tryd.prog w = .ok (decide (a = b)) w := by
  refine eqA_of (d := 9998) Tryd.underlying23 (by kernel_rfl) ?_
  have h3 : (decide (a.a = b.a) && (decide (a.z = b.z) && (decide (a.b = b.b) && (decide (a.s = b.s) && true)))) = decide (a = b) := by
    have : decide (a = b) = decide (a.a = b.a ∧ a.z = b.z ∧ a.b = b.b ∧ a.s = b.s) := decide_eq_decide.2 (PtrV.eq_iff a b).symm
    rw [this]
    simp [Bool.decide_and]
  rw [← h3]
  refine eqf_cons rfl (part1 Tryd.sizeOf3 Tryd.isAgg3 rfl) (part1 Tryd.sizeOf3 Tryd.isAgg3 rfl) (run_equalIn_int w 9997 _ _ _ _ _ Tryd.underlying3) ?_
  refine eqf_cons rfl (part1 Tryd.sizeOf3 Tryd.isAgg3 rfl) (part1 Tryd.sizeOf3 Tryd.isAgg3 rfl) (run_equalIn_int w 9997 _ _ _ _ _ Tryd.underlying3) ?_
  refine eqf_cons rfl (part1 Tryd.sizeOf3 Tryd.isAgg3 rfl) (part1 Tryd.sizeOf3 Tryd.isAgg3 rfl) (run_equalIn_int w 9997 _ _ _ _ _ Tryd.underlying3) ?_
  refine eqf_cons rfl (part1 Tryd.sizeOf9 Tryd.isAgg9 rfl) (part1 Tryd.sizeOf9 Tryd.isAgg9 rfl) (by rw [← beq_bytes]; exact run_equalIn_string w 9997 _ _ _ Tryd.underlying9) eqf_nil
theorem eq_ub (a b : UbV) (w : World) : (Op.equalIn 10000 25 (.agg (eub.f a).toArray) (.agg (eub.f b).toArray)).run Tryd.prog w = .ok (decide (a = b)) w := by
  refine eqA_of (d := 9999) Tryd.underlying25 (by kernel_rfl) ?_
  have h3 : (decide (a.t = b.t) && (decide (a.p = b.p) && true)) = decide (a = b) := by
    have : decide (a = b) = decide (a.t = b.t ∧ a.p = b.p) := decide_eq_decide.2 (UbV.eq_iff a b).symm
    rw [this]
    simp [Bool.decide_and]
  rw [← h3]
  refine eqf_cons rfl (part1 Tryd.sizeOf3 Tryd.isAgg3 rfl) (part1 Tryd.sizeOf3 Tryd.isAgg3 rfl) (run_equalIn_int w 9998 _ _ _ _ _ Tryd.underlying3) ?_
  exact eqf_cons rfl (partN (ds := ept.f a.p) Tryd.sizeOf23 Tryd.isAgg23 rfl) (partN (ds := ept.f b.p) Tryd.sizeOf23 Tryd.isAgg23 rfl) (eq_ptr9 a.p b.p w) eqf_nil
/-- the record with a number and the pointer of a number -/
def ubV (t n : Int) : UbV := ⟨t, ptrV n⟩
theorem ubV_wf {t n : Int} (h : 1 ≤ t ∧ t ≤ 1000000) : WfU (ubV t n) := ⟨by show _ ≤ t ∧ t ≤ _; omega, ptrV_wf n⟩
theorem ubV_enc {t n : Int} (h : 1 ≤ t ∧ t ≤ 1000000) : encE (ubV t n) = 0 := encE_ok (ptrV_right n) h.1 (ubV_wf h)
/-- a powered rack on which no drive is gone -/
theorem errD_up {s : RA} (h : Up s) (d : Int) (hg : goneS s d = false) : errD s d = 0 := by
  rw [errD, if_neg (by rw [hg]; decide), if_neg (by rw [h.off]; decide)]
theorem downS_up {s : RA} (h : Up s) : downS s = false := down_no (fun d _ => by
  unfold errD
  split
  · decide
  · rw [if_neg (by rw [h.off]; decide)]; decide)
theorem cntD_all {s : RA} (h : ∀ d, goneS s d = false) (k : Nat) : cntD s k = k := by
  induction k with
  | zero => rfl
  | succ k ih => rw [cntD, if_neg (by rw [h]; decide), ih]
theorem lwS_facts {s : RA} (h : Up s) (hs : 8 < s.sn) {u : UbV} (hE : encE u = 0) : Up (lwS s u) ∧ (lwS s u).dn = s.dn ∧ (lwS s u).sn = s.sn ∧ (∀ d, goneS (lwS s u) d = goneS s d) ∧ (lwS s u).last = s.last ∧ (lwS s u).waits.length ≤ s.waits.length + s.dn := by
  obtain ⟨e1, -, -⟩ := lw_up h hs hE
  have hd := lwR_dn s (u.t % 8) (encB u) s.dn
  have h4 : (lwS s u).waits.length ≤ s.waits.length + s.dn := by
    rw [lwS, if_pos ⟨hs, hE⟩]
    exact hd.2.2.2.1
  obtain ⟨a1, a2, a3, a4, a5, a6⟩ := addAll_dn s (u.t % 8) (encB u) s.dn
  refine ⟨?_, ?_, ?_, fun d => ?_, ?_, h4⟩
  · rw [e1]; exact addAll_up h _ _ _
  · rw [e1]; exact a1
  · rw [e1]; exact a2
  · rw [e1]; exact addAll_gone _ _ _ _ _
  · rw [e1]; exact a6
theorem lwS_held {s : RA} (h : Up s) (hs : 8 < s.sn) {u : UbV} (hE : encE u = 0) (d : Nat) (hd : d < s.dn) (a : Nat) : heldS (lwS s u) (d, a) = if (a : Int) = u.t % 8 ∧ goneS s d = false then encB u else heldS s (d, a) := by
  obtain ⟨e1, -, -⟩ := lw_up h hs hE
  rw [e1, addAll_held]
  have : (∃ d', d' < s.dn ∧ (((d : Int), (a : Int)) : Pl) = (((d' : Nat) : Int), u.t % 8) ∧ goneS s (d' : Nat) = false) ↔ ((a : Int) = u.t % 8 ∧ goneS s d = false) := by
    constructor
    · rintro ⟨d', h1, h2, h3⟩
      injection h2 with h4 h5
      have : d = d' := by omega
      subst this
      exact ⟨h5, h3⟩
    · rintro ⟨h1, h2⟩
      exact ⟨d, hd, by rw [h1], h2⟩
  simp only [this]
theorem lwS_slot {s : RA} (h : Up s) (hs : 8 < s.sn) {u : UbV} (hE : encE u = 0) (hw : WfU u) (d : Nat) (hd : d < s.dn) (a : Nat) : slotU (lwS s u) d a = if (a : Int) = u.t % 8 ∧ goneS s d = false then u else slotU s d a := by
  have hh := lwS_held h hs hE d hd a
  by_cases hc : (a : Int) = u.t % 8 ∧ goneS s d = false
  · rw [if_pos hc] at hh ⊢
    exact slot_enc hh hE hw hc.1.symm
  · rw [if_neg hc] at hh ⊢
    rw [slotU, slotU, hh]
/-- on a fresh rack -/
theorem fresh_slot {s : RA} (h : ∀ q, heldS s q = zeros) (d : Int) (a : Nat) : slotU s d a = ⟨-1, zeroP⟩ := slot_zeros (h _)
theorem newest_is {s : RA} (h : Up s) (hs : 8 < s.sn) {u : UbV} (h0 : 0 < u.t) (h1 : ∃ d, d < s.dn ∧ goneS s (d : Nat) = false ∧ ∃ a, a < 8 ∧ slotU s (d : Nat) a = u)
    (h2 : ∀ d, d < s.dn → goneS s (d : Nat) = false → ∀ a, a < 8 → (slotU s (d : Nat) a).t ≤ u.t ∧ ((slotU s (d : Nat) a).t = u.t → slotU s (d : Nat) a = u)) : nwU s = u ∧ nwE s = 0 := by
  have hb : bestR s s.dn = u := by
    refine best_is h0 ?_ (fun d hd he a ha => h2 d hd ?_ a ha)
    · obtain ⟨d, hd, hg, ha⟩ := h1
      exact ⟨d, hd, errD_up h d hg, ha⟩
    · unfold errD at he
      cases hg : goneS s (d : Nat) with
      | false => rfl
      | true => rw [if_pos hg] at he; cases he
  obtain ⟨e1, e2⟩ := nw_some hs (downS_up h) (by rw [hb]; omega)
  exact ⟨e2.trans hb, e1⟩
theorem newest_fresh {s : RA} (h : Up s) (hs : 8 < s.sn) (hd : 0 < s.dn) (hg : ∀ d, goneS s d = false) (hz : ∀ q, heldS s q = zeros) {u : UbV} (hE : encE u = 0) (hw : WfU u) : nwU (lwS s u) = u ∧ nwE (lwS s u) = 0 := by
  obtain ⟨f1, f2, f3, f4, f5, f6⟩ := lwS_facts h hs hE
  obtain ⟨t1, t2, t3, t4⟩ := encE_t hE
  refine newest_is f1 (by rw [f3]; exact hs) (by omega) ⟨0, by rw [f2]; exact hd, by rw [f4]; exact hg _, (u.t % 8).toNat, by omega, ?_⟩ (fun d hdd _ a ha => ?_)
  · rw [lwS_slot h hs hE hw 0 hd, if_pos ⟨by omega, hg _⟩]
  · rw [lwS_slot h hs hE hw d (by rw [← f2]; exact hdd)]
    split
    · exact ⟨Int.le_refl _, fun _ => rfl⟩
    · rw [fresh_slot hz]
      exact ⟨by show (-1 : Int) ≤ _; omega, fun h9 => by have : (-1 : Int) = u.t := h9; omega⟩
set_option maxHeartbeats 1000000 in
theorem known8_calls (w : World) : Calls Tryd.prog 9 [].toArray w (Ret fun v w' => v = .bool true ∧ Chg Nob w w') := by
  have hw := Chg.refl Nob w
  obtain ⟨s0, sd, sn, u0, sg, sh, sl, sw, hNew⟩ := new_all 5 9 (by decide) (by decide)
  have sw0 : s0.waits.length = 0 := by rw [sw]; rfl
  have hE : encE (ubV 5 9) = 0 := ubV_enc (by omega)
  have hwf : WfU (ubV 5 9) := ubV_wf (by omega)
  obtain ⟨e1, e2, e3⟩ := lw_up u0 (by omega) hE
  have hc : cntD s0 s0.dn = 5 := by rw [cntD_all sg, sd]
  rw [hc] at e2 e3
  rw [if_neg (by decide)] at e3
  refine Calls.of_WC Tryd.func9 rfl Tryd.ntmps9 (by simp) ?_
  refine WC.seq (WC.region (WL.assign rfl rfl (WL.nil (WX.then_normal (WC.seq (WC.region (?_)))))))
  refine WL.call eg_15 rfl rfl (hNew _) ?_
  rintro v w1 ⟨⟨R, rfl, hR⟩, k1⟩
  have zs_k1 := k1.size
  replace hw := hw.pure k1
  refine WL.move rfl rfl (WL.extract rfl rfl rfl (WL.extract rfl rfl rfl (WL.assign rfl rfl (WL.assign rfl rfl (WL.nil (WX.then_normal (WC.seq (?_))))))))
  refine WC.region (WL.move rfl rfl (?_))
  refine WL.call eg_17 rfl rfl (lptr_calls 9 (by omega) _) ?_
  rintro v w2 ⟨rfl, k2⟩
  have zs_k2 := k2.size
  replace hw := hw.pure k2
  replace hR := hR.pure k2
  refine WL.bld rfl (bld_25_0_1 _ _ _ _ _) rfl (?_)
  refine WL.call eg_16 rfl rfl (lWrite_calls hR (ubV 5 9) hwf (by omega)) ?_
  rintro v w3 ⟨rfl, hR3, k3⟩
  rw [e2, e3]
  have zs_k3 := k3.size
  replace hw := hw.chg k3 (by intros; exfalso; (try dsimp only at *); omega)
  refine WL.move rfl rfl (WL.extract rfl rfl rfl (WL.extract rfl rfl rfl (WL.assign rfl rfl (WL.assign rfl rfl (WL.nil (WX.then_normal (WC.seq (?_))))))))
  refine WC.region (WL.move rfl rfl (?_))
  refine WL.call eg_20 rfl rfl (lNewest_calls hR3) ?_
  rintro v w4 ⟨rfl, k4⟩
  obtain ⟨n1, n2⟩ := newest_fresh u0 (by omega) (by omega) sg sh hE hwf
  rw [n1, n2]
  have zs_k4 := k4.size
  replace hw := hw.pure k4
  refine WL.move rfl rfl (WL.extract rfl rfl rfl (WL.extract rfl rfl rfl (?_)))
  refine WL.alloc Tryd.zeroValue25 rfl ?_
  intro g_1 w_1 hge_1 hlt_1 hb_1 k_1
  have zs_k_1 := k_1.size
  replace hw := hw.pure k_1
  refine WL.stores Tryd.sizeOf25 hb_1 rfl rfl (by rfl) (by exact Enc.one _ _) (by exact Nat.le_of_ble_eq_true rfl) rfl ?_
  intro w_2 hs_2 hn_2 k_2
  have zs_k_2 := k_2.size
  replace hw := hw.chg k_2 (by intro x h1 h2; have h3 : _ = _ := h2; exfalso; omega)
  replace hb_1 := hn_2
  refine WL.assign rfl rfl (WL.nil (WX.then_normal (WC.seq (?_))))
  refine WC.draw (Nob) [0, 1, 2, 3, 4, 5, 6, 7, 8, 9, 10, 11, 12, 13, 14, 15] [16, 17, 18, 19, 20] mixed rfl rfl (fun wd_3 kd_3 zd_3 => ?_)
  have zs_kd_3 := kd_3.size
  replace hw := hw.pure kd_3
  replace hb_1 := hb_1.pure kd_3
  apply DQ.step (E' := [(2, _)])
  case ho => rfl
  case hs => exact ⟨rfl, trivial⟩
  case hk => rfl
  case h1 =>
    intro wq_5 kq_5
    refine WL.move rfl rfl (?_)
    refine WL.nil ?_
    exact WX.one ⟨rfl, by exact Chg.refl _ _⟩
  apply DQ.split (E' := [(23, _)])
  case ho => rfl
  case hs => exact ⟨rfl, trivial⟩
  case hk => rfl
  case h1 =>
    intro wq_6 kq_6
    refine WL.eql rfl rfl rfl ?_
    refine WL.nil ?_
    exact WX.one ⟨rfl, by exact Chg.refl _ _⟩
  case ht =>
    intro h24
    replace h24 := of_decide_eq_true h24
    apply DQ.step (E' := [(24, _)])
    case ho => rfl
    case hs => exact ⟨rfl, trivial⟩
    case hk => rfl
    case h1 =>
      intro wq_7 kq_7
      refine WL.move rfl rfl (?_)
      refine WL.nil ?_
      exact WX.one ⟨rfl, by exact Chg.refl _ _⟩
    apply DQ.step (E' := [(4, _), (25, _)])
    case ho => rfl
    case hs => exact ⟨rfl, rfl, trivial⟩
    case hk => rfl
    case h1 =>
      intro wq_8 kq_8
      refine WL.want rfl rfl rfl (WL.move rfl rfl (?_))
      refine WL.nil ?_
      exact WX.one ⟨rfl, by exact Chg.refl _ _⟩
    apply DQ.split (E' := [(26, _), (25, _)])
    case ho => rfl
    case hs => exact ⟨rfl, rfl, trivial⟩
    case hk => rfl
    case h1 =>
      intro wq_9 kq_9
      refine WL.want rfl rfl rfl (?_)
      refine WL.eql rfl rfl rfl ?_
      refine WL.nil ?_
      exact WX.one ⟨rfl, by exact Chg.refl _ _⟩
    case ht =>
      intro h27
      replace h27 := of_decide_eq_true h27
      apply DQ.step (E' := [(25, _), (27, _)])
      case ho => rfl
      case hs => exact ⟨rfl, rfl, trivial⟩
      case hk => rfl
      case h1 =>
        intro wq_10 kq_10
        refine WL.pickT rfl rfl rfl (?_)
        refine WL.nil ?_
        exact WX.one ⟨rfl, by exact Chg.refl _ _⟩
      apply DQ.step (E' := [(28, _)])
      case ho => rfl
      case hs => exact ⟨rfl, trivial⟩
      case hk => rfl
      case h1 =>
        intro wq_11 kq_11
        refine WL.move rfl rfl (?_)
        refine WL.nil ?_
        exact WX.one ⟨rfl, by exact Chg.refl _ _⟩
      apply DQ.step (E' := [(3, _), (29, _)])
      case ho => rfl
      case hs => exact ⟨rfl, rfl, trivial⟩
      case hk => rfl
      case h1 =>
        intro wq_12 kq_12
        refine WL.want rfl rfl rfl (WL.move rfl rfl (?_))
        refine WL.nil ?_
        exact WX.one ⟨rfl, by exact Chg.refl _ _⟩
      apply DQ.split (E' := [(30, _), (29, _)])
      case ho => rfl
      case hs => exact ⟨rfl, rfl, trivial⟩
      case hk => rfl
      case h1 =>
        intro wq_13 kq_13
        refine WL.want rfl rfl rfl (?_)
        refine WL.eql rfl rfl rfl ?_
        refine WL.nil ?_
        exact WX.one ⟨rfl, by exact Chg.refl _ _⟩
      case ht =>
        intro h31
        replace h31 := of_decide_eq_true h31
        apply DQ.step (E' := [(29, _), (31, _)])
        case ho => rfl
        case hs => exact ⟨rfl, rfl, trivial⟩
        case hk => rfl
        case h1 =>
          intro wq_14 kq_14
          refine WL.pickT rfl rfl rfl (?_)
          refine WL.nil ?_
          exact WX.one ⟨rfl, by exact Chg.refl _ _⟩
        apply DQ.step (E' := [(32, _)])
        case ho => rfl
        case hs => exact ⟨rfl, trivial⟩
        case hk => rfl
        case h1 =>
          intro wq_15 kq_15
          refine WL.move rfl rfl (?_)
          refine WL.nil ?_
          exact WX.one ⟨rfl, by exact Chg.refl _ _⟩
        apply DQ.step (E' := [(6, _), (33, _)])
        case ho => rfl
        case hs => exact ⟨rfl, rfl, trivial⟩
        case hk => rfl
        case h1 =>
          intro wq_16 kq_16
          refine WL.want rfl rfl rfl (WL.move rfl rfl (?_))
          refine WL.nil ?_
          exact WX.one ⟨rfl, by exact Chg.refl _ _⟩
        apply DQ.split (E' := [(34, _), (33, _)])
        case ho => rfl
        case hs => exact ⟨rfl, rfl, trivial⟩
        case hk => rfl
        case h1 =>
          intro wq_17 kq_17
          refine WL.want rfl rfl rfl (?_)
          refine WL.eql rfl rfl rfl ?_
          refine WL.nil ?_
          exact WX.one ⟨rfl, by exact Chg.refl _ _⟩
        case ht =>
          intro h35
          replace h35 := of_decide_eq_true h35
          apply DQ.step (E' := [(33, _), (35, _)])
          case ho => rfl
          case hs => exact ⟨rfl, rfl, trivial⟩
          case hk => rfl
          case h1 =>
            intro wq_18 kq_18
            refine WL.pickT rfl rfl rfl (?_)
            refine WL.nil ?_
            exact WX.one ⟨rfl, by exact Chg.refl _ _⟩
          apply DQ.step (E' := [(36, _)])
          case ho => rfl
          case hs => exact ⟨rfl, trivial⟩
          case hk => rfl
          case h1 =>
            intro wq_19 kq_19
            refine WL.move rfl rfl (?_)
            refine WL.nil ?_
            exact WX.one ⟨rfl, by exact Chg.refl _ _⟩
          apply DQ.step (E' := [(5, _), (37, _)])
          case ho => rfl
          case hs => exact ⟨rfl, rfl, trivial⟩
          case hk => rfl
          case h1 =>
            intro wq_20 kq_20
            have zs_kq_20 := kq_20.size
            replace hw := hw.pure kq_20
            replace hb_1 := hb_1.pure kq_20
            refine WL.want rfl rfl rfl (?_)
            have hb5 := Blk.eqc (cs' := eub.f (ubV 5 9)) hb_1 rfl
            refine WL.loads (eub.f (ubV 5 9)) Tryd.isAgg25 Tryd.sizeOf25 rfl (fun j v hj => by rw [Nat.zero_add]; exact hb5.cell hj) rfl rfl ?_
            refine WL.nil ?_
            exact WX.one ⟨rfl, by exact Chg.refl _ _⟩
          refine DQ.done (fun hd_4 => ?_)
          refine DL.step [(37, _)] rfl ⟨rfl, trivial⟩ rfl (fun wq_21 kq_21 => ?_)
          have zs_kq_21 := kq_21.size
          replace hw := hw.pure kq_21
          replace hb_1 := hb_1.pure kq_21
          replace hd_4 := hd_4.pure kq_21
          refine WL.want rfl rfl rfl (?_)
          refine WL.call eg_17 rfl rfl (lptr_calls 9 (by omega) _) ?_
          rintro v w5 ⟨rfl, k5⟩
          have zs_k5 := k5.size
          replace hw := hw.pure k5
          replace hb_1 := hb_1.pure k5
          replace hd_4 := hd_4.pure k5
          refine WL.nil ?_
          refine WX.one ⟨hd_4, ?_⟩
          refine DL.step [(39, _), (37, _)] rfl ⟨rfl, rfl, trivial⟩ rfl (fun wq_22 kq_22 => ?_)
          have zs_kq_22 := kq_22.size
          replace hw := hw.pure kq_22
          replace hb_1 := hb_1.pure kq_22
          replace hd_4 := hd_4.pure kq_22
          refine WL.want rfl rfl rfl (WL.bld rfl (bld_25_0_1 _ _ _ _ _) rfl (?_))
          refine WL.nil ?_
          refine WX.one ⟨hd_4, ?_⟩
          refine DL.step [(38, _), (40, _), (37, _)] rfl ⟨rfl, rfl, rfl, trivial⟩ rfl (fun wq_23 kq_23 => ?_)
          have zs_kq_23 := kq_23.size
          replace hw := hw.pure kq_23
          replace hb_1 := hb_1.pure kq_23
          replace hd_4 := hd_4.pure kq_23
          refine WL.want rfl rfl rfl (WL.aeql eqg_ub (eq_ub (ubV 5 9) (ubV 5 9)) rfl rfl rfl (?_))
          refine WL.nil ?_
          refine WX.one ⟨hd_4, ?_⟩
          refine DL.step [(37, _), (41, _)] rfl ⟨rfl, rfl, trivial⟩ rfl (fun wq_24 kq_24 => ?_)
          have zs_kq_24 := kq_24.size
          replace hw := hw.pure kq_24
          replace hb_1 := hb_1.pure kq_24
          replace hd_4 := hd_4.pure kq_24
          refine WL.pickT rfl rfl rfl (?_)
          refine WL.nil ?_
          refine WX.one ⟨hd_4, ?_⟩
          refine DL.step [(42, _)] rfl ⟨rfl, trivial⟩ rfl (fun wq_25 kq_25 => ?_)
          have zs_kq_25 := kq_25.size
          replace hw := hw.pure kq_25
          replace hb_1 := hb_1.pure kq_25
          replace hd_4 := hd_4.pure kq_25
          refine WL.assign rfl rfl (?_)
          refine WL.nil ?_
          refine WX.one ⟨hd_4, ?_⟩
          refine DL.done (fun we_26 ke_26 => ?_)
          have zs_ke_26 := ke_26.size
          replace hw := hw.pure ke_26
          replace hb_1 := hb_1.pure ke_26
          replace hd_4 := hd_4.pure ke_26
          refine WX.then_normal (WC.ret (?_))
          refine WX.ret1 (.inl rfl) Tryd.results9 rfl ?_
          first
            | exact ⟨_, rfl, rfl, hw⟩
            | (refine ⟨_, rfl, ?_, hw⟩
               exact congrArg Value.bool (decide_eq_true rfl))
            | (exfalso; omega)
        case hf =>
          intro h35
          replace h35 := of_decide_eq_false h35
          apply DQ.step (E' := [(33, _), (35, _)])
          case ho => rfl
          case hs => exact ⟨rfl, rfl, trivial⟩
          case hk => rfl
          case h1 =>
            intro wq_18 kq_18
            refine WL.pickT rfl rfl rfl (?_)
            refine WL.nil ?_
            exact WX.one ⟨rfl, by exact Chg.refl _ _⟩
          apply DQ.step (E' := [(36, _)])
          case ho => rfl
          case hs => exact ⟨rfl, trivial⟩
          case hk => rfl
          case h1 =>
            intro wq_19 kq_19
            refine WL.move rfl rfl (?_)
            refine WL.nil ?_
            exact WX.one ⟨rfl, by exact Chg.refl _ _⟩
          apply DQ.step (E' := [(5, _), (37, _)])
          case ho => rfl
          case hs => exact ⟨rfl, rfl, trivial⟩
          case hk => rfl
          case h1 =>
            intro wq_20 kq_20
            have zs_kq_20 := kq_20.size
            replace hw := hw.pure kq_20
            replace hb_1 := hb_1.pure kq_20
            refine WL.pass rfl rfl rfl rfl (WL.nil (?_))
            exact WX.one ⟨rfl, by exact Chg.refl _ _⟩
          refine DQ.done (fun hd_4 => ?_)
          refine DL.step [(37, _)] rfl ⟨rfl, trivial⟩ rfl (fun wq_21 kq_21 => ?_)
          have zs_kq_21 := kq_21.size
          replace hw := hw.pure kq_21
          replace hb_1 := hb_1.pure kq_21
          replace hd_4 := hd_4.pure kq_21
          refine WL.pass rfl rfl rfl rfl (WL.nil (?_))
          refine WX.one ⟨hd_4, ?_⟩
          refine DL.step [(39, _), (37, _)] rfl ⟨rfl, rfl, trivial⟩ rfl (fun wq_22 kq_22 => ?_)
          have zs_kq_22 := kq_22.size
          replace hw := hw.pure kq_22
          replace hb_1 := hb_1.pure kq_22
          replace hd_4 := hd_4.pure kq_22
          refine WL.pass rfl rfl rfl rfl (WL.nil (?_))
          refine WX.one ⟨hd_4, ?_⟩
          refine DL.step [(38, _), (40, _), (37, _)] rfl ⟨rfl, rfl, rfl, trivial⟩ rfl (fun wq_23 kq_23 => ?_)
          have zs_kq_23 := kq_23.size
          replace hw := hw.pure kq_23
          replace hb_1 := hb_1.pure kq_23
          replace hd_4 := hd_4.pure kq_23
          refine WL.pass rfl rfl rfl rfl (WL.nil (?_))
          refine WX.one ⟨hd_4, ?_⟩
          refine DL.step [(37, _), (41, _)] rfl ⟨rfl, rfl, trivial⟩ rfl (fun wq_24 kq_24 => ?_)
          have zs_kq_24 := kq_24.size
          replace hw := hw.pure kq_24
          replace hb_1 := hb_1.pure kq_24
          replace hd_4 := hd_4.pure kq_24
          refine WL.pickF rfl rfl rfl (?_)
          refine WL.nil ?_
          refine WX.one ⟨hd_4, ?_⟩
          refine DL.step [(42, _)] rfl ⟨rfl, trivial⟩ rfl (fun wq_25 kq_25 => ?_)
          have zs_kq_25 := kq_25.size
          replace hw := hw.pure kq_25
          replace hb_1 := hb_1.pure kq_25
          replace hd_4 := hd_4.pure kq_25
          refine WL.assign rfl rfl (?_)
          refine WL.nil ?_
          refine WX.one ⟨hd_4, ?_⟩
          refine DL.done (fun we_26 ke_26 => ?_)
          have zs_ke_26 := ke_26.size
          replace hw := hw.pure ke_26
          replace hb_1 := hb_1.pure ke_26
          replace hd_4 := hd_4.pure ke_26
          refine WX.then_normal (WC.ret (?_))
          refine WX.ret1 (.inl rfl) Tryd.results9 rfl ?_
          first
            | exact ⟨_, rfl, rfl, hw⟩
            | (refine ⟨_, rfl, ?_, hw⟩
               exact congrArg Value.bool (decide_eq_true rfl))
            | (exfalso; omega)
      case hf =>
        intro h31
        replace h31 := of_decide_eq_false h31
        apply DQ.step (E' := [(29, _), (31, _)])
        case ho => rfl
        case hs => exact ⟨rfl, rfl, trivial⟩
        case hk => rfl
        case h1 =>
          intro wq_14 kq_14
          refine WL.pickT rfl rfl rfl (?_)
          refine WL.nil ?_
          exact WX.one ⟨rfl, by exact Chg.refl _ _⟩
        apply DQ.step (E' := [(32, _)])
        case ho => rfl
        case hs => exact ⟨rfl, trivial⟩
        case hk => rfl
        case h1 =>
          intro wq_15 kq_15
          refine WL.move rfl rfl (?_)
          refine WL.nil ?_
          exact WX.one ⟨rfl, by exact Chg.refl _ _⟩
        apply DQ.step (E' := [(6, _), (33, _)])
        case ho => rfl
        case hs => exact ⟨rfl, rfl, trivial⟩
        case hk => rfl
        case h1 =>
          intro wq_16 kq_16
          refine WL.pass rfl rfl rfl rfl (WL.nil (?_))
          exact WX.one ⟨rfl, by exact Chg.refl _ _⟩
        apply DQ.step (E' := [(34, _), (33, _)])
        case ho => rfl
        case hs => exact ⟨rfl, rfl, trivial⟩
        case hk => rfl
        case h1 =>
          intro wq_17 kq_17
          refine WL.pass rfl rfl rfl rfl (WL.nil (?_))
          exact WX.one ⟨rfl, by exact Chg.refl _ _⟩
        apply DQ.step (E' := [(33, _), (35, _)])
        case ho => rfl
        case hs => exact ⟨rfl, rfl, trivial⟩
        case hk => rfl
        case h1 =>
          intro wq_18 kq_18
          refine WL.pickF rfl rfl rfl (?_)
          refine WL.nil ?_
          exact WX.one ⟨rfl, by exact Chg.refl _ _⟩
        apply DQ.step (E' := [(36, _)])
        case ho => rfl
        case hs => exact ⟨rfl, trivial⟩
        case hk => rfl
        case h1 =>
          intro wq_19 kq_19
          refine WL.move rfl rfl (?_)
          refine WL.nil ?_
          exact WX.one ⟨rfl, by exact Chg.refl _ _⟩
        apply DQ.step (E' := [(5, _), (37, _)])
        case ho => rfl
        case hs => exact ⟨rfl, rfl, trivial⟩
        case hk => rfl
        case h1 =>
          intro wq_20 kq_20
          have zs_kq_20 := kq_20.size
          replace hw := hw.pure kq_20
          replace hb_1 := hb_1.pure kq_20
          refine WL.pass rfl rfl rfl rfl (WL.nil (?_))
          exact WX.one ⟨rfl, by exact Chg.refl _ _⟩
        refine DQ.done (fun hd_4 => ?_)
        refine DL.step [(37, _)] rfl ⟨rfl, trivial⟩ rfl (fun wq_21 kq_21 => ?_)
        have zs_kq_21 := kq_21.size
        replace hw := hw.pure kq_21
        replace hb_1 := hb_1.pure kq_21
        replace hd_4 := hd_4.pure kq_21
        refine WL.pass rfl rfl rfl rfl (WL.nil (?_))
        refine WX.one ⟨hd_4, ?_⟩
        refine DL.step [(39, _), (37, _)] rfl ⟨rfl, rfl, trivial⟩ rfl (fun wq_22 kq_22 => ?_)
        have zs_kq_22 := kq_22.size
        replace hw := hw.pure kq_22
        replace hb_1 := hb_1.pure kq_22
        replace hd_4 := hd_4.pure kq_22
        refine WL.pass rfl rfl rfl rfl (WL.nil (?_))
        refine WX.one ⟨hd_4, ?_⟩
        refine DL.step [(38, _), (40, _), (37, _)] rfl ⟨rfl, rfl, rfl, trivial⟩ rfl (fun wq_23 kq_23 => ?_)
        have zs_kq_23 := kq_23.size
        replace hw := hw.pure kq_23
        replace hb_1 := hb_1.pure kq_23
        replace hd_4 := hd_4.pure kq_23
        refine WL.pass rfl rfl rfl rfl (WL.nil (?_))
        refine WX.one ⟨hd_4, ?_⟩
        refine DL.step [(37, _), (41, _)] rfl ⟨rfl, rfl, trivial⟩ rfl (fun wq_24 kq_24 => ?_)
        have zs_kq_24 := kq_24.size
        replace hw := hw.pure kq_24
        replace hb_1 := hb_1.pure kq_24
        replace hd_4 := hd_4.pure kq_24
        refine WL.pickF rfl rfl rfl (?_)
        refine WL.nil ?_
        refine WX.one ⟨hd_4, ?_⟩
        refine DL.step [(42, _)] rfl ⟨rfl, trivial⟩ rfl (fun wq_25 kq_25 => ?_)
        have zs_kq_25 := kq_25.size
        replace hw := hw.pure kq_25
        replace hb_1 := hb_1.pure kq_25
        replace hd_4 := hd_4.pure kq_25
        refine WL.assign rfl rfl (?_)
        refine WL.nil ?_
        refine WX.one ⟨hd_4, ?_⟩
        refine DL.done (fun we_26 ke_26 => ?_)
        have zs_ke_26 := ke_26.size
        replace hw := hw.pure ke_26
        replace hb_1 := hb_1.pure ke_26
        replace hd_4 := hd_4.pure ke_26
        refine WX.then_normal (WC.ret (?_))
        refine WX.ret1 (.inl rfl) Tryd.results9 rfl ?_
        first
          | exact ⟨_, rfl, rfl, hw⟩
          | (refine ⟨_, rfl, ?_, hw⟩
             exact congrArg Value.bool (decide_eq_true rfl))
          | (exfalso; omega)
    case hf =>
      intro h27
      replace h27 := of_decide_eq_false h27
      apply DQ.step (E' := [(25, _), (27, _)])
      case ho => rfl
      case hs => exact ⟨rfl, rfl, trivial⟩
      case hk => rfl
      case h1 =>
        intro wq_10 kq_10
        refine WL.pickT rfl rfl rfl (?_)
        refine WL.nil ?_
        exact WX.one ⟨rfl, by exact Chg.refl _ _⟩
      apply DQ.step (E' := [(28, _)])
      case ho => rfl
      case hs => exact ⟨rfl, trivial⟩
      case hk => rfl
      case h1 =>
        intro wq_11 kq_11
        refine WL.move rfl rfl (?_)
        refine WL.nil ?_
        exact WX.one ⟨rfl, by exact Chg.refl _ _⟩
      apply DQ.step (E' := [(3, _), (29, _)])
      case ho => rfl
      case hs => exact ⟨rfl, rfl, trivial⟩
      case hk => rfl
      case h1 =>
        intro wq_12 kq_12
        refine WL.pass rfl rfl rfl rfl (WL.nil (?_))
        exact WX.one ⟨rfl, by exact Chg.refl _ _⟩
      apply DQ.step (E' := [(30, _), (29, _)])
      case ho => rfl
      case hs => exact ⟨rfl, rfl, trivial⟩
      case hk => rfl
      case h1 =>
        intro wq_13 kq_13
        refine WL.pass rfl rfl rfl rfl (WL.nil (?_))
        exact WX.one ⟨rfl, by exact Chg.refl _ _⟩
      apply DQ.step (E' := [(29, _), (31, _)])
      case ho => rfl
      case hs => exact ⟨rfl, rfl, trivial⟩
      case hk => rfl
      case h1 =>
        intro wq_14 kq_14
        refine WL.pickF rfl rfl rfl (?_)
        refine WL.nil ?_
        exact WX.one ⟨rfl, by exact Chg.refl _ _⟩
      apply DQ.step (E' := [(32, _)])
      case ho => rfl
      case hs => exact ⟨rfl, trivial⟩
      case hk => rfl
      case h1 =>
        intro wq_15 kq_15
        refine WL.move rfl rfl (?_)
        refine WL.nil ?_
        exact WX.one ⟨rfl, by exact Chg.refl _ _⟩
      apply DQ.step (E' := [(6, _), (33, _)])
      case ho => rfl
      case hs => exact ⟨rfl, rfl, trivial⟩
      case hk => rfl
      case h1 =>
        intro wq_16 kq_16
        refine WL.pass rfl rfl rfl rfl (WL.nil (?_))
        exact WX.one ⟨rfl, by exact Chg.refl _ _⟩
      apply DQ.step (E' := [(34, _), (33, _)])
      case ho => rfl
      case hs => exact ⟨rfl, rfl, trivial⟩
      case hk => rfl
      case h1 =>
        intro wq_17 kq_17
        refine WL.pass rfl rfl rfl rfl (WL.nil (?_))
        exact WX.one ⟨rfl, by exact Chg.refl _ _⟩
      apply DQ.step (E' := [(33, _), (35, _)])
      case ho => rfl
      case hs => exact ⟨rfl, rfl, trivial⟩
      case hk => rfl
      case h1 =>
        intro wq_18 kq_18
        refine WL.pickF rfl rfl rfl (?_)
        refine WL.nil ?_
        exact WX.one ⟨rfl, by exact Chg.refl _ _⟩
      apply DQ.step (E' := [(36, _)])
      case ho => rfl
      case hs => exact ⟨rfl, trivial⟩
      case hk => rfl
      case h1 =>
        intro wq_19 kq_19
        refine WL.move rfl rfl (?_)
        refine WL.nil ?_
        exact WX.one ⟨rfl, by exact Chg.refl _ _⟩
      apply DQ.step (E' := [(5, _), (37, _)])
      case ho => rfl
      case hs => exact ⟨rfl, rfl, trivial⟩
      case hk => rfl
      case h1 =>
        intro wq_20 kq_20
        have zs_kq_20 := kq_20.size
        replace hw := hw.pure kq_20
        replace hb_1 := hb_1.pure kq_20
        refine WL.pass rfl rfl rfl rfl (WL.nil (?_))
        exact WX.one ⟨rfl, by exact Chg.refl _ _⟩
      refine DQ.done (fun hd_4 => ?_)
      refine DL.step [(37, _)] rfl ⟨rfl, trivial⟩ rfl (fun wq_21 kq_21 => ?_)
      have zs_kq_21 := kq_21.size
      replace hw := hw.pure kq_21
      replace hb_1 := hb_1.pure kq_21
      replace hd_4 := hd_4.pure kq_21
      refine WL.pass rfl rfl rfl rfl (WL.nil (?_))
      refine WX.one ⟨hd_4, ?_⟩
      refine DL.step [(39, _), (37, _)] rfl ⟨rfl, rfl, trivial⟩ rfl (fun wq_22 kq_22 => ?_)
      have zs_kq_22 := kq_22.size
      replace hw := hw.pure kq_22
      replace hb_1 := hb_1.pure kq_22
      replace hd_4 := hd_4.pure kq_22
      refine WL.pass rfl rfl rfl rfl (WL.nil (?_))
      refine WX.one ⟨hd_4, ?_⟩
      refine DL.step [(38, _), (40, _), (37, _)] rfl ⟨rfl, rfl, rfl, trivial⟩ rfl (fun wq_23 kq_23 => ?_)
      have zs_kq_23 := kq_23.size
      replace hw := hw.pure kq_23
      replace hb_1 := hb_1.pure kq_23
      replace hd_4 := hd_4.pure kq_23
      refine WL.pass rfl rfl rfl rfl (WL.nil (?_))
      refine WX.one ⟨hd_4, ?_⟩
      refine DL.step [(37, _), (41, _)] rfl ⟨rfl, rfl, trivial⟩ rfl (fun wq_24 kq_24 => ?_)
      have zs_kq_24 := kq_24.size
      replace hw := hw.pure kq_24
      replace hb_1 := hb_1.pure kq_24
      replace hd_4 := hd_4.pure kq_24
      refine WL.pickF rfl rfl rfl (?_)
      refine WL.nil ?_
      refine WX.one ⟨hd_4, ?_⟩
      refine DL.step [(42, _)] rfl ⟨rfl, trivial⟩ rfl (fun wq_25 kq_25 => ?_)
      have zs_kq_25 := kq_25.size
      replace hw := hw.pure kq_25
      replace hb_1 := hb_1.pure kq_25
      replace hd_4 := hd_4.pure kq_25
      refine WL.assign rfl rfl (?_)
      refine WL.nil ?_
      refine WX.one ⟨hd_4, ?_⟩
      refine DL.done (fun we_26 ke_26 => ?_)
      have zs_ke_26 := ke_26.size
      replace hw := hw.pure ke_26
      replace hb_1 := hb_1.pure ke_26
      replace hd_4 := hd_4.pure ke_26
      refine WX.then_normal (WC.ret (?_))
      refine WX.ret1 (.inl rfl) Tryd.results9 rfl ?_
      first
        | exact ⟨_, rfl, rfl, hw⟩
        | (refine ⟨_, rfl, ?_, hw⟩
           exact congrArg Value.bool (decide_eq_true rfl))
        | (exfalso; omega)
  case hf =>
    intro h24
    replace h24 := of_decide_eq_false h24
    apply DQ.step (E' := [(24, _)])
    case ho => rfl
    case hs => exact ⟨rfl, trivial⟩
    case hk => rfl
    case h1 =>
      intro wq_7 kq_7
      refine WL.move rfl rfl (?_)
      refine WL.nil ?_
      exact WX.one ⟨rfl, by exact Chg.refl _ _⟩
    apply DQ.step (E' := [(4, _), (25, _)])
    case ho => rfl
    case hs => exact ⟨rfl, rfl, trivial⟩
    case hk => rfl
    case h1 =>
      intro wq_8 kq_8
      refine WL.pass rfl rfl rfl rfl (WL.nil (?_))
      exact WX.one ⟨rfl, by exact Chg.refl _ _⟩
    apply DQ.step (E' := [(26, _), (25, _)])
    case ho => rfl
    case hs => exact ⟨rfl, rfl, trivial⟩
    case hk => rfl
    case h1 =>
      intro wq_9 kq_9
      refine WL.pass rfl rfl rfl rfl (WL.nil (?_))
      exact WX.one ⟨rfl, by exact Chg.refl _ _⟩
    apply DQ.step (E' := [(25, _), (27, _)])
    case ho => rfl
    case hs => exact ⟨rfl, rfl, trivial⟩
    case hk => rfl
    case h1 =>
      intro wq_10 kq_10
      refine WL.pickF rfl rfl rfl (?_)
      refine WL.nil ?_
      exact WX.one ⟨rfl, by exact Chg.refl _ _⟩
    apply DQ.step (E' := [(28, _)])
    case ho => rfl
    case hs => exact ⟨rfl, trivial⟩
    case hk => rfl
    case h1 =>
      intro wq_11 kq_11
      refine WL.move rfl rfl (?_)
      refine WL.nil ?_
      exact WX.one ⟨rfl, by exact Chg.refl _ _⟩
    apply DQ.step (E' := [(3, _), (29, _)])
    case ho => rfl
    case hs => exact ⟨rfl, rfl, trivial⟩
    case hk => rfl
    case h1 =>
      intro wq_12 kq_12
      refine WL.pass rfl rfl rfl rfl (WL.nil (?_))
      exact WX.one ⟨rfl, by exact Chg.refl _ _⟩
    apply DQ.step (E' := [(30, _), (29, _)])
    case ho => rfl
    case hs => exact ⟨rfl, rfl, trivial⟩
    case hk => rfl
    case h1 =>
      intro wq_13 kq_13
      refine WL.pass rfl rfl rfl rfl (WL.nil (?_))
      exact WX.one ⟨rfl, by exact Chg.refl _ _⟩
    apply DQ.step (E' := [(29, _), (31, _)])
    case ho => rfl
    case hs => exact ⟨rfl, rfl, trivial⟩
    case hk => rfl
    case h1 =>
      intro wq_14 kq_14
      refine WL.pickF rfl rfl rfl (?_)
      refine WL.nil ?_
      exact WX.one ⟨rfl, by exact Chg.refl _ _⟩
    apply DQ.step (E' := [(32, _)])
    case ho => rfl
    case hs => exact ⟨rfl, trivial⟩
    case hk => rfl
    case h1 =>
      intro wq_15 kq_15
      refine WL.move rfl rfl (?_)
      refine WL.nil ?_
      exact WX.one ⟨rfl, by exact Chg.refl _ _⟩
    apply DQ.step (E' := [(6, _), (33, _)])
    case ho => rfl
    case hs => exact ⟨rfl, rfl, trivial⟩
    case hk => rfl
    case h1 =>
      intro wq_16 kq_16
      refine WL.pass rfl rfl rfl rfl (WL.nil (?_))
      exact WX.one ⟨rfl, by exact Chg.refl _ _⟩
    apply DQ.step (E' := [(34, _), (33, _)])
    case ho => rfl
    case hs => exact ⟨rfl, rfl, trivial⟩
    case hk => rfl
    case h1 =>
      intro wq_17 kq_17
      refine WL.pass rfl rfl rfl rfl (WL.nil (?_))
      exact WX.one ⟨rfl, by exact Chg.refl _ _⟩
    apply DQ.step (E' := [(33, _), (35, _)])
    case ho => rfl
    case hs => exact ⟨rfl, rfl, trivial⟩
    case hk => rfl
    case h1 =>
      intro wq_18 kq_18
      refine WL.pickF rfl rfl rfl (?_)
      refine WL.nil ?_
      exact WX.one ⟨rfl, by exact Chg.refl _ _⟩
    apply DQ.step (E' := [(36, _)])
    case ho => rfl
    case hs => exact ⟨rfl, trivial⟩
    case hk => rfl
    case h1 =>
      intro wq_19 kq_19
      refine WL.move rfl rfl (?_)
      refine WL.nil ?_
      exact WX.one ⟨rfl, by exact Chg.refl _ _⟩
    apply DQ.step (E' := [(5, _), (37, _)])
    case ho => rfl
    case hs => exact ⟨rfl, rfl, trivial⟩
    case hk => rfl
    case h1 =>
      intro wq_20 kq_20
      have zs_kq_20 := kq_20.size
      replace hw := hw.pure kq_20
      replace hb_1 := hb_1.pure kq_20
      refine WL.pass rfl rfl rfl rfl (WL.nil (?_))
      exact WX.one ⟨rfl, by exact Chg.refl _ _⟩
    refine DQ.done (fun hd_4 => ?_)
    refine DL.step [(37, _)] rfl ⟨rfl, trivial⟩ rfl (fun wq_21 kq_21 => ?_)
    have zs_kq_21 := kq_21.size
    replace hw := hw.pure kq_21
    replace hb_1 := hb_1.pure kq_21
    replace hd_4 := hd_4.pure kq_21
    refine WL.pass rfl rfl rfl rfl (WL.nil (?_))
    refine WX.one ⟨hd_4, ?_⟩
    refine DL.step [(39, _), (37, _)] rfl ⟨rfl, rfl, trivial⟩ rfl (fun wq_22 kq_22 => ?_)
    have zs_kq_22 := kq_22.size
    replace hw := hw.pure kq_22
    replace hb_1 := hb_1.pure kq_22
    replace hd_4 := hd_4.pure kq_22
    refine WL.pass rfl rfl rfl rfl (WL.nil (?_))
    refine WX.one ⟨hd_4, ?_⟩
    refine DL.step [(38, _), (40, _), (37, _)] rfl ⟨rfl, rfl, rfl, trivial⟩ rfl (fun wq_23 kq_23 => ?_)
    have zs_kq_23 := kq_23.size
    replace hw := hw.pure kq_23
    replace hb_1 := hb_1.pure kq_23
    replace hd_4 := hd_4.pure kq_23
    refine WL.pass rfl rfl rfl rfl (WL.nil (?_))
    refine WX.one ⟨hd_4, ?_⟩
    refine DL.step [(37, _), (41, _)] rfl ⟨rfl, rfl, trivial⟩ rfl (fun wq_24 kq_24 => ?_)
    have zs_kq_24 := kq_24.size
    replace hw := hw.pure kq_24
    replace hb_1 := hb_1.pure kq_24
    replace hd_4 := hd_4.pure kq_24
    refine WL.pickF rfl rfl rfl (?_)
    refine WL.nil ?_
    refine WX.one ⟨hd_4, ?_⟩
    refine DL.step [(42, _)] rfl ⟨rfl, trivial⟩ rfl (fun wq_25 kq_25 => ?_)
    have zs_kq_25 := kq_25.size
    replace hw := hw.pure kq_25
    replace hb_1 := hb_1.pure kq_25
    replace hd_4 := hd_4.pure kq_25
    refine WL.assign rfl rfl (?_)
    refine WL.nil ?_
    refine WX.one ⟨hd_4, ?_⟩
    refine DL.done (fun we_26 ke_26 => ?_)
    have zs_ke_26 := ke_26.size
    replace hw := hw.pure ke_26
    replace hb_1 := hb_1.pure ke_26
    replace hd_4 := hd_4.pure ke_26
    refine WX.then_normal (WC.ret (?_))
    refine WX.ret1 (.inl rfl) Tryd.results9 rfl ?_
    first
      | exact ⟨_, rfl, rfl, hw⟩
      | (refine ⟨_, rfl, ?_, hw⟩
         exact congrArg Value.bool (decide_eq_true rfl))
      | (exfalso; omega)
end Go.Proofs.YtjeldcjchipdgaaDoor
namespace Go.Proofs.YtjeldcjchipdgaaDoor
open Go.RowKit Go.HL
set_option maxRecDepth 100000

/-! the document's records -/
theorem docEncU_calls (u : UbV) (w : World) (hu : WfU u) : Calls Tryd.prog 10 [.agg (eub.f u).toArray].toArray w (Ret fun v w' => v = .tuple #[.string ⟨(encB u).toArray⟩, vi (encE u)] ∧ Chg Nob w w') := by
  have kk := Chg.refl Nob w
  refine Calls.of_WC Tryd.func10 rfl Tryd.ntmps10 (by simp) ?_
  refine WC.seq (WC.region (?_))
  refine WL.box rfl rfl ?_
  intro g_1 w_1 hge_1 hlt_1 hb_1 k_1
  have zs_k_1 := k_1.size
  replace kk := kk.pure k_1
  refine WL.assign rfl rfl (WL.assign rfl rfl (WL.nil (WX.then_normal (WC.seq (WC.region (WL.fieldAddr (fld_31_1) rfl rfl (?_)))))))
  have hb1 : Blk _ g_1 31 (eub.f u) := hb_1
  refine WL.loads (ept.f u.p) Tryd.isAgg23 Tryd.sizeOf23 rfl (fun j v hj => by rw [Nat.add_comm]; exact hb1.cell hj) rfl rfl ?_
  refine WL.call eg_34 rfl rfl (docPtr_calls u.p _ hu.2) ?_
  rintro v w1 ⟨rfl, k1⟩
  have zs_k1 := k1.size
  replace kk := kk.pure k1
  replace hb1 := hb1.pure k1
  refine WL.move rfl rfl (WL.extract rfl rfl rfl (WL.extract rfl rfl rfl (WL.assign rfl rfl (WL.assign rfl rfl (WL.nil (WX.then_normal (WC.seq (?_))))))))
  refine WC.seq (WC.region (WL.move rfl rfl (?_)))
  refine WL.neq? rfl rfl rfl (fun h14 => ?_) (fun h14 => ?_)
  ·
    refine WL.move rfl rfl (WL.pass rfl rfl rfl rfl (WL.pass rfl rfl rfl rfl (WL.pass rfl rfl rfl rfl (WL.pickT rfl rfl rfl (WL.nil (WX.then_normal (WC.cond_true rfl (?_))))))))
    refine WC.seq (WC.region (WL.assign rfl rfl (WL.assign rfl rfl (WL.nil (WX.then_normal (WC.ret (WX.then_ret (?_))))))))
    refine WX.ret2 (.inl rfl) Tryd.results10 rfl rfl ?_
    by_cases hc : rightP u.p ∧ 1 ≤ u.t
    ·
      rw [encB, encE, if_pos hc, if_pos hc]
      first
        | (have hz : secE (uit u) ≠ 0 := h32
           rw [secB, if_neg hz]
           exact ⟨_, rfl, rfl, kk⟩)
        | (have hz : secE (uit u) = 0 := h32
           rw [hz]
           exact ⟨_, rfl, rfl, kk⟩)
        | (exfalso; exact h14 ((ptrE_eq _).2 hc.1))
        | (exfalso; have h5 := hc.2; omega)
    ·
      rw [encB, encE, if_neg hc, if_neg hc]
      first
        | (exact ⟨_, rfl, rfl, kk⟩)
        | (exfalso; exact hc ⟨(ptrE_eq _).1 h14, by omega⟩)
  ·
    refine WL.move rfl rfl (WL.want rfl rfl rfl (WL.fieldAddr (fld_31_0) rfl rfl (WL.want rfl rfl rfl (WL.loadB Tryd.isAgg3 hb1 rfl rfl rfl (WL.want rfl rfl rfl (?_))))))
    refine WL.lss? rfl rfl rfl (fun h18 => ?_) (fun h18 => ?_)
    ·
      refine WL.pickF rfl rfl rfl (WL.nil (WX.then_normal (WC.cond_true rfl (WC.seq (WC.region (WL.assign rfl rfl (WL.assign rfl rfl (?_))))))))
      refine WL.nil (WX.then_normal (WC.ret (WX.then_ret (?_))))
      refine WX.ret2 (.inl rfl) Tryd.results10 rfl rfl ?_
      by_cases hc : rightP u.p ∧ 1 ≤ u.t
      ·
        rw [encB, encE, if_pos hc, if_pos hc]
        first
          | (have hz : secE (uit u) ≠ 0 := h32
             rw [secB, if_neg hz]
             exact ⟨_, rfl, rfl, kk⟩)
          | (have hz : secE (uit u) = 0 := h32
             rw [hz]
             exact ⟨_, rfl, rfl, kk⟩)
          | (exfalso; exact h14 ((ptrE_eq _).2 hc.1))
          | (exfalso; have h5 := hc.2; omega)
      ·
        rw [encB, encE, if_neg hc, if_neg hc]
        first
          | (exact ⟨_, rfl, rfl, kk⟩)
          | (exfalso; exact hc ⟨(ptrE_eq _).1 h14, by omega⟩)
    ·
      refine WL.pickF rfl rfl rfl (WL.nil (WX.then_normal (WC.cond_false rfl (WC.skip (WX.then_normal (WC.seq (WC.region (?_))))))))
      refine WL.bld rfl (bld_75_0_1 _ _) rfl (WL.fieldAddr (fld_31_0) rfl rfl (WL.loadB Tryd.isAgg3 hb1 rfl rfl rfl (WL.bld rfl (bld_75_0_1 _ _) rfl (WL.move rfl rfl (WL.bld rfl (bld_75_0_2 _ _) rfl (?_))))))
      refine WL.build (e := eit) [⟨1, 77, ⟨#[]⟩⟩, ⟨1, u.t, ⟨#[]⟩⟩, ⟨2, 0, ptrS u.p⟩] Tryd.underlying76 Tryd.sizeOf75 Tryd.zeroValue75 rfl rfl rfl (by simp [Value.cells] <;> rfl) (by decide) rfl ?_
      intro a_ha w_ha ha l_ha z_ha k_ha
      have zs_k_ha := k_ha.size
      replace kk := kk.pure k_ha
      replace hb1 := hb1.pure k_ha
      have ha2 := ha.rsl.old
      refine WL.call eg_35 rfl rfl (docSector_calls ha2 (by simp) (uit_rit hu)) ?_
      rintro v w2 ⟨rfl, k2⟩
      rw [show ([⟨1, 77, ⟨#[]⟩⟩, ⟨1, u.t, ⟨#[]⟩⟩, ⟨2, 0, ptrS u.p⟩] : List Item) = uit u from rfl]
      have zs_k2 := k2.size
      replace kk := kk.pure k2
      replace hb1 := hb1.pure k2
      replace ha := ha.pure k2
      refine WL.move rfl rfl (WL.extract rfl rfl rfl (WL.extract rfl rfl rfl (WL.assign rfl rfl (WL.assign rfl rfl (WL.nil (WX.then_normal (WC.seq (?_))))))))
      refine WC.seq (WC.region (WL.move rfl rfl (?_)))
      refine WL.neq? rfl rfl rfl (fun h32 => ?_) (fun h32 => ?_)
      ·
        refine WL.nil (WX.then_normal (WC.cond_true rfl (WC.seq (WC.region (WL.move rfl rfl (WL.assign rfl rfl (WL.assign rfl rfl (?_))))))))
        refine WL.nil (WX.then_normal (WC.ret (WX.then_ret (?_))))
        refine WX.ret2 (.inl rfl) Tryd.results10 rfl rfl ?_
        by_cases hc : rightP u.p ∧ 1 ≤ u.t
        ·
          rw [encB, encE, if_pos hc, if_pos hc]
          first
            | (have hz : secE (uit u) ≠ 0 := h32
               rw [secB, if_neg hz]
               exact ⟨_, rfl, rfl, kk⟩)
            | (have hz : secE (uit u) = 0 := h32
               rw [hz]
               exact ⟨_, rfl, rfl, kk⟩)
            | (exfalso; exact h14 ((ptrE_eq _).2 hc.1))
            | (exfalso; have h5 := hc.2; omega)
        ·
          rw [encB, encE, if_neg hc, if_neg hc]
          first
            | (exact ⟨_, rfl, rfl, kk⟩)
            | (exfalso; exact hc ⟨(ptrE_eq _).1 h14, by omega⟩)
      ·
        refine WL.nil (WX.then_normal (WC.cond_false rfl (WC.skip (WX.then_normal (WC.seq (WC.region (WL.move rfl rfl (?_))))))))
        refine WL.assign rfl rfl (WL.assign rfl rfl (WL.nil (WX.then_normal (WC.ret (?_)))))
        refine WX.ret2 (.inl rfl) Tryd.results10 rfl rfl ?_
        by_cases hc : rightP u.p ∧ 1 ≤ u.t
        ·
          rw [encB, encE, if_pos hc, if_pos hc]
          first
            | (have hz : secE (uit u) ≠ 0 := h32
               rw [secB, if_neg hz]
               exact ⟨_, rfl, rfl, kk⟩)
            | (have hz : secE (uit u) = 0 := h32
               rw [hz]
               exact ⟨_, rfl, rfl, kk⟩)
            | (exfalso; exact h14 ((ptrE_eq _).2 hc.1))
            | (exfalso; have h5 := hc.2; omega)
        ·
          rw [encB, encE, if_neg hc, if_neg hc]
          first
            | (exact ⟨_, rfl, rfl, kk⟩)
            | (exfalso; exact hc ⟨(ptrE_eq _).1 h14, by omega⟩)
theorem unp_inv {s : ByteArray} (h : (unpR s).2 = 0) : rightP (unpR s).1 ∧ WfP (unpR s).1 ∧ ptrS (unpR s).1 = s := by
  by_cases h4 : (decL s.data.toList).length = 4
  · obtain ⟨i0, i1, i2, i3, hL⟩ := four h4
    have e := unpR_four hL
    by_cases hc : decE s.data.toList = 0 ∧ (i0.kind = 1 ∧ i1.kind = 1 ∧ i2.kind = 1 ∧ i3.kind = 2) ∧ rightP (ptr4 i0 i1 i2 i3)
    · rw [if_pos hc] at e
      rw [e]
      exact ⟨hc.2.2, four_wf hc.1 hL, (unp_text hc.1 hL hc.2.2).2 hc.2.1⟩
    · rw [if_neg hc] at e
      rw [e] at h
      cases h
  · rw [unpR_bad (.inr h4)] at h
    cases h
theorem dec_inv {b : List UInt8} {u : UbV} (h : decU b = some u) : encE u = 0 ∧ encB u = b ∧ WfU u := by
  unfold decU at h
  split at h
  · rename_i i0 i1 i2 hu
    split at h
    · rename_i hc
      obtain ⟨c1, c2, c3, c4, c5⟩ := hc
      injection h with h
      subst h
      obtain ⟨_, _, _, _, hg, hE, hB⟩ := un_parts hu
      obtain ⟨r1, r2, r3⟩ := unp_inv c5
      have g1 := hg i1 (by simp)
      have e1 := good1 g1 c2
      have e2 := good2 (hg i2 (by simp)) c4
      have hl : uit ⟨i1.n, (unpR i2.s).1⟩ = [i0, i1, i2] := by
        show [(⟨1, 77, ⟨#[]⟩⟩ : Item), ⟨1, i1.n, ⟨#[]⟩⟩, ⟨2, 0, ptrS (unpR i2.s).1⟩] = _
        rw [r3, c1, ← e1, ← e2]
      refine ⟨?_, ?_, g1.2.2, r2⟩
      · rw [encE, if_pos ⟨r1, c3⟩, hl, hE]
      · rw [encB, if_pos ⟨r1, c3⟩, hl, hB]
    · cases h
  · cases h
end Go.Proofs.YtjeldcjchipdgaaDoor
namespace Go.HL
open Go.RowKit
/-! regions that draw their order: quiet operations that hang on loud ones -/
section
variable (P : Program) (ops : Array Oper) (Q : Exit → Act → World → Prop) (N : Nat) (M : Nat → Prop)
def DPQ (w0 : World) (next : Env → Prop) : List Nat → Env → Prop
  | [], E => next E
  | i :: is, E => ∃ v, (∀ o, ops[i]? = some o → ∀ w', Chg M w0 w' → WL P ops (One o.dst fun u w'' => u = v ∧ Chg Nob w' w'') N [o] (restr ops i E) w') ∧ DPQ w0 next is (putE E (dstOf ops i) v)
def DPR : List (Nat × List Nat) → Env → World → Prop
  | [], E, w => ∀ w', Chg Nob w w' → WX Q .normal N E w'
  | (r, C) :: t, E, w => ∀ w', Chg Nob w w' → ∀ o, ops[r]? = some o → WL P ops (One o.dst fun v w'' => Chg M w' w'' ∧ DPQ P ops N M w'' (fun E2 => DPR t E2 w'') C (putE E o.dst v)) N [o] (restr ops r E) w'
end
section
variable {P : Program} {ops : Array Oper} {Q : Exit → Act → World → Prop} {N : Nat} {M : Nat → Prop} {w0 : World} {E0 : Env}
end
section
variable {P : Program} {ops : Array Oper} {Q : Exit → Act → World → Prop} {N : Nat} {M : Nat → Prop} {w0 w : World} {E E' : Env} {is : List Nat} {i r : Nat} {o : Oper} {next : Env → Prop} {C : List Nat} {t : List (Nat × List Nat)}
theorem DPQ.step {v : Value} (E' : Env) (ho : ops[i]? = some o) (hs : Sub E' E) (hk : (E'.all fun p => (looks ops i).contains p.1) = true)
    (h1 : ∀ w', Chg M w0 w' → WL P ops (One o.dst fun u w'' => u = v ∧ Chg Nob w' w'') N [o] E' w') (h2 : DPQ P ops N M w0 next is (putE E o.dst v)) : DPQ P ops N M w0 next (i :: is) E :=
  ⟨v, fun o' ho' w' hw => by rw [ho] at ho'; injection ho' with ho'; subst ho'; exact (h1 w' hw).sub (sub_restr hs hk), by rw [dstOf_eq ho]; exact h2⟩
theorem DPQ.split {b : Bool} (E' : Env) (ho : ops[i]? = some o) (hs : Sub E' E) (hk : (E'.all fun p => (looks ops i).contains p.1) = true)
    (h1 : ∀ w', Chg M w0 w' → WL P ops (One o.dst fun u w'' => u = .bool b ∧ Chg Nob w' w'') N [o] E' w') (ht : b = true → DPQ P ops N M w0 next is (putE E o.dst (.bool true))) (hf : b = false → DPQ P ops N M w0 next is (putE E o.dst (.bool false))) : DPQ P ops N M w0 next (i :: is) E :=
  DPQ.step E' ho hs hk h1 (by
    cases b
    · exact hf rfl
    · exact ht rfl)
theorem DPQ.done (h : next E) : DPQ P ops N M w0 next [] E := h
theorem DPR.step (E' : Env) (ho : ops[r]? = some o) (hs : Sub E' E) (hk : (E'.all fun p => (looks ops r).contains p.1) = true)
    (h1 : ∀ w', Chg Nob w w' → WL P ops (One o.dst fun v w'' => Chg M w' w'' ∧ DPQ P ops N M w'' (fun E2 => DPR P ops Q N M t E2 w'') C (putE E o.dst v)) N [o] E' w') : DPR P ops Q N M ((r, C) :: t) E w :=
  fun w' hw o' ho' => by rw [ho] at ho'; injection ho' with ho'; subst ho'; exact (h1 w' hw).sub (sub_restr hs hk)
theorem DPR.done (h : ∀ w', Chg Nob w w' → WX Q .normal N E w') : DPR P ops Q N M [] E w := h
end
end Go.HL
namespace Go.Proofs.YtjeldcjchipdgaaDoor
open Go.RowKit Go.HL
set_option maxRecDepth 100000

theorem decV_not {b : List UInt8} {u : UbV} (hd : decU b = if encE u = 0 ∧ encB u = b then some u else none) : (encE u = 0 → encB u = b → decV b = u ∧ decEr b = 0) ∧ (¬ (encE u = 0 ∧ encB u = b) → decV b = zeroU ∧ decEr b = 2) := by
  refine ⟨fun h1 h2 => ?_, fun h => ?_⟩
  · rw [if_pos ⟨h1, h2⟩] at hd
    exact decU_yes hd
  · rw [if_neg h] at hd
    exact decU_no hd
theorem decU_try {b : List UInt8} {i0 i1 i2 : Item} (hu : unE b = 0) (hL : unL b = [i0, i1, i2]) (hp : (unpR i2.s).2 = 0) (hr : RIt i1) : WfU ⟨i1.n, (unpR i2.s).1⟩ ∧ (decU b = if encE ⟨i1.n, (unpR i2.s).1⟩ = 0 ∧ encB ⟨i1.n, (unpR i2.s).1⟩ = b then some ⟨i1.n, (unpR i2.s).1⟩ else none) := by
  have hw : WfU ⟨i1.n, (unpR i2.s).1⟩ := ⟨hr, (unp_inv hp).2.1⟩
  refine ⟨hw, ?_⟩
  split
  · rename_i h
    have := dec_enc h.1 hw
    rw [h.2] at this
    exact this
  · rename_i h
    have h3 := decU_three hu hL
    by_cases hc : i0 = ⟨1, 77, ⟨#[]⟩⟩ ∧ i1.kind = 1 ∧ 1 ≤ i1.n ∧ i2.kind = 2 ∧ (unpR i2.s).2 = 0
    · rw [if_pos hc] at h3
      obtain ⟨d1, d2, _⟩ := dec_inv h3
      exact absurd ⟨d1, d2⟩ h
    · rw [if_neg hc] at h3
      exact h3
set_option maxHeartbeats 2000000 in
theorem docDecU_calls (X : ByteArray) (w : World) (hl : X.size ≤ 140737488351232) :
    Calls Tryd.prog 13 [.string X].toArray w (Ret fun v w' => v = .tuple #[.agg (eub.f (decV X.data.toList)).toArray, vi (decEr X.data.toList)] ∧ Chg Nob w w') := by
  have kk := Chg.refl Nob w
  obtain ⟨b, eb0⟩ : ∃ b, b = X.data.toList := ⟨_, rfl⟩
  have hXb : X = ⟨b.toArray⟩ := ba_ext eb0.symm
  rw [← eb0]
  refine Calls.of_WC Tryd.func13 rfl Tryd.ntmps13 (by simp) ?_
  refine WC.seq (WC.region (?_))
  refine WL.alloc Tryd.zeroValue31 rfl ?_
  intro g_1 w_1 hge_1 hlt_1 hb_1 k_1
  have zs_k_1 := k_1.size
  replace kk := kk.pure k_1
  refine WL.assign rfl rfl (WL.nil (WX.then_normal (WC.seq (WC.region (WL.move rfl rfl (?_))))))
  refine WL.call eg_38 rfl rfl (docUnsector_calls X _ hl) ?_
  rintro v w1 ⟨⟨a1, c1, rfl, hq⟩, k1⟩
  rw [← eb0] at hq ⊢
  obtain ⟨L, eL⟩ : ∃ L, L = unL b := ⟨_, rfl⟩
  rw [← eL] at hq ⊢
  have zs_k1 := k1.size
  replace kk := kk.pure k1
  replace hb_1 := hb_1.pure k1
  replace hq := hq.lt
  refine WL.move rfl rfl (WL.extract rfl rfl rfl (WL.extract rfl rfl rfl (WL.assign rfl rfl (WL.assign rfl rfl (WL.nil (WX.then_normal (WC.seq (?_))))))))
  refine WC.seq (WC.region (WL.move rfl rfl (?_)))
  refine WL.neq? rfl rfl rfl (fun h15 => ?_) (fun h15 => ?_)
  ·
    refine WL.move rfl rfl (WL.pass rfl rfl rfl rfl (WL.pass rfl rfl rfl rfl (WL.pass rfl rfl rfl rfl (WL.pickT rfl rfl rfl (WL.nil (WX.then_normal (WC.cond_true rfl (?_))))))))
    refine WC.seq (WC.region (WL.bld rfl (bld_31_z) rfl (?_)))
    refine WL.stores Tryd.sizeOf31 hb_1 rfl rfl (by simp; done) (by simp [Value.oneCell']; done) (by simp [Value.cells]; done) rfl ?_
    intro w_2 hs_2 hn_2 k_2
    have zs_k_2 := k_2.size
    replace kk := kk.chg k_2 (by intro x h1 h2; have h3 : _ = _ := h2; exfalso; omega)
    replace hq := hq.chg k_2 (by intro b h1 h2 h3; have h4 : _ = _ := h3; (try dsimp only at h2); exfalso; omega)
    replace hb_1 := hn_2
    refine WL.assign rfl rfl (WL.nil (WX.then_normal (WC.ret (WX.then_ret (?_)))))
    refine WX.ret2c (.inl rfl) Tryd.results13 Tryd.isAgg31 Tryd.sizeOf31 hb_1 rfl (by rfl) rfl ?_
    first
      | (have hz : unE b ≠ 0 := h15
         obtain ⟨e1, e2⟩ := decU_no (decU_bad (b := b) (.inl hz))
         rw [e1, e2]
         exact ⟨_, rfl, rfl, kk⟩)
      | (have hz : (L.length : Int) ≠ 3 := h19
         obtain ⟨e1, e2⟩ := decU_no (decU_bad (b := b) (.inr (fun h9 => hz (by rw [eL, h9]; rfl))))
         rw [e1, e2]
         exact ⟨_, rfl, rfl, kk⟩)
      | (have hz : (unpR i2.s).2 ≠ 0 := h31
         have hd := decU_three (b := b) h15 (eL ▸ hL)
         rw [if_neg (fun hc => hz hc.2.2.2.2)] at hd
         obtain ⟨e1, e2⟩ := decU_no hd
         rw [e1, e2]
         exact ⟨_, rfl, rfl, kk⟩)
      | (have hz : encE U ≠ 0 := h45
         obtain ⟨e1, e2⟩ := dn (fun h => hz h.1)
         rw [e1, e2]
         exact ⟨_, rfl, rfl, kk⟩)
      | (have hz : encE U = 0 := h45
         have hz2 : ¬ (⟨(encB U).toArray⟩ : ByteArray) = X := h49
         obtain ⟨e1, e2⟩ := dn (fun h => hz2 (by rw [h.2, hXb]))
         rw [e1, e2]
         exact ⟨_, rfl, rfl, kk⟩)
      | (have hz : encE U = 0 := h45
         have hz2 : (⟨(encB U).toArray⟩ : ByteArray) = X := h49
         have hz3 : encB U = b := by
           have := congrArg (fun x : ByteArray => x.data.toList) hz2
           rw [eb0]
           simpa using this
         obtain ⟨e1, e2⟩ := dy hz hz3
         rw [e1, e2]
         exact ⟨_, rfl, rfl, kk⟩)
  ·
    refine WL.move rfl rfl (WL.want rfl rfl rfl (WL.move rfl rfl (WL.want rfl rfl rfl (WL.len Tryd.underlying76 rfl rfl (WL.want rfl rfl rfl (?_))))))
    refine WL.neq? rfl rfl rfl (fun h19 => ?_) (fun h19 => ?_)
    ·
      refine WL.pickF rfl rfl rfl (WL.nil (WX.then_normal (WC.cond_true rfl (WC.seq (WC.region (WL.bld rfl (bld_31_z) rfl (?_)))))))
      refine WL.stores Tryd.sizeOf31 hb_1 rfl rfl (by simp; done) (by simp [Value.oneCell']; done) (by simp [Value.cells]; done) rfl ?_
      intro w_2 hs_2 hn_2 k_2
      have zs_k_2 := k_2.size
      replace kk := kk.chg k_2 (by intro x h1 h2; have h3 : _ = _ := h2; exfalso; omega)
      replace hq := hq.chg k_2 (by intro b h1 h2 h3; have h4 : _ = _ := h3; (try dsimp only at h2); exfalso; omega)
      replace hb_1 := hn_2
      refine WL.assign rfl rfl (WL.nil (WX.then_normal (WC.ret (WX.then_ret (?_)))))
      refine WX.ret2c (.inl rfl) Tryd.results13 Tryd.isAgg31 Tryd.sizeOf31 hb_1 rfl (by rfl) rfl ?_
      first
        | (have hz : unE b ≠ 0 := h15
           obtain ⟨e1, e2⟩ := decU_no (decU_bad (b := b) (.inl hz))
           rw [e1, e2]
           exact ⟨_, rfl, rfl, kk⟩)
        | (have hz : (L.length : Int) ≠ 3 := h19
           obtain ⟨e1, e2⟩ := decU_no (decU_bad (b := b) (.inr (fun h9 => hz (by rw [eL, h9]; rfl))))
           rw [e1, e2]
           exact ⟨_, rfl, rfl, kk⟩)
        | (have hz : (unpR i2.s).2 ≠ 0 := h31
           have hd := decU_three (b := b) h15 (eL ▸ hL)
           rw [if_neg (fun hc => hz hc.2.2.2.2)] at hd
           obtain ⟨e1, e2⟩ := decU_no hd
           rw [e1, e2]
           exact ⟨_, rfl, rfl, kk⟩)
        | (have hz : encE U ≠ 0 := h45
           obtain ⟨e1, e2⟩ := dn (fun h => hz h.1)
           rw [e1, e2]
           exact ⟨_, rfl, rfl, kk⟩)
        | (have hz : encE U = 0 := h45
           have hz2 : ¬ (⟨(encB U).toArray⟩ : ByteArray) = X := h49
           obtain ⟨e1, e2⟩ := dn (fun h => hz2 (by rw [h.2, hXb]))
           rw [e1, e2]
           exact ⟨_, rfl, rfl, kk⟩)
        | (have hz : encE U = 0 := h45
           have hz2 : (⟨(encB U).toArray⟩ : ByteArray) = X := h49
           have hz3 : encB U = b := by
             have := congrArg (fun x : ByteArray => x.data.toList) hz2
             rw [eb0]
             simpa using this
           obtain ⟨e1, e2⟩ := dy hz hz3
           rw [e1, e2]
           exact ⟨_, rfl, rfl, kk⟩)
    ·
      refine WL.pickF rfl rfl rfl (WL.nil (WX.then_normal (WC.cond_false rfl (WC.skip (WX.then_normal (WC.seq (WC.region (?_))))))))
      refine WL.move rfl rfl (?_)
      obtain ⟨i0, i1, i2, hL⟩ := three_items (l := L) (by omega)
      have hi1 : L[1]? = some i1 := by rw [hL]; rfl
      have hi2 : L[2]? = some i2 := by rw [hL]; rfl
      refine WL.indexT Tryd.underlying76 Tryd.sizeOf75 hq.rsl rfl rfl ⟨hi2, rfl⟩ rfl ?_
      intro b_2 o_2 hc_2
      refine WL.fieldAddr (fld_75_2) rfl rfl (WL.load Tryd.isAgg9 rfl (hc_2 _ _ rfl) rfl (?_))
      have hg2 : Good i2 := un_good (b := b) i2 (by rw [← eL, hL]; simp)
      have hg1 : Good i1 := un_good (b := b) i1 (by rw [← eL, hL]; simp)
      have hs2 : i2.s.size ≤ 4000 := by
        have h9 := hg2.1
        have h8 := hg2.2.1
        simp only [longI, decide_eq_false_iff_not] at h9
        simp only [okI, decide_eq_true_eq] at h8
        rcases h8 with ⟨_, h8⟩ | ⟨h8, _⟩
        ·
          rw [h8]; show 0 ≤ 4000; omega
        ·
          omega
      refine WL.call eg_39 rfl rfl (docUnptr_calls i2.s _ (by omega)) ?_
      rintro v w2 ⟨rfl, k2⟩
      have zs_k2 := k2.size
      replace kk := kk.pure k2
      replace hb_1 := hb_1.pure k2
      replace hq := hq.pure k2
      refine WL.move rfl rfl (WL.extract rfl rfl rfl (WL.extract rfl rfl rfl (?_)))
      refine WL.alloc Tryd.zeroValue23 rfl ?_
      intro g_3 w_3 hge_3 hlt_3 hb_3 k_3
      have zs_k_3 := k_3.size
      replace kk := kk.pure k_3
      replace hb_1 := hb_1.pure k_3
      replace hq := hq.pure k_3
      refine WL.stores Tryd.sizeOf23 hb_3 rfl rfl (by rfl) (by exact Enc.one _ _) (by exact Nat.le_of_ble_eq_true rfl) rfl ?_
      intro w_4 hs_4 hn_4 k_4
      have zs_k_4 := k_4.size
      replace kk := kk.chg k_4 (by intro x h1 h2; have h3 : _ = _ := h2; exfalso; omega)
      replace hb_1 := hb_1.chg k_4 (by intro h1; have h2 : _ = _ := h1; exfalso; omega)
      replace hq := hq.chg k_4 (by intro b h1 h2 h3; have h4 : _ = _ := h3; (try dsimp only at h2); exfalso; omega)
      replace hb_3 := hn_4
      refine WL.assign rfl rfl (WL.nil (WX.then_normal (WC.seq (WC.seq (WC.region (WL.move rfl rfl (?_)))))))
      refine WL.neq? rfl rfl rfl (fun h31 => ?_) (fun h31 => ?_)
      ·
        refine WL.nil (WX.then_normal (WC.cond_true rfl (WC.seq (WC.region (WL.bld rfl (bld_31_z) rfl (?_))))))
        refine WL.stores Tryd.sizeOf31 hb_1 rfl rfl (by simp; done) (by simp [Value.oneCell']; done) (by simp [Value.cells]; done) rfl ?_
        intro w_5 hs_5 hn_5 k_5
        have zs_k_5 := k_5.size
        replace kk := kk.chg k_5 (by intro x h1 h2; have h3 : _ = _ := h2; exfalso; omega)
        replace hq := hq.chg k_5 (by intro b h1 h2 h3; have h4 : _ = _ := h3; (try dsimp only at h2); exfalso; omega)
        replace hb_3 := hb_3.chg k_5 (by intro h1; have h2 : _ = _ := h1; exfalso; omega)
        replace hb_1 := hn_5
        refine WL.assign rfl rfl (WL.nil (WX.then_normal (WC.ret (WX.then_ret (?_)))))
        refine WX.ret2c (.inl rfl) Tryd.results13 Tryd.isAgg31 Tryd.sizeOf31 hb_1 rfl (by rfl) rfl ?_
        first
          | (have hz : unE b ≠ 0 := h15
             obtain ⟨e1, e2⟩ := decU_no (decU_bad (b := b) (.inl hz))
             rw [e1, e2]
             exact ⟨_, rfl, rfl, kk⟩)
          | (have hz : (L.length : Int) ≠ 3 := h19
             obtain ⟨e1, e2⟩ := decU_no (decU_bad (b := b) (.inr (fun h9 => hz (by rw [eL, h9]; rfl))))
             rw [e1, e2]
             exact ⟨_, rfl, rfl, kk⟩)
          | (have hz : (unpR i2.s).2 ≠ 0 := h31
             have hd := decU_three (b := b) h15 (eL ▸ hL)
             rw [if_neg (fun hc => hz hc.2.2.2.2)] at hd
             obtain ⟨e1, e2⟩ := decU_no hd
             rw [e1, e2]
             exact ⟨_, rfl, rfl, kk⟩)
          | (have hz : encE U ≠ 0 := h45
             obtain ⟨e1, e2⟩ := dn (fun h => hz h.1)
             rw [e1, e2]
             exact ⟨_, rfl, rfl, kk⟩)
          | (have hz : encE U = 0 := h45
             have hz2 : ¬ (⟨(encB U).toArray⟩ : ByteArray) = X := h49
             obtain ⟨e1, e2⟩ := dn (fun h => hz2 (by rw [h.2, hXb]))
             rw [e1, e2]
             exact ⟨_, rfl, rfl, kk⟩)
          | (have hz : encE U = 0 := h45
             have hz2 : (⟨(encB U).toArray⟩ : ByteArray) = X := h49
             have hz3 : encB U = b := by
               have := congrArg (fun x : ByteArray => x.data.toList) hz2
               rw [eb0]
               simpa using this
             obtain ⟨e1, e2⟩ := dy hz hz3
             rw [e1, e2]
             exact ⟨_, rfl, rfl, kk⟩)
      ·
        refine WL.nil (WX.then_normal (WC.cond_false rfl (WC.skip (WX.then_normal (WC.seq (?_))))))
        obtain ⟨b0, o0, rfl⟩ := hq.rsl.place hi1
        refine WC.draw (Nob) [0, 1, 2, 3, 4, 5] [6, 7] mixed rfl rfl (fun wd_5 kd_5 zd_5 => ?_)
        have zs_kd_5 := kd_5.size
        replace kk := kk.pure kd_5
        replace hb_1 := hb_1.pure kd_5
        replace hq := hq.pure kd_5
        replace hb_3 := hb_3.pure kd_5
        apply DQ.step (E' := [(4, _)])
        case ho => rfl
        case hs => exact ⟨rfl, trivial⟩
        case hk => rfl
        case h1 =>
          intro wq_7 kq_7
          refine WL.move rfl rfl (?_)
          refine WL.nil ?_
          exact WX.one ⟨rfl, by exact Chg.refl _ _⟩
        apply DQ.step (E' := [(33, _)])
        case ho => rfl
        case hs => exact ⟨rfl, trivial⟩
        case hk => rfl
        case h1 =>
          intro wq_8 kq_8
          have zs_kq_8 := kq_8.size
          replace kk := kk.pure kq_8
          replace hb_1 := hb_1.pure kq_8
          replace hq := hq.pure kq_8
          replace hb_3 := hb_3.pure kq_8
          refine WL.indexC hq.rsl Tryd.underlying76 Tryd.sizeOf75 rfl rfl ⟨hi1, rfl⟩ rfl ?_
          refine WL.nil ?_
          exact WX.one ⟨rfl, by exact Chg.refl _ _⟩
        apply DQ.step (E' := [(34, _)])
        case ho => rfl
        case hs => exact ⟨rfl, trivial⟩
        case hk => rfl
        case h1 =>
          intro wq_9 kq_9
          refine WL.fieldAddr (fld_75_1) rfl rfl (?_)
          refine WL.nil ?_
          exact WX.one ⟨rfl, by exact Chg.refl _ _⟩
        apply DQ.step (E' := [(35, _)])
        case ho => rfl
        case hs => exact ⟨rfl, trivial⟩
        case hk => rfl
        case h1 =>
          intro wq_10 kq_10
          have zs_kq_10 := kq_10.size
          replace kk := kk.pure kq_10
          replace hb_1 := hb_1.pure kq_10
          replace hq := hq.pure kq_10
          replace hb_3 := hb_3.pure kq_10
          refine WL.load Tryd.isAgg3 rfl ((hq.rsl.cellsAt hi1) _ _ rfl) rfl (?_)
          refine WL.nil ?_
          exact WX.one ⟨rfl, by exact Chg.refl _ _⟩
        apply DQ.step (E' := [(6, _)])
        case ho => rfl
        case hs => exact ⟨rfl, trivial⟩
        case hk => rfl
        case h1 =>
          intro wq_11 kq_11
          have zs_kq_11 := kq_11.size
          replace kk := kk.pure kq_11
          replace hb_1 := hb_1.pure kq_11
          replace hq := hq.pure kq_11
          replace hb_3 := hb_3.pure kq_11
          refine WL.loadsB Tryd.isAgg23 Tryd.sizeOf23 hb_3 rfl (by rfl) rfl (?_)
          refine WL.nil ?_
          exact WX.one ⟨rfl, by exact Chg.refl _ _⟩
        apply DQ.step (E' := [(36, _), (37, _)])
        case ho => rfl
        case hs => exact ⟨rfl, rfl, trivial⟩
        case hk => rfl
        case h1 =>
          intro wq_12 kq_12
          refine WL.bld rfl (bld_31_0_1 _ _ _ _ _) rfl (?_)
          refine WL.nil ?_
          exact WX.one ⟨rfl, by exact Chg.refl _ _⟩
        refine DQ.done (fun hd_6 => ?_)
        refine DL.step [] rfl trivial rfl (fun wq_13 kq_13 => ?_)
        have zs_kq_13 := kq_13.size
        replace kk := kk.pure kq_13
        replace hb_1 := hb_1.pure kq_13
        replace hq := hq.pure kq_13
        replace hb_3 := hb_3.pure kq_13
        replace hd_6 := hd_6.pure kq_13
        refine WL.alloc Tryd.zeroValue31 rfl ?_
        intro g_14 w_14 hge_14 hlt_14 hb_14 k_14
        have zs_k_14 := k_14.size
        replace kk := kk.pure k_14
        replace hb_1 := hb_1.pure k_14
        replace hq := hq.pure k_14
        replace hb_3 := hb_3.pure k_14
        replace hd_6 := hd_6.pure k_14
        refine WL.nil ?_
        refine WX.one ⟨hd_6, ?_⟩
        refine DL.step [(7, _), (38, _)] rfl ⟨rfl, rfl, trivial⟩ rfl (fun wq_15 kq_15 => ?_)
        have zs_kq_15 := kq_15.size
        replace kk := kk.pure kq_15
        replace hb_1 := hb_1.pure kq_15
        replace hq := hq.pure kq_15
        replace hb_3 := hb_3.pure kq_15
        replace hd_6 := hd_6.pure kq_15
        replace hb_14 := hb_14.pure kq_15
        refine WL.stores Tryd.sizeOf31 hb_14 rfl rfl (by simp; done) (by simp [Value.oneCell']; done) (by simp [Value.cells]; done) rfl ?_
        intro w_16 hs_16 hn_16 k_16
        have zs_k_16 := k_16.size
        replace kk := kk.chg k_16 (by intro x h1 h2; have h3 : _ = _ := h2; exfalso; omega)
        replace hb_1 := hb_1.chg k_16 (by intro h1; have h2 : _ = _ := h1; exfalso; omega)
        replace hq := hq.chg k_16 (by intro b h1 h2 h3; have h4 : _ = _ := h3; (try dsimp only at h2); exfalso; omega)
        replace hb_3 := hb_3.chg k_16 (by intro h1; have h2 : _ = _ := h1; exfalso; omega)
        replace hd_6 := hd_6.chg k_16 (by intro x h1 h2; have h3 : _ = _ := h2; exfalso; omega)
        replace hb_14 := hn_16
        refine WL.nil ?_
        refine WX.one0 (v := undef) ⟨hd_6, ?_⟩
        refine DL.done (fun we_17 ke_17 => ?_)
        have zs_ke_17 := ke_17.size
        replace kk := kk.pure ke_17
        replace hb_1 := hb_1.pure ke_17
        replace hq := hq.pure ke_17
        replace hb_3 := hb_3.pure ke_17
        replace hd_6 := hd_6.pure ke_17
        replace hb_14 := hb_14.pure ke_17
        refine WX.then_normal (WC.seq (WC.region (?_)))
        have hz : (unpR i2.s).2 = 0 := by assumption
        obtain ⟨hwf, hdec⟩ := decU_try (b := b) h15 (eL ▸ hL) hz hg1.2.2
        have hb7 := Blk.eqc (cs' := eub.f ⟨i1.n, (unpR i2.s).1⟩) hb_14 rfl
        obtain ⟨U, eU⟩ : ∃ U : UbV, U = ⟨i1.n, (unpR i2.s).1⟩ := ⟨_, rfl⟩
        rw [← eU] at hwf hdec hb7
        obtain ⟨dy, dn⟩ := decV_not hdec
        refine WL.loads (eub.f U) Tryd.isAgg31 Tryd.sizeOf31 rfl (fun j v hj => by rw [Nat.zero_add]; exact hb7.cell hj) rfl rfl ?_
        refine WL.call eg_10 rfl rfl (docEncU_calls U _ hwf) ?_
        rintro v w5 ⟨rfl, k5⟩
        have zs_k5 := k5.size
        replace kk := kk.pure k5
        replace hb_1 := hb_1.pure k5
        replace hq := hq.pure k5
        replace hb_3 := hb_3.pure k5
        replace hb7 := hb7.pure k5
        refine WL.move rfl rfl (WL.extract rfl rfl rfl (WL.extract rfl rfl rfl (WL.assign rfl rfl (WL.assign rfl rfl (WL.nil (WX.then_normal (WC.seq (?_))))))))
        refine WC.seq (WC.region (WL.move rfl rfl (?_)))
        refine WL.neq? rfl rfl rfl (fun h45 => ?_) (fun h45 => ?_)
        ·
          refine WL.move rfl rfl (WL.pass rfl rfl rfl rfl (WL.pass rfl rfl rfl rfl (WL.pass rfl rfl rfl rfl (WL.pickT rfl rfl rfl (WL.nil (WX.then_normal (WC.cond_true rfl (?_))))))))
          refine WC.seq (WC.region (WL.bld rfl (bld_31_z) rfl (?_)))
          refine WL.stores Tryd.sizeOf31 hb_1 rfl rfl (by simp; done) (by simp [Value.oneCell']; done) (by simp [Value.cells]; done) rfl ?_
          intro w_18 hs_18 hn_18 k_18
          have zs_k_18 := k_18.size
          replace kk := kk.chg k_18 (by intro x h1 h2; have h3 : _ = _ := h2; exfalso; omega)
          replace hq := hq.chg k_18 (by intro b h1 h2 h3; have h4 : _ = _ := h3; (try dsimp only at h2); exfalso; omega)
          replace hb_3 := hb_3.chg k_18 (by intro h1; have h2 : _ = _ := h1; exfalso; omega)
          replace hb7 := hb7.chg k_18 (by intro h1; have h2 : _ = _ := h1; exfalso; omega)
          replace hb_1 := hn_18
          refine WL.assign rfl rfl (WL.nil (WX.then_normal (WC.ret (WX.then_ret (?_)))))
          refine WX.ret2c (.inl rfl) Tryd.results13 Tryd.isAgg31 Tryd.sizeOf31 hb_1 rfl (by rfl) rfl ?_
          first
            | (have hz : unE b ≠ 0 := h15
               obtain ⟨e1, e2⟩ := decU_no (decU_bad (b := b) (.inl hz))
               rw [e1, e2]
               exact ⟨_, rfl, rfl, kk⟩)
            | (have hz : (L.length : Int) ≠ 3 := h19
               obtain ⟨e1, e2⟩ := decU_no (decU_bad (b := b) (.inr (fun h9 => hz (by rw [eL, h9]; rfl))))
               rw [e1, e2]
               exact ⟨_, rfl, rfl, kk⟩)
            | (have hz : (unpR i2.s).2 ≠ 0 := h31
               have hd := decU_three (b := b) h15 (eL ▸ hL)
               rw [if_neg (fun hc => hz hc.2.2.2.2)] at hd
               obtain ⟨e1, e2⟩ := decU_no hd
               rw [e1, e2]
               exact ⟨_, rfl, rfl, kk⟩)
            | (have hz : encE U ≠ 0 := h45
               obtain ⟨e1, e2⟩ := dn (fun h => hz h.1)
               rw [e1, e2]
               exact ⟨_, rfl, rfl, kk⟩)
            | (have hz : encE U = 0 := h45
               have hz2 : ¬ (⟨(encB U).toArray⟩ : ByteArray) = X := h49
               obtain ⟨e1, e2⟩ := dn (fun h => hz2 (by rw [h.2, hXb]))
               rw [e1, e2]
               exact ⟨_, rfl, rfl, kk⟩)
            | (have hz : encE U = 0 := h45
               have hz2 : (⟨(encB U).toArray⟩ : ByteArray) = X := h49
               have hz3 : encB U = b := by
                 have := congrArg (fun x : ByteArray => x.data.toList) hz2
                 rw [eb0]
                 simpa using this
               obtain ⟨e1, e2⟩ := dy hz hz3
               rw [e1, e2]
               exact ⟨_, rfl, rfl, kk⟩)
        ·
          refine WL.move rfl rfl (WL.want rfl rfl rfl (WL.move rfl rfl (WL.want rfl rfl rfl (WL.move rfl rfl (WL.want rfl rfl rfl (?_))))))
          refine WL.sneq? rfl rfl rfl (fun h49 => ?_) (fun h49 => ?_)
          ·
            refine WL.pickF rfl rfl rfl (WL.nil (WX.then_normal (WC.cond_true rfl (WC.seq (WC.region (WL.bld rfl (bld_31_z) rfl (?_)))))))
            refine WL.stores Tryd.sizeOf31 hb_1 rfl rfl (by simp; done) (by simp [Value.oneCell']; done) (by simp [Value.cells]; done) rfl ?_
            intro w_18 hs_18 hn_18 k_18
            have zs_k_18 := k_18.size
            replace kk := kk.chg k_18 (by intro x h1 h2; have h3 : _ = _ := h2; exfalso; omega)
            replace hq := hq.chg k_18 (by intro b h1 h2 h3; have h4 : _ = _ := h3; (try dsimp only at h2); exfalso; omega)
            replace hb_3 := hb_3.chg k_18 (by intro h1; have h2 : _ = _ := h1; exfalso; omega)
            replace hb7 := hb7.chg k_18 (by intro h1; have h2 : _ = _ := h1; exfalso; omega)
            replace hb_1 := hn_18
            refine WL.assign rfl rfl (WL.nil (WX.then_normal (WC.ret (WX.then_ret (?_)))))
            refine WX.ret2c (.inl rfl) Tryd.results13 Tryd.isAgg31 Tryd.sizeOf31 hb_1 rfl (by rfl) rfl ?_
            first
              | (have hz : unE b ≠ 0 := h15
                 obtain ⟨e1, e2⟩ := decU_no (decU_bad (b := b) (.inl hz))
                 rw [e1, e2]
                 exact ⟨_, rfl, rfl, kk⟩)
              | (have hz : (L.length : Int) ≠ 3 := h19
                 obtain ⟨e1, e2⟩ := decU_no (decU_bad (b := b) (.inr (fun h9 => hz (by rw [eL, h9]; rfl))))
                 rw [e1, e2]
                 exact ⟨_, rfl, rfl, kk⟩)
              | (have hz : (unpR i2.s).2 ≠ 0 := h31
                 have hd := decU_three (b := b) h15 (eL ▸ hL)
                 rw [if_neg (fun hc => hz hc.2.2.2.2)] at hd
                 obtain ⟨e1, e2⟩ := decU_no hd
                 rw [e1, e2]
                 exact ⟨_, rfl, rfl, kk⟩)
              | (have hz : encE U ≠ 0 := h45
                 obtain ⟨e1, e2⟩ := dn (fun h => hz h.1)
                 rw [e1, e2]
                 exact ⟨_, rfl, rfl, kk⟩)
              | (have hz : encE U = 0 := h45
                 have hz2 : ¬ (⟨(encB U).toArray⟩ : ByteArray) = X := h49
                 obtain ⟨e1, e2⟩ := dn (fun h => hz2 (by rw [h.2, hXb]))
                 rw [e1, e2]
                 exact ⟨_, rfl, rfl, kk⟩)
              | (have hz : encE U = 0 := h45
                 have hz2 : (⟨(encB U).toArray⟩ : ByteArray) = X := h49
                 have hz3 : encB U = b := by
                   have := congrArg (fun x : ByteArray => x.data.toList) hz2
                   rw [eb0]
                   simpa using this
                 obtain ⟨e1, e2⟩ := dy hz hz3
                 rw [e1, e2]
                 exact ⟨_, rfl, rfl, kk⟩)
          ·
            refine WL.pickF rfl rfl rfl (WL.nil (WX.then_normal (WC.cond_false rfl (WC.skip (WX.then_normal (WC.seq (WC.region (?_))))))))
            refine WL.loads (eub.f U) Tryd.isAgg31 Tryd.sizeOf31 rfl (fun j v hj => by rw [Nat.zero_add]; exact hb7.cell hj) rfl rfl ?_
            refine WL.stores Tryd.sizeOf31 hb_1 rfl rfl (by rfl) (by exact Enc.one _ _) (by exact Nat.le_of_ble_eq_true rfl) rfl ?_
            intro w_18 hs_18 hn_18 k_18
            have zs_k_18 := k_18.size
            replace kk := kk.chg k_18 (by intro x h1 h2; have h3 : _ = _ := h2; exfalso; omega)
            replace hq := hq.chg k_18 (by intro b h1 h2 h3; have h4 : _ = _ := h3; (try dsimp only at h2); exfalso; omega)
            replace hb_3 := hb_3.chg k_18 (by intro h1; have h2 : _ = _ := h1; exfalso; omega)
            replace hb7 := hb7.chg k_18 (by intro h1; have h2 : _ = _ := h1; exfalso; omega)
            replace hb_1 := hn_18
            refine WL.assign rfl rfl (WL.nil (WX.then_normal (WC.ret (?_))))
            refine WX.ret2c (.inl rfl) Tryd.results13 Tryd.isAgg31 Tryd.sizeOf31 hb_1 rfl (by rfl) rfl ?_
            first
              | (have hz : unE b ≠ 0 := h15
                 obtain ⟨e1, e2⟩ := decU_no (decU_bad (b := b) (.inl hz))
                 rw [e1, e2]
                 exact ⟨_, rfl, rfl, kk⟩)
              | (have hz : (L.length : Int) ≠ 3 := h19
                 obtain ⟨e1, e2⟩ := decU_no (decU_bad (b := b) (.inr (fun h9 => hz (by rw [eL, h9]; rfl))))
                 rw [e1, e2]
                 exact ⟨_, rfl, rfl, kk⟩)
              | (have hz : (unpR i2.s).2 ≠ 0 := h31
                 have hd := decU_three (b := b) h15 (eL ▸ hL)
                 rw [if_neg (fun hc => hz hc.2.2.2.2)] at hd
                 obtain ⟨e1, e2⟩ := decU_no hd
                 rw [e1, e2]
                 exact ⟨_, rfl, rfl, kk⟩)
              | (have hz : encE U ≠ 0 := h45
                 obtain ⟨e1, e2⟩ := dn (fun h => hz h.1)
                 rw [e1, e2]
                 exact ⟨_, rfl, rfl, kk⟩)
              | (have hz : encE U = 0 := h45
                 have hz2 : ¬ (⟨(encB U).toArray⟩ : ByteArray) = X := h49
                 obtain ⟨e1, e2⟩ := dn (fun h => hz2 (by rw [h.2, hXb]))
                 rw [e1, e2]
                 exact ⟨_, rfl, rfl, kk⟩)
              | (have hz : encE U = 0 := h45
                 have hz2 : (⟨(encB U).toArray⟩ : ByteArray) = X := h49
                 have hz3 : encB U = b := by
                   have := congrArg (fun x : ByteArray => x.data.toList) hz2
                   rw [eb0]
                   simpa using this
                 obtain ⟨e1, e2⟩ := dy hz hz3
                 rw [e1, e2]
                 exact ⟨_, rfl, rfl, kk⟩)
end Go.Proofs.YtjeldcjchipdgaaDoor
namespace Go.Proofs.YtjeldcjchipdgaaDoor
open Go.RowKit Go.HL
set_option maxRecDepth 100000

/-! the document's records -/
theorem of8_calls (u : UbV) (w : World) : Calls Tryd.prog 11 [.agg (eub.f u).toArray].toArray w (Ret fun v w' => v = .agg (eub.f u).toArray ∧ Chg Nob w w') := by
  have hw := Chg.refl Nob w
  refine Calls.of_WC Tryd.func11 rfl Tryd.ntmps11 (by simp) ?_
  refine WC.seq (WC.region (?_))
  refine WL.box rfl rfl ?_
  intro g_1 w_1 hge_1 hlt_1 hb_1 k_1
  have zs_k_1 := k_1.size
  replace hw := hw.pure k_1
  refine WL.alloc Tryd.zeroValue31 rfl ?_
  intro g_2 w_2 hge_2 hlt_2 hb_2 k_2
  have zs_k_2 := k_2.size
  replace hw := hw.pure k_2
  replace hb_1 := hb_1.pure k_2
  refine WL.nil (WX.then_normal (WC.seq (WC.region (WL.fieldAddr (fld_25_0) rfl rfl (WL.loadB Tryd.isAgg3 hb_1 rfl rfl rfl (WL.fieldAddr (fld_25_1) rfl rfl (?_)))))))
  have hb1 : Blk _ g_1 25 (eub.f u) := hb_1
  refine WL.loads (ept.f u.p) Tryd.isAgg23 Tryd.sizeOf23 rfl (fun j v hj => by rw [Nat.add_comm]; exact hb1.cell hj) rfl rfl ?_
  refine WL.bld rfl (bld_31_0_1 _ _ _ _ _) rfl (?_)
  refine WL.stores Tryd.sizeOf31 hb_2 rfl rfl (by simp; done) (by simp [Value.oneCell']; done) (by simp [Value.cells]; done) rfl ?_
  intro w_3 hs_3 hn_3 k_3
  have zs_k_3 := k_3.size
  replace hw := hw.chg k_3 (by intro x h1 h2; have h3 : _ = _ := h2; exfalso; omega)
  replace hb1 := hb1.chg k_3 (by intro h1; have h2 : _ = _ := h1; exfalso; omega)
  replace hb_2 := hn_3
  refine WL.nil (WX.then_normal (WC.ret (?_)))
  refine WX.ret1c (.inl rfl) Tryd.results11 Tryd.isAgg31 Tryd.sizeOf31 hb_2 rfl (by rfl) ?_
  exact ⟨_, rfl, rfl, hw⟩
theorem eqg_dub : Tryd.prog.eqGuardType Tryd.prog.depth 31 = false := by kernel_rfl
theorem eq_dub (a b : UbV) (w : World) : (Op.equalIn 10000 31 (.agg (eub.f a).toArray) (.agg (eub.f b).toArray)).run Tryd.prog w = .ok (decide (a = b)) w := by
  refine eqA_of (d := 9999) Tryd.underlying31 (by kernel_rfl) ?_
  have h3 : (decide (a.t = b.t) && (decide (a.p = b.p) && true)) = decide (a = b) := by
    have : decide (a = b) = decide (a.t = b.t ∧ a.p = b.p) := decide_eq_decide.2 (UbV.eq_iff a b).symm
    rw [this]
    simp [Bool.decide_and]
  rw [← h3]
  refine eqf_cons rfl (part1 Tryd.sizeOf3 Tryd.isAgg3 rfl) (part1 Tryd.sizeOf3 Tryd.isAgg3 rfl) (run_equalIn_int w 9998 _ _ _ _ _ Tryd.underlying3) ?_
  exact eqf_cons rfl (partN (ds := ept.f a.p) Tryd.sizeOf23 Tryd.isAgg23 rfl) (partN (ds := ept.f b.p) Tryd.sizeOf23 Tryd.isAgg23 rfl) (eq_ptr9 a.p b.p w) eqf_nil

set_option maxHeartbeats 2000000 in
theorem labelSectors_calls {w : World} {a1 : Option Addr} {c1 : Nat} {b : List UInt8} (u : UbV) (hu : WfU u) (hr : RSl (· < w.heap.size) w eb a1 c1 b) :
    Calls Tryd.prog 3 [.agg (eub.f u).toArray, .slice a1 b.length c1].toArray w (Ret fun v w' => v = .bool true ∧ Chg Nob w w') := by
  have kk := Chg.refl Nob w
  refine Calls.of_WC Tryd.func3 rfl Tryd.ntmps3 (by simp) ?_
  refine WC.seq (WC.region (?_))
  refine WL.box rfl rfl ?_
  intro g_1 w_1 hge_1 hlt_1 hb_1 k_1
  have zs_k_1 := k_1.size
  replace kk := kk.pure k_1
  replace hr := hr.pure k_1
  refine WL.assign rfl rfl (WL.nil (WX.then_normal (WC.seq (WC.seq (WC.region (?_))))))
  replace hb_1 : Blk _ g_1 25 (eub.f u) := hb_1
  refine WL.call eg_9 rfl rfl (known8_calls _) ?_
  rintro v w1 ⟨rfl, k1⟩
  have zs_k1 := k1.size
  replace kk := kk.pure k1
  replace hr := hr.pure k1
  replace hb_1 := hb_1.pure k1
  refine WL.not rfl rfl (WL.move rfl rfl (WL.want rfl rfl rfl (WL.move rfl rfl (WL.want rfl rfl rfl (WL.len Tryd.underlying26 rfl rfl (WL.want rfl rfl rfl (?_)))))))
  refine WL.gtr? rfl rfl rfl (fun h20 => ?_) (fun h20 => ?_)
  ·
    refine WL.pickF rfl rfl rfl (WL.nil (WX.then_normal (WC.cond_true rfl (WC.seq (WC.region (?_))))))
    refine WL.call eg_9 rfl rfl (known8_calls _) ?_
    rintro v w2 ⟨rfl, k2⟩
    have zs_k2 := k2.size
    replace kk := kk.pure k2
    replace hr := hr.pure k2
    replace hb_1 := hb_1.pure k2
    refine WL.assign rfl rfl (WL.nil (WX.then_normal (WC.ret (WX.then_ret (?_)))))
    refine WX.ret1 (.inl rfl) Tryd.results3 rfl ?_
    exact ⟨_, rfl, rfl, kk⟩
  ·
    refine WL.pickF rfl rfl rfl (WL.nil (WX.then_normal (WC.cond_false rfl (WC.skip (WX.then_normal (WC.seq (WC.region (?_))))))))
    refine WL.loadsB Tryd.isAgg25 Tryd.sizeOf25 hb_1 rfl (by rfl) rfl (?_)
    refine WL.call eg_11 rfl rfl (of8_calls u _) ?_
    rintro v w3 ⟨rfl, k3⟩
    have zs_k3 := k3.size
    replace kk := kk.pure k3
    replace hr := hr.pure k3
    replace hb_1 := hb_1.pure k3
    refine WL.call eg_10 rfl rfl (docEncU_calls u _ hu) ?_
    rintro v w4 ⟨rfl, k4⟩
    have zs_k4 := k4.size
    replace kk := kk.pure k4
    replace hr := hr.pure k4
    replace hb_1 := hb_1.pure k4
    refine WL.move rfl rfl (WL.extract rfl rfl rfl (WL.extract rfl rfl rfl (WL.assign rfl rfl (WL.assign rfl rfl (WL.nil (WX.then_normal (WC.seq (?_))))))))
    refine WC.region (WL.loadsB Tryd.isAgg25 Tryd.sizeOf25 hb_1 rfl (by rfl) rfl (?_))
    refine WL.call eg_12 rfl rfl (encU_calls u _ hu) ?_
    rintro v w5 ⟨⟨a5, c5, rfl, h5⟩, k5⟩
    have zs_k5 := k5.size
    replace kk := kk.pure k5
    replace hr := hr.pure k5
    replace hb_1 := hb_1.pure k5
    replace h5 := h5.lt
    refine WL.move rfl rfl (WL.extract rfl rfl rfl (WL.extract rfl rfl rfl (WL.assign rfl rfl (WL.assign rfl rfl (WL.nil (WX.then_normal (WC.seq (?_))))))))
    refine WC.region (WL.move rfl rfl (?_))
    refine WL.toStr Tryd.underlying26 Tryd.underlying5 Tryd.underlying9 hr rfl rfl ?_
    refine WL.call eg_13 rfl rfl (docDecU_calls _ _ (by show b.toArray.size ≤ _; rw [List.size_toArray]; omega)) ?_
    rintro v w6 ⟨rfl, k6⟩
    have zs_k6 := k6.size
    replace kk := kk.pure k6
    replace hr := hr.pure k6
    replace hb_1 := hb_1.pure k6
    replace h5 := h5.pure k6
    refine WL.move rfl rfl (WL.extract rfl rfl rfl (WL.extract rfl rfl rfl (?_)))
    refine WL.alloc Tryd.zeroValue31 rfl ?_
    intro g_2 w_2 hge_2 hlt_2 hb_2 k_2
    have zs_k_2 := k_2.size
    replace kk := kk.pure k_2
    replace hr := hr.pure k_2
    replace hb_1 := hb_1.pure k_2
    replace h5 := h5.pure k_2
    refine WL.stores Tryd.sizeOf31 hb_2 rfl rfl (by rfl) (by exact Enc.one _ _) (by exact Nat.le_of_ble_eq_true rfl) rfl ?_
    intro w_3 hs_3 hn_3 k_3
    have zs_k_3 := k_3.size
    replace kk := kk.chg k_3 (by intro x h1 h2; have h3 : _ = _ := h2; exfalso; omega)
    replace hr := hr.chg k_3 (by intro b h1 h2 h3; have h4 : _ = _ := h3; (try dsimp only at h2); exfalso; omega)
    replace hb_1 := hb_1.chg k_3 (by intro h1; have h2 : _ = _ := h1; exfalso; omega)
    replace h5 := h5.chg k_3 (by intro b h1 h2 h3; have h4 : _ = _ := h3; (try dsimp only at h2); exfalso; omega)
    replace hb_2 := hn_3
    refine WL.assign rfl rfl (WL.nil (WX.then_normal (WC.seq (WC.region (WL.move rfl rfl (?_))))))
    refine WL.call eg_14 rfl rfl (decU_calls (hr.mono fun x hx => by have hx : x < _ := hx; show x < _; omega) (by omega)) ?_
    rintro v w7 ⟨rfl, k7⟩
    have zs_k7 := k7.size
    replace kk := kk.pure k7
    replace hr := hr.pure k7
    replace hb_1 := hb_1.pure k7
    replace h5 := h5.pure k7
    replace hb_2 := hb_2.pure k7
    refine WL.move rfl rfl (WL.extract rfl rfl rfl (WL.extract rfl rfl rfl (?_)))
    refine WL.alloc Tryd.zeroValue25 rfl ?_
    intro g_4 w_4 hge_4 hlt_4 hb_4 k_4
    have zs_k_4 := k_4.size
    replace kk := kk.pure k_4
    replace hr := hr.pure k_4
    replace hb_1 := hb_1.pure k_4
    replace h5 := h5.pure k_4
    replace hb_2 := hb_2.pure k_4
    refine WL.stores Tryd.sizeOf25 hb_4 rfl rfl (by rfl) (by exact Enc.one _ _) (by exact Nat.le_of_ble_eq_true rfl) rfl ?_
    intro w_5 hs_5 hn_5 k_5
    have zs_k_5 := k_5.size
    replace kk := kk.chg k_5 (by intro x h1 h2; have h3 : _ = _ := h2; exfalso; omega)
    replace hr := hr.chg k_5 (by intro b h1 h2 h3; have h4 : _ = _ := h3; (try dsimp only at h2); exfalso; omega)
    replace hb_1 := hb_1.chg k_5 (by intro h1; have h2 : _ = _ := h1; exfalso; omega)
    replace h5 := h5.chg k_5 (by intro b h1 h2 h3; have h4 : _ = _ := h3; (try dsimp only at h2); exfalso; omega)
    replace hb_2 := hb_2.chg k_5 (by intro h1; have h2 : _ = _ := h1; exfalso; omega)
    replace hb_4 := hn_5
    refine WL.assign rfl rfl (WL.nil (WX.then_normal (WC.seq (WC.seq (?_)))))
    have hb9 := Blk.eqc (cs' := eub.f (decV b)) hb_2 rfl
    have hb11 := Blk.eqc (cs' := eub.f (decV b)) hb_4 rfl
    refine WC.draw (Nob) [0, 1, 2, 3, 4, 5, 6, 7, 8, 9, 10, 11, 12, 13, 14, 15, 16, 17, 18, 19] [] mixed rfl rfl (fun wd_6 kd_6 zd_6 => ?_)
    have zs_kd_6 := kd_6.size
    replace kk := kk.pure kd_6
    replace hr := hr.pure kd_6
    replace hb_1 := hb_1.pure kd_6
    replace h5 := h5.pure kd_6
    replace hb9 := hb9.pure kd_6
    replace hb11 := hb11.pure kd_6
    apply DQ.step (E' := [(5, _)])
    case ho => rfl
    case hs => exact ⟨rfl, trivial⟩
    case hk => rfl
    case h1 =>
      intro wq_7 kq_7
      refine WL.move rfl rfl (?_)
      refine WL.nil ?_
      exact WX.one ⟨rfl, by exact Chg.refl _ _⟩
    apply DQ.step (E' := [(7, _)])
    case ho => rfl
    case hs => exact ⟨rfl, trivial⟩
    case hk => rfl
    case h1 =>
      intro wq_8 kq_8
      refine WL.move rfl rfl (?_)
      refine WL.nil ?_
      exact WX.one ⟨rfl, by exact Chg.refl _ _⟩
    apply DQ.step (E' := [(46, _)])
    case ho => rfl
    case hs => exact ⟨rfl, trivial⟩
    case hk => rfl
    case h1 =>
      intro wq_9 kq_9
      have zs_kq_9 := kq_9.size
      replace kk := kk.pure kq_9
      replace hr := hr.pure kq_9
      replace hb_1 := hb_1.pure kq_9
      replace h5 := h5.pure kq_9
      replace hb9 := hb9.pure kq_9
      replace hb11 := hb11.pure kq_9
      refine WL.toStr Tryd.underlying26 Tryd.underlying5 Tryd.underlying9 h5.rsl rfl rfl ?_
      refine WL.nil ?_
      exact WX.one ⟨rfl, by exact Chg.refl _ _⟩
    apply DQ.step (E' := [(45, _), (47, _)])
    case ho => rfl
    case hs => exact ⟨rfl, rfl, trivial⟩
    case hk => rfl
    case h1 =>
      intro wq_10 kq_10
      refine WL.sneqF rfl rfl rfl (rfl) ?_
      refine WL.nil ?_
      exact WX.one ⟨rfl, by exact Chg.refl _ _⟩
    apply DQ.step (E' := [(48, _)])
    case ho => rfl
    case hs => exact ⟨rfl, trivial⟩
    case hk => rfl
    case h1 =>
      intro wq_11 kq_11
      refine WL.move rfl rfl (?_)
      refine WL.nil ?_
      exact WX.one ⟨rfl, by exact Chg.refl _ _⟩
    apply DQ.step (E' := [(6, _), (49, _)])
    case ho => rfl
    case hs => exact ⟨rfl, rfl, trivial⟩
    case hk => rfl
    case h1 =>
      intro wq_12 kq_12
      refine WL.want rfl rfl rfl (WL.move rfl rfl (?_))
      refine WL.nil ?_
      exact WX.one ⟨rfl, by exact Chg.refl _ _⟩
    apply DQ.step (E' := [(8, _), (49, _)])
    case ho => rfl
    case hs => exact ⟨rfl, rfl, trivial⟩
    case hk => rfl
    case h1 =>
      intro wq_13 kq_13
      refine WL.want rfl rfl rfl (WL.move rfl rfl (?_))
      refine WL.nil ?_
      exact WX.one ⟨rfl, by exact Chg.refl _ _⟩
    apply DQ.step (E' := [(50, _), (51, _), (49, _)])
    case ho => rfl
    case hs => exact ⟨rfl, rfl, rfl, trivial⟩
    case hk => rfl
    case h1 =>
      intro wq_14 kq_14
      refine WL.want rfl rfl rfl (?_)
      refine WL.neqF rfl rfl rfl (rfl) ?_
      refine WL.nil ?_
      exact WX.one ⟨rfl, by exact Chg.refl _ _⟩
    apply DQ.step (E' := [(49, _), (52, _)])
    case ho => rfl
    case hs => exact ⟨rfl, rfl, trivial⟩
    case hk => rfl
    case h1 =>
      intro wq_15 kq_15
      refine WL.pickF rfl rfl rfl (?_)
      refine WL.nil ?_
      exact WX.one ⟨rfl, by exact Chg.refl _ _⟩
    apply DQ.step (E' := [(53, _)])
    case ho => rfl
    case hs => exact ⟨rfl, trivial⟩
    case hk => rfl
    case h1 =>
      intro wq_16 kq_16
      refine WL.move rfl rfl (?_)
      refine WL.nil ?_
      exact WX.one ⟨rfl, by exact Chg.refl _ _⟩
    apply DQ.step (E' := [(9, _), (54, _)])
    case ho => rfl
    case hs => exact ⟨rfl, rfl, trivial⟩
    case hk => rfl
    case h1 =>
      intro wq_17 kq_17
      have zs_kq_17 := kq_17.size
      replace kk := kk.pure kq_17
      replace hr := hr.pure kq_17
      replace hb_1 := hb_1.pure kq_17
      replace h5 := h5.pure kq_17
      replace hb9 := hb9.pure kq_17
      replace hb11 := hb11.pure kq_17
      refine WL.want rfl rfl rfl (WL.loadsB Tryd.isAgg31 Tryd.sizeOf31 hb9 rfl (by rfl) rfl (?_))
      refine WL.nil ?_
      exact WX.one ⟨rfl, by exact Chg.refl _ _⟩
    apply DQ.step (E' := [(11, _), (54, _)])
    case ho => rfl
    case hs => exact ⟨rfl, rfl, trivial⟩
    case hk => rfl
    case h1 =>
      intro wq_18 kq_18
      have zs_kq_18 := kq_18.size
      replace kk := kk.pure kq_18
      replace hr := hr.pure kq_18
      replace hb_1 := hb_1.pure kq_18
      replace h5 := h5.pure kq_18
      replace hb9 := hb9.pure kq_18
      replace hb11 := hb11.pure kq_18
      refine WL.want rfl rfl rfl (WL.loadsB Tryd.isAgg25 Tryd.sizeOf25 hb11 rfl (by rfl) rfl (?_))
      refine WL.nil ?_
      exact WX.one ⟨rfl, by exact Chg.refl _ _⟩
    apply DQ.step (E' := [(56, _), (54, _)])
    case ho => rfl
    case hs => exact ⟨rfl, rfl, trivial⟩
    case hk => rfl
    case h1 =>
      intro wq_19 kq_19
      have zs_kq_19 := kq_19.size
      replace kk := kk.pure kq_19
      replace hr := hr.pure kq_19
      replace hb_1 := hb_1.pure kq_19
      replace h5 := h5.pure kq_19
      replace hb9 := hb9.pure kq_19
      replace hb11 := hb11.pure kq_19
      refine WL.want rfl rfl rfl (?_)
      refine WL.call eg_11 rfl rfl (of8_calls (decV b) _) ?_
      rintro v w8 ⟨rfl, k8⟩
      have zs_k8 := k8.size
      replace kk := kk.pure k8
      replace hr := hr.pure k8
      replace hb_1 := hb_1.pure k8
      replace h5 := h5.pure k8
      replace hb9 := hb9.pure k8
      replace hb11 := hb11.pure k8
      refine WL.nil ?_
      exact WX.one ⟨rfl, by assumption⟩
    apply DQ.step (E' := [(55, _), (57, _), (54, _)])
    case ho => rfl
    case hs => exact ⟨rfl, rfl, rfl, trivial⟩
    case hk => rfl
    case h1 =>
      intro wq_20 kq_20
      refine WL.want rfl rfl rfl (?_)
      refine WL.aneq eqg_dub (eq_dub (decV b) (decV b)) rfl rfl rfl ?_
      rw [show (decide (decV b ≠ decV b)) = false from decide_eq_false (fun h => h rfl)]
      refine WL.nil ?_
      exact WX.one ⟨rfl, by exact Chg.refl _ _⟩
    apply DQ.step (E' := [(54, _), (58, _)])
    case ho => rfl
    case hs => exact ⟨rfl, rfl, trivial⟩
    case hk => rfl
    case h1 =>
      intro wq_21 kq_21
      refine WL.pickF rfl rfl rfl (?_)
      refine WL.nil ?_
      exact WX.one ⟨rfl, by exact Chg.refl _ _⟩
    apply DQ.step (E' := [(59, _)])
    case ho => rfl
    case hs => exact ⟨rfl, trivial⟩
    case hk => rfl
    case h1 =>
      intro wq_22 kq_22
      refine WL.move rfl rfl (?_)
      refine WL.nil ?_
      exact WX.one ⟨rfl, by exact Chg.refl _ _⟩
    apply DQ.step (E' := [(10, _), (60, _)])
    case ho => rfl
    case hs => exact ⟨rfl, rfl, trivial⟩
    case hk => rfl
    case h1 =>
      intro wq_23 kq_23
      refine WL.want rfl rfl rfl (WL.move rfl rfl (?_))
      refine WL.nil ?_
      exact WX.one ⟨rfl, by exact Chg.refl _ _⟩
    apply DQ.step (E' := [(12, _), (60, _)])
    case ho => rfl
    case hs => exact ⟨rfl, rfl, trivial⟩
    case hk => rfl
    case h1 =>
      intro wq_24 kq_24
      refine WL.want rfl rfl rfl (WL.move rfl rfl (?_))
      refine WL.nil ?_
      exact WX.one ⟨rfl, by exact Chg.refl _ _⟩
    apply DQ.step (E' := [(61, _), (62, _), (60, _)])
    case ho => rfl
    case hs => exact ⟨rfl, rfl, rfl, trivial⟩
    case hk => rfl
    case h1 =>
      intro wq_25 kq_25
      refine WL.want rfl rfl rfl (?_)
      refine WL.neqF rfl rfl rfl (rfl) ?_
      refine WL.nil ?_
      exact WX.one ⟨rfl, by exact Chg.refl _ _⟩
    apply DQ.step (E' := [(60, _), (63, _)])
    case ho => rfl
    case hs => exact ⟨rfl, rfl, trivial⟩
    case hk => rfl
    case h1 =>
      intro wq_26 kq_26
      refine WL.pickF rfl rfl rfl (?_)
      refine WL.nil ?_
      exact WX.one ⟨rfl, by exact Chg.refl _ _⟩
    refine DQ.done (fun _ => ?_)
    refine DL.done (fun we_27 ke_27 => ?_)
    have zs_ke_27 := ke_27.size
    replace kk := kk.pure ke_27
    replace hr := hr.pure ke_27
    replace hb_1 := hb_1.pure ke_27
    replace h5 := h5.pure ke_27
    replace hb9 := hb9.pure ke_27
    replace hb11 := hb11.pure ke_27
    refine WX.then_normal (WC.cond_false rfl (WC.skip (WX.then_normal (WC.seq (WC.seq (WC.region (WL.move rfl rfl (?_))))))))
    refine WL.neq? rfl rfl rfl (fun h66 => ?_) (fun h66 => ?_)
    ·
      refine WL.nil (WX.then_normal (WC.cond_true rfl (WC.seq (WC.region (WL.assign rfl rfl (WL.nil (WX.then_normal (?_))))))))
      refine WC.ret (WX.then_ret (?_))
      refine WX.ret1 (.inl rfl) Tryd.results3 rfl ?_
      exact ⟨_, rfl, rfl, kk⟩
    ·
      refine WL.nil (WX.then_normal (WC.cond_false rfl (WC.skip (WX.then_normal (WC.seq (WC.region (WL.move rfl rfl (?_))))))))
      have hE : encE u = 0 := by omega
      have hd := decU_yes (dec_enc hE hu)
      have hs := (encE_t hE).2.2.2
      refine WL.call eg_14 rfl rfl (decU_calls (h5.rsl.mono fun x hx => by have hx := hx.2; show x < _; omega) (by omega)) ?_
      rintro v w9 ⟨rfl, k9⟩
      rw [hd.1, hd.2]
      have zs_k9 := k9.size
      replace kk := kk.pure k9
      replace hr := hr.pure k9
      replace hb_1 := hb_1.pure k9
      replace h5 := h5.pure k9
      replace hb9 := hb9.pure k9
      replace hb11 := hb11.pure k9
      refine WL.move rfl rfl (WL.extract rfl rfl rfl (WL.extract rfl rfl rfl (?_)))
      refine WL.alloc Tryd.zeroValue25 rfl ?_
      intro g_28 w_28 hge_28 hlt_28 hb_28 k_28
      have zs_k_28 := k_28.size
      replace kk := kk.pure k_28
      replace hr := hr.pure k_28
      replace hb_1 := hb_1.pure k_28
      replace h5 := h5.pure k_28
      replace hb9 := hb9.pure k_28
      replace hb11 := hb11.pure k_28
      refine WL.stores Tryd.sizeOf25 hb_28 rfl rfl (by rfl) (by exact Enc.one _ _) (by exact Nat.le_of_ble_eq_true rfl) rfl ?_
      intro w_29 hs_29 hn_29 k_29
      have zs_k_29 := k_29.size
      replace kk := kk.chg k_29 (by intro x h1 h2; have h3 : _ = _ := h2; exfalso; omega)
      replace hr := hr.chg k_29 (by intro b h1 h2 h3; have h4 : _ = _ := h3; (try dsimp only at h2); exfalso; omega)
      replace hb_1 := hb_1.chg k_29 (by intro h1; have h2 : _ = _ := h1; exfalso; omega)
      replace h5 := h5.chg k_29 (by intro b h1 h2 h3; have h4 : _ = _ := h3; (try dsimp only at h2); exfalso; omega)
      replace hb9 := hb9.chg k_29 (by intro h1; have h2 : _ = _ := h1; exfalso; omega)
      replace hb11 := hb11.chg k_29 (by intro h1; have h2 : _ = _ := h1; exfalso; omega)
      replace hb_28 := hn_29
      refine WL.assign rfl rfl (WL.nil (WX.then_normal (WC.seq (WC.region (WL.move rfl rfl (?_))))))
      refine WL.eqlT rfl rfl rfl (rfl) ?_
      refine WL.move rfl rfl (WL.want rfl rfl rfl (WL.loadsB Tryd.isAgg25 Tryd.sizeOf25 hb_28 rfl (by rfl) rfl (WL.want rfl rfl rfl (WL.loadsB Tryd.isAgg25 Tryd.sizeOf25 hb_1 rfl (by rfl) rfl (WL.want rfl rfl rfl (?_))))))
      refine WL.aeql eqg_ub (eq_ub u u) rfl rfl rfl ?_
      rw [decide_eq_true rfl]
      refine WL.pickT rfl rfl rfl (WL.assign rfl rfl (WL.nil (WX.then_normal (WC.ret (?_)))))
      refine WX.ret1 (.inl rfl) Tryd.results3 rfl ?_
      exact ⟨_, rfl, rfl, kk⟩
end Go.Proofs.YtjeldcjchipdgaaDoor
