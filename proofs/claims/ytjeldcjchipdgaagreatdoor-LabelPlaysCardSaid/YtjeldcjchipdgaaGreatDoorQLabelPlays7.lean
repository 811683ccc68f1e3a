import Derived.Test.YtjeldcjchipdgaaGreatDoorQLabelPlays6
namespace Go.Proofs.YtjeldcjchipdgaaGreatDoor
open Go.RowKit Go.HL
set_option maxRecDepth 100000
theorem sec_parts {c : List UInt8} (h : c.length ≤ 95) : ((sec c).getD 0 0).toNat = c.length + 32 ∧ ((sec c).take (1 + (c.length + 32))).drop 1 = c ++ sumB c ∧ (sec c).drop (1 + (c.length + 32)) = List.replicate (95 - c.length) 0 := by
 have hl : (c ++ sumB c).length = c.length + 32 := by rw [List.length_append, sumB_len]
 refine ⟨?_, ?_, ?_⟩
 ·show (B8 ((c.length : Int) + 32)).toNat = _
  rw [B8]
  have e1 : ((c.length : Int) + 32) % 256 = (c.length : Int) + 32 := Int.emod_eq_of_lt (by omega) (by omega)
  rw [e1, UInt8.toNat_ofNat']
  omega
 ·rw [sec, show 1 + (c.length + 32) = (c.length + 32) + 1 from by omega, List.cons_append, List.take_succ_cons, List.drop_succ_cons, List.drop_zero, List.take_append_of_le_length (by omega), ← hl, List.take_length]
 ·rw [sec, show 1 + (c.length + 32) = (c.length + 32) + 1 from by omega, List.cons_append, List.drop_succ_cons, ← hl, List.drop_left]
theorem open_sealed (c : List UInt8) : openR (c ++ sumB c) = (c, 0) := by
 have hl : (c ++ sumB c).length = c.length + 32 := by rw [List.length_append, sumB_len]
 rw [openR, hl, show c.length + 32 - 32 = c.length from by omega, List.take_left, List.drop_left, if_pos ⟨by omega, rfl⟩]
theorem open_parts {s : List UInt8} (h : (openR s).2 = 0) : s = (openR s).1 ++ sumB (openR s).1 ∧ (openR s).1.length + 32 = s.length := by
 unfold openR at h ⊢
 split at h
 ·rename_i h1
  rw [if_pos h1]
  dsimp only
  rw [h1.2, List.take_append_drop, List.length_take]
  exact ⟨rfl, by omega⟩
 ·cases h
theorem un_sec {l : List Item} (h : secE l = 0) (hg : ∀ i ∈ l, RIt i) : unS (secB l) = some l := by
 have h0 : checkE l = 0 := by
  unfold secE at h
  split at h
  ·assumption
  ·rename_i h1; exact absurd h h1
 have h1 : (encAll l).length ≤ 95 := by
  rw [secE, if_pos h0] at h
  split at h
  ·cases h
  ·omega
 obtain ⟨c1, c2⟩ := checkE_ok h0
 obtain ⟨p1, p2, p3⟩ := sec_parts h1
 rw [secB, if_pos h, unS, p1, p2, p3, open_sealed, if_pos ⟨sec_len h1, by omega, fun x hx => (List.mem_replicate.1 hx).2, rfl⟩]
 exact enc_dec l 0 (by omega) (fun i hi => ⟨(c2 i hi).1, (c2 i hi).2, hg i hi⟩)
theorem un_parts {b : List UInt8} {l : List Item} (h : unS b = some l) : b.length = 128 ∧ (b.getD 0 0).toNat < 128 ∧ (openR ((b.take (1 + (b.getD 0 0).toNat)).drop 1)).2 = 0 ∧ dec 0 (openR ((b.take (1 + (b.getD 0 0).toNat)).drop 1)).1 = some l ∧ (∀ i ∈ l, Good i) ∧ secE l = 0 ∧ secB l = b := by
 unfold unS at h
 split at h
 ·rename_i hc
  obtain ⟨g1, g2, g3, g4⟩ := hc
  obtain ⟨d1, d2, d3⟩ := dec_spec _ _ (Nat.le_refl _) 0 l (by omega) h
  obtain ⟨n, hn⟩ : ∃ n, n = (b.getD 0 0).toNat := ⟨_, rfl⟩
  rw [← hn] at g2 g3 g4 d3 h ⊢
  obtain ⟨s, hs⟩ : ∃ s, s = (b.take (1 + n)).drop 1 := ⟨_, rfl⟩
  rw [← hs] at g4 d3 h ⊢
  obtain ⟨o1, o2⟩ := open_parts g4
  have hsl : s.length = n := by rw [hs, List.length_drop, List.length_take]; omega
  have hE : secE l = 0 := by
   rw [secE, if_pos (icheck_good (by omega) d2), if_neg (by rw [d3]; omega)]
  refine ⟨g1, g2, g4, h, d2, hE, ?_⟩
  rw [secB, if_pos hE, d3, sec, ← o1]
  have e1 : B8 (((openR s).1.length : Int) + 32) = b.getD 0 0 := by
   apply UInt8.toNat_inj.1
   rw [← hn, B8]
   have e2 : (((openR s).1.length : Int) + 32) % 256 = ((openR s).1.length : Int) + 32 := Int.emod_eq_of_lt (by omega) (by omega)
   rw [e2, UInt8.toNat_ofNat']
   omega
  have e3 : List.replicate (95 - (openR s).1.length) 0 = b.drop (1 + n) := by
   refine (List.eq_replicate_iff.2 ⟨?_, g3⟩).symm
   rw [List.length_drop]
   omega
  rw [e1, e3, hs]
  cases b with
  |nil => simp at g1
  |cons x r =>
   simp only [List.getD_cons_zero, Nat.add_comm 1 n, List.take_succ_cons, List.drop_succ_cons, List.drop_zero, List.cons_append, List.take_append_drop]
 ·cases h
theorem un_not {b : List UInt8} (h : ∀ l, unS b = some l → False) : unL b = [] ∧ unE b = 2 := by
 cases hu : unS b with
 |none => exact un_none hu
 |some l => exact (h l hu).elim
theorem un_yes' {b : List UInt8} {l : List Item} (h : unS b = some l) : unL b = l ∧ unE b = 0 := by
 rw [unL, unE, h]
 exact ⟨rfl, rfl⟩
theorem docSector_calls {w : World} {ao : Option Addr} {c : Nat} {l : List Item} (hr : RSl (· < w.heap.size) w eit ao c l) (hl : l.length ≤ 9223372036854775807) (hwf : ∀ i ∈ l, RIt i) :
 Calls Tryz.prog 66 [.slice ao l.length c].toArray w (Ret fun v w' => v = .tuple #[.string ⟨(secB l).toArray⟩, vi (secE l)] ∧ Chg Nob w w') := by
 have kk := Chg.refl Nob w
 refine Calls.of_WC Tryz.func66 rfl Tryz.ntmps66 (by simp) ?_
 refine WC.sr (WL.assign rfl rfl (WL.assign rfl rfl (WL.t (WC.sr (WL.move rfl rfl (WL.call eg_84 rfl rfl (docEncode_calls hr hl hwf) ?_))))))
 rintro v w1 ⟨rfl, k1⟩
 obtain ⟨B, eB⟩ : ∃ B, B = (if checkE l = 0 then encAll l else []) := ⟨_, rfl⟩
 rw [← eB]
 obtain ⟨X, eX⟩ : ∃ X : ByteArray, X = ⟨B.toArray⟩ := ⟨_, rfl⟩
 have hXl : X.size = B.length := by rw [eX]; exact List.size_toArray
 rw [← eX]
 have hBl : B.length ≤ 140737488351232 := by
  rw [eB]
  split
  ·rename_i h0
   obtain ⟨h1, h2⟩ := checkE_ok h0
   have := encAll_len h2
   omega
  ·simp
 replace kk := kk.pure k1
 refine WL.move rfl rfl (WL.extract rfl rfl rfl (WL.extract rfl rfl rfl (WL.assign rfl rfl (WL.assign rfl rfl (WL.t (WC.seq (WC.sr (WL.move rfl rfl (WL.qk rfl rfl rfl (fun h12 => ?_) (fun h12 => ?_))))))))))
 ·refine WL.t (WC.qb rfl (WC.sr (WL.move rfl rfl (WL.assign rfl rfl (WL.assign rfl rfl (WL.t (WC.ret (WX.qb (WX.qi (.inl rfl) Tryz.results66 rfl rfl ?_)))))))))
  first
   |(have h1 : secE l = checkE l := by rw [secE, if_neg h12]
     refine ⟨_, rfl, ?_, kk⟩
     rw [secB, h1, if_neg h12]
     rfl)
   |(have hB : B = encAll l := by rw [eB, if_pos h12]
     have hB2 : 95 < (encAll l).length := by rw [← hB]; omega
     have h1 : secE l = 14 := by rw [secE, if_pos h12, if_pos hB2]
     refine ⟨_, rfl, ?_, kk⟩
     rw [secB, h1, if_neg (by decide)]
     done)
   |(have hB : B = encAll l := by rw [eB, if_pos h12]
     have hB2 : ¬ 95 < (encAll l).length := by rw [← hB]; omega
     have h1 : secE l = 0 := by rw [secE, if_pos h12, if_neg hB2]
     refine ⟨_, rfl, ?_, kk⟩
     rw [eV, sx_append, h1, secB, h1, if_pos rfl, ← hB, hYl]
     rfl)
 ·refine WL.t (WC.qa rfl (WC.skip (WX.qa (WC.seq (WC.sr (WL.move rfl rfl (WL.qv Tryz.underlying9 rfl rfl (WL.qe rfl rfl (by omega) rfl (WL.qe rfl rfl (by omega) rfl (?_))))))))))
  refine WL.qr rfl rfl rfl (fun h18 => ?_) (fun h18 => ?_)
  ·refine WL.t (WC.qb rfl (WC.sr (WL.assign rfl rfl (WL.assign rfl rfl (WL.nil (WX.qa (WC.ret (WX.qb (WX.qi (.inl rfl) Tryz.results66 rfl rfl ?_)))))))))
   first
    |(have h1 : secE l = checkE l := by rw [secE, if_neg h12]
      refine ⟨_, rfl, ?_, kk⟩
      rw [secB, h1, if_neg h12]
      rfl)
    |(have hB : B = encAll l := by rw [eB, if_pos h12]
      have hB2 : 95 < (encAll l).length := by rw [← hB]; omega
      have h1 : secE l = 14 := by rw [secE, if_pos h12, if_pos hB2]
      refine ⟨_, rfl, ?_, kk⟩
      rw [secB, h1, if_neg (by decide)]
      done)
    |(have hB : B = encAll l := by rw [eB, if_pos h12]
      have hB2 : ¬ 95 < (encAll l).length := by rw [← hB]; omega
      have h1 : secE l = 0 := by rw [secE, if_pos h12, if_neg hB2]
      refine ⟨_, rfl, ?_, kk⟩
      rw [eV, sx_append, h1, secB, h1, if_pos rfl, ← hB, hYl]
      rfl)
  ·refine WL.t (WC.qa rfl (WC.skip (WX.qa (WC.sr (WL.move rfl rfl (WL.move rfl rfl (WL.call eg_85 rfl rfl (sum64_calls X _ (by omega)) ?_)))))))
   rintro v w2 ⟨rfl, k2⟩
   replace kk := kk.pure k2
   have hsl := sumB_len B
   have hX2 : X ++ (⟨(sumB X.data.toList).toArray⟩ : ByteArray) = ⟨(B ++ sumB B).toArray⟩ := by rw [eX, sx_append]
   refine WL.qu rfl rfl (by show X.size + (sumB X.data.toList).toArray.size ≤ _; rw [List.size_toArray, sumB_len]; omega) rfl ?_
   rw [hX2]
   obtain ⟨Y, eY⟩ : ∃ Y : ByteArray, Y = ⟨(B ++ sumB B).toArray⟩ := ⟨_, rfl⟩
   have hYl : Y.size = B.length + 32 := by rw [eY]; show (B ++ sumB B).toArray.size = _; rw [List.size_toArray, List.length_append, hsl]
   rw [← eY]
   refine WL.assign rfl rfl (WL.t (WC.seq (WC.drawM (Nob) [0, 1, 2, 5, 7, 8, 9, 14] [3, 4, 6, 10, 11, 12, 13] mixed rfl rfl (fun wd_1 kd_1 zd_1 => ?_))))
   replace kk := kk.pure kd_1
   apply DQT.step (E' := [(4, _)])
   case ho => rfl
   case hs => exact ⟨rfl, trivial⟩
   case hk => rfl
   case h1 =>
    intro wq_3 kq_3
    refine WL.move rfl rfl (WL.q)
   apply DQT.step (E' := [(23, _)])
   case ho => rfl
   case hs => exact ⟨rfl, trivial⟩
   case hk => rfl
   case h1 =>
    intro wq_4 kq_4
    refine WL.qv Tryz.underlying9 rfl rfl (WL.q)
   apply DQT.step (E' := [(24, _)])
   case ho => rfl
   case hs => exact ⟨rfl, trivial⟩
   case hk => rfl
   case h1 =>
    intro wq_5 kq_5
    refine WL.c_i64_u8 Tryz.underlying3 Tryz.underlying5 rfl rfl (WL.q)
   apply DQT.step (E' := [(4, _)])
   case ho => rfl
   case hs => exact ⟨rfl, trivial⟩
   case hk => rfl
   case h1 =>
    intro wq_6 kq_6
    refine WL.move rfl rfl (WL.q)
   apply DQT.step (E' := [(4, _)])
   case ho => rfl
   case hs => exact ⟨rfl, trivial⟩
   case hk => rfl
   case h1 =>
    intro wq_7 kq_7
    refine WL.move rfl rfl (WL.q)
   apply DQT.step (E' := [(30, _)])
   case ho => rfl
   case hs => exact ⟨rfl, trivial⟩
   case hk => rfl
   case h1 =>
    intro wq_8 kq_8
    refine WL.qv Tryz.underlying9 rfl rfl (WL.q)
   apply DQT.step (E' := [(31, _)])
   case ho => rfl
   case hs => exact ⟨rfl, trivial⟩
   case hk => rfl
   case h1 =>
    intro wq_9 kq_9
    refine WL.qn rfl rfl (by constructor <;> omega) rfl ?_
    rw [show ((127 : Int) - Y.size) = ((95 - B.length : Nat) : Int) from by omega]
    exact WL.q
   apply DQT.step (E' := [])
   case ho => rfl
   case hs => exact trivial
   case hk => rfl
   case h1 =>
    intro wq_10 kq_10
    refine WL.assign rfl rfl (WL.q)
   refine DQT.done (fun hd_2 => ?_)
   refine ⟨?_, trivial, trivial, ?_, trivial, trivial, trivial, trivial⟩
   refine DT.step [(25, _)] rfl ⟨rfl, trivial⟩ rfl (fun wq_11 kq_11 => ?_)
   replace kk := kk.pure kq_11
   replace hd_2 := hd_2.pure kq_11
   refine WL.build (e := eb) [B8 (Y.size : Int)] Tryz.underlying51 Tryz.sizeOf5 Tryz.zeroValue5 rfl rfl rfl (by simp [Value.cells] <;> rfl) (by decide) rfl ?_
   intro a_hn w_hn hn l_hn z_hn k_hn
   replace kk := kk.pure k_hn
   replace hd_2 := hd_2.pure k_hn
   refine WL.nil (WX.one ⟨hd_2, ?_⟩)
   refine ⟨?_, trivial, ?_, trivial, trivial, trivial, trivial⟩
   refine DT.step [(26, _)] rfl ⟨rfl, trivial⟩ rfl (fun wq_12 kq_12 => ?_)
   replace kk := kk.pure kq_12
   replace hd_2 := hd_2.pure kq_12
   replace hn := hn.pure kq_12
   refine WL.qp Tryz.underlying51 Tryz.underlying5 Tryz.underlying9 hn.rsl rfl rfl (WL.nil (WX.one ⟨hd_2, ?_⟩))
   refine ⟨?_, ?_, trivial, trivial, trivial, trivial⟩
   refine DT.step [(27, _), (28, _)] rfl ⟨rfl, rfl, trivial⟩ rfl (fun wq_13 kq_13 => ?_)
   replace kk := kk.pure kq_13
   replace hd_2 := hd_2.pure kq_13
   have hV2 : (⟨[B8 (Y.size : Int)].toArray⟩ : ByteArray) ++ Y = ⟨(B8 (Y.size : Int) :: (B ++ sumB B)).toArray⟩ := by rw [eY, sx_append]; rfl
   refine WL.qu rfl rfl (by show [B8 (Y.size : Int)].toArray.size + Y.size ≤ _; rw [hYl]; simp; omega) rfl ?_
   rw [hV2]
   obtain ⟨V, eV⟩ : ∃ V : ByteArray, V = ⟨(B8 (Y.size : Int) :: (B ++ sumB B)).toArray⟩ := ⟨_, rfl⟩
   have hVl : V.size = B.length + 33 := by rw [eV]; show (B8 (Y.size : Int) :: (B ++ sumB B)).toArray.size = _; rw [List.size_toArray, List.length_cons, List.length_append, hsl]
   rw [← eV]
   refine WL.nil (WX.one ⟨hd_2, ?_⟩)
   refine ⟨?_, trivial, trivial, trivial, trivial⟩
   refine DT.step [(32, _)] rfl ⟨rfl, trivial⟩ rfl (fun wq_14 kq_14 => ?_)
   replace kk := kk.pure kq_14
   replace hd_2 := hd_2.pure kq_14
   refine WL.za (e := eb) (0 : UInt8) (95 - B.length) (95 - B.length) Tryz.underlying51 info_5 rfl rfl rfl ⟨rfl, rfl, Nat.le_refl _⟩ (by constructor <;> omega) rfl ?_
   intro g7 w7 hm7 k7 z7 eg7
   replace kk := kk.pure k7
   replace hd_2 := hd_2.pure k7
   refine WL.nil (WX.one ⟨hd_2, ?_⟩)
   refine ⟨?_, trivial, trivial, trivial⟩
   refine DT.step [(33, _)] rfl ⟨rfl, trivial⟩ rfl (fun wq_15 kq_15 => ?_)
   replace kk := kk.pure kq_15
   replace hd_2 := hd_2.pure kq_15
   replace hm7 := hm7.pure kq_15
   have hm8 := hm7.rsl
   refine WL.qp Tryz.underlying51 Tryz.underlying5 Tryz.underlying9 hm8 rfl rfl (WL.nil (WX.one ⟨hd_2, ?_⟩))
   refine ⟨?_, trivial, trivial⟩
   refine DT.step [(29, _), (34, _)] rfl ⟨rfl, rfl, trivial⟩ rfl (fun wq_16 kq_16 => ?_)
   replace kk := kk.pure kq_16
   replace hd_2 := hd_2.pure kq_16
   refine WL.qu rfl rfl (by show V.size + (List.replicate (95 - B.length) (0 : UInt8)).toArray.size ≤ _; rw [List.size_toArray, List.length_replicate]; omega) rfl ?_
   refine WL.nil (WX.one ⟨hd_2, ?_⟩)
   refine ⟨?_, trivial⟩
   refine DT.step [(35, _)] rfl ⟨rfl, trivial⟩ rfl (fun wq_17 kq_17 => ?_)
   replace kk := kk.pure kq_17
   replace hd_2 := hd_2.pure kq_17
   refine WL.assign rfl rfl (WL.nil (WX.one ⟨hd_2, ?_⟩))
   refine DT.done (fun we_18 ke_18 => ?_) _
   replace kk := kk.pure ke_18
   rotate_left
   refine DT.step [(32, _)] rfl ⟨rfl, trivial⟩ rfl (fun wq_13 kq_13 => ?_)
   replace kk := kk.pure kq_13
   replace hd_2 := hd_2.pure kq_13
   refine WL.za (e := eb) (0 : UInt8) (95 - B.length) (95 - B.length) Tryz.underlying51 info_5 rfl rfl rfl ⟨rfl, rfl, Nat.le_refl _⟩ (by constructor <;> omega) rfl ?_
   intro g7 w7 hm7 k7 z7 eg7
   replace kk := kk.pure k7
   replace hd_2 := hd_2.pure k7
   refine WL.nil (WX.one ⟨hd_2, ?_⟩)
   refine ⟨?_, ?_, trivial, trivial, trivial⟩
   refine DT.step [(27, _), (28, _)] rfl ⟨rfl, rfl, trivial⟩ rfl (fun wq_14 kq_14 => ?_)
   replace kk := kk.pure kq_14
   replace hd_2 := hd_2.pure kq_14
   replace hm7 := hm7.pure kq_14
   have hV2 : (⟨[B8 (Y.size : Int)].toArray⟩ : ByteArray) ++ Y = ⟨(B8 (Y.size : Int) :: (B ++ sumB B)).toArray⟩ := by rw [eY, sx_append]; rfl
   refine WL.qu rfl rfl (by show [B8 (Y.size : Int)].toArray.size + Y.size ≤ _; rw [hYl]; simp; omega) rfl ?_
   rw [hV2]
   obtain ⟨V, eV⟩ : ∃ V : ByteArray, V = ⟨(B8 (Y.size : Int) :: (B ++ sumB B)).toArray⟩ := ⟨_, rfl⟩
   have hVl : V.size = B.length + 33 := by rw [eV]; show (B8 (Y.size : Int) :: (B ++ sumB B)).toArray.size = _; rw [List.size_toArray, List.length_cons, List.length_append, hsl]
   rw [← eV]
   refine WL.nil (WX.one ⟨hd_2, ?_⟩)
   refine ⟨?_, trivial, trivial, trivial⟩
   refine DT.step [(33, _)] rfl ⟨rfl, trivial⟩ rfl (fun wq_15 kq_15 => ?_)
   replace kk := kk.pure kq_15
   replace hd_2 := hd_2.pure kq_15
   replace hm7 := hm7.pure kq_15
   have hm8 := hm7.rsl
   refine WL.qp Tryz.underlying51 Tryz.underlying5 Tryz.underlying9 hm8 rfl rfl (WL.nil (WX.one ⟨hd_2, ?_⟩))
   refine ⟨?_, trivial, trivial⟩
   refine DT.step [(29, _), (34, _)] rfl ⟨rfl, rfl, trivial⟩ rfl (fun wq_16 kq_16 => ?_)
   replace kk := kk.pure kq_16
   replace hd_2 := hd_2.pure kq_16
   refine WL.qu rfl rfl (by show V.size + (List.replicate (95 - B.length) (0 : UInt8)).toArray.size ≤ _; rw [List.size_toArray, List.length_replicate]; omega) rfl ?_
   refine WL.nil (WX.one ⟨hd_2, ?_⟩)
   refine ⟨?_, trivial⟩
   refine DT.step [(35, _)] rfl ⟨rfl, trivial⟩ rfl (fun wq_17 kq_17 => ?_)
   replace kk := kk.pure kq_17
   replace hd_2 := hd_2.pure kq_17
   refine WL.assign rfl rfl (WL.nil (WX.one ⟨hd_2, ?_⟩))
   refine DT.done (fun we_18 ke_18 => ?_) _
   replace kk := kk.pure ke_18
   rotate_left
   refine DT.step [(33, _)] rfl ⟨rfl, trivial⟩ rfl (fun wq_14 kq_14 => ?_)
   replace kk := kk.pure kq_14
   replace hd_2 := hd_2.pure kq_14
   replace hm7 := hm7.pure kq_14
   have hm8 := hm7.rsl
   refine WL.qp Tryz.underlying51 Tryz.underlying5 Tryz.underlying9 hm8 rfl rfl (WL.nil (WX.one ⟨hd_2, ?_⟩))
   refine ⟨?_, trivial, trivial, trivial⟩
   refine DT.step [(27, _), (28, _)] rfl ⟨rfl, rfl, trivial⟩ rfl (fun wq_15 kq_15 => ?_)
   replace kk := kk.pure kq_15
   replace hd_2 := hd_2.pure kq_15
   have hV2 : (⟨[B8 (Y.size : Int)].toArray⟩ : ByteArray) ++ Y = ⟨(B8 (Y.size : Int) :: (B ++ sumB B)).toArray⟩ := by rw [eY, sx_append]; rfl
   refine WL.qu rfl rfl (by show [B8 (Y.size : Int)].toArray.size + Y.size ≤ _; rw [hYl]; simp; omega) rfl ?_
   rw [hV2]
   obtain ⟨V, eV⟩ : ∃ V : ByteArray, V = ⟨(B8 (Y.size : Int) :: (B ++ sumB B)).toArray⟩ := ⟨_, rfl⟩
   have hVl : V.size = B.length + 33 := by rw [eV]; show (B8 (Y.size : Int) :: (B ++ sumB B)).toArray.size = _; rw [List.size_toArray, List.length_cons, List.length_append, hsl]
   rw [← eV]
   refine WL.nil (WX.one ⟨hd_2, ?_⟩)
   refine ⟨?_, trivial, trivial⟩
   refine DT.step [(29, _), (34, _)] rfl ⟨rfl, rfl, trivial⟩ rfl (fun wq_16 kq_16 => ?_)
   replace kk := kk.pure kq_16
   replace hd_2 := hd_2.pure kq_16
   refine WL.qu rfl rfl (by show V.size + (List.replicate (95 - B.length) (0 : UInt8)).toArray.size ≤ _; rw [List.size_toArray, List.length_replicate]; omega) rfl ?_
   refine WL.nil (WX.one ⟨hd_2, ?_⟩)
   refine ⟨?_, trivial⟩
   refine DT.step [(35, _)] rfl ⟨rfl, trivial⟩ rfl (fun wq_17 kq_17 => ?_)
   replace kk := kk.pure kq_17
   replace hd_2 := hd_2.pure kq_17
   refine WL.assign rfl rfl (WL.nil (WX.one ⟨hd_2, ?_⟩))
   refine DT.done (fun we_18 ke_18 => ?_) _
   replace kk := kk.pure ke_18
   rotate_left
   refine DT.step [(32, _)] rfl ⟨rfl, trivial⟩ rfl (fun wq_12 kq_12 => ?_)
   replace kk := kk.pure kq_12
   replace hd_2 := hd_2.pure kq_12
   replace hn := hn.pure kq_12
   refine WL.za (e := eb) (0 : UInt8) (95 - B.length) (95 - B.length) Tryz.underlying51 info_5 rfl rfl rfl ⟨rfl, rfl, Nat.le_refl _⟩ (by constructor <;> omega) rfl ?_
   intro g7 w7 hm7 k7 z7 eg7
   replace kk := kk.pure k7
   replace hd_2 := hd_2.pure k7
   replace hn := hn.pure k7
   refine WL.nil (WX.one ⟨hd_2, ?_⟩)
   refine ⟨?_, trivial, ?_, trivial, trivial, trivial⟩
   refine DT.step [(26, _)] rfl ⟨rfl, trivial⟩ rfl (fun wq_13 kq_13 => ?_)
   replace kk := kk.pure kq_13
   replace hd_2 := hd_2.pure kq_13
   replace hn := hn.pure kq_13
   replace hm7 := hm7.pure kq_13
   refine WL.qp Tryz.underlying51 Tryz.underlying5 Tryz.underlying9 hn.rsl rfl rfl (WL.nil (WX.one ⟨hd_2, ?_⟩))
   refine ⟨?_, ?_, trivial, trivial, trivial⟩
   refine DT.step [(27, _), (28, _)] rfl ⟨rfl, rfl, trivial⟩ rfl (fun wq_14 kq_14 => ?_)
   replace kk := kk.pure kq_14
   replace hd_2 := hd_2.pure kq_14
   replace hm7 := hm7.pure kq_14
   have hV2 : (⟨[B8 (Y.size : Int)].toArray⟩ : ByteArray) ++ Y = ⟨(B8 (Y.size : Int) :: (B ++ sumB B)).toArray⟩ := by rw [eY, sx_append]; rfl
   refine WL.qu rfl rfl (by show [B8 (Y.size : Int)].toArray.size + Y.size ≤ _; rw [hYl]; simp; omega) rfl ?_
   rw [hV2]
   obtain ⟨V, eV⟩ : ∃ V : ByteArray, V = ⟨(B8 (Y.size : Int) :: (B ++ sumB B)).toArray⟩ := ⟨_, rfl⟩
   have hVl : V.size = B.length + 33 := by rw [eV]; show (B8 (Y.size : Int) :: (B ++ sumB B)).toArray.size = _; rw [List.size_toArray, List.length_cons, List.length_append, hsl]
   rw [← eV]
   refine WL.nil (WX.one ⟨hd_2, ?_⟩)
   refine ⟨?_, trivial, trivial, trivial⟩
   refine DT.step [(33, _)] rfl ⟨rfl, trivial⟩ rfl (fun wq_15 kq_15 => ?_)
   replace kk := kk.pure kq_15
   replace hd_2 := hd_2.pure kq_15
   replace hm7 := hm7.pure kq_15
   have hm8 := hm7.rsl
   refine WL.qp Tryz.underlying51 Tryz.underlying5 Tryz.underlying9 hm8 rfl rfl (WL.nil (WX.one ⟨hd_2, ?_⟩))
   refine ⟨?_, trivial, trivial⟩
   refine DT.step [(29, _), (34, _)] rfl ⟨rfl, rfl, trivial⟩ rfl (fun wq_16 kq_16 => ?_)
   replace kk := kk.pure kq_16
   replace hd_2 := hd_2.pure kq_16
   refine WL.qu rfl rfl (by show V.size + (List.replicate (95 - B.length) (0 : UInt8)).toArray.size ≤ _; rw [List.size_toArray, List.length_replicate]; omega) rfl ?_
   refine WL.nil (WX.one ⟨hd_2, ?_⟩)
   refine ⟨?_, trivial⟩
   refine DT.step [(35, _)] rfl ⟨rfl, trivial⟩ rfl (fun wq_17 kq_17 => ?_)
   replace kk := kk.pure kq_17
   replace hd_2 := hd_2.pure kq_17
   refine WL.assign rfl rfl (WL.nil (WX.one ⟨hd_2, ?_⟩))
   refine DT.done (fun we_18 ke_18 => ?_) _
   replace kk := kk.pure ke_18
   rotate_left
   refine DT.step [(33, _)] rfl ⟨rfl, trivial⟩ rfl (fun wq_14 kq_14 => ?_)
   replace kk := kk.pure kq_14
   replace hd_2 := hd_2.pure kq_14
   replace hm7 := hm7.pure kq_14
   have hm8 := hm7.rsl
   refine WL.qp Tryz.underlying51 Tryz.underlying5 Tryz.underlying9 hm8 rfl rfl (WL.nil (WX.one ⟨hd_2, ?_⟩))
   refine ⟨?_, trivial, trivial, trivial⟩
   refine DT.step [(27, _), (28, _)] rfl ⟨rfl, rfl, trivial⟩ rfl (fun wq_15 kq_15 => ?_)
   replace kk := kk.pure kq_15
   replace hd_2 := hd_2.pure kq_15
   have hV2 : (⟨[B8 (Y.size : Int)].toArray⟩ : ByteArray) ++ Y = ⟨(B8 (Y.size : Int) :: (B ++ sumB B)).toArray⟩ := by rw [eY, sx_append]; rfl
   refine WL.qu rfl rfl (by show [B8 (Y.size : Int)].toArray.size + Y.size ≤ _; rw [hYl]; simp; omega) rfl ?_
   rw [hV2]
   obtain ⟨V, eV⟩ : ∃ V : ByteArray, V = ⟨(B8 (Y.size : Int) :: (B ++ sumB B)).toArray⟩ := ⟨_, rfl⟩
   have hVl : V.size = B.length + 33 := by rw [eV]; show (B8 (Y.size : Int) :: (B ++ sumB B)).toArray.size = _; rw [List.size_toArray, List.length_cons, List.length_append, hsl]
   rw [← eV]
   refine WL.nil (WX.one ⟨hd_2, ?_⟩)
   refine ⟨?_, trivial, trivial⟩
   refine DT.step [(29, _), (34, _)] rfl ⟨rfl, rfl, trivial⟩ rfl (fun wq_16 kq_16 => ?_)
   replace kk := kk.pure kq_16
   replace hd_2 := hd_2.pure kq_16
   refine WL.qu rfl rfl (by show V.size + (List.replicate (95 - B.length) (0 : UInt8)).toArray.size ≤ _; rw [List.size_toArray, List.length_replicate]; omega) rfl ?_
   refine WL.nil (WX.one ⟨hd_2, ?_⟩)
   refine ⟨?_, trivial⟩
   refine DT.step [(35, _)] rfl ⟨rfl, trivial⟩ rfl (fun wq_17 kq_17 => ?_)
   replace kk := kk.pure kq_17
   replace hd_2 := hd_2.pure kq_17
   refine WL.assign rfl rfl (WL.nil (WX.one ⟨hd_2, ?_⟩))
   refine DT.done (fun we_18 ke_18 => ?_) _
   replace kk := kk.pure ke_18
   rotate_left
   refine DT.step [(33, _)] rfl ⟨rfl, trivial⟩ rfl (fun wq_13 kq_13 => ?_)
   replace kk := kk.pure kq_13
   replace hd_2 := hd_2.pure kq_13
   replace hn := hn.pure kq_13
   replace hm7 := hm7.pure kq_13
   have hm8 := hm7.rsl
   refine WL.qp Tryz.underlying51 Tryz.underlying5 Tryz.underlying9 hm8 rfl rfl (WL.nil (WX.one ⟨hd_2, ?_⟩))
   refine ⟨?_, trivial, trivial, trivial, trivial⟩
   refine DT.step [(26, _)] rfl ⟨rfl, trivial⟩ rfl (fun wq_14 kq_14 => ?_)
   replace kk := kk.pure kq_14
   replace hd_2 := hd_2.pure kq_14
   replace hn := hn.pure kq_14
   refine WL.qp Tryz.underlying51 Tryz.underlying5 Tryz.underlying9 hn.rsl rfl rfl (WL.nil (WX.one ⟨hd_2, ?_⟩))
   refine ⟨?_, trivial, trivial, trivial⟩
   refine DT.step [(27, _), (28, _)] rfl ⟨rfl, rfl, trivial⟩ rfl (fun wq_15 kq_15 => ?_)
   replace kk := kk.pure kq_15
   replace hd_2 := hd_2.pure kq_15
   have hV2 : (⟨[B8 (Y.size : Int)].toArray⟩ : ByteArray) ++ Y = ⟨(B8 (Y.size : Int) :: (B ++ sumB B)).toArray⟩ := by rw [eY, sx_append]; rfl
   refine WL.qu rfl rfl (by show [B8 (Y.size : Int)].toArray.size + Y.size ≤ _; rw [hYl]; simp; omega) rfl ?_
   rw [hV2]
   obtain ⟨V, eV⟩ : ∃ V : ByteArray, V = ⟨(B8 (Y.size : Int) :: (B ++ sumB B)).toArray⟩ := ⟨_, rfl⟩
   have hVl : V.size = B.length + 33 := by rw [eV]; show (B8 (Y.size : Int) :: (B ++ sumB B)).toArray.size = _; rw [List.size_toArray, List.length_cons, List.length_append, hsl]
   rw [← eV]
   refine WL.nil (WX.one ⟨hd_2, ?_⟩)
   refine ⟨?_, trivial, trivial⟩
   refine DT.step [(29, _), (34, _)] rfl ⟨rfl, rfl, trivial⟩ rfl (fun wq_16 kq_16 => ?_)
   replace kk := kk.pure kq_16
   replace hd_2 := hd_2.pure kq_16
   refine WL.qu rfl rfl (by show V.size + (List.replicate (95 - B.length) (0 : UInt8)).toArray.size ≤ _; rw [List.size_toArray, List.length_replicate]; omega) rfl ?_
   refine WL.nil (WX.one ⟨hd_2, ?_⟩)
   refine ⟨?_, trivial⟩
   refine DT.step [(35, _)] rfl ⟨rfl, trivial⟩ rfl (fun wq_17 kq_17 => ?_)
   replace kk := kk.pure kq_17
   replace hd_2 := hd_2.pure kq_17
   refine WL.assign rfl rfl (WL.nil (WX.one ⟨hd_2, ?_⟩))
   refine DT.done (fun we_18 ke_18 => ?_) _
   replace kk := kk.pure ke_18
   rotate_left
   refine DT.step [(32, _)] rfl ⟨rfl, trivial⟩ rfl (fun wq_11 kq_11 => ?_)
   replace kk := kk.pure kq_11
   replace hd_2 := hd_2.pure kq_11
   refine WL.za (e := eb) (0 : UInt8) (95 - B.length) (95 - B.length) Tryz.underlying51 info_5 rfl rfl rfl ⟨rfl, rfl, Nat.le_refl _⟩ (by constructor <;> omega) rfl ?_
   intro g7 w7 hm7 k7 z7 eg7
   replace kk := kk.pure k7
   replace hd_2 := hd_2.pure k7
   refine WL.nil (WX.one ⟨hd_2, ?_⟩)
   refine ⟨?_, trivial, trivial, ?_, trivial, trivial, trivial⟩
   refine DT.step [(25, _)] rfl ⟨rfl, trivial⟩ rfl (fun wq_12 kq_12 => ?_)
   replace kk := kk.pure kq_12
   replace hd_2 := hd_2.pure kq_12
   replace hm7 := hm7.pure kq_12
   refine WL.build (e := eb) [B8 (Y.size : Int)] Tryz.underlying51 Tryz.sizeOf5 Tryz.zeroValue5 rfl rfl rfl (by simp [Value.cells] <;> rfl) (by decide) rfl ?_
   intro a_hn w_hn hn l_hn z_hn k_hn
   replace kk := kk.pure k_hn
   replace hd_2 := hd_2.pure k_hn
   replace hm7 := hm7.pure k_hn
   refine WL.nil (WX.one ⟨hd_2, ?_⟩)
   refine ⟨?_, trivial, ?_, trivial, trivial, trivial⟩
   refine DT.step [(26, _)] rfl ⟨rfl, trivial⟩ rfl (fun wq_13 kq_13 => ?_)
   replace kk := kk.pure kq_13
   replace hd_2 := hd_2.pure kq_13
   replace hm7 := hm7.pure kq_13
   replace hn := hn.pure kq_13
   refine WL.qp Tryz.underlying51 Tryz.underlying5 Tryz.underlying9 hn.rsl rfl rfl (WL.nil (WX.one ⟨hd_2, ?_⟩))
   refine ⟨?_, ?_, trivial, trivial, trivial⟩
   refine DT.step [(27, _), (28, _)] rfl ⟨rfl, rfl, trivial⟩ rfl (fun wq_14 kq_14 => ?_)
   replace kk := kk.pure kq_14
   replace hd_2 := hd_2.pure kq_14
   replace hm7 := hm7.pure kq_14
   have hV2 : (⟨[B8 (Y.size : Int)].toArray⟩ : ByteArray) ++ Y = ⟨(B8 (Y.size : Int) :: (B ++ sumB B)).toArray⟩ := by rw [eY, sx_append]; rfl
   refine WL.qu rfl rfl (by show [B8 (Y.size : Int)].toArray.size + Y.size ≤ _; rw [hYl]; simp; omega) rfl ?_
   rw [hV2]
   obtain ⟨V, eV⟩ : ∃ V : ByteArray, V = ⟨(B8 (Y.size : Int) :: (B ++ sumB B)).toArray⟩ := ⟨_, rfl⟩
   have hVl : V.size = B.length + 33 := by rw [eV]; show (B8 (Y.size : Int) :: (B ++ sumB B)).toArray.size = _; rw [List.size_toArray, List.length_cons, List.length_append, hsl]
   rw [← eV]
   refine WL.nil (WX.one ⟨hd_2, ?_⟩)
   refine ⟨?_, trivial, trivial, trivial⟩
   refine DT.step [(33, _)] rfl ⟨rfl, trivial⟩ rfl (fun wq_15 kq_15 => ?_)
   replace kk := kk.pure kq_15
   replace hd_2 := hd_2.pure kq_15
   replace hm7 := hm7.pure kq_15
   have hm8 := hm7.rsl
   refine WL.qp Tryz.underlying51 Tryz.underlying5 Tryz.underlying9 hm8 rfl rfl (WL.nil (WX.one ⟨hd_2, ?_⟩))
   refine ⟨?_, trivial, trivial⟩
   refine DT.step [(29, _), (34, _)] rfl ⟨rfl, rfl, trivial⟩ rfl (fun wq_16 kq_16 => ?_)
   replace kk := kk.pure kq_16
   replace hd_2 := hd_2.pure kq_16
   refine WL.qu rfl rfl (by show V.size + (List.replicate (95 - B.length) (0 : UInt8)).toArray.size ≤ _; rw [List.size_toArray, List.length_replicate]; omega) rfl ?_
   refine WL.nil (WX.one ⟨hd_2, ?_⟩)
   refine ⟨?_, trivial⟩
   refine DT.step [(35, _)] rfl ⟨rfl, trivial⟩ rfl (fun wq_17 kq_17 => ?_)
   replace kk := kk.pure kq_17
   replace hd_2 := hd_2.pure kq_17
   refine WL.assign rfl rfl (WL.nil (WX.one ⟨hd_2, ?_⟩))
   refine DT.done (fun we_18 ke_18 => ?_) _
   replace kk := kk.pure ke_18
   rotate_left
   refine DT.step [(33, _)] rfl ⟨rfl, trivial⟩ rfl (fun wq_14 kq_14 => ?_)
   replace kk := kk.pure kq_14
   replace hd_2 := hd_2.pure kq_14
   replace hm7 := hm7.pure kq_14
   have hm8 := hm7.rsl
   refine WL.qp Tryz.underlying51 Tryz.underlying5 Tryz.underlying9 hm8 rfl rfl (WL.nil (WX.one ⟨hd_2, ?_⟩))
   refine ⟨?_, trivial, trivial, trivial⟩
   refine DT.step [(27, _), (28, _)] rfl ⟨rfl, rfl, trivial⟩ rfl (fun wq_15 kq_15 => ?_)
   replace kk := kk.pure kq_15
   replace hd_2 := hd_2.pure kq_15
   have hV2 : (⟨[B8 (Y.size : Int)].toArray⟩ : ByteArray) ++ Y = ⟨(B8 (Y.size : Int) :: (B ++ sumB B)).toArray⟩ := by rw [eY, sx_append]; rfl
   refine WL.qu rfl rfl (by show [B8 (Y.size : Int)].toArray.size + Y.size ≤ _; rw [hYl]; simp; omega) rfl ?_
   rw [hV2]
   obtain ⟨V, eV⟩ : ∃ V : ByteArray, V = ⟨(B8 (Y.size : Int) :: (B ++ sumB B)).toArray⟩ := ⟨_, rfl⟩
   have hVl : V.size = B.length + 33 := by rw [eV]; show (B8 (Y.size : Int) :: (B ++ sumB B)).toArray.size = _; rw [List.size_toArray, List.length_cons, List.length_append, hsl]
   rw [← eV]
   refine WL.nil (WX.one ⟨hd_2, ?_⟩)
   refine ⟨?_, trivial, trivial⟩
   refine DT.step [(29, _), (34, _)] rfl ⟨rfl, rfl, trivial⟩ rfl (fun wq_16 kq_16 => ?_)
   replace kk := kk.pure kq_16
   replace hd_2 := hd_2.pure kq_16
   refine WL.qu rfl rfl (by show V.size + (List.replicate (95 - B.length) (0 : UInt8)).toArray.size ≤ _; rw [List.size_toArray, List.length_replicate]; omega) rfl ?_
   refine WL.nil (WX.one ⟨hd_2, ?_⟩)
   refine ⟨?_, trivial⟩
   refine DT.step [(35, _)] rfl ⟨rfl, trivial⟩ rfl (fun wq_17 kq_17 => ?_)
   replace kk := kk.pure kq_17
   replace hd_2 := hd_2.pure kq_17
   refine WL.assign rfl rfl (WL.nil (WX.one ⟨hd_2, ?_⟩))
   refine DT.done (fun we_18 ke_18 => ?_) _
   replace kk := kk.pure ke_18
   rotate_left
   refine DT.step [(33, _)] rfl ⟨rfl, trivial⟩ rfl (fun wq_13 kq_13 => ?_)
   replace kk := kk.pure kq_13
   replace hd_2 := hd_2.pure kq_13
   replace hm7 := hm7.pure kq_13
   replace hn := hn.pure kq_13
   have hm8 := hm7.rsl
   refine WL.qp Tryz.underlying51 Tryz.underlying5 Tryz.underlying9 hm8 rfl rfl (WL.nil (WX.one ⟨hd_2, ?_⟩))
   refine ⟨?_, trivial, trivial, trivial, trivial⟩
   refine DT.step [(26, _)] rfl ⟨rfl, trivial⟩ rfl (fun wq_14 kq_14 => ?_)
   replace kk := kk.pure kq_14
   replace hd_2 := hd_2.pure kq_14
   replace hn := hn.pure kq_14
   refine WL.qp Tryz.underlying51 Tryz.underlying5 Tryz.underlying9 hn.rsl rfl rfl (WL.nil (WX.one ⟨hd_2, ?_⟩))
   refine ⟨?_, trivial, trivial, trivial⟩
   refine DT.step [(27, _), (28, _)] rfl ⟨rfl, rfl, trivial⟩ rfl (fun wq_15 kq_15 => ?_)
   replace kk := kk.pure kq_15
   replace hd_2 := hd_2.pure kq_15
   have hV2 : (⟨[B8 (Y.size : Int)].toArray⟩ : ByteArray) ++ Y = ⟨(B8 (Y.size : Int) :: (B ++ sumB B)).toArray⟩ := by rw [eY, sx_append]; rfl
   refine WL.qu rfl rfl (by show [B8 (Y.size : Int)].toArray.size + Y.size ≤ _; rw [hYl]; simp; omega) rfl ?_
   rw [hV2]
   obtain ⟨V, eV⟩ : ∃ V : ByteArray, V = ⟨(B8 (Y.size : Int) :: (B ++ sumB B)).toArray⟩ := ⟨_, rfl⟩
   have hVl : V.size = B.length + 33 := by rw [eV]; show (B8 (Y.size : Int) :: (B ++ sumB B)).toArray.size = _; rw [List.size_toArray, List.length_cons, List.length_append, hsl]
   rw [← eV]
   refine WL.nil (WX.one ⟨hd_2, ?_⟩)
   refine ⟨?_, trivial, trivial⟩
   refine DT.step [(29, _), (34, _)] rfl ⟨rfl, rfl, trivial⟩ rfl (fun wq_16 kq_16 => ?_)
   replace kk := kk.pure kq_16
   replace hd_2 := hd_2.pure kq_16
   refine WL.qu rfl rfl (by show V.size + (List.replicate (95 - B.length) (0 : UInt8)).toArray.size ≤ _; rw [List.size_toArray, List.length_replicate]; omega) rfl ?_
   refine WL.nil (WX.one ⟨hd_2, ?_⟩)
   refine ⟨?_, trivial⟩
   refine DT.step [(35, _)] rfl ⟨rfl, trivial⟩ rfl (fun wq_17 kq_17 => ?_)
   replace kk := kk.pure kq_17
   replace hd_2 := hd_2.pure kq_17
   refine WL.assign rfl rfl (WL.nil (WX.one ⟨hd_2, ?_⟩))
   refine DT.done (fun we_18 ke_18 => ?_) _
   replace kk := kk.pure ke_18
   rotate_left
   refine DT.step [(33, _)] rfl ⟨rfl, trivial⟩ rfl (fun wq_12 kq_12 => ?_)
   replace kk := kk.pure kq_12
   replace hd_2 := hd_2.pure kq_12
   replace hm7 := hm7.pure kq_12
   have hm8 := hm7.rsl
   refine WL.qp Tryz.underlying51 Tryz.underlying5 Tryz.underlying9 hm8 rfl rfl (WL.nil (WX.one ⟨hd_2, ?_⟩))
   refine ⟨?_, trivial, trivial, trivial, trivial, trivial⟩
   refine DT.step [(25, _)] rfl ⟨rfl, trivial⟩ rfl (fun wq_13 kq_13 => ?_)
   replace kk := kk.pure kq_13
   replace hd_2 := hd_2.pure kq_13
   refine WL.build (e := eb) [B8 (Y.size : Int)] Tryz.underlying51 Tryz.sizeOf5 Tryz.zeroValue5 rfl rfl rfl (by simp [Value.cells] <;> rfl) (by decide) rfl ?_
   intro a_hn w_hn hn l_hn z_hn k_hn
   replace kk := kk.pure k_hn
   replace hd_2 := hd_2.pure k_hn
   refine WL.nil (WX.one ⟨hd_2, ?_⟩)
   refine ⟨?_, trivial, trivial, trivial, trivial⟩
   refine DT.step [(26, _)] rfl ⟨rfl, trivial⟩ rfl (fun wq_14 kq_14 => ?_)
   replace kk := kk.pure kq_14
   replace hd_2 := hd_2.pure kq_14
   replace hn := hn.pure kq_14
   refine WL.qp Tryz.underlying51 Tryz.underlying5 Tryz.underlying9 hn.rsl rfl rfl (WL.nil (WX.one ⟨hd_2, ?_⟩))
   refine ⟨?_, trivial, trivial, trivial⟩
   refine DT.step [(27, _), (28, _)] rfl ⟨rfl, rfl, trivial⟩ rfl (fun wq_15 kq_15 => ?_)
   replace kk := kk.pure kq_15
   replace hd_2 := hd_2.pure kq_15
   have hV2 : (⟨[B8 (Y.size : Int)].toArray⟩ : ByteArray) ++ Y = ⟨(B8 (Y.size : Int) :: (B ++ sumB B)).toArray⟩ := by rw [eY, sx_append]; rfl
   refine WL.qu rfl rfl (by show [B8 (Y.size : Int)].toArray.size + Y.size ≤ _; rw [hYl]; simp; omega) rfl ?_
   rw [hV2]
   obtain ⟨V, eV⟩ : ∃ V : ByteArray, V = ⟨(B8 (Y.size : Int) :: (B ++ sumB B)).toArray⟩ := ⟨_, rfl⟩
   have hVl : V.size = B.length + 33 := by rw [eV]; show (B8 (Y.size : Int) :: (B ++ sumB B)).toArray.size = _; rw [List.size_toArray, List.length_cons, List.length_append, hsl]
   rw [← eV]
   refine WL.nil (WX.one ⟨hd_2, ?_⟩)
   refine ⟨?_, trivial, trivial⟩
   refine DT.step [(29, _), (34, _)] rfl ⟨rfl, rfl, trivial⟩ rfl (fun wq_16 kq_16 => ?_)
   replace kk := kk.pure kq_16
   replace hd_2 := hd_2.pure kq_16
   refine WL.qu rfl rfl (by show V.size + (List.replicate (95 - B.length) (0 : UInt8)).toArray.size ≤ _; rw [List.size_toArray, List.length_replicate]; omega) rfl ?_
   refine WL.nil (WX.one ⟨hd_2, ?_⟩)
   refine ⟨?_, trivial⟩
   refine DT.step [(35, _)] rfl ⟨rfl, trivial⟩ rfl (fun wq_17 kq_17 => ?_)
   replace kk := kk.pure kq_17
   replace hd_2 := hd_2.pure kq_17
   refine WL.assign rfl rfl (WL.nil (WX.one ⟨hd_2, ?_⟩))
   refine DT.done (fun we_18 ke_18 => ?_) _
   replace kk := kk.pure ke_18
   rotate_left
   all_goals
    refine WX.qa (WC.ret (WX.qi (.inl rfl) Tryz.results66 rfl rfl ?_))
    first
     |(have h1 : secE l = checkE l := by rw [secE, if_neg h12]
       refine ⟨_, rfl, ?_, kk⟩
       rw [secB, h1, if_neg h12]
       rfl)
     |(have hB : B = encAll l := by rw [eB, if_pos h12]
       refine ⟨_, rfl, ?_, kk⟩
       rw [secB, h1, if_neg (by decide)]
       done)
     |(have hB : B = encAll l := by rw [eB, if_pos h12]
       have hB2 : ¬ 95 < (encAll l).length := by rw [← hB]; omega
       have h1 : secE l = 0 := by rw [secE, if_pos h12, if_neg hB2]
       refine ⟨_, rfl, ?_, kk⟩
       rw [eV, sx_append, h1, secB, h1, if_pos rfl, ← hB, hYl]
       rfl)
end Go.Proofs.YtjeldcjchipdgaaGreatDoor
namespace Go.Proofs.YtjeldcjchipdgaaGreatDoor
open Go.RowKit Go.HL
set_option maxRecDepth 100000
theorem ba_ext {X : ByteArray} {b : List UInt8} (h : X.data.toList = b) : X = ⟨b.toArray⟩ := by
 apply ByteArray.ext
 apply Array.ext'
 simpa using h
theorem decE_some {c : List UInt8} (h : decE c = 0) : dec 0 c = some (decL c) := by
 unfold decE at h
 unfold decL
 cases hd : dec 0 c with
 |none => rw [hd] at h; cases h
 |some l => rfl
theorem un_doc {b : List UInt8} {s : List UInt8} {n : Nat} (hn : n = (b.getD 0 0).toNat) (hs : s = (b.take (1 + n)).drop 1) :
 (b.length = 128 ∧ n < 128 ∧ (openR s).2 = 0 ∧ decE (openR s).1 = 0 ∧ secE (decL (openR s).1) = 0 ∧ secB (decL (openR s).1) = b → unL b = decL (openR s).1 ∧ unE b = 0) ∧
 (¬ (b.length = 128 ∧ n < 128 ∧ (openR s).2 = 0 ∧ decE (openR s).1 = 0 ∧ secE (decL (openR s).1) = 0 ∧ secB (decL (openR s).1) = b) → unL b = [] ∧ unE b = 2) := by
 subst hn; subst hs
 constructor
 ·rintro ⟨g1, g2, g3, g4, g5, g6⟩
  have hd := decE_some g4
  obtain ⟨d1, d2, d3⟩ := dec_spec _ _ (Nat.le_refl _) 0 _ (by omega) hd
  have h := un_sec g5 (fun i hi => (d2 i hi).2.2)
  rw [g6] at h
  exact un_yes' h
 ·intro h
  refine un_not (fun l hl => h ?_)
  obtain ⟨p1, p2, p3, p4, p5, p6, p7⟩ := un_parts hl
  have e1 : decL (openR ((b.take (1 + (b.getD 0 0).toNat)).drop 1)).1 = l := by rw [decL, p4]; rfl
  have e2 : decE (openR ((b.take (1 + (b.getD 0 0).toNat)).drop 1)).1 = 0 := by rw [decE, p4]; rfl
  rw [e1, e2]
  exact ⟨p1, p2, p3, rfl, p6, p7⟩
theorem dec_len (c : List UInt8) : (decL c).length ≤ 2000 := by
 unfold decL
 cases h : dec 0 c with
 |none => simp
 |some l => have := (dec_spec _ _ (Nat.le_refl _) 0 l (by omega) h).1; simpa using this
theorem dec_rit (c : List UInt8) : ∀ i ∈ decL c, RIt i := by
 unfold decL
 cases h : dec 0 c with
 |none => simp
 |some l => exact fun i hi => ((dec_spec _ _ (Nat.le_refl _) 0 l (by omega) h).2.1 i hi).2.2
theorem secB_len (l : List Item) : (secB l).length ≤ 128 := by
 unfold secB
 split
 ·rename_i h
  have h1 : (encAll l).length ≤ 95 := by
   unfold secE at h
   split at h
   ·split at h
    ·cases h
    ·omega
   ·rename_i h1; exact absurd h h1
  rw [sec_len h1]
  omega
 ·simp
theorem secB_128 {l : List Item} (h : secE l = 0) : (secB l).length = 128 := by
 have h1 : (encAll l).length ≤ 95 := by
  unfold secE at h
  split at h
  ·split at h
   ·cases h
   ·omega
  ·rename_i h1; exact absurd h h1
 rw [secB, if_pos h, sec_len h1]
theorem docUnsector_calls (X : ByteArray) (w : World) (hl : X.size ≤ 140737488351232) :
 Calls Tryz.prog 106 [.string X].toArray w (Ret fun v w' => (∃ (ao' : Option Addr) (c' : Nat), v = .tuple #[.slice ao' (unL X.data.toList).length c', vi (unE X.data.toList)] ∧ Row (w.heap.size ≤ ·) w' 116 eit ao' c' (unL X.data.toList)) ∧ Chg Nob w w') := by
 have kk := Chg.refl Nob w
 obtain ⟨b, hb⟩ : ∃ b, b = X.data.toList := ⟨_, rfl⟩
 have hbl : b.length = X.size := by rw [hb]; simp
 obtain ⟨n, hn⟩ : ∃ n, n = (b.getD 0 0).toNat := ⟨_, rfl⟩
 obtain ⟨s, hs⟩ : ∃ s, s = (b.take (1 + n)).drop 1 := ⟨_, rfl⟩
 rw [← hb]
 refine Calls.of_WC Tryz.func106 rfl Tryz.ntmps106 (by simp) ?_
 refine WC.sr (WL.assign rfl rfl (WL.assign rfl rfl (WL.t (WC.seq (WC.seq (WC.region (WL.move rfl rfl (WL.qv Tryz.underlying9 rfl rfl (WL.qk rfl rfl rfl (fun h10 => ?_) (fun h10 => ?_))))))))))
 ·refine WL.move rfl rfl (WL.pass rfl rfl rfl rfl (WL.pass rfl rfl rfl rfl (WL.pass rfl rfl rfl rfl (WL.pass rfl rfl rfl rfl (WL.qc rfl rfl rfl (WL.t (WC.qb rfl (WC.sr (WL.assign rfl rfl (WL.assign rfl rfl (WL.t (WC.ret (WX.qb (WX.qi (.inl rfl) Tryz.results106 rfl rfl ?_))))))))))))))
  obtain ⟨hy1, hy2⟩ := un_doc hn hs
  by_cases hc : b.length = 128 ∧ n < 128 ∧ (openR s).2 = 0 ∧ decE (openR s).1 = 0 ∧ secE (decL (openR s).1) = 0 ∧ secB (decL (openR s).1) = b
  ·obtain ⟨u1, u2⟩ := hy1 hc
   obtain ⟨g1, g2, g3, g4, g5, g6⟩ := hc
   rw [u1, u2]
   first
    |(exact ⟨_, rfl, ⟨a3, c3, rfl, hq.mono (fun x hx => by omega)⟩, kk⟩)
    |(exfalso; omega)
    |(exfalso; first | exact absurd g3 (by assumption) | exact absurd g4 (by assumption) | exact absurd g5 (by assumption))
    |(exfalso; refine h46 ?_; rw [g6]; exact (ba_ext hb.symm).symm)
  ·obtain ⟨u1, u2⟩ := hy2 hc
   rw [u1, u2]
   first
    |(exact ⟨_, rfl, ⟨none, 0, rfl, Row.nil _ _ _ _⟩, kk⟩)
    |(exfalso
      refine hc ⟨by omega, by omega, h28, h35, h42, ?_⟩
      have h9 := congrArg (fun Z : ByteArray => Z.data.toList) h46
      rw [hb]
      exact h9)
 ·refine WL.move rfl rfl (WL.qa rfl rfl rfl (WL.move rfl rfl (WL.qa rfl rfl rfl (?_))))
  obtain ⟨x, hx⟩ : ∃ x, X.data.toList[0]? = some x := ⟨_, List.getElem?_eq_getElem (by rw [← hb]; omega)⟩
  have hxn : x.toNat = n := by rw [hn, List.getD_eq_getElem?_getD, hb, hx]; rfl
  refine WL.sindex Tryz.underlying9 rfl rfl _ rfl _ hx rfl (WL.qa rfl rfl rfl (WL.c_u8_i64 Tryz.underlying5 Tryz.underlying3 rfl rfl (WL.qa rfl rfl rfl (WL.qr rfl rfl rfl (fun h15 => ?_) (fun h15 => ?_)))))
  ·refine WL.qb rfl rfl rfl (WL.t (WC.qb rfl (WC.sr (WL.assign rfl rfl (WL.assign rfl rfl (WL.t (WC.ret (WX.qb (WX.qi (.inl rfl) Tryz.results106 rfl rfl ?_)))))))))
   obtain ⟨hy1, hy2⟩ := un_doc hn hs
   by_cases hc : b.length = 128 ∧ n < 128 ∧ (openR s).2 = 0 ∧ decE (openR s).1 = 0 ∧ secE (decL (openR s).1) = 0 ∧ secB (decL (openR s).1) = b
   ·obtain ⟨u1, u2⟩ := hy1 hc
    obtain ⟨g1, g2, g3, g4, g5, g6⟩ := hc
    rw [u1, u2]
    first
     |(exact ⟨_, rfl, ⟨a3, c3, rfl, hq.mono (fun x hx => by omega)⟩, kk⟩)
     |(exfalso; omega)
     |(exfalso; first | exact absurd g3 (by assumption) | exact absurd g4 (by assumption) | exact absurd g5 (by assumption))
     |(exfalso; refine h46 ?_; rw [g6]; exact (ba_ext hb.symm).symm)
   ·obtain ⟨u1, u2⟩ := hy2 hc
    rw [u1, u2]
    first
     |(exact ⟨_, rfl, ⟨none, 0, rfl, Row.nil _ _ _ _⟩, kk⟩)
     |(exfalso
       refine hc ⟨by omega, by omega, h28, h35, h42, ?_⟩
       have h9 := congrArg (fun Z : ByteArray => Z.data.toList) h46
       rw [hb]
       exact h9)
  ·refine WL.qb rfl rfl rfl (WL.t (WC.qa rfl (WC.skip (WX.qa (WC.sr (WL.move rfl rfl (WL.move rfl rfl (WL.sindex Tryz.underlying9 rfl rfl _ rfl _ hx rfl ?_))))))))
   refine WL.c_u8_i64 Tryz.underlying5 Tryz.underlying3 rfl rfl (?_)
   refine WL.qe rfl rfl (by constructor <;> omega) rfl ?_
   rw [show ((1 : Int) + x.toNat) = ((1 + n : Nat) : Int) from by omega]
   refine WL.qy (l := 1) (h := 1 + n) Tryz.underlying9 rfl (.inl rfl) (.inl rfl) (by constructor <;> omega) rfl ?_
   have e2 : (X.extract 1 (1 + n)).data.toList = s := by
    rw [hs, hb]
    cases hX : X.data.toList with
    |nil => simp [hX]
    |cons y r => simp [hX, Nat.add_comm 1 n]
   have e3 : (X.extract 1 (1 + n)).size ≤ 4000 := by simp; omega
   refine WL.call eg_119 rfl rfl (docOpen_calls _ _ e3) ?_
   rintro v w2 ⟨rfl, k2⟩
   rw [e2]
   have hsl : s.length ≤ 128 := by rw [hs, List.length_drop, List.length_take]; omega
   have hol := openR_len s
   obtain ⟨Y, eY⟩ : ∃ Y : ByteArray, Y = ⟨(openR s).1.toArray⟩ := ⟨_, rfl⟩
   have hYl : Y.size ≤ 140737488351232 := by rw [eY]; show (openR s).1.toArray.size ≤ _; rw [List.size_toArray]; omega
   rw [← eY]
   have zs_k2 := k2.size
   replace kk := kk.pure k2
   refine WL.move rfl rfl (WL.extract rfl rfl rfl (WL.extract rfl rfl rfl (WL.assign rfl rfl (WL.assign rfl rfl (WL.t (WC.seq (WC.sr (WL.move rfl rfl (WL.qk rfl rfl rfl (fun h28 => ?_) (fun h28 => ?_))))))))))
   ·refine WL.t (WC.qb rfl (WC.sr (WL.assign rfl rfl (WL.assign rfl rfl (WL.nil (WX.qa (WC.ret (WX.qb (WX.qi (.inl rfl) Tryz.results106 rfl rfl ?_)))))))))
    obtain ⟨hy1, hy2⟩ := un_doc hn hs
    by_cases hc : b.length = 128 ∧ n < 128 ∧ (openR s).2 = 0 ∧ decE (openR s).1 = 0 ∧ secE (decL (openR s).1) = 0 ∧ secB (decL (openR s).1) = b
    ·obtain ⟨u1, u2⟩ := hy1 hc
     obtain ⟨g1, g2, g3, g4, g5, g6⟩ := hc
     rw [u1, u2]
     first
      |(exact ⟨_, rfl, ⟨a3, c3, rfl, hq.mono (fun x hx => by omega)⟩, kk⟩)
      |(exfalso; omega)
      |(exfalso; first | exact absurd g3 (by assumption) | exact absurd g4 (by assumption) | exact absurd g5 (by assumption))
      |(exfalso; refine h46 ?_; rw [g6]; exact (ba_ext hb.symm).symm)
    ·obtain ⟨u1, u2⟩ := hy2 hc
     rw [u1, u2]
     first
      |(exact ⟨_, rfl, ⟨none, 0, rfl, Row.nil _ _ _ _⟩, kk⟩)
      |(exfalso
        refine hc ⟨by omega, by omega, h28, h35, h42, ?_⟩
        have h9 := congrArg (fun Z : ByteArray => Z.data.toList) h46
        rw [hb]
        exact h9)
   ·refine WL.t (WC.qa rfl (WC.skip (WX.qa (WC.sr (WL.move rfl rfl (WL.call eg_120 rfl rfl (rdecode_calls hYl) ?_))))))
    rintro v w3 ⟨⟨a3, c3, rfl, hq⟩, k3⟩
    rw [show Y.data.toList = (openR s).1 from by rw [eY]] at hq ⊢
    replace kk := kk.pure k3
    replace hq := hq.lt
    refine WL.move rfl rfl (WL.extract rfl rfl rfl (WL.extract rfl rfl rfl (WL.assign rfl rfl (WL.assign rfl rfl (WL.t (WC.seq (WC.sr (WL.move rfl rfl (WL.qk rfl rfl rfl (fun h35 => ?_) (fun h35 => ?_))))))))))
    ·refine WL.t (WC.qb rfl (WC.sr (WL.assign rfl rfl (WL.assign rfl rfl (WL.nil (WX.qa (WC.ret (WX.qb (WX.qi (.inl rfl) Tryz.results106 rfl rfl ?_)))))))))
     obtain ⟨hy1, hy2⟩ := un_doc hn hs
     by_cases hc : b.length = 128 ∧ n < 128 ∧ (openR s).2 = 0 ∧ decE (openR s).1 = 0 ∧ secE (decL (openR s).1) = 0 ∧ secB (decL (openR s).1) = b
     ·obtain ⟨u1, u2⟩ := hy1 hc
      obtain ⟨g1, g2, g3, g4, g5, g6⟩ := hc
      rw [u1, u2]
      first
       |(exact ⟨_, rfl, ⟨a3, c3, rfl, hq.mono (fun x hx => by omega)⟩, kk⟩)
       |(exfalso; omega)
       |(exfalso; first | exact absurd g3 (by assumption) | exact absurd g4 (by assumption) | exact absurd g5 (by assumption))
       |(exfalso; refine h46 ?_; rw [g6]; exact (ba_ext hb.symm).symm)
     ·obtain ⟨u1, u2⟩ := hy2 hc
      rw [u1, u2]
      first
       |(exact ⟨_, rfl, ⟨none, 0, rfl, Row.nil _ _ _ _⟩, kk⟩)
       |(exfalso
         refine hc ⟨by omega, by omega, h28, h35, h42, ?_⟩
         have h9 := congrArg (fun Z : ByteArray => Z.data.toList) h46
         rw [hb]
         exact h9)
    ·refine WL.t (WC.qa rfl (WC.skip (WX.qa (WC.sr (WL.move rfl rfl (?_))))))
     have hq1 := hq.rsl.old
     refine WL.call eg_66 rfl rfl (docSector_calls hq1 (by have := dec_len (openR s).1; omega) (dec_rit _)) ?_
     rintro v w4 ⟨rfl, k4⟩
     replace kk := kk.pure k4
     replace hq := hq.pure k4
     refine WL.move rfl rfl (WL.extract rfl rfl rfl (WL.extract rfl rfl rfl (WL.assign rfl rfl (WL.assign rfl rfl (WL.t (WC.seq (WC.sr (WL.move rfl rfl (WL.qk rfl rfl rfl (fun h42 => ?_) (fun h42 => ?_))))))))))
     ·refine WL.move rfl rfl (WL.pass rfl rfl rfl rfl (WL.pass rfl rfl rfl rfl (WL.pass rfl rfl rfl rfl (WL.qc rfl rfl rfl (WL.t (WC.qb rfl (WC.sr (WL.assign rfl rfl (WL.assign rfl rfl (WL.t (WC.ret (WX.qb (WX.qi (.inl rfl) Tryz.results106 rfl rfl ?_)))))))))))))
      obtain ⟨hy1, hy2⟩ := un_doc hn hs
      by_cases hc : b.length = 128 ∧ n < 128 ∧ (openR s).2 = 0 ∧ decE (openR s).1 = 0 ∧ secE (decL (openR s).1) = 0 ∧ secB (decL (openR s).1) = b
      ·obtain ⟨u1, u2⟩ := hy1 hc
       obtain ⟨g1, g2, g3, g4, g5, g6⟩ := hc
       rw [u1, u2]
       first
        |(exact ⟨_, rfl, ⟨a3, c3, rfl, hq.mono (fun x hx => by omega)⟩, kk⟩)
        |(exfalso; omega)
        |(exfalso; first | exact absurd g3 (by assumption) | exact absurd g4 (by assumption) | exact absurd g5 (by assumption))
        |(exfalso; refine h46 ?_; rw [g6]; exact (ba_ext hb.symm).symm)
      ·obtain ⟨u1, u2⟩ := hy2 hc
       rw [u1, u2]
       first
        |(exact ⟨_, rfl, ⟨none, 0, rfl, Row.nil _ _ _ _⟩, kk⟩)
        |(exfalso
          refine hc ⟨by omega, by omega, h28, h35, h42, ?_⟩
          have h9 := congrArg (fun Z : ByteArray => Z.data.toList) h46
          rw [hb]
          exact h9)
     ·refine WL.move rfl rfl (WL.qa rfl rfl rfl (WL.move rfl rfl (WL.qa rfl rfl rfl (WL.move rfl rfl (WL.qa rfl rfl rfl (WL.sneq? rfl rfl rfl (fun h46 => ?_) (fun h46 => ?_)))))))
      ·refine WL.qb rfl rfl rfl (WL.t (WC.qb rfl (WC.sr (WL.assign rfl rfl (WL.assign rfl rfl (WL.t (WC.ret (WX.qb (WX.qi (.inl rfl) Tryz.results106 rfl rfl ?_)))))))))
       obtain ⟨hy1, hy2⟩ := un_doc hn hs
       by_cases hc : b.length = 128 ∧ n < 128 ∧ (openR s).2 = 0 ∧ decE (openR s).1 = 0 ∧ secE (decL (openR s).1) = 0 ∧ secB (decL (openR s).1) = b
       ·obtain ⟨u1, u2⟩ := hy1 hc
        obtain ⟨g1, g2, g3, g4, g5, g6⟩ := hc
        rw [u1, u2]
        first
         |(exact ⟨_, rfl, ⟨a3, c3, rfl, hq.mono (fun x hx => by omega)⟩, kk⟩)
         |(exfalso; omega)
         |(exfalso; first | exact absurd g3 (by assumption) | exact absurd g4 (by assumption) | exact absurd g5 (by assumption))
         |(exfalso; refine h46 ?_; rw [g6]; exact (ba_ext hb.symm).symm)
       ·obtain ⟨u1, u2⟩ := hy2 hc
        rw [u1, u2]
        first
         |(exact ⟨_, rfl, ⟨none, 0, rfl, Row.nil _ _ _ _⟩, kk⟩)
         |(exfalso
           refine hc ⟨by omega, by omega, h28, h35, h42, ?_⟩
           have h9 := congrArg (fun Z : ByteArray => Z.data.toList) h46
           rw [hb]
           exact h9)
      ·refine WL.qb rfl rfl rfl (WL.t (WC.qa rfl (WC.skip (WX.qa (WC.sr (WL.move rfl rfl (WL.assign rfl rfl (WL.assign rfl rfl (WL.t (WC.ret (WX.qi (.inl rfl) Tryz.results106 rfl rfl ?_)))))))))))
       obtain ⟨hy1, hy2⟩ := un_doc hn hs
       by_cases hc : b.length = 128 ∧ n < 128 ∧ (openR s).2 = 0 ∧ decE (openR s).1 = 0 ∧ secE (decL (openR s).1) = 0 ∧ secB (decL (openR s).1) = b
       ·obtain ⟨u1, u2⟩ := hy1 hc
        obtain ⟨g1, g2, g3, g4, g5, g6⟩ := hc
        rw [u1, u2]
        first
         |(exact ⟨_, rfl, ⟨a3, c3, rfl, hq.mono (fun x hx => by omega)⟩, kk⟩)
         |(exfalso; omega)
         |(exfalso; first | exact absurd g3 (by assumption) | exact absurd g4 (by assumption) | exact absurd g5 (by assumption))
         |(exfalso; refine h46 ?_; rw [g6]; exact (ba_ext hb.symm).symm)
       ·obtain ⟨u1, u2⟩ := hy2 hc
        rw [u1, u2]
        first
         |(exact ⟨_, rfl, ⟨none, 0, rfl, Row.nil _ _ _ _⟩, kk⟩)
         |(exfalso
           refine hc ⟨by omega, by omega, h28, h35, h42, ?_⟩
           have h9 := congrArg (fun Z : ByteArray => Z.data.toList) h46
           rw [hb]
           exact h9)
end Go.Proofs.YtjeldcjchipdgaaGreatDoor
namespace Go.Proofs.YtjeldcjchipdgaaGreatDoor
open Go.RowKit Go.HL
set_option maxRecDepth 100000
structure PtrV where
 a : Int
 z : Int
 b : Int
 s : ByteArray
theorem PtrV.eq_iff (p q : PtrV) : (p.a = q.a ∧ p.z = q.z ∧ p.b = q.b ∧ p.s = q.s) ↔ p = q := by
 obtain ⟨a, z, b, s⟩ := p
 obtain ⟨a2, z2, b2, s2⟩ := q
 simp
instance : DecidableEq PtrV := fun a b => decidable_of_iff _ (PtrV.eq_iff a b)
def ept : Enc PtrV := ⟨4, fun p => [vi p.a, vi p.z, vi p.b, .string p.s], fun _ => rfl, by simp [Value.oneCell'], by decide⟩
def WfP (p : PtrV) : Prop := (-9223372036854775808 ≤ p.a ∧ p.a ≤ 9223372036854775807) ∧ (-9223372036854775808 ≤ p.z ∧ p.z ≤ 9223372036854775807) ∧ (-9223372036854775808 ≤ p.b ∧ p.b ≤ 9223372036854775807)
def rightP (p : PtrV) : Prop := 0 ≤ p.a ∧ 0 ≤ p.b ∧ 1 ≤ p.z ∧ p.z ≤ 1024 ∧ p.s.size = 32
instance (p : PtrV) : Decidable (rightP p) := by unfold rightP; infer_instance
def pit (p : PtrV) : List Item := [⟨1, p.a, ⟨#[]⟩⟩, ⟨1, p.z, ⟨#[]⟩⟩, ⟨1, p.b, ⟨#[]⟩⟩, ⟨2, 0, p.s⟩]
theorem pit_good {p : PtrV} (h : rightP p) (hw : WfP p) : ∀ i ∈ pit p, Good i := by
 obtain ⟨h1, h2, h3, h4, h5⟩ := h
 obtain ⟨w1, w2, w3⟩ := hw
 intro i hi
 simp only [pit, List.mem_cons, List.not_mem_nil, or_false] at hi
 rcases hi with rfl | rfl | rfl | rfl
 ·exact ⟨by simp [longI], by simp [okI], w1⟩
 ·exact ⟨by simp [longI], by simp [okI], w2⟩
 ·exact ⟨by simp [longI], by simp [okI], w3⟩
 ·exact ⟨by simp [longI]; omega, by simp [okI], ⟨show (-9223372036854775808 : Int) ≤ 0 by decide, show (0 : Int) ≤ 9223372036854775807 by decide⟩⟩
theorem pit_check {p : PtrV} (h : rightP p) (hw : WfP p) : checkE (pit p) = 0 := icheck_good (by simp [pit]) (pit_good h hw)
def ptrS (p : PtrV) : ByteArray := if rightP p then ⟨(encAll (pit p)).toArray⟩ else ⟨#[]⟩
def ptrE (p : PtrV) : Int := if rightP p then 0 else 2
theorem ptr_calls (p : PtrV) (w : World) (hw : WfP p) : Calls Tryz.prog 77 [.agg (ept.f p).toArray].toArray w (Ret fun v w' => v = .tuple #[.string (ptrS p), vi (ptrE p)] ∧ Chg Nob w w') := by
 have kk := Chg.refl Nob w
 refine Calls.of_WC Tryz.func77 rfl Tryz.ntmps77 (by simp) ?_
 refine WC.sr (WL.box rfl rfl ?_)
 intro g_1 w_1 hge_1 hlt_1 hb_1 k_1
 replace kk := kk.pure k_1
 refine WL.assign rfl rfl (WL.assign rfl rfl (WL.t (WC.seq (WC.sr (WL.fieldAddr (fld_38_0) rfl rfl (WL.qd Tryz.isAgg3 hb_1 rfl rfl rfl (WL.qi rfl rfl rfl (fun h8 => ?_) (fun h8 => ?_))))))))
 ·refine WL.move rfl rfl (WL.pass rfl rfl rfl rfl (WL.pass rfl rfl rfl rfl (WL.pass rfl rfl rfl rfl (WL.qc rfl rfl rfl (WL.move rfl rfl (WL.pass rfl rfl rfl rfl (WL.pass rfl rfl rfl rfl (WL.pass rfl rfl rfl rfl (WL.qc rfl rfl rfl (WL.move rfl rfl (WL.pass rfl rfl rfl rfl (WL.pass rfl rfl rfl rfl (WL.pass rfl rfl rfl rfl (WL.qc rfl rfl rfl (WL.move rfl rfl (WL.pass rfl rfl rfl rfl (WL.pass rfl rfl rfl rfl (WL.pass rfl rfl rfl rfl (WL.pass rfl rfl rfl rfl (WL.qc rfl rfl rfl (WL.t (WC.qb rfl (WC.sr (WL.assign rfl rfl (WL.assign rfl rfl (WL.t (WC.ret (WX.qb (WX.qi (.inl rfl) Tryz.results77 rfl rfl ?_)))))))))))))))))))))))))))))
  first
   |(have hr : ¬ rightP p := by unfold rightP; omega
     refine ⟨_, rfl, ?_, kk⟩
     rw [ptrS, ptrE, if_neg hr, if_neg hr])
   |(refine ⟨_, rfl, ?_, kk⟩
     rw [ptrS, ptrE, if_pos hr, if_pos hr]
     rfl)
 ·refine WL.move rfl rfl (WL.qa rfl rfl rfl (WL.fieldAddr (fld_38_2) rfl rfl (WL.qa rfl rfl rfl (WL.qd Tryz.isAgg3 hb_1 rfl rfl rfl (WL.qa rfl rfl rfl (WL.qi rfl rfl rfl (fun h12 => ?_) (fun h12 => ?_)))))))
  ·refine WL.qb rfl rfl rfl (WL.move rfl rfl (WL.pass rfl rfl rfl rfl (WL.pass rfl rfl rfl rfl (WL.pass rfl rfl rfl rfl (WL.qc rfl rfl rfl (WL.move rfl rfl (WL.pass rfl rfl rfl rfl (WL.pass rfl rfl rfl rfl (WL.pass rfl rfl rfl rfl (WL.qc rfl rfl rfl (WL.move rfl rfl (WL.pass rfl rfl rfl rfl (WL.pass rfl rfl rfl rfl (WL.pass rfl rfl rfl rfl (WL.pass rfl rfl rfl rfl (WL.qc rfl rfl rfl (WL.t (WC.qb rfl (WC.sr (WL.assign rfl rfl (WL.assign rfl rfl (WL.t (WC.ret (WX.qb (WX.qi (.inl rfl) Tryz.results77 rfl rfl ?_)))))))))))))))))))))))))
   first
    |(have hr : ¬ rightP p := by unfold rightP; omega
      refine ⟨_, rfl, ?_, kk⟩
      rw [ptrS, ptrE, if_neg hr, if_neg hr])
    |(refine ⟨_, rfl, ?_, kk⟩
      rw [ptrS, ptrE, if_pos hr, if_pos hr]
      rfl)
  ·refine WL.qb rfl rfl rfl (WL.move rfl rfl (WL.qa rfl rfl rfl (WL.fieldAddr (fld_38_1) rfl rfl (WL.qa rfl rfl rfl (WL.qd Tryz.isAgg3 hb_1 rfl rfl rfl (WL.qa rfl rfl rfl (WL.qi rfl rfl rfl (fun h17 => ?_) (fun h17 => ?_))))))))
   ·refine WL.qb rfl rfl rfl (WL.move rfl rfl (WL.pass rfl rfl rfl rfl (WL.pass rfl rfl rfl rfl (WL.pass rfl rfl rfl rfl (WL.qc rfl rfl rfl (WL.move rfl rfl (WL.pass rfl rfl rfl rfl (WL.pass rfl rfl rfl rfl (WL.pass rfl rfl rfl rfl (WL.pass rfl rfl rfl rfl (WL.qc rfl rfl rfl (WL.t (WC.qb rfl (WC.seq (WC.region (WL.assign rfl rfl (WL.assign rfl rfl (WL.t (WC.ret (WX.qb (WX.qi (.inl rfl) Tryz.results77 rfl rfl ?_)))))))))))))))))))))
    first
     |(have hr : ¬ rightP p := by unfold rightP; omega
       refine ⟨_, rfl, ?_, kk⟩
       rw [ptrS, ptrE, if_neg hr, if_neg hr])
     |(refine ⟨_, rfl, ?_, kk⟩
       rw [ptrS, ptrE, if_pos hr, if_pos hr]
       rfl)
   ·refine WL.qb rfl rfl rfl (WL.move rfl rfl (WL.qa rfl rfl rfl (WL.fieldAddr (fld_38_1) rfl rfl (WL.qa rfl rfl rfl (WL.qd Tryz.isAgg3 hb_1 rfl rfl rfl (WL.qa rfl rfl rfl (WL.qr rfl rfl rfl (fun h22 => ?_) (fun h22 => ?_))))))))
    ·refine WL.qb rfl rfl rfl (WL.move rfl rfl (WL.pass rfl rfl rfl rfl (WL.pass rfl rfl rfl rfl (WL.pass rfl rfl rfl rfl (WL.pass rfl rfl rfl rfl (WL.qc rfl rfl rfl (WL.nil (WX.qa (WC.qb rfl (WC.sr (WL.assign rfl rfl (WL.assign rfl rfl (WL.t (WC.ret (WX.qb (WX.qi (.inl rfl) Tryz.results77 rfl rfl ?_))))))))))))))))
     first
      |(have hr : ¬ rightP p := by unfold rightP; omega
        refine ⟨_, rfl, ?_, kk⟩
        rw [ptrS, ptrE, if_neg hr, if_neg hr])
      |(refine ⟨_, rfl, ?_, kk⟩
        rw [ptrS, ptrE, if_pos hr, if_pos hr]
        rfl)
    ·refine WL.qb rfl rfl rfl (WL.move rfl rfl (WL.qa rfl rfl rfl (WL.fieldAddr (fld_38_3) rfl rfl (WL.qa rfl rfl rfl (WL.qd Tryz.isAgg9 hb_1 rfl rfl rfl (WL.qa rfl rfl rfl (WL.qv Tryz.underlying9 rfl rfl (WL.qa rfl rfl rfl (WL.qk rfl rfl rfl (fun h28 => ?_) (fun h28 => ?_))))))))))
     ·refine WL.qb rfl rfl rfl (WL.t (WC.qb rfl (WC.sr (WL.assign rfl rfl (WL.assign rfl rfl (WL.t (WC.ret (WX.qb (WX.qi (.inl rfl) Tryz.results77 rfl rfl ?_)))))))))
      first
       |(have hr : ¬ rightP p := by unfold rightP; omega
         refine ⟨_, rfl, ?_, kk⟩
         rw [ptrS, ptrE, if_neg hr, if_neg hr])
       |(refine ⟨_, rfl, ?_, kk⟩
         rw [ptrS, ptrE, if_pos hr, if_pos hr]
         rfl)
     ·refine WL.qb rfl rfl rfl (WL.t (WC.qa rfl (WC.skip (WX.qa (WC.sr (WL.fieldAddr (fld_38_0) rfl rfl (WL.qd Tryz.isAgg3 hb_1 rfl rfl rfl (WL.bld rfl (bld_116_0_1 _ _) rfl (WL.fieldAddr (fld_38_1) rfl rfl (WL.qd Tryz.isAgg3 hb_1 rfl rfl rfl (WL.bld rfl (bld_116_0_1 _ _) rfl (WL.fieldAddr (fld_38_2) rfl rfl (WL.qd Tryz.isAgg3 hb_1 rfl rfl rfl (WL.bld rfl (bld_116_0_1 _ _) rfl (WL.fieldAddr (fld_38_3) rfl rfl (WL.qd Tryz.isAgg9 hb_1 rfl rfl rfl (WL.bld rfl (bld_116_0_2 _ _) rfl (?_))))))))))))))))))
      have hr : rightP p := by unfold rightP; omega
      refine WL.build (e := eit) [⟨1, p.a, ⟨#[]⟩⟩, ⟨1, p.z, ⟨#[]⟩⟩, ⟨1, p.b, ⟨#[]⟩⟩, ⟨2, 0, p.s⟩] Tryz.underlying117 Tryz.sizeOf116 Tryz.zeroValue116 rfl rfl rfl (by simp [Value.cells] <;> rfl) (by decide) rfl ?_
      intro a_ha w_ha ha l_ha z_ha k_ha
      replace kk := kk.pure k_ha
      refine WL.call eg_94 rfl rfl (encode_calls ha.rsl (by simp)) ?_
      rintro v w2 ⟨ax, cx, rfl, hx, k2⟩
      rw [show checkE [⟨1, p.a, ⟨#[]⟩⟩, ⟨1, p.z, ⟨#[]⟩⟩, ⟨1, p.b, ⟨#[]⟩⟩, ⟨2, 0, p.s⟩] = 0 from pit_check hr hw] at hx ⊢
      rw [if_pos rfl] at hx ⊢
      replace kk := kk.pure k2
      replace hx := hx.lt
      refine WL.move rfl rfl (WL.extract rfl rfl rfl (WL.extract rfl rfl rfl (WL.assign rfl rfl (WL.assign rfl rfl (WL.t (WC.seq (WC.region (WL.move rfl rfl (WL.qp Tryz.underlying51 Tryz.underlying5 Tryz.underlying9 hx.rsl rfl rfl (WL.move rfl rfl (WL.assign rfl rfl (WL.assign rfl rfl (WL.t (WC.ret (WX.qi (.inl rfl) Tryz.results77 rfl rfl ?_)))))))))))))))
      first
       |(have hr : ¬ rightP p := by unfold rightP; omega
         refine ⟨_, rfl, ?_, kk⟩
         rw [ptrS, ptrE, if_neg hr, if_neg hr])
       |(refine ⟨_, rfl, ?_, kk⟩
         rw [ptrS, ptrE, if_pos hr, if_pos hr]
         rfl)
theorem rightPtr_calls (p : PtrV) (w : World) : Calls Tryz.prog 81 [.agg (ept.f p).toArray].toArray w (Ret fun v w' => v = .bool (decide (rightP p)) ∧ Chg Nob w w') := by
 have kk := Chg.refl Nob w
 refine Calls.of_WC Tryz.func81 rfl Tryz.ntmps81 (by simp) ?_
 refine WC.sr (WL.box rfl rfl ?_)
 intro g_1 w_1 hge_1 hlt_1 hb_1 k_1
 replace kk := kk.pure k_1
 refine WL.assign rfl rfl (WL.t (WC.sr (WL.fieldAddr (fld_38_0) rfl rfl (WL.qd Tryz.isAgg3 hb_1 rfl rfl rfl (WL.qx rfl rfl rfl (fun h5 => ?_) (fun h5 => ?_))))))
 ·refine WL.move rfl rfl (WL.qa rfl rfl rfl (WL.fieldAddr (fld_38_2) rfl rfl (WL.qa rfl rfl rfl (WL.qd Tryz.isAgg3 hb_1 rfl rfl rfl (WL.qa rfl rfl rfl (WL.qx rfl rfl rfl (fun h9 => ?_) (fun h9 => ?_)))))))
  ·refine WL.qc rfl rfl rfl (WL.move rfl rfl (WL.qa rfl rfl rfl (WL.fieldAddr (fld_38_1) rfl rfl (WL.qa rfl rfl rfl (WL.qd Tryz.isAgg3 hb_1 rfl rfl rfl (WL.qa rfl rfl rfl (WL.qx rfl rfl rfl (fun h14 => ?_) (fun h14 => ?_))))))))
   ·refine WL.qc rfl rfl rfl (WL.move rfl rfl (WL.qa rfl rfl rfl (WL.fieldAddr (fld_38_1) rfl rfl (WL.qa rfl rfl rfl (WL.qd Tryz.isAgg3 hb_1 rfl rfl rfl (WL.qa rfl rfl rfl (WL.leq? rfl rfl rfl (fun h19 => ?_) (fun h19 => ?_))))))))
    ·refine WL.qc rfl rfl rfl (WL.move rfl rfl (WL.qa rfl rfl rfl (WL.fieldAddr (fld_38_3) rfl rfl (WL.qa rfl rfl rfl (WL.qd Tryz.isAgg9 hb_1 rfl rfl rfl (WL.qa rfl rfl rfl (WL.qv Tryz.underlying9 rfl rfl (WL.qa rfl rfl rfl (WL.eql rfl rfl rfl (WL.qc rfl rfl rfl (WL.assign rfl rfl (WL.t (WC.ret (WX.qg (.inl rfl) Tryz.results81 rfl ?_))))))))))))))
     refine ⟨_, rfl, ?_, kk⟩
     first
      |exact congrArg Value.bool (decide_eq_decide.2 (by unfold rightP; omega))
      |(refine congrArg Value.bool (Eq.symm (decide_eq_false ?_)); unfold rightP; omega)
    ·refine WL.qc rfl rfl rfl (WL.move rfl rfl (WL.pass rfl rfl rfl rfl (WL.pass rfl rfl rfl rfl (WL.pass rfl rfl rfl rfl (WL.pass rfl rfl rfl rfl (WL.qb rfl rfl rfl (WL.assign rfl rfl (WL.t (WC.ret (WX.qg (.inl rfl) Tryz.results81 rfl ?_))))))))))
     refine ⟨_, rfl, ?_, kk⟩
     first
      |exact congrArg Value.bool (decide_eq_decide.2 (by unfold rightP; omega))
      |(refine congrArg Value.bool (Eq.symm (decide_eq_false ?_)); unfold rightP; omega)
   ·refine WL.qc rfl rfl rfl (WL.move rfl rfl (WL.pass rfl rfl rfl rfl (WL.pass rfl rfl rfl rfl (WL.pass rfl rfl rfl rfl (WL.qb rfl rfl rfl (WL.move rfl rfl (WL.pass rfl rfl rfl rfl (WL.pass rfl rfl rfl rfl (WL.pass rfl rfl rfl rfl (WL.pass rfl rfl rfl rfl (WL.qb rfl rfl rfl (WL.assign rfl rfl (WL.t (WC.ret (WX.qg (.inl rfl) Tryz.results81 rfl ?_)))))))))))))))
    refine ⟨_, rfl, ?_, kk⟩
    first
     |exact congrArg Value.bool (decide_eq_decide.2 (by unfold rightP; omega))
     |(refine congrArg Value.bool (Eq.symm (decide_eq_false ?_)); unfold rightP; omega)
  ·refine WL.qc rfl rfl rfl (WL.move rfl rfl (WL.pass rfl rfl rfl rfl (WL.pass rfl rfl rfl rfl (WL.pass rfl rfl rfl rfl (WL.qb rfl rfl rfl (WL.move rfl rfl (WL.pass rfl rfl rfl rfl (WL.pass rfl rfl rfl rfl (WL.pass rfl rfl rfl rfl (WL.qb rfl rfl rfl (WL.move rfl rfl (WL.pass rfl rfl rfl rfl (WL.pass rfl rfl rfl rfl (WL.pass rfl rfl rfl rfl (WL.pass rfl rfl rfl rfl (WL.qb rfl rfl rfl (WL.assign rfl rfl (WL.t (WC.ret (WX.qg (.inl rfl) Tryz.results81 rfl ?_))))))))))))))))))))
   refine ⟨_, rfl, ?_, kk⟩
   first
    |exact congrArg Value.bool (decide_eq_decide.2 (by unfold rightP; omega))
    |(refine congrArg Value.bool (Eq.symm (decide_eq_false ?_)); unfold rightP; omega)
 ·refine WL.move rfl rfl (WL.pass rfl rfl rfl rfl (WL.pass rfl rfl rfl rfl (WL.pass rfl rfl rfl rfl (WL.qb rfl rfl rfl (WL.move rfl rfl (WL.pass rfl rfl rfl rfl (WL.pass rfl rfl rfl rfl (WL.pass rfl rfl rfl rfl (WL.qb rfl rfl rfl (WL.move rfl rfl (WL.pass rfl rfl rfl rfl (WL.pass rfl rfl rfl rfl (WL.pass rfl rfl rfl rfl (WL.qb rfl rfl rfl (WL.move rfl rfl (WL.pass rfl rfl rfl rfl (WL.pass rfl rfl rfl rfl (WL.pass rfl rfl rfl rfl (WL.pass rfl rfl rfl rfl (WL.qb rfl rfl rfl (WL.assign rfl rfl (WL.t (WC.ret (WX.qg (.inl rfl) Tryz.results81 rfl ?_))))))))))))))))))))))))
  refine ⟨_, rfl, ?_, kk⟩
  first
   |exact congrArg Value.bool (decide_eq_decide.2 (by unfold rightP; omega))
   |(refine congrArg Value.bool (Eq.symm (decide_eq_false ?_)); unfold rightP; omega)
theorem items_calls (p : PtrV) (w : World) : Calls Tryz.prog 83 [.agg (ept.f p).toArray].toArray w (Ret fun v w' => (∃ (ao : Option Addr) (c : Nat), v = .slice ao (pit p).length c ∧ RSl (fun _ => True) w' eit ao c (pit p)) ∧ Chg Nob w w') := by
 have kk := Chg.refl Nob w
 refine Calls.of_WC Tryz.func83 rfl Tryz.ntmps83 (by simp) ?_
 refine WC.sr (WL.box rfl rfl ?_)
 intro g_1 w_1 hge_1 hlt_1 hb_1 k_1
 replace kk := kk.pure k_1
 refine WL.assign rfl rfl (WL.t (WC.sr (WL.fieldAddr (fld_38_0) rfl rfl (WL.qd Tryz.isAgg3 hb_1 rfl rfl rfl (WL.bld rfl (bld_116_0_1 _ _) rfl (WL.fieldAddr (fld_38_1) rfl rfl (WL.qd Tryz.isAgg3 hb_1 rfl rfl rfl (WL.bld rfl (bld_116_0_1 _ _) rfl (WL.fieldAddr (fld_38_2) rfl rfl (WL.qd Tryz.isAgg3 hb_1 rfl rfl rfl (WL.bld rfl (bld_116_0_1 _ _) rfl (WL.fieldAddr (fld_38_3) rfl rfl (WL.qd Tryz.isAgg9 hb_1 rfl rfl rfl (WL.bld rfl (bld_116_0_2 _ _) rfl (?_)))))))))))))))
 refine WL.build (e := eit) [⟨1, p.a, ⟨#[]⟩⟩, ⟨1, p.z, ⟨#[]⟩⟩, ⟨1, p.b, ⟨#[]⟩⟩, ⟨2, 0, p.s⟩] Tryz.underlying117 Tryz.sizeOf116 Tryz.zeroValue116 rfl rfl rfl (by simp [Value.cells] <;> rfl) (by decide) rfl ?_
 intro a_ha w_ha ha l_ha z_ha k_ha
 replace kk := kk.pure k_ha
 refine WL.assign rfl rfl (WL.t (WC.ret (WX.qg (.inl rfl) Tryz.results83 rfl ?_)))
 exact ⟨_, rfl, ⟨_, _, rfl, ha.rsl.mono fun _ _ => trivial⟩, kk⟩
theorem docPtr_calls (p : PtrV) (w : World) (hw : WfP p) : Calls Tryz.prog 65 [.agg (ept.f p).toArray].toArray w (Ret fun v w' => v = .tuple #[.string (ptrS p), vi (ptrE p)] ∧ Chg Nob w w') := by
 have kk := Chg.refl Nob w
 refine Calls.of_WC Tryz.func65 rfl Tryz.ntmps65 (by simp) ?_
 refine WC.sr (WL.box rfl rfl ?_)
 intro g_1 w_1 hge_1 hlt_1 hb_1 k_1
 replace kk := kk.pure k_1
 refine WL.assign rfl rfl (WL.assign rfl rfl (WL.t (WC.seq (WC.sr (WL.qq Tryz.isAgg38 Tryz.sizeOf38 hb_1 rfl (by rfl) rfl (?_))))))
 refine WL.call eg_81 rfl rfl (rightPtr_calls p _) ?_
 rintro v w1 ⟨rfl, k1⟩
 replace kk := kk.pure k1
 replace hb_1 := hb_1.pure k1
 by_cases hr : rightP p
 ·rw [decide_eq_true hr]
  refine WL.not rfl rfl (WL.t (WC.qa rfl (WC.skip (WX.qa (WC.sr (WL.qq Tryz.isAgg38 Tryz.sizeOf38 hb_1 rfl (by rfl) rfl (?_)))))))
  refine WL.call eg_83 rfl rfl (items_calls p _) ?_
  rintro v w1 ⟨⟨ax, cx, rfl, hx⟩, k1⟩
  replace kk := kk.pure k1
  have hx2 := hx.old
  refine WL.call eg_82 rfl rfl (rencode_calls hx2 (by simp [pit]) (fun i hi => ⟨(pit_good hr hw i hi).1, (pit_good hr hw i hi).2.1⟩) (fun i hi => (pit_good hr hw i hi).2.2)) ?_
  rintro v w1 ⟨rfl, k1⟩
  replace kk := kk.pure k1
  refine WL.assign rfl rfl (WL.assign rfl rfl (WL.t (WC.ret (WX.qi (.inl rfl) Tryz.results65 rfl rfl ?_))))
  refine ⟨_, rfl, ?_, kk⟩
  first
   |(rw [ptrS, ptrE, if_neg hr, if_neg hr]; done)
   |(rw [ptrS, ptrE, if_pos hr, if_pos hr])
 ·rw [decide_eq_false hr]
  refine WL.not rfl rfl (WL.t (WC.qb rfl (WC.sr (WL.assign rfl rfl (WL.assign rfl rfl (WL.t (WC.ret (WX.qb (WX.qi (.inl rfl) Tryz.results65 rfl rfl ?_)))))))))
  refine ⟨_, rfl, ?_, kk⟩
  first
   |(rw [ptrS, ptrE, if_neg hr, if_neg hr]; done)
   |(rw [ptrS, ptrE, if_pos hr, if_pos hr])
end Go.Proofs.YtjeldcjchipdgaaGreatDoor
namespace Go.Proofs.YtjeldcjchipdgaaGreatDoor
open Go.RowKit Go.HL
set_option maxRecDepth 100000
def zeroP : PtrV := ⟨0, 0, 0, ⟨#[]⟩⟩
def ptr4 (i0 i1 i2 i3 : Item) : PtrV := ⟨i0.n, i1.n, i2.n, i3.s⟩
def unpR (s : ByteArray) : PtrV × Int :=
 match decL s.data.toList with
 |[i0, i1, i2, i3] => if decE s.data.toList = 0 ∧ (i0.kind = 1 ∧ i1.kind = 1 ∧ i2.kind = 1 ∧ i3.kind = 2) ∧ rightP (ptr4 i0 i1 i2 i3) then (ptr4 i0 i1 i2 i3, 0) else (zeroP, 2)
 |_ => (zeroP, 2)
theorem unpR_four {s : ByteArray} {i0 i1 i2 i3 : Item} (h : decL s.data.toList = [i0, i1, i2, i3]) : unpR s = if decE s.data.toList = 0 ∧ (i0.kind = 1 ∧ i1.kind = 1 ∧ i2.kind = 1 ∧ i3.kind = 2) ∧ rightP (ptr4 i0 i1 i2 i3) then (ptr4 i0 i1 i2 i3, 0) else (zeroP, 2) := by
 unfold unpR
 rw [h]
theorem unpR_bad {s : ByteArray} (h : decE s.data.toList ≠ 0 ∨ (decL s.data.toList).length ≠ 4) : unpR s = (zeroP, 2) := by
 unfold unpR
 split
 ·rename_i hl
  rcases h with h | h
  ·rw [if_neg (fun x => h x.1)]
  ·rw [hl] at h; exact absurd rfl h
 ·rfl
theorem four {l : List Item} (h : l.length = 4) : ∃ i0 i1 i2 i3, l = [i0, i1, i2, i3] := by
 match l, h with
 |[a, b, c, d], _ => exact ⟨a, b, c, d, rfl⟩
theorem good1 {i : Item} (h : Good i) (k : i.kind = 1) : i = ⟨1, i.n, ⟨#[]⟩⟩ := by
 have h2 := h.2.1
 simp only [okI, decide_eq_true_eq] at h2
 obtain ⟨a, b, c⟩ := i
 simp only at k h2 ⊢
 subst k
 rcases h2 with ⟨_, rfl⟩ | ⟨h, _⟩
 ·rfl
 ·cases h
theorem good2 {i : Item} (h : Good i) (k : i.kind = 2) : i = ⟨2, 0, i.s⟩ := by
 have h2 := h.2.1
 simp only [okI, decide_eq_true_eq] at h2
 obtain ⟨a, b, c⟩ := i
 simp only at k h2 ⊢
 subst k
 rcases h2 with ⟨h, _⟩ | ⟨_, rfl⟩
 ·cases h
 ·rfl
theorem decE_items {b : List UInt8} (h : decE b = 0) : ∀ i ∈ decL b, Good i := (dec_spec b.length b (Nat.le_refl _) 0 (decL b) (by omega) (decE_zero h)).2.1
theorem four_wf {b : List UInt8} {i0 i1 i2 i3 : Item} (h : decE b = 0) (hL : decL b = [i0, i1, i2, i3]) : WfP (ptr4 i0 i1 i2 i3) := by
 have hg := decE_items h
 rw [hL] at hg
 exact ⟨(hg i0 (by simp)).2.2, (hg i1 (by simp)).2.2, (hg i2 (by simp)).2.2⟩
theorem unp_text {s : ByteArray} {i0 i1 i2 i3 : Item} (h0 : decE s.data.toList = 0) (hL : decL s.data.toList = [i0, i1, i2, i3]) (hr : rightP (ptr4 i0 i1 i2 i3)) : ptrS (ptr4 i0 i1 i2 i3) = s ↔ (i0.kind = 1 ∧ i1.kind = 1 ∧ i2.kind = 1 ∧ i3.kind = 2) := by
 have hg := decE_items h0
 have hw := four_wf h0 hL
 obtain ⟨he, hs⟩ := decE_good h0
 have hp := pit_check hr hw
 rw [hL] at hg hs he
 rw [ptrS, if_pos hr]
 constructor
 ·intro h
  have h1 : encAll (pit (ptr4 i0 i1 i2 i3)) = encAll [i0, i1, i2, i3] := by rw [hs, ← h]
  have h2 := encAll_inj hp he (fun i hi => (pit_good hr hw i hi).2.2) (fun i hi => (hg i hi).2.2) h1
  simp only [pit, List.cons.injEq, and_true] at h2
  obtain ⟨e0, e1, e2, e3⟩ := h2
  refine ⟨?_, ?_, ?_, ?_⟩
  ·rw [← e0]
  ·rw [← e1]
  ·rw [← e2]
  ·rw [← e3]
 ·rintro ⟨k0, k1, k2, k3⟩
  have h1 : pit (ptr4 i0 i1 i2 i3) = [i0, i1, i2, i3] := by
   have e0 := good1 (hg i0 (by simp)) k0
   have e1 := good1 (hg i1 (by simp)) k1
   have e2 := good1 (hg i2 (by simp)) k2
   have e3 := good2 (hg i3 (by simp)) k3
   simp only [pit, ptr4]
   rw [← e0, ← e1, ← e2, ← e3]
  rw [h1, hs]
theorem unp_ptr {p : PtrV} (hr : rightP p) (hw : WfP p) : unpR (ptrS p) = (p, 0) := by
 have e : (ptrS p).data.toList = encAll (pit p) := by rw [ptrS, if_pos hr]
 have hp := pit_check hr hw
 have hL : decL (ptrS p).data.toList = pit p := by rw [e]; exact decL_enc hp (fun i hi => (pit_good hr hw i hi).2.2)
 have hE : decE (ptrS p).data.toList = 0 := by rw [e]; exact decE_enc hp (fun i hi => (pit_good hr hw i hi).2.2)
 have h4 := unpR_four (s := ptrS p) (i0 := ⟨1, p.a, ⟨#[]⟩⟩) (i1 := ⟨1, p.z, ⟨#[]⟩⟩) (i2 := ⟨1, p.b, ⟨#[]⟩⟩) (i3 := ⟨2, 0, p.s⟩) hL
 rw [h4, if_pos ⟨hE, ⟨rfl, rfl, rfl, rfl⟩, hr⟩]
 rfl
theorem unptr_calls (s : ByteArray) (w : World) (hs : s.size ≤ 140737488351232) : Calls Tryz.prog 105 [.string s].toArray w (Ret fun v w' => v = .tuple #[.agg (ept.f (unpR s).1).toArray, vi (unpR s).2] ∧ Chg Nob w w') := by
 have kk := Chg.refl Nob w
 refine Calls.of_WC Tryz.func105 rfl Tryz.ntmps105 (by simp) ?_
 refine WC.sr (WL.alloc Tryz.zeroValue38 rfl ?_)
 intro g_1 w_1 hge_1 hlt_1 hb_1 k_1
 replace kk := kk.pure k_1
 refine WL.assign rfl rfl (WL.t (WC.sr (WL.move rfl rfl (WL.toBytes Tryz.underlying9 Tryz.underlying51 Tryz.underlying5 rfl (by omega) rfl ?_))))
 intro a_hb c_hb w_hb hb k_hb z_hb
 replace kk := kk.pure k_hb
 replace hb_1 := hb_1.pure k_hb
 have hb2 := hb.rsl.old
 refine WL.call eg_118 rfl rfl (decode_calls' hb2 (by simpa using hs)) ?_
 rintro v w4 ⟨⟨ak, ck, rfl, hk⟩, k4⟩
 have zs_k4 := k4.size
 replace kk := kk.pure k4
 replace hb_1 := hb_1.pure k4
 replace hk := hk.lt
 refine WL.move rfl rfl (WL.extract rfl rfl rfl (WL.extract rfl rfl rfl (WL.assign rfl rfl (WL.assign rfl rfl (WL.t (WC.seq (WC.sr (WL.move rfl rfl (WL.qk rfl rfl rfl (fun h16 => ?_) (fun h16 => ?_))))))))))
 ·refine WL.move rfl rfl (WL.pass rfl rfl rfl rfl (WL.pass rfl rfl rfl rfl (WL.pass rfl rfl rfl rfl (WL.qc rfl rfl rfl (WL.move rfl rfl (WL.pass rfl rfl rfl rfl (WL.pass rfl rfl rfl rfl (WL.pass rfl rfl rfl rfl (WL.pass rfl rfl rfl rfl (WL.pass rfl rfl rfl rfl (WL.qc rfl rfl rfl (WL.move rfl rfl (WL.pass rfl rfl rfl rfl (WL.pass rfl rfl rfl rfl (WL.pass rfl rfl rfl rfl (WL.pass rfl rfl rfl rfl (WL.pass rfl rfl rfl rfl (WL.qc rfl rfl rfl (WL.move rfl rfl (WL.pass rfl rfl rfl rfl (WL.pass rfl rfl rfl rfl (WL.pass rfl rfl rfl rfl (WL.pass rfl rfl rfl rfl (WL.pass rfl rfl rfl rfl (WL.qc rfl rfl rfl (WL.move rfl rfl (WL.pass rfl rfl rfl rfl (WL.pass rfl rfl rfl rfl (WL.pass rfl rfl rfl rfl (WL.pass rfl rfl rfl rfl (WL.pass rfl rfl rfl rfl (WL.qc rfl rfl rfl (WL.t (WC.qb rfl (WC.sr (WL.bld rfl (bld_38_z) rfl (?_)))))))))))))))))))))))))))))))))))))
  refine WL.qf Tryz.sizeOf38 hb_1 rfl rfl (by simp; done) (by simp [Value.oneCell']; done) (by simp [Value.cells]; done) rfl ?_
  intro w_2 hs_2 hn_2 k_2
  replace kk := kk.chg k_2 (by intro x h1 h2; have h3 : _ = _ := h2; exfalso; omega)
  replace hb_1 := hn_2
  refine WL.assign rfl rfl (WL.t (WC.ret (WX.qb (WX.qj (.inl rfl) Tryz.results105 Tryz.isAgg38 Tryz.sizeOf38 hb_1 rfl (by rfl) rfl ?_))))
  first
   |(refine ⟨_, rfl, ?_, kk⟩
     rw [unpR_bad (by omega)]
     rfl)
   |(refine ⟨_, rfl, ?_, kk⟩
     rw [unpR_four hL, if_neg (by omega)]
     rfl)
   |(have hr : ¬ rightP (ptr4 i0 i1 i2 i3) := fun hr => h74 (by rw [ptrE, if_pos hr])
     refine ⟨_, rfl, ?_, kk⟩
     rw [unpR_four hL, if_neg (fun x => hr x.2.2)]
     rw [ptrE, if_neg hr]
     rfl)
   |(have hr : rightP (ptr4 i0 i1 i2 i3) := by
      by_cases hr : rightP (ptr4 i0 i1 i2 i3)
      ·exact hr
      ·rw [ptrE, if_neg hr] at h74; cases h74
     refine ⟨_, rfl, ?_, kk⟩
     rw [unpR_four hL, if_pos ⟨by omega, ⟨by omega, by omega, by omega, by omega⟩, hr⟩]
     rfl)
 ·refine WL.move rfl rfl (WL.qa rfl rfl rfl (WL.move rfl rfl (WL.qa rfl rfl rfl (WL.len Tryz.underlying117 rfl rfl (WL.qa rfl rfl rfl (WL.qk rfl rfl rfl (fun h20 => ?_) (fun h20 => ?_)))))))
  ·refine WL.qb rfl rfl rfl (WL.move rfl rfl (WL.pass rfl rfl rfl rfl (WL.pass rfl rfl rfl rfl (WL.pass rfl rfl rfl rfl (WL.pass rfl rfl rfl rfl (WL.pass rfl rfl rfl rfl (WL.qc rfl rfl rfl (WL.move rfl rfl (WL.pass rfl rfl rfl rfl (WL.pass rfl rfl rfl rfl (WL.pass rfl rfl rfl rfl (WL.pass rfl rfl rfl rfl (WL.pass rfl rfl rfl rfl (WL.qc rfl rfl rfl (WL.move rfl rfl (WL.pass rfl rfl rfl rfl (WL.pass rfl rfl rfl rfl (WL.pass rfl rfl rfl rfl (WL.pass rfl rfl rfl rfl (WL.pass rfl rfl rfl rfl (WL.qc rfl rfl rfl (WL.move rfl rfl (WL.pass rfl rfl rfl rfl (WL.pass rfl rfl rfl rfl (WL.pass rfl rfl rfl rfl (WL.pass rfl rfl rfl rfl (WL.pass rfl rfl rfl rfl (WL.qc rfl rfl rfl (WL.t (WC.qb rfl (WC.sr (WL.bld rfl (bld_38_z) rfl (?_)))))))))))))))))))))))))))))))))
   refine WL.qf Tryz.sizeOf38 hb_1 rfl rfl (by simp; done) (by simp [Value.oneCell']; done) (by simp [Value.cells]; done) rfl ?_
   intro w_2 hs_2 hn_2 k_2
   replace kk := kk.chg k_2 (by intro x h1 h2; have h3 : _ = _ := h2; exfalso; omega)
   replace hb_1 := hn_2
   refine WL.assign rfl rfl (WL.t (WC.ret (WX.qb (WX.qj (.inl rfl) Tryz.results105 Tryz.isAgg38 Tryz.sizeOf38 hb_1 rfl (by rfl) rfl ?_))))
   first
    |(refine ⟨_, rfl, ?_, kk⟩
      rw [unpR_bad (by omega)]
      rfl)
    |(refine ⟨_, rfl, ?_, kk⟩
      rw [unpR_four hL, if_neg (by omega)]
      rfl)
    |(have hr : ¬ rightP (ptr4 i0 i1 i2 i3) := fun hr => h74 (by rw [ptrE, if_pos hr])
      refine ⟨_, rfl, ?_, kk⟩
      rw [unpR_four hL, if_neg (fun x => hr x.2.2)]
      rw [ptrE, if_neg hr]
      rfl)
    |(have hr : rightP (ptr4 i0 i1 i2 i3) := by
       by_cases hr : rightP (ptr4 i0 i1 i2 i3)
       ·exact hr
       ·rw [ptrE, if_neg hr] at h74; cases h74
      refine ⟨_, rfl, ?_, kk⟩
      rw [unpR_four hL, if_pos ⟨by omega, ⟨by omega, by omega, by omega, by omega⟩, hr⟩]
      rfl)
  ·refine WL.qb rfl rfl rfl (WL.move rfl rfl (WL.qa rfl rfl rfl (WL.move rfl rfl (WL.qa rfl rfl rfl (?_)))))
   obtain ⟨i0, i1, i2, i3, hL⟩ := four (l := decL s.data.toList) (by omega)
   have hx0 : (decL s.data.toList)[0]? = some i0 := by rw [hL]; rfl
   have hx1 : (decL s.data.toList)[1]? = some i1 := by rw [hL]; rfl
   have hx2 : (decL s.data.toList)[2]? = some i2 := by rw [hL]; rfl
   have hx3 : (decL s.data.toList)[3]? = some i3 := by rw [hL]; rfl
   obtain ⟨bp, op, rfl⟩ := hk.rsl.place hx0
   refine WL.qg Tryz.underlying117 Tryz.sizeOf116 hk.rsl rfl rfl ⟨hx0, rfl⟩ rfl ?_
   intro b_2 o_2 hc_2
   refine WL.qa rfl rfl rfl (WL.fieldAddr (fld_116_0) rfl rfl (WL.qa rfl rfl rfl (WL.load Tryz.isAgg3 rfl (hc_2 _ _ rfl) rfl (WL.qa rfl rfl rfl (WL.qk rfl rfl rfl (fun h27 => ?_) (fun h27 => ?_))))))
   ·refine WL.qb rfl rfl rfl (WL.move rfl rfl (WL.pass rfl rfl rfl rfl (WL.pass rfl rfl rfl rfl (WL.pass rfl rfl rfl rfl (WL.pass rfl rfl rfl rfl (WL.pass rfl rfl rfl rfl (WL.qc rfl rfl rfl (WL.move rfl rfl (WL.pass rfl rfl rfl rfl (WL.pass rfl rfl rfl rfl (WL.pass rfl rfl rfl rfl (WL.pass rfl rfl rfl rfl (WL.pass rfl rfl rfl rfl (WL.qc rfl rfl rfl (WL.move rfl rfl (WL.pass rfl rfl rfl rfl (WL.pass rfl rfl rfl rfl (WL.pass rfl rfl rfl rfl (WL.pass rfl rfl rfl rfl (WL.pass rfl rfl rfl rfl (WL.qc rfl rfl rfl (WL.t (WC.qb rfl (WC.sr (WL.bld rfl (bld_38_z) rfl (?_))))))))))))))))))))))))))
    refine WL.qf Tryz.sizeOf38 hb_1 rfl rfl (by simp; done) (by simp [Value.oneCell']; done) (by simp [Value.cells]; done) rfl ?_
    intro w_3 hs_3 hn_3 k_3
    replace kk := kk.chg k_3 (by intro x h1 h2; have h3 : _ = _ := h2; exfalso; omega)
    replace hb_1 := hn_3
    refine WL.assign rfl rfl (WL.t (WC.ret (WX.qb (WX.qj (.inl rfl) Tryz.results105 Tryz.isAgg38 Tryz.sizeOf38 hb_1 rfl (by rfl) rfl ?_))))
    first
     |(refine ⟨_, rfl, ?_, kk⟩
       rw [unpR_bad (by omega)]
       rfl)
     |(refine ⟨_, rfl, ?_, kk⟩
       rw [unpR_four hL, if_neg (by omega)]
       rfl)
     |(have hr : ¬ rightP (ptr4 i0 i1 i2 i3) := fun hr => h74 (by rw [ptrE, if_pos hr])
       refine ⟨_, rfl, ?_, kk⟩
       rw [unpR_four hL, if_neg (fun x => hr x.2.2)]
       rw [ptrE, if_neg hr]
       rfl)
     |(have hr : rightP (ptr4 i0 i1 i2 i3) := by
        by_cases hr : rightP (ptr4 i0 i1 i2 i3)
        ·exact hr
        ·rw [ptrE, if_neg hr] at h74; cases h74
       refine ⟨_, rfl, ?_, kk⟩
       rw [unpR_four hL, if_pos ⟨by omega, ⟨by omega, by omega, by omega, by omega⟩, hr⟩]
       rfl)
   ·refine WL.qb rfl rfl rfl (WL.move rfl rfl (WL.qa rfl rfl rfl (WL.move rfl rfl (WL.qa rfl rfl rfl (WL.qg Tryz.underlying117 Tryz.sizeOf116 hk.rsl rfl rfl ⟨hx1, rfl⟩ rfl ?_)))))
    intro b_3 o_3 hc_3
    refine WL.qa rfl rfl rfl (WL.fieldAddr (fld_116_0) rfl rfl (WL.qa rfl rfl rfl (WL.load Tryz.isAgg3 rfl (hc_3 _ _ rfl) rfl (WL.qa rfl rfl rfl (WL.qk rfl rfl rfl (fun h34 => ?_) (fun h34 => ?_))))))
    ·refine WL.qb rfl rfl rfl (WL.move rfl rfl (WL.pass rfl rfl rfl rfl (WL.pass rfl rfl rfl rfl (WL.pass rfl rfl rfl rfl (WL.pass rfl rfl rfl rfl (WL.pass rfl rfl rfl rfl (WL.qc rfl rfl rfl (WL.move rfl rfl (WL.pass rfl rfl rfl rfl (WL.pass rfl rfl rfl rfl (WL.pass rfl rfl rfl rfl (WL.pass rfl rfl rfl rfl (WL.pass rfl rfl rfl rfl (WL.qc rfl rfl rfl (WL.nil (WX.qa (WC.qb rfl (WC.sr (WL.bld rfl (bld_38_z) rfl (?_))))))))))))))))))))
     refine WL.qf Tryz.sizeOf38 hb_1 rfl rfl (by simp; done) (by simp [Value.oneCell']; done) (by simp [Value.cells]; done) rfl ?_
     intro w_4 hs_4 hn_4 k_4
     replace kk := kk.chg k_4 (by intro x h1 h2; have h3 : _ = _ := h2; exfalso; omega)
     replace hb_1 := hn_4
     refine WL.assign rfl rfl (WL.t (WC.ret (WX.qb (WX.qj (.inl rfl) Tryz.results105 Tryz.isAgg38 Tryz.sizeOf38 hb_1 rfl (by rfl) rfl ?_))))
     first
      |(refine ⟨_, rfl, ?_, kk⟩
        rw [unpR_bad (by omega)]
        rfl)
      |(refine ⟨_, rfl, ?_, kk⟩
        rw [unpR_four hL, if_neg (by omega)]
        rfl)
      |(have hr : ¬ rightP (ptr4 i0 i1 i2 i3) := fun hr => h74 (by rw [ptrE, if_pos hr])
        refine ⟨_, rfl, ?_, kk⟩
        rw [unpR_four hL, if_neg (fun x => hr x.2.2)]
        rw [ptrE, if_neg hr]
        rfl)
      |(have hr : rightP (ptr4 i0 i1 i2 i3) := by
         by_cases hr : rightP (ptr4 i0 i1 i2 i3)
         ·exact hr
         ·rw [ptrE, if_neg hr] at h74; cases h74
        refine ⟨_, rfl, ?_, kk⟩
        rw [unpR_four hL, if_pos ⟨by omega, ⟨by omega, by omega, by omega, by omega⟩, hr⟩]
        rfl)
    ·refine WL.qb rfl rfl rfl (WL.move rfl rfl (WL.qa rfl rfl rfl (WL.move rfl rfl (WL.qa rfl rfl rfl (WL.qg Tryz.underlying117 Tryz.sizeOf116 hk.rsl rfl rfl ⟨hx2, rfl⟩ rfl ?_)))))
     intro b_4 o_4 hc_4
     refine WL.qa rfl rfl rfl (WL.fieldAddr (fld_116_0) rfl rfl (WL.qa rfl rfl rfl (WL.load Tryz.isAgg3 rfl (hc_4 _ _ rfl) rfl (WL.qa rfl rfl rfl (WL.qk rfl rfl rfl (fun h41 => ?_) (fun h41 => ?_))))))
     ·refine WL.qb rfl rfl rfl (WL.move rfl rfl (WL.pass rfl rfl rfl rfl (WL.pass rfl rfl rfl rfl (WL.pass rfl rfl rfl rfl (WL.pass rfl rfl rfl rfl (WL.pass rfl rfl rfl rfl (WL.qc rfl rfl rfl (WL.t (WC.qb rfl (WC.sr (WL.bld rfl (bld_38_z) rfl (?_))))))))))))
      refine WL.qf Tryz.sizeOf38 hb_1 rfl rfl (by simp; done) (by simp [Value.oneCell']; done) (by simp [Value.cells]; done) rfl ?_
      intro w_5 hs_5 hn_5 k_5
      replace kk := kk.chg k_5 (by intro x h1 h2; have h3 : _ = _ := h2; exfalso; omega)
      replace hb_1 := hn_5
      refine WL.assign rfl rfl (WL.t (WC.ret (WX.qb (WX.qj (.inl rfl) Tryz.results105 Tryz.isAgg38 Tryz.sizeOf38 hb_1 rfl (by rfl) rfl ?_))))
      first
       |(refine ⟨_, rfl, ?_, kk⟩
         rw [unpR_bad (by omega)]
         rfl)
       |(refine ⟨_, rfl, ?_, kk⟩
         rw [unpR_four hL, if_neg (by omega)]
         rfl)
       |(have hr : ¬ rightP (ptr4 i0 i1 i2 i3) := fun hr => h74 (by rw [ptrE, if_pos hr])
         refine ⟨_, rfl, ?_, kk⟩
         rw [unpR_four hL, if_neg (fun x => hr x.2.2)]
         rw [ptrE, if_neg hr]
         rfl)
       |(have hr : rightP (ptr4 i0 i1 i2 i3) := by
          by_cases hr : rightP (ptr4 i0 i1 i2 i3)
          ·exact hr
          ·rw [ptrE, if_neg hr] at h74; cases h74
         refine ⟨_, rfl, ?_, kk⟩
         rw [unpR_four hL, if_pos ⟨by omega, ⟨by omega, by omega, by omega, by omega⟩, hr⟩]
         rfl)
     ·refine WL.qb rfl rfl rfl (WL.move rfl rfl (WL.qa rfl rfl rfl (WL.move rfl rfl (WL.qa rfl rfl rfl (WL.qg Tryz.underlying117 Tryz.sizeOf116 hk.rsl rfl rfl ⟨hx3, rfl⟩ rfl ?_)))))
      intro b_5 o_5 hc_5
      refine WL.qa rfl rfl rfl (WL.fieldAddr (fld_116_0) rfl rfl (WL.qa rfl rfl rfl (WL.load Tryz.isAgg3 rfl (hc_5 _ _ rfl) rfl (WL.qa rfl rfl rfl (WL.qk rfl rfl rfl (fun h48 => ?_) (fun h48 => ?_))))))
      ·refine WL.qb rfl rfl rfl (WL.t (WC.qb rfl (WC.sr (WL.bld rfl (bld_38_z) rfl (?_)))))
       refine WL.qf Tryz.sizeOf38 hb_1 rfl rfl (by simp; done) (by simp [Value.oneCell']; done) (by simp [Value.cells]; done) rfl ?_
       intro w_6 hs_6 hn_6 k_6
       replace kk := kk.chg k_6 (by intro x h1 h2; have h3 : _ = _ := h2; exfalso; omega)
       replace hb_1 := hn_6
       refine WL.assign rfl rfl (WL.t (WC.ret (WX.qb (WX.qj (.inl rfl) Tryz.results105 Tryz.isAgg38 Tryz.sizeOf38 hb_1 rfl (by rfl) rfl ?_))))
       first
        |(refine ⟨_, rfl, ?_, kk⟩
          rw [unpR_bad (by omega)]
          rfl)
        |(refine ⟨_, rfl, ?_, kk⟩
          rw [unpR_four hL, if_neg (by omega)]
          rfl)
        |(have hr : ¬ rightP (ptr4 i0 i1 i2 i3) := fun hr => h74 (by rw [ptrE, if_pos hr])
          refine ⟨_, rfl, ?_, kk⟩
          rw [unpR_four hL, if_neg (fun x => hr x.2.2)]
          rw [ptrE, if_neg hr]
          rfl)
        |(have hr : rightP (ptr4 i0 i1 i2 i3) := by
           by_cases hr : rightP (ptr4 i0 i1 i2 i3)
           ·exact hr
           ·rw [ptrE, if_neg hr] at h74; cases h74
          refine ⟨_, rfl, ?_, kk⟩
          rw [unpR_four hL, if_pos ⟨by omega, ⟨by omega, by omega, by omega, by omega⟩, hr⟩]
          rfl)
      ·refine WL.qb rfl rfl rfl (WL.t (WC.qa rfl (WC.skip (WX.qa (WC.seq (WC.qc (Nob) [0, 1, 2, 3, 4, 5, 6, 7, 8, 9, 10, 11, 12, 13, 14, 15, 16] [17, 18] mixed rfl rfl (fun wd_6 kd_6 zd_6 => ?_)))))))
       replace kk := kk.pure kd_6
       replace hb_1 := hb_1.pure kd_6
       replace hk := hk.pure kd_6
       apply DQ.step [(4, _)] rfl ⟨rfl, trivial⟩ rfl (fun _ _ => WL.move rfl rfl  WL.q)
       apply DQ.step [(51, _)] rfl ⟨rfl, trivial⟩ rfl
       ·intro wq_9 kq_9
        replace hk := hk.pure kq_9
        refine WL.qh hk.rsl Tryz.underlying117 Tryz.sizeOf116 rfl rfl ⟨hx0, rfl⟩ rfl (WL.q)
       apply DQ.step [(52, _)] rfl ⟨rfl, trivial⟩ rfl (fun _ _ => WL.fieldAddr (fld_116_1) rfl rfl  WL.q)
       apply DQ.step [(53, _)] rfl ⟨rfl, trivial⟩ rfl
       ·intro wq_11 kq_11
        replace hk := hk.pure kq_11
        refine WL.load Tryz.isAgg3 rfl ((hk.rsl.cellsAt hx0) _ _ rfl) rfl (WL.q)
       apply DQ.step [(4, _)] rfl ⟨rfl, trivial⟩ rfl (fun _ _ => WL.move rfl rfl  WL.q)
       apply DQ.step [(55, _)] rfl ⟨rfl, trivial⟩ rfl
       ·intro wq_13 kq_13
        replace hk := hk.pure kq_13
        refine WL.qh hk.rsl Tryz.underlying117 Tryz.sizeOf116 rfl rfl ⟨hx1, rfl⟩ rfl (WL.q)
       apply DQ.step [(56, _)] rfl ⟨rfl, trivial⟩ rfl (fun _ _ => WL.fieldAddr (fld_116_1) rfl rfl  WL.q)
       apply DQ.step [(57, _)] rfl ⟨rfl, trivial⟩ rfl
       ·intro wq_15 kq_15
        replace hk := hk.pure kq_15
        refine WL.load Tryz.isAgg3 rfl ((hk.rsl.cellsAt hx1) _ _ rfl) rfl (WL.q)
       apply DQ.step [(4, _)] rfl ⟨rfl, trivial⟩ rfl (fun _ _ => WL.move rfl rfl  WL.q)
       apply DQ.step [(59, _)] rfl ⟨rfl, trivial⟩ rfl
       ·intro wq_17 kq_17
        replace hk := hk.pure kq_17
        refine WL.qh hk.rsl Tryz.underlying117 Tryz.sizeOf116 rfl rfl ⟨hx2, rfl⟩ rfl (WL.q)
       apply DQ.step [(60, _)] rfl ⟨rfl, trivial⟩ rfl (fun _ _ => WL.fieldAddr (fld_116_1) rfl rfl  WL.q)
       apply DQ.step [(61, _)] rfl ⟨rfl, trivial⟩ rfl
       ·intro wq_19 kq_19
        replace hk := hk.pure kq_19
        refine WL.load Tryz.isAgg3 rfl ((hk.rsl.cellsAt hx2) _ _ rfl) rfl (WL.q)
       apply DQ.step [(4, _)] rfl ⟨rfl, trivial⟩ rfl (fun _ _ => WL.move rfl rfl  WL.q)
       apply DQ.step [(63, _)] rfl ⟨rfl, trivial⟩ rfl
       ·intro wq_21 kq_21
        replace hk := hk.pure kq_21
        refine WL.qh hk.rsl Tryz.underlying117 Tryz.sizeOf116 rfl rfl ⟨hx3, rfl⟩ rfl (WL.q)
       apply DQ.step [(64, _)] rfl ⟨rfl, trivial⟩ rfl (fun _ _ => WL.fieldAddr (fld_116_2) rfl rfl  WL.q)
       apply DQ.step [(65, _)] rfl ⟨rfl, trivial⟩ rfl
       ·intro wq_23 kq_23
        replace hk := hk.pure kq_23
        refine WL.load Tryz.isAgg9 rfl ((hk.rsl.cellsAt hx3) _ _ rfl) rfl (WL.q)
       apply DQ.step [(54, _), (58, _), (62, _), (66, _)] rfl ⟨rfl, rfl, rfl, rfl, trivial⟩ rfl (fun _ _ => WL.bld rfl (bld_38_0_1_2_3 _ _ _ _) rfl  WL.q)
       refine DQ.done (fun hd_7 => ?_)
       refine DL.step [] rfl trivial rfl (fun wq_25 kq_25 => ?_)
       have zs_kq_25 := kq_25.size
       replace kk := kk.pure kq_25
       replace hb_1 := hb_1.pure kq_25
       replace hk := hk.pure kq_25
       replace hd_7 := hd_7.pure kq_25
       refine WL.alloc Tryz.zeroValue38 rfl ?_
       intro g_26 w_26 hge_26 hlt_26 hb_26 k_26
       replace kk := kk.pure k_26
       replace hb_1 := hb_1.pure k_26
       replace hk := hk.pure k_26
       replace hd_7 := hd_7.pure k_26
       refine WL.nil (WX.one ⟨hd_7, ?_⟩)
       refine DL.step [(6, _), (67, _)] rfl ⟨rfl, rfl, trivial⟩ rfl (fun wq_27 kq_27 => ?_)
       replace kk := kk.pure kq_27
       replace hb_1 := hb_1.pure kq_27
       replace hk := hk.pure kq_27
       replace hd_7 := hd_7.pure kq_27
       replace hb_26 := hb_26.pure kq_27
       refine WL.qf Tryz.sizeOf38 hb_26 rfl rfl (by simp; done) (by simp [Value.oneCell']; done) (by simp [Value.cells]; done) rfl ?_
       intro w_28 hs_28 hn_28 k_28
       replace kk := kk.chg k_28 (by intro x h1 h2; have h3 : _ = _ := h2; exfalso; omega)
       replace hb_1 := hb_1.chg k_28 (by intro h1; have h2 : _ = _ := h1; exfalso; omega)
       replace hk := hk.chg k_28 (by intro b h1 h2 h3; have h4 : _ = _ := h3; (try dsimp only at h2); exfalso; omega)
       replace hd_7 := hd_7.chg k_28 (by intro x h1 h2; have h3 : _ = _ := h2; exfalso; omega)
       replace hb_26 := hn_28
       refine WL.nil (WX.qk (v := undef) ⟨hd_7, ?_⟩)
       refine DL.done (fun we_29 ke_29 => ?_)
       replace kk := kk.pure ke_29
       replace hb_1 := hb_1.pure ke_29
       replace hk := hk.pure ke_29
       replace hb_26 := hb_26.pure ke_29
       refine WX.qa (WC.seq (WC.sr (WL.qq Tryz.isAgg38 Tryz.sizeOf38 hb_26 rfl (by rfl) rfl (?_))))
       have hwf := four_wf (b := s.data.toList) (by omega) hL
       refine WL.call eg_77 rfl rfl (ptr_calls (ptr4 i0 i1 i2 i3) _ hwf) ?_
       rintro v w5 ⟨rfl, k5⟩
       replace kk := kk.pure k5
       replace hb_1 := hb_1.pure k5
       replace hk := hk.pure k5
       replace hb_26 := hb_26.pure k5
       refine WL.move rfl rfl (WL.extract rfl rfl rfl (WL.extract rfl rfl rfl (WL.assign rfl rfl (WL.assign rfl rfl (WL.t (WC.seq (WC.region (WL.move rfl rfl (WL.qk rfl rfl rfl (fun h74 => ?_) (fun h74 => ?_))))))))))
       ·refine WL.t (WC.qb rfl (WC.sr (WL.bld rfl (bld_38_z) rfl (WL.move rfl rfl (?_)))))
        refine WL.qf Tryz.sizeOf38 hb_1 rfl rfl (by simp; done) (by simp [Value.oneCell']; done) (by simp [Value.cells]; done) rfl ?_
        intro w_30 hs_30 hn_30 k_30
        replace kk := kk.chg k_30 (by intro x h1 h2; have h3 : _ = _ := h2; exfalso; omega)
        replace hb_1 := hn_30
        refine WL.assign rfl rfl (WL.t (WC.ret (WX.qb (WX.qj (.inl rfl) Tryz.results105 Tryz.isAgg38 Tryz.sizeOf38 hb_1 rfl (by rfl) rfl ?_))))
        first
         |(refine ⟨_, rfl, ?_, kk⟩
           rw [unpR_bad (by omega)]
           rfl)
         |(refine ⟨_, rfl, ?_, kk⟩
           rw [unpR_four hL, if_neg (by omega)]
           rfl)
         |(have hr : ¬ rightP (ptr4 i0 i1 i2 i3) := fun hr => h74 (by rw [ptrE, if_pos hr])
           refine ⟨_, rfl, ?_, kk⟩
           rw [unpR_four hL, if_neg (fun x => hr x.2.2)]
           rw [ptrE, if_neg hr]
           rfl)
         |(have hr : rightP (ptr4 i0 i1 i2 i3) := by
            by_cases hr : rightP (ptr4 i0 i1 i2 i3)
            ·exact hr
            ·rw [ptrE, if_neg hr] at h74; cases h74
           refine ⟨_, rfl, ?_, kk⟩
           rw [unpR_four hL, if_pos ⟨by omega, ⟨by omega, by omega, by omega, by omega⟩, hr⟩]
           rfl)
       ·refine WL.t (WC.qa rfl (WC.skip (WX.qa (WC.sr (WL.qq Tryz.isAgg38 Tryz.sizeOf38 hb_26 rfl (by rfl) rfl (?_))))))
        refine WL.qf Tryz.sizeOf38 hb_1 rfl rfl (by rfl) (by simp [Value.oneCell', Value.cells]; done) (by simp [Value.cells]; done) rfl ?_
        intro w_30 hs_30 hn_30 k_30
        have zs_k_30 := k_30.size
        replace kk := kk.chg k_30 (by intro x h1 h2; have h3 : _ = _ := h2; exfalso; omega)
        replace hk := hk.chg k_30 (by intro b h1 h2 h3; have h4 : _ = _ := h3; (try dsimp only at h2); exfalso; omega)
        replace hb_26 := hb_26.chg k_30 (by intro h1; have h2 : _ = _ := h1; exfalso; omega)
        replace hb_1 := hn_30
        refine WL.assign rfl rfl (WL.t (WC.ret (WX.qj (.inl rfl) Tryz.results105 Tryz.isAgg38 Tryz.sizeOf38 hb_1 rfl (by rfl) rfl ?_)))
        first
         |(refine ⟨_, rfl, ?_, kk⟩
           rw [unpR_bad (by omega)]
           rfl)
         |(refine ⟨_, rfl, ?_, kk⟩
           rw [unpR_four hL, if_neg (by omega)]
           rfl)
         |(have hr : ¬ rightP (ptr4 i0 i1 i2 i3) := fun hr => h74 (by rw [ptrE, if_pos hr])
           refine ⟨_, rfl, ?_, kk⟩
           rw [unpR_four hL, if_neg (fun x => hr x.2.2)]
           rw [ptrE, if_neg hr]
           rfl)
         |(have hr : rightP (ptr4 i0 i1 i2 i3) := by
            by_cases hr : rightP (ptr4 i0 i1 i2 i3)
            ·exact hr
            ·rw [ptrE, if_neg hr] at h74; cases h74
           refine ⟨_, rfl, ?_, kk⟩
           rw [unpR_four hL, if_pos ⟨by omega, ⟨by omega, by omega, by omega, by omega⟩, hr⟩]
           rfl)
theorem docUnptr_calls (s : ByteArray) (w : World) (hs : s.size ≤ 140737488351232) : Calls Tryz.prog 107 [.string s].toArray w (Ret fun v w' => v = .tuple #[.agg (ept.f (unpR s).1).toArray, vi (unpR s).2] ∧ Chg Nob w w') := by
 have kk := Chg.refl Nob w
 refine Calls.of_WC Tryz.func107 rfl Tryz.ntmps107 (by simp) ?_
 refine WC.sr (WL.alloc Tryz.zeroValue38 rfl ?_)
 intro g_1 w_1 hge_1 hlt_1 hb_1 k_1
 replace kk := kk.pure k_1
 refine WL.assign rfl rfl (WL.t (WC.sr (WL.move rfl rfl (WL.call eg_120 rfl rfl (rdecode_calls hs) ?_))))
 rintro v w4 ⟨⟨ak, ck, rfl, hk⟩, k4⟩
 have zs_k4 := k4.size
 replace kk := kk.pure k4
 replace hb_1 := hb_1.pure k4
 replace hk := hk.lt
 refine WL.move rfl rfl (WL.extract rfl rfl rfl (WL.extract rfl rfl rfl (WL.assign rfl rfl (WL.assign rfl rfl (WL.t (WC.seq (WC.sr (WL.move rfl rfl (WL.qk rfl rfl rfl (fun h14 => ?_) (fun h14 => ?_))))))))))
 ·refine WL.move rfl rfl (WL.pass rfl rfl rfl rfl (WL.pass rfl rfl rfl rfl (WL.pass rfl rfl rfl rfl (WL.qc rfl rfl rfl (WL.t (WC.qb rfl (WC.sr (WL.bld rfl (bld_38_z) rfl (?_)))))))))
  refine WL.qf Tryz.sizeOf38 hb_1 rfl rfl (by simp; done) (by simp [Value.oneCell']; done) (by simp [Value.cells]; done) rfl ?_
  intro w_2 hs_2 hn_2 k_2
  replace kk := kk.chg k_2 (by intro x h1 h2; have h3 : _ = _ := h2; exfalso; omega)
  replace hb_1 := hn_2
  refine WL.assign rfl rfl (WL.t (WC.ret (WX.qb (WX.qj (.inl rfl) Tryz.results107 Tryz.isAgg38 Tryz.sizeOf38 hb_1 rfl (by rfl) rfl ?_))))
  first
   |(refine ⟨_, rfl, ?_, kk⟩
     rw [unpR_bad (by omega)]
     rfl)
   |(have hr : ¬ rightP (ptr4 i0 i1 i2 i3) := fun hr => h44 (by rw [ptrE, if_pos hr])
     refine ⟨_, rfl, ?_, kk⟩
     rw [unpR_four hL, if_neg (fun x => hr x.2.2)]
     rfl)
   |(have hr : rightP (ptr4 i0 i1 i2 i3) := by
      by_cases hr : rightP (ptr4 i0 i1 i2 i3)
      ·exact hr
      ·rw [ptrE, if_neg hr] at h44; cases h44
     have h0 : decE s.data.toList = 0 := by omega
     have ht := unp_text h0 hL hr
     refine ⟨_, rfl, ?_, kk⟩
     first
      |(rw [unpR_four hL, if_neg (fun x => h48 (ht.2 x.2.1))]
        rfl)
      |(rw [unpR_four hL, if_pos ⟨h0, ht.1 h48, hr⟩]
        rfl))
 ·refine WL.move rfl rfl (WL.qa rfl rfl rfl (WL.move rfl rfl (WL.qa rfl rfl rfl (WL.len Tryz.underlying117 rfl rfl (WL.qa rfl rfl rfl (WL.qk rfl rfl rfl (fun h18 => ?_) (fun h18 => ?_)))))))
  ·refine WL.qb rfl rfl rfl (WL.t (WC.qb rfl (WC.sr (WL.bld rfl (bld_38_z) rfl (?_)))))
   refine WL.qf Tryz.sizeOf38 hb_1 rfl rfl (by simp; done) (by simp [Value.oneCell']; done) (by simp [Value.cells]; done) rfl ?_
   intro w_2 hs_2 hn_2 k_2
   replace kk := kk.chg k_2 (by intro x h1 h2; have h3 : _ = _ := h2; exfalso; omega)
   replace hb_1 := hn_2
   refine WL.assign rfl rfl (WL.t (WC.ret (WX.qb (WX.qj (.inl rfl) Tryz.results107 Tryz.isAgg38 Tryz.sizeOf38 hb_1 rfl (by rfl) rfl ?_))))
   first
    |(refine ⟨_, rfl, ?_, kk⟩
      rw [unpR_bad (by omega)]
      rfl)
    |(have hr : ¬ rightP (ptr4 i0 i1 i2 i3) := fun hr => h44 (by rw [ptrE, if_pos hr])
      refine ⟨_, rfl, ?_, kk⟩
      rw [unpR_four hL, if_neg (fun x => hr x.2.2)]
      rfl)
    |(have hr : rightP (ptr4 i0 i1 i2 i3) := by
       by_cases hr : rightP (ptr4 i0 i1 i2 i3)
       ·exact hr
       ·rw [ptrE, if_neg hr] at h44; cases h44
      have h0 : decE s.data.toList = 0 := by omega
      have ht := unp_text h0 hL hr
      refine ⟨_, rfl, ?_, kk⟩
      first
       |(rw [unpR_four hL, if_neg (fun x => h48 (ht.2 x.2.1))]
         rfl)
       |(rw [unpR_four hL, if_pos ⟨h0, ht.1 h48, hr⟩]
         rfl))
  ·refine WL.qb rfl rfl rfl (WL.t (WC.qa rfl (WC.skip (WX.qa (WC.seq (?_))))))
   obtain ⟨i0, i1, i2, i3, hL⟩ := four (l := decL s.data.toList) (by omega)
   have hx0 : (decL s.data.toList)[0]? = some i0 := by rw [hL]; rfl
   have hx1 : (decL s.data.toList)[1]? = some i1 := by rw [hL]; rfl
   have hx2 : (decL s.data.toList)[2]? = some i2 := by rw [hL]; rfl
   have hx3 : (decL s.data.toList)[3]? = some i3 := by rw [hL]; rfl
   obtain ⟨bp, op, rfl⟩ := hk.rsl.place hx0
   refine WC.qc (Nob) [0, 1, 2, 3, 4, 5, 6, 7, 8, 9, 10, 11, 12, 13, 14, 15, 16] [17, 18] mixed rfl rfl (fun wd_2 kd_2 zd_2 => ?_)
   replace kk := kk.pure kd_2
   replace hb_1 := hb_1.pure kd_2
   replace hk := hk.pure kd_2
   apply DQ.step [(4, _)] rfl ⟨rfl, trivial⟩ rfl (fun _ _ => WL.move rfl rfl  WL.q)
   apply DQ.step [(21, _)] rfl ⟨rfl, trivial⟩ rfl
   ·intro wq_5 kq_5
    replace hk := hk.pure kq_5
    refine WL.qh hk.rsl Tryz.underlying117 Tryz.sizeOf116 rfl rfl ⟨hx0, rfl⟩ rfl (WL.q)
   apply DQ.step [(22, _)] rfl ⟨rfl, trivial⟩ rfl (fun _ _ => WL.fieldAddr (fld_116_1) rfl rfl  WL.q)
   apply DQ.step [(23, _)] rfl ⟨rfl, trivial⟩ rfl
   ·intro wq_7 kq_7
    replace hk := hk.pure kq_7
    refine WL.load Tryz.isAgg3 rfl ((hk.rsl.cellsAt hx0) _ _ rfl) rfl (WL.q)
   apply DQ.step [(4, _)] rfl ⟨rfl, trivial⟩ rfl (fun _ _ => WL.move rfl rfl  WL.q)
   apply DQ.step [(25, _)] rfl ⟨rfl, trivial⟩ rfl
   ·intro wq_9 kq_9
    replace hk := hk.pure kq_9
    refine WL.qh hk.rsl Tryz.underlying117 Tryz.sizeOf116 rfl rfl ⟨hx1, rfl⟩ rfl (WL.q)
   apply DQ.step [(26, _)] rfl ⟨rfl, trivial⟩ rfl (fun _ _ => WL.fieldAddr (fld_116_1) rfl rfl  WL.q)
   apply DQ.step [(27, _)] rfl ⟨rfl, trivial⟩ rfl
   ·intro wq_11 kq_11
    replace hk := hk.pure kq_11
    refine WL.load Tryz.isAgg3 rfl ((hk.rsl.cellsAt hx1) _ _ rfl) rfl (WL.q)
   apply DQ.step [(4, _)] rfl ⟨rfl, trivial⟩ rfl (fun _ _ => WL.move rfl rfl  WL.q)
   apply DQ.step [(29, _)] rfl ⟨rfl, trivial⟩ rfl
   ·intro wq_13 kq_13
    replace hk := hk.pure kq_13
    refine WL.qh hk.rsl Tryz.underlying117 Tryz.sizeOf116 rfl rfl ⟨hx2, rfl⟩ rfl (WL.q)
   apply DQ.step [(30, _)] rfl ⟨rfl, trivial⟩ rfl (fun _ _ => WL.fieldAddr (fld_116_1) rfl rfl  WL.q)
   apply DQ.step [(31, _)] rfl ⟨rfl, trivial⟩ rfl
   ·intro wq_15 kq_15
    replace hk := hk.pure kq_15
    refine WL.load Tryz.isAgg3 rfl ((hk.rsl.cellsAt hx2) _ _ rfl) rfl (WL.q)
   apply DQ.step [(4, _)] rfl ⟨rfl, trivial⟩ rfl (fun _ _ => WL.move rfl rfl  WL.q)
   apply DQ.step [(33, _)] rfl ⟨rfl, trivial⟩ rfl
   ·intro wq_17 kq_17
    replace hk := hk.pure kq_17
    refine WL.qh hk.rsl Tryz.underlying117 Tryz.sizeOf116 rfl rfl ⟨hx3, rfl⟩ rfl (WL.q)
   apply DQ.step [(34, _)] rfl ⟨rfl, trivial⟩ rfl (fun _ _ => WL.fieldAddr (fld_116_2) rfl rfl  WL.q)
   apply DQ.step [(35, _)] rfl ⟨rfl, trivial⟩ rfl
   ·intro wq_19 kq_19
    replace hk := hk.pure kq_19
    refine WL.load Tryz.isAgg9 rfl ((hk.rsl.cellsAt hx3) _ _ rfl) rfl (WL.q)
   apply DQ.step [(24, _), (28, _), (32, _), (36, _)] rfl ⟨rfl, rfl, rfl, rfl, trivial⟩ rfl (fun _ _ => WL.bld rfl (bld_38_0_1_2_3 _ _ _ _) rfl  WL.q)
   refine DQ.done (fun hd_3 => ?_)
   refine DL.step [] rfl trivial rfl (fun wq_21 kq_21 => ?_)
   have zs_kq_21 := kq_21.size
   replace kk := kk.pure kq_21
   replace hb_1 := hb_1.pure kq_21
   replace hk := hk.pure kq_21
   replace hd_3 := hd_3.pure kq_21
   refine WL.alloc Tryz.zeroValue38 rfl ?_
   intro g_22 w_22 hge_22 hlt_22 hb_22 k_22
   replace kk := kk.pure k_22
   replace hb_1 := hb_1.pure k_22
   replace hk := hk.pure k_22
   replace hd_3 := hd_3.pure k_22
   refine WL.nil (WX.one ⟨hd_3, ?_⟩)
   refine DL.step [(6, _), (37, _)] rfl ⟨rfl, rfl, trivial⟩ rfl (fun wq_23 kq_23 => ?_)
   replace kk := kk.pure kq_23
   replace hb_1 := hb_1.pure kq_23
   replace hk := hk.pure kq_23
   replace hd_3 := hd_3.pure kq_23
   replace hb_22 := hb_22.pure kq_23
   refine WL.qf Tryz.sizeOf38 hb_22 rfl rfl (by simp; done) (by simp [Value.oneCell']; done) (by simp [Value.cells]; done) rfl ?_
   intro w_24 hs_24 hn_24 k_24
   replace kk := kk.chg k_24 (by intro x h1 h2; have h3 : _ = _ := h2; exfalso; omega)
   replace hb_1 := hb_1.chg k_24 (by intro h1; have h2 : _ = _ := h1; exfalso; omega)
   replace hk := hk.chg k_24 (by intro b h1 h2 h3; have h4 : _ = _ := h3; (try dsimp only at h2); exfalso; omega)
   replace hd_3 := hd_3.chg k_24 (by intro x h1 h2; have h3 : _ = _ := h2; exfalso; omega)
   replace hb_22 := hn_24
   refine WL.nil (WX.qk (v := undef) ⟨hd_3, ?_⟩)
   refine DL.done (fun we_25 ke_25 => ?_)
   replace kk := kk.pure ke_25
   replace hb_1 := hb_1.pure ke_25
   replace hk := hk.pure ke_25
   replace hb_22 := hb_22.pure ke_25
   refine WX.qa (WC.sr (WL.qq Tryz.isAgg38 Tryz.sizeOf38 hb_22 rfl (by rfl) rfl (?_)))
   have hwf := four_wf (b := s.data.toList) (by omega) hL
   refine WL.call eg_65 rfl rfl (docPtr_calls (ptr4 i0 i1 i2 i3) _ hwf) ?_
   rintro v w5 ⟨rfl, k5⟩
   replace kk := kk.pure k5
   replace hb_1 := hb_1.pure k5
   replace hk := hk.pure k5
   replace hb_22 := hb_22.pure k5
   refine WL.move rfl rfl (WL.extract rfl rfl rfl (WL.extract rfl rfl rfl (WL.assign rfl rfl (WL.assign rfl rfl (WL.t (WC.seq (WC.sr (WL.move rfl rfl (WL.qk rfl rfl rfl (fun h44 => ?_) (fun h44 => ?_))))))))))
   ·refine WL.move rfl rfl (WL.pass rfl rfl rfl rfl (WL.pass rfl rfl rfl rfl (WL.pass rfl rfl rfl rfl (WL.qc rfl rfl rfl (WL.t (WC.qb rfl (WC.sr (WL.bld rfl (bld_38_z) rfl (?_)))))))))
    refine WL.qf Tryz.sizeOf38 hb_1 rfl rfl (by simp; done) (by simp [Value.oneCell']; done) (by simp [Value.cells]; done) rfl ?_
    intro w_26 hs_26 hn_26 k_26
    replace kk := kk.chg k_26 (by intro x h1 h2; have h3 : _ = _ := h2; exfalso; omega)
    replace hb_1 := hn_26
    refine WL.assign rfl rfl (WL.t (WC.ret (WX.qb (WX.qj (.inl rfl) Tryz.results107 Tryz.isAgg38 Tryz.sizeOf38 hb_1 rfl (by rfl) rfl ?_))))
    first
     |(refine ⟨_, rfl, ?_, kk⟩
       rw [unpR_bad (by omega)]
       rfl)
     |(have hr : ¬ rightP (ptr4 i0 i1 i2 i3) := fun hr => h44 (by rw [ptrE, if_pos hr])
       refine ⟨_, rfl, ?_, kk⟩
       rw [unpR_four hL, if_neg (fun x => hr x.2.2)]
       rfl)
     |(have hr : rightP (ptr4 i0 i1 i2 i3) := by
        by_cases hr : rightP (ptr4 i0 i1 i2 i3)
        ·exact hr
        ·rw [ptrE, if_neg hr] at h44; cases h44
       have h0 : decE s.data.toList = 0 := by omega
       have ht := unp_text h0 hL hr
       refine ⟨_, rfl, ?_, kk⟩
       first
        |(rw [unpR_four hL, if_neg (fun x => h48 (ht.2 x.2.1))]
          rfl)
        |(rw [unpR_four hL, if_pos ⟨h0, ht.1 h48, hr⟩]
          rfl))
   ·refine WL.move rfl rfl (WL.qa rfl rfl rfl (WL.move rfl rfl (WL.qa rfl rfl rfl (WL.move rfl rfl (WL.qa rfl rfl rfl (WL.sneq? rfl rfl rfl (fun h48 => ?_) (fun h48 => ?_)))))))
    ·refine WL.qb rfl rfl rfl (WL.t (WC.qb rfl (WC.sr (WL.bld rfl (bld_38_z) rfl (?_)))))
     refine WL.qf Tryz.sizeOf38 hb_1 rfl rfl (by simp; done) (by simp [Value.oneCell']; done) (by simp [Value.cells]; done) rfl ?_
     intro w_26 hs_26 hn_26 k_26
     have zs_k_26 := k_26.size
     replace kk := kk.chg k_26 (by intro x h1 h2; have h3 : _ = _ := h2; exfalso; omega)
     replace hk := hk.chg k_26 (by intro b h1 h2 h3; have h4 : _ = _ := h3; (try dsimp only at h2); exfalso; omega)
     replace hb_22 := hb_22.chg k_26 (by intro h1; have h2 : _ = _ := h1; exfalso; omega)
     replace hb_1 := hn_26
     refine WL.assign rfl rfl (WL.t (WC.ret (WX.qb (WX.qj (.inl rfl) Tryz.results107 Tryz.isAgg38 Tryz.sizeOf38 hb_1 rfl (by rfl) rfl ?_))))
     first
      |(refine ⟨_, rfl, ?_, kk⟩
        rw [unpR_bad (by omega)]
        rfl)
      |(have hr : ¬ rightP (ptr4 i0 i1 i2 i3) := fun hr => h44 (by rw [ptrE, if_pos hr])
        refine ⟨_, rfl, ?_, kk⟩
        rw [unpR_four hL, if_neg (fun x => hr x.2.2)]
        rfl)
      |(have hr : rightP (ptr4 i0 i1 i2 i3) := by
         by_cases hr : rightP (ptr4 i0 i1 i2 i3)
         ·exact hr
         ·rw [ptrE, if_neg hr] at h44; cases h44
        have h0 : decE s.data.toList = 0 := by omega
        have ht := unp_text h0 hL hr
        refine ⟨_, rfl, ?_, kk⟩
        first
         |(rw [unpR_four hL, if_neg (fun x => h48 (ht.2 x.2.1))]
           rfl)
         |(rw [unpR_four hL, if_pos ⟨h0, ht.1 h48, hr⟩]
           rfl))
    ·refine WL.qb rfl rfl rfl (WL.t (WC.qa rfl (WC.skip (WX.qa (WC.sr (WL.qq Tryz.isAgg38 Tryz.sizeOf38 hb_22 rfl (by rfl) rfl (?_)))))))
     refine WL.qf Tryz.sizeOf38 hb_1 rfl rfl (by rfl) (by simp [Value.oneCell', Value.cells]; done) (by simp [Value.cells]; done) rfl ?_
     intro w_26 hs_26 hn_26 k_26
     have zs_k_26 := k_26.size
     replace kk := kk.chg k_26 (by intro x h1 h2; have h3 : _ = _ := h2; exfalso; omega)
     replace hk := hk.chg k_26 (by intro b h1 h2 h3; have h4 : _ = _ := h3; (try dsimp only at h2); exfalso; omega)
     replace hb_22 := hb_22.chg k_26 (by intro h1; have h2 : _ = _ := h1; exfalso; omega)
     replace hb_1 := hn_26
     refine WL.assign rfl rfl (WL.t (WC.ret (WX.qj (.inl rfl) Tryz.results107 Tryz.isAgg38 Tryz.sizeOf38 hb_1 rfl (by rfl) rfl ?_)))
     first
      |(refine ⟨_, rfl, ?_, kk⟩
        rw [unpR_bad (by omega)]
        rfl)
      |(have hr : ¬ rightP (ptr4 i0 i1 i2 i3) := fun hr => h44 (by rw [ptrE, if_pos hr])
        refine ⟨_, rfl, ?_, kk⟩
        rw [unpR_four hL, if_neg (fun x => hr x.2.2)]
        rfl)
      |(have hr : rightP (ptr4 i0 i1 i2 i3) := by
         by_cases hr : rightP (ptr4 i0 i1 i2 i3)
         ·exact hr
         ·rw [ptrE, if_neg hr] at h44; cases h44
        have h0 : decE s.data.toList = 0 := by omega
        have ht := unp_text h0 hL hr
        refine ⟨_, rfl, ?_, kk⟩
        first
         |(rw [unpR_four hL, if_neg (fun x => h48 (ht.2 x.2.1))]
           rfl)
         |(rw [unpR_four hL, if_pos ⟨h0, ht.1 h48, hr⟩]
           rfl))
end Go.Proofs.YtjeldcjchipdgaaGreatDoor
namespace Go.Proofs.YtjeldcjchipdgaaGreatDoor
open Go.RowKit Go.HL
set_option maxRecDepth 100000
structure UbV where
 t : Int
 p : PtrV
theorem UbV.eq_iff (u v : UbV) : (u.t = v.t ∧ u.p = v.p) ↔ u = v := by
 obtain ⟨a, b⟩ := u
 obtain ⟨c, d⟩ := v
 simp
instance : DecidableEq UbV := fun a b => decidable_of_iff _ (UbV.eq_iff a b)
def eub : Enc UbV := ⟨5, fun u => [vi u.t, vi u.p.a, vi u.p.z, vi u.p.b, .string u.p.s], fun _ => rfl, by simp [Value.oneCell'], by decide⟩
def WfU (u : UbV) : Prop := (-9223372036854775808 ≤ u.t ∧ u.t ≤ 9223372036854775807) ∧ WfP u.p
def uit (u : UbV) : List Item := [⟨1, 77, ⟨#[]⟩⟩, ⟨1, u.t, ⟨#[]⟩⟩, ⟨2, 0, ptrS u.p⟩]
def encB (u : UbV) : List UInt8 := if rightP u.p ∧ 1 ≤ u.t then secB (uit u) else []
def encE (u : UbV) : Int := if rightP u.p ∧ 1 ≤ u.t then secE (uit u) else 2
theorem uit_rit {u : UbV} (h : WfU u) : ∀ i ∈ uit u, RIt i := by
 intro i hi
 simp only [uit, List.mem_cons, List.not_mem_nil, or_false] at hi
 rcases hi with rfl | rfl | rfl
 ·exact ⟨show (-9223372036854775808 : Int) ≤ 77 by decide, show (77 : Int) ≤ 9223372036854775807 by decide⟩
 ·exact h.1
 ·exact ⟨show (-9223372036854775808 : Int) ≤ 0 by decide, show (0 : Int) ≤ 9223372036854775807 by decide⟩
theorem ptrE_eq (p : PtrV) : ptrE p = 0 ↔ rightP p := by
 unfold ptrE
 split
 ·rename_i h
  exact ⟨fun _ => h, fun _ => rfl⟩
 ·rename_i h
  exact ⟨fun h1 => (absurd h1 (by decide)), fun h1 => absurd h1 h⟩
theorem encU_calls (u : UbV) (w : World) (hu : WfU u) : Calls Tryz.prog 48 [.agg (eub.f u).toArray].toArray w (Ret fun v w' => (∃ (ao : Option Addr) (c : Nat), v = .tuple #[.slice ao (encB u).length c, vi (encE u)] ∧ Row (w.heap.size ≤ ·) w' 5 eb ao c (encB u)) ∧ Chg Nob w w') := by
 have kk := Chg.refl Nob w
 refine Calls.of_WC Tryz.func48 rfl Tryz.ntmps48 (by simp) ?_
 refine WC.sr (WL.box rfl rfl ?_)
 intro g_1 w_1 hge_1 hlt_1 hb_1 k_1
 replace kk := kk.pure k_1
 refine WL.assign rfl rfl (WL.assign rfl rfl (WL.t (WC.sr (WL.fieldAddr (fld_41_1) rfl rfl (?_)))))
 have hb1 : Blk _ g_1 41 (eub.f u) := hb_1
 refine WL.qo (ept.f u.p) Tryz.isAgg38 Tryz.sizeOf38 rfl (fun j v hj => by rw [Nat.add_comm]; exact hb1.cell hj) rfl rfl ?_
 refine WL.call eg_77 rfl rfl (ptr_calls u.p _ hu.2) ?_
 rintro v w1 ⟨rfl, k1⟩
 have zs_k1 := k1.size
 replace kk := kk.pure k1
 replace hb1 := hb1.pure k1
 refine WL.move rfl rfl (WL.extract rfl rfl rfl (WL.extract rfl rfl rfl (WL.assign rfl rfl (WL.assign rfl rfl (WL.t (WC.seq (WC.sr (WL.move rfl rfl (WL.qk rfl rfl rfl (fun h13 => ?_) (fun h13 => ?_))))))))))
 ·refine WL.move rfl rfl (WL.pass rfl rfl rfl rfl (WL.pass rfl rfl rfl rfl (WL.pass rfl rfl rfl rfl (WL.qc rfl rfl rfl (WL.t (WC.qb rfl (WC.sr (WL.assign rfl rfl (WL.assign rfl rfl (WL.t (WC.ret (WX.qb (WX.qi (.inl rfl) Tryz.results48 rfl rfl ?_)))))))))))))
  by_cases hc : rightP u.p ∧ 1 ≤ u.t
  ·rw [encB, encE, if_pos hc, if_pos hc]
   first
    |(exact ⟨_, rfl, ⟨_, _, rfl, hx.mono (fun x hx => by omega)⟩, kk⟩)
    |(exfalso; exact h13 ((ptrE_eq _).2 hc.1))
    |(exfalso; have h5 := hc.2; omega)
  ·rw [encB, encE, if_neg hc, if_neg hc]
   first
    |(exact ⟨_, rfl, ⟨none, 0, rfl, Row.nil _ _ _ _⟩, kk⟩)
    |(exfalso; exact hc ⟨(ptrE_eq _).1 h13, by omega⟩)
 ·refine WL.move rfl rfl (WL.qa rfl rfl rfl (WL.fieldAddr (fld_41_0) rfl rfl (WL.qa rfl rfl rfl (WL.qd Tryz.isAgg3 hb1 rfl rfl rfl (WL.qa rfl rfl rfl (WL.qi rfl rfl rfl (fun h17 => ?_) (fun h17 => ?_)))))))
  ·refine WL.qb rfl rfl rfl (WL.t (WC.qb rfl (WC.sr (WL.assign rfl rfl (WL.assign rfl rfl (WL.t (WC.ret (WX.qb (WX.qi (.inl rfl) Tryz.results48 rfl rfl ?_)))))))))
   by_cases hc : rightP u.p ∧ 1 ≤ u.t
   ·rw [encB, encE, if_pos hc, if_pos hc]
    first
     |(exact ⟨_, rfl, ⟨_, _, rfl, hx.mono (fun x hx => by omega)⟩, kk⟩)
     |(exfalso; exact h13 ((ptrE_eq _).2 hc.1))
     |(exfalso; have h5 := hc.2; omega)
   ·rw [encB, encE, if_neg hc, if_neg hc]
    first
     |(exact ⟨_, rfl, ⟨none, 0, rfl, Row.nil _ _ _ _⟩, kk⟩)
     |(exfalso; exact hc ⟨(ptrE_eq _).1 h13, by omega⟩)
  ·refine WL.qb rfl rfl rfl (WL.t (WC.qa rfl (WC.skip (WX.qa (WC.sr (WL.bld rfl (bld_116_0_1 _ _) rfl (WL.fieldAddr (fld_41_0) rfl rfl (WL.qd Tryz.isAgg3 hb1 rfl rfl rfl (WL.bld rfl (bld_116_0_1 _ _) rfl (WL.move rfl rfl (WL.bld rfl (bld_116_0_2 _ _) rfl (?_))))))))))))
   refine WL.build (e := eit) [⟨1, 77, ⟨#[]⟩⟩, ⟨1, u.t, ⟨#[]⟩⟩, ⟨2, 0, ptrS u.p⟩] Tryz.underlying117 Tryz.sizeOf116 Tryz.zeroValue116 rfl rfl rfl (by simp [Value.cells] <;> rfl) (by decide) rfl ?_
   intro a_ha w_ha ha l_ha z_ha k_ha
   replace kk := kk.pure k_ha
   have ha2 := ha.rsl.old
   refine WL.call eg_78 rfl rfl (sector_calls ha2 (by simp)) ?_
   rintro v w2 ⟨⟨ax, cx, rfl, hx⟩, k2⟩
   replace kk := kk.pure k2
   replace hx := hx.lt
   refine WL.extract rfl rfl rfl (WL.extract rfl rfl rfl (WL.assign rfl rfl (WL.assign rfl rfl (WL.t (WC.ret (WX.qi (.inl rfl) Tryz.results48 rfl rfl ?_))))))
   by_cases hc : rightP u.p ∧ 1 ≤ u.t
   ·rw [encB, encE, if_pos hc, if_pos hc]
    first
     |(exact ⟨_, rfl, ⟨_, _, rfl, hx.mono (fun x hx => by omega)⟩, kk⟩)
     |(exfalso; exact h13 ((ptrE_eq _).2 hc.1))
     |(exfalso; have h5 := hc.2; omega)
   ·rw [encB, encE, if_neg hc, if_neg hc]
    first
     |(exact ⟨_, rfl, ⟨none, 0, rfl, Row.nil _ _ _ _⟩, kk⟩)
     |(exfalso; exact hc ⟨(ptrE_eq _).1 h13, by omega⟩)
def zeroU : UbV := ⟨0, zeroP⟩
def decU (b : List UInt8) : Option UbV :=
 match unS b with
 |some [i0, i1, i2] => if i0 = ⟨1, 77, ⟨#[]⟩⟩ ∧ i1.kind = 1 ∧ 1 ≤ i1.n ∧ i2.kind = 2 ∧ (unpR i2.s).2 = 0 then some ⟨i1.n, (unpR i2.s).1⟩ else none
 |_ => none
def decV (b : List UInt8) : UbV := (decU b).getD zeroU
def decEr (b : List UInt8) : Int := if (decU b).isSome then 0 else 2
theorem decU_no {b : List UInt8} (h : decU b = none) : decV b = zeroU ∧ decEr b = 2 := by
 rw [decV, decEr, h]
 exact ⟨rfl, rfl⟩
theorem decU_yes {b : List UInt8} {u : UbV} (h : decU b = some u) : decV b = u ∧ decEr b = 0 := by
 rw [decV, decEr, h]
 exact ⟨rfl, rfl⟩
theorem three_items {l : List Item} (h : l.length = 3) : ∃ i0 i1 i2, l = [i0, i1, i2] := by
 match l, h with
 |[a, b, c], _ => exact ⟨a, b, c, rfl⟩
theorem decU_three {b : List UInt8} {i0 i1 i2 : Item} (hE : unE b = 0) (hL : unL b = [i0, i1, i2]) : decU b = if i0 = ⟨1, 77, ⟨#[]⟩⟩ ∧ i1.kind = 1 ∧ 1 ≤ i1.n ∧ i2.kind = 2 ∧ (unpR i2.s).2 = 0 then some ⟨i1.n, (unpR i2.s).1⟩ else none := by
 cases h : unS b with
 |none =>
  rw [(un_none h).2] at hE
  cases hE
 |some l =>
  rw [(un_yes' h).1] at hL
  subst hL
  unfold decU
  rw [h]
theorem decU_bad {b : List UInt8} (h : unE b ≠ 0 ∨ (unL b).length ≠ 3) : decU b = none := by
 cases hu : unS b with
 |none => unfold decU; rw [hu]
 |some l =>
  obtain ⟨u1, u2⟩ := un_yes' hu
  rw [u1, u2] at h
  have h3 : l.length ≠ 3 := h.resolve_left (fun h4 => h4 rfl)
  unfold decU
  rw [hu]
  split
  ·rename_i he
   injection he with he
   subst he
   exact absurd rfl h3
  ·rfl
theorem un_good {b : List UInt8} : ∀ i ∈ unL b, Good i := by
 cases hu : unS b with
 |none => rw [(un_none hu).1]; intro i hi; cases hi
 |some l => rw [(un_yes' hu).1]; exact (un_parts hu).2.2.2.2.1
theorem unpR_err (s : ByteArray) : (unpR s).2 = 0 ∨ (unpR s).2 = 2 := by
 unfold unpR
 split
 ·split
  ·exact .inl rfl
  ·exact .inr rfl
 ·exact .inr rfl
theorem decU_calls {w : World} {ao : Option Addr} {c : Nat} {b : List UInt8} (hr : RSl (· < w.heap.size) w eb ao c b) (hl : b.length ≤ 140737488351232) :
 Calls Tryz.prog 87 [.slice ao b.length c].toArray w (Ret fun v w' => v = .tuple #[.agg (eub.f (decV b)).toArray, vi (decEr b)] ∧ Chg Nob w w') := by
 have kk := Chg.refl Nob w
 refine Calls.of_WC Tryz.func87 rfl Tryz.ntmps87 (by simp) ?_
 refine WC.sr (WL.alloc Tryz.zeroValue41 rfl ?_)
 intro g_1 w_1 hge_1 hlt_1 hb_1 k_1
 replace hr := hr.pure k_1
 replace kk := kk.pure k_1
 refine WL.assign rfl rfl (WL.t (WC.sr (WL.move rfl rfl (?_))))
 have hr1 := hr.old
 refine WL.call eg_104 rfl rfl (unsector_calls hr1 (by omega)) ?_
 rintro v w1 ⟨⟨a1, c1, rfl, hq⟩, k1⟩
 obtain ⟨L, eL⟩ : ∃ L, L = unL b := ⟨_, rfl⟩
 rw [← eL] at hq ⊢
 have zs_k1 := k1.size
 replace kk := kk.pure k1
 replace hb_1 := hb_1.pure k1
 replace hq := hq.lt
 refine WL.move rfl rfl (WL.extract rfl rfl rfl (WL.extract rfl rfl rfl (WL.assign rfl rfl (WL.assign rfl rfl (WL.t (WC.seq (WC.sr (WL.move rfl rfl (WL.qk rfl rfl rfl (fun h13 => ?_) (fun h13 => ?_))))))))))
 ·refine WL.move rfl rfl (WL.pass rfl rfl rfl rfl (WL.pass rfl rfl rfl rfl (WL.pass rfl rfl rfl rfl (WL.qc rfl rfl rfl (WL.move rfl rfl (WL.pass rfl rfl rfl rfl (WL.pass rfl rfl rfl rfl (WL.pass rfl rfl rfl rfl (WL.pass rfl rfl rfl rfl (WL.pass rfl rfl rfl rfl (WL.qc rfl rfl rfl (WL.move rfl rfl (WL.pass rfl rfl rfl rfl (WL.pass rfl rfl rfl rfl (WL.pass rfl rfl rfl rfl (WL.pass rfl rfl rfl rfl (WL.pass rfl rfl rfl rfl (WL.qc rfl rfl rfl (WL.move rfl rfl (WL.pass rfl rfl rfl rfl (WL.pass rfl rfl rfl rfl (WL.pass rfl rfl rfl rfl (WL.pass rfl rfl rfl rfl (WL.pass rfl rfl rfl rfl (WL.qc rfl rfl rfl (WL.move rfl rfl (WL.pass rfl rfl rfl rfl (WL.pass rfl rfl rfl rfl (WL.pass rfl rfl rfl rfl (WL.pass rfl rfl rfl rfl (WL.pass rfl rfl rfl rfl (WL.qc rfl rfl rfl (WL.t (WC.qb rfl (WC.sr (WL.bld rfl (bld_41_z) rfl (?_)))))))))))))))))))))))))))))))))))))
  refine WL.qf Tryz.sizeOf41 hb_1 rfl rfl (by simp; done) (by simp [Value.oneCell']; done) (by simp [Value.cells]; done) rfl ?_
  intro w_2 hs_2 hn_2 k_2
  replace kk := kk.chg k_2 (by intro x h1 h2; have h3 : _ = _ := h2; exfalso; omega)
  replace hb_1 := hn_2
  refine WL.assign rfl rfl (WL.t (WC.ret (WX.qb (WX.qj (.inl rfl) Tryz.results87 Tryz.isAgg41 Tryz.sizeOf41 hb_1 rfl (by rfl) rfl ?_))))
  first
   |(have hz : unE b ≠ 0 := h13
     obtain ⟨e1, e2⟩ := decU_no (decU_bad (b := b) (.inl hz))
     rw [e1, e2]
     exact ⟨_, rfl, rfl, kk⟩)
   |(have hz : (L.length : Int) ≠ 3 := h17
     obtain ⟨e1, e2⟩ := decU_no (decU_bad (b := b) (.inr (fun h9 => hz (by rw [eL, h9]; rfl))))
     rw [e1, e2]
     exact ⟨_, rfl, rfl, kk⟩)
   |(have hz : unE b = 0 := h13
     have hz2 : L = [i0, i1, i2] := hL
     have hd := decU_three (b := b) hz (eL ▸ hz2)
     by_cases hc : i0 = ⟨1, 77, ⟨#[]⟩⟩ ∧ i1.kind = 1 ∧ 1 ≤ i1.n ∧ i2.kind = 2 ∧ (unpR i2.s).2 = 0
     ·rw [if_pos hc] at hd
      obtain ⟨e1, e2⟩ := decU_yes hd
      rw [e1, e2]
      obtain ⟨c1, c2, c3, c4, c5⟩ := hc
      first
       |(exact ⟨_, rfl, rfl, kk⟩)
       |(exfalso; omega)
       |(exfalso; first | exact absurd c1 (by assumption) | exact absurd c5 (by assumption))
     ·rw [if_neg hc] at hd
      obtain ⟨e1, e2⟩ := decU_no hd
      rw [e1, e2]
      first
       |(exact ⟨_, rfl, rfl, kk⟩)
       |(have h2 : (unpR i2.s).2 = 2 := (unpR_err _).resolve_left (by assumption)
         refine ⟨_, rfl, ?_, kk⟩
         rw [← h2]
         rfl)
       |(exfalso; exact hc ⟨by assumption, by omega, by omega, by omega, by assumption⟩))
 ·refine WL.move rfl rfl (WL.qa rfl rfl rfl (WL.move rfl rfl (WL.qa rfl rfl rfl (WL.len Tryz.underlying117 rfl rfl (WL.qa rfl rfl rfl (WL.qk rfl rfl rfl (fun h17 => ?_) (fun h17 => ?_)))))))
  ·refine WL.qb rfl rfl rfl (WL.move rfl rfl (WL.pass rfl rfl rfl rfl (WL.pass rfl rfl rfl rfl (WL.pass rfl rfl rfl rfl (WL.pass rfl rfl rfl rfl (WL.pass rfl rfl rfl rfl (WL.qc rfl rfl rfl (WL.move rfl rfl (WL.pass rfl rfl rfl rfl (WL.pass rfl rfl rfl rfl (WL.pass rfl rfl rfl rfl (WL.pass rfl rfl rfl rfl (WL.pass rfl rfl rfl rfl (WL.qc rfl rfl rfl (WL.move rfl rfl (WL.pass rfl rfl rfl rfl (WL.pass rfl rfl rfl rfl (WL.pass rfl rfl rfl rfl (WL.pass rfl rfl rfl rfl (WL.pass rfl rfl rfl rfl (WL.qc rfl rfl rfl (WL.move rfl rfl (WL.pass rfl rfl rfl rfl (WL.pass rfl rfl rfl rfl (WL.pass rfl rfl rfl rfl (WL.pass rfl rfl rfl rfl (WL.pass rfl rfl rfl rfl (WL.qc rfl rfl rfl (WL.t (WC.qb rfl (WC.sr (WL.bld rfl (bld_41_z) rfl (?_)))))))))))))))))))))))))))))))))
   refine WL.qf Tryz.sizeOf41 hb_1 rfl rfl (by simp; done) (by simp [Value.oneCell']; done) (by simp [Value.cells]; done) rfl ?_
   intro w_2 hs_2 hn_2 k_2
   replace kk := kk.chg k_2 (by intro x h1 h2; have h3 : _ = _ := h2; exfalso; omega)
   replace hb_1 := hn_2
   refine WL.assign rfl rfl (WL.t (WC.ret (WX.qb (WX.qj (.inl rfl) Tryz.results87 Tryz.isAgg41 Tryz.sizeOf41 hb_1 rfl (by rfl) rfl ?_))))
   first
    |(have hz : unE b ≠ 0 := h13
      obtain ⟨e1, e2⟩ := decU_no (decU_bad (b := b) (.inl hz))
      rw [e1, e2]
      exact ⟨_, rfl, rfl, kk⟩)
    |(have hz : (L.length : Int) ≠ 3 := h17
      obtain ⟨e1, e2⟩ := decU_no (decU_bad (b := b) (.inr (fun h9 => hz (by rw [eL, h9]; rfl))))
      rw [e1, e2]
      exact ⟨_, rfl, rfl, kk⟩)
    |(have hz : unE b = 0 := h13
      have hz2 : L = [i0, i1, i2] := hL
      have hd := decU_three (b := b) hz (eL ▸ hz2)
      by_cases hc : i0 = ⟨1, 77, ⟨#[]⟩⟩ ∧ i1.kind = 1 ∧ 1 ≤ i1.n ∧ i2.kind = 2 ∧ (unpR i2.s).2 = 0
      ·rw [if_pos hc] at hd
       obtain ⟨e1, e2⟩ := decU_yes hd
       rw [e1, e2]
       obtain ⟨c1, c2, c3, c4, c5⟩ := hc
       first
        |(exact ⟨_, rfl, rfl, kk⟩)
        |(exfalso; omega)
        |(exfalso; first | exact absurd c1 (by assumption) | exact absurd c5 (by assumption))
      ·rw [if_neg hc] at hd
       obtain ⟨e1, e2⟩ := decU_no hd
       rw [e1, e2]
       first
        |(exact ⟨_, rfl, rfl, kk⟩)
        |(have h2 : (unpR i2.s).2 = 2 := (unpR_err _).resolve_left (by assumption)
          refine ⟨_, rfl, ?_, kk⟩
          rw [← h2]
          rfl)
        |(exfalso; exact hc ⟨by assumption, by omega, by omega, by omega, by assumption⟩))
  ·refine WL.qb rfl rfl rfl (WL.move rfl rfl (WL.qa rfl rfl rfl (WL.move rfl rfl (WL.qa rfl rfl rfl (?_)))))
   obtain ⟨i0, i1, i2, hL⟩ := three_items (l := L) (by omega)
   have hi0 : L[0]? = some i0 := by rw [hL]; rfl
   have hi1 : L[1]? = some i1 := by rw [hL]; rfl
   have hi2 : L[2]? = some i2 := by rw [hL]; rfl
   refine WL.qg Tryz.underlying117 Tryz.sizeOf116 hq.rsl rfl rfl ⟨hi0, rfl⟩ rfl ?_
   intro b_2 o_2 hc_2
   refine WL.qa rfl rfl rfl (WL.qo _ Tryz.isAgg116 Tryz.sizeOf116 rfl hc_2 rfl rfl (WL.qa rfl rfl rfl (WL.bld rfl (bld_116_0_1 _ _) rfl (WL.qa rfl rfl rfl (WL.aneq? eqg_item (eq_item _ ⟨1, 77, ⟨#[]⟩⟩) rfl rfl rfl (fun h24 => ?_) (fun h24 => ?_))))))
   ·refine WL.qb rfl rfl rfl (WL.move rfl rfl (WL.pass rfl rfl rfl rfl (WL.pass rfl rfl rfl rfl (WL.pass rfl rfl rfl rfl (WL.pass rfl rfl rfl rfl (WL.pass rfl rfl rfl rfl (WL.qc rfl rfl rfl (WL.move rfl rfl (WL.pass rfl rfl rfl rfl (WL.pass rfl rfl rfl rfl (WL.pass rfl rfl rfl rfl (WL.pass rfl rfl rfl rfl (WL.pass rfl rfl rfl rfl (WL.qc rfl rfl rfl (WL.move rfl rfl (WL.pass rfl rfl rfl rfl (WL.pass rfl rfl rfl rfl (WL.pass rfl rfl rfl rfl (WL.pass rfl rfl rfl rfl (WL.pass rfl rfl rfl rfl (WL.qc rfl rfl rfl (WL.t (WC.qb rfl (WC.sr (WL.bld rfl (bld_41_z) rfl (?_))))))))))))))))))))))))))
    refine WL.qf Tryz.sizeOf41 hb_1 rfl rfl (by simp; done) (by simp [Value.oneCell']; done) (by simp [Value.cells]; done) rfl ?_
    intro w_3 hs_3 hn_3 k_3
    replace kk := kk.chg k_3 (by intro x h1 h2; have h3 : _ = _ := h2; exfalso; omega)
    replace hb_1 := hn_3
    refine WL.assign rfl rfl (WL.t (WC.ret (WX.qb (WX.qj (.inl rfl) Tryz.results87 Tryz.isAgg41 Tryz.sizeOf41 hb_1 rfl (by rfl) rfl ?_))))
    first
     |(have hz : unE b ≠ 0 := h13
       obtain ⟨e1, e2⟩ := decU_no (decU_bad (b := b) (.inl hz))
       rw [e1, e2]
       exact ⟨_, rfl, rfl, kk⟩)
     |(have hz : (L.length : Int) ≠ 3 := h17
       obtain ⟨e1, e2⟩ := decU_no (decU_bad (b := b) (.inr (fun h9 => hz (by rw [eL, h9]; rfl))))
       rw [e1, e2]
       exact ⟨_, rfl, rfl, kk⟩)
     |(have hz : unE b = 0 := h13
       have hz2 : L = [i0, i1, i2] := hL
       have hd := decU_three (b := b) hz (eL ▸ hz2)
       by_cases hc : i0 = ⟨1, 77, ⟨#[]⟩⟩ ∧ i1.kind = 1 ∧ 1 ≤ i1.n ∧ i2.kind = 2 ∧ (unpR i2.s).2 = 0
       ·rw [if_pos hc] at hd
        obtain ⟨e1, e2⟩ := decU_yes hd
        rw [e1, e2]
        obtain ⟨c1, c2, c3, c4, c5⟩ := hc
        first
         |(exact ⟨_, rfl, rfl, kk⟩)
         |(exfalso; omega)
         |(exfalso; first | exact absurd c1 (by assumption) | exact absurd c5 (by assumption))
       ·rw [if_neg hc] at hd
        obtain ⟨e1, e2⟩ := decU_no hd
        rw [e1, e2]
        first
         |(exact ⟨_, rfl, rfl, kk⟩)
         |(have h2 : (unpR i2.s).2 = 2 := (unpR_err _).resolve_left (by assumption)
           refine ⟨_, rfl, ?_, kk⟩
           rw [← h2]
           rfl)
         |(exfalso; exact hc ⟨by assumption, by omega, by omega, by omega, by assumption⟩))
   ·refine WL.qb rfl rfl rfl (WL.move rfl rfl (WL.qa rfl rfl rfl (WL.move rfl rfl (WL.qa rfl rfl rfl (WL.qg Tryz.underlying117 Tryz.sizeOf116 hq.rsl rfl rfl ⟨hi1, rfl⟩ rfl ?_)))))
    intro b_3 o_3 hc_3
    refine WL.qa rfl rfl rfl (WL.fieldAddr (fld_116_0) rfl rfl (WL.qa rfl rfl rfl (WL.load Tryz.isAgg3 rfl (hc_3 _ _ rfl) rfl (WL.qa rfl rfl rfl (WL.qk rfl rfl rfl (fun h31 => ?_) (fun h31 => ?_))))))
    ·refine WL.qb rfl rfl rfl (WL.move rfl rfl (WL.pass rfl rfl rfl rfl (WL.pass rfl rfl rfl rfl (WL.pass rfl rfl rfl rfl (WL.pass rfl rfl rfl rfl (WL.pass rfl rfl rfl rfl (WL.qc rfl rfl rfl (WL.move rfl rfl (WL.pass rfl rfl rfl rfl (WL.pass rfl rfl rfl rfl (WL.pass rfl rfl rfl rfl (WL.pass rfl rfl rfl rfl (WL.pass rfl rfl rfl rfl (WL.qc rfl rfl rfl (WL.nil (WX.qa (WC.qb rfl (WC.sr (WL.bld rfl (bld_41_z) rfl (?_))))))))))))))))))))
     refine WL.qf Tryz.sizeOf41 hb_1 rfl rfl (by simp; done) (by simp [Value.oneCell']; done) (by simp [Value.cells]; done) rfl ?_
     intro w_4 hs_4 hn_4 k_4
     replace kk := kk.chg k_4 (by intro x h1 h2; have h3 : _ = _ := h2; exfalso; omega)
     replace hb_1 := hn_4
     refine WL.assign rfl rfl (WL.t (WC.ret (WX.qb (WX.qj (.inl rfl) Tryz.results87 Tryz.isAgg41 Tryz.sizeOf41 hb_1 rfl (by rfl) rfl ?_))))
     first
      |(have hz : unE b ≠ 0 := h13
        obtain ⟨e1, e2⟩ := decU_no (decU_bad (b := b) (.inl hz))
        rw [e1, e2]
        exact ⟨_, rfl, rfl, kk⟩)
      |(have hz : (L.length : Int) ≠ 3 := h17
        obtain ⟨e1, e2⟩ := decU_no (decU_bad (b := b) (.inr (fun h9 => hz (by rw [eL, h9]; rfl))))
        rw [e1, e2]
        exact ⟨_, rfl, rfl, kk⟩)
      |(have hz : unE b = 0 := h13
        have hz2 : L = [i0, i1, i2] := hL
        have hd := decU_three (b := b) hz (eL ▸ hz2)
        by_cases hc : i0 = ⟨1, 77, ⟨#[]⟩⟩ ∧ i1.kind = 1 ∧ 1 ≤ i1.n ∧ i2.kind = 2 ∧ (unpR i2.s).2 = 0
        ·rw [if_pos hc] at hd
         obtain ⟨e1, e2⟩ := decU_yes hd
         rw [e1, e2]
         obtain ⟨c1, c2, c3, c4, c5⟩ := hc
         first
          |(exact ⟨_, rfl, rfl, kk⟩)
          |(exfalso; omega)
          |(exfalso; first | exact absurd c1 (by assumption) | exact absurd c5 (by assumption))
        ·rw [if_neg hc] at hd
         obtain ⟨e1, e2⟩ := decU_no hd
         rw [e1, e2]
         first
          |(exact ⟨_, rfl, rfl, kk⟩)
          |(have h2 : (unpR i2.s).2 = 2 := (unpR_err _).resolve_left (by assumption)
            refine ⟨_, rfl, ?_, kk⟩
            rw [← h2]
            rfl)
          |(exfalso; exact hc ⟨by assumption, by omega, by omega, by omega, by assumption⟩))
    ·refine WL.qb rfl rfl rfl (WL.move rfl rfl (WL.qa rfl rfl rfl (WL.move rfl rfl (WL.qa rfl rfl rfl (WL.qg Tryz.underlying117 Tryz.sizeOf116 hq.rsl rfl rfl ⟨hi1, rfl⟩ rfl ?_)))))
     intro b_4 o_4 hc_4
     refine WL.qa rfl rfl rfl (WL.fieldAddr (fld_116_1) rfl rfl (WL.qa rfl rfl rfl (WL.load Tryz.isAgg3 rfl (hc_4 _ _ rfl) rfl (WL.qa rfl rfl rfl (WL.qi rfl rfl rfl (fun h38 => ?_) (fun h38 => ?_))))))
     ·refine WL.qb rfl rfl rfl (WL.move rfl rfl (WL.pass rfl rfl rfl rfl (WL.pass rfl rfl rfl rfl (WL.pass rfl rfl rfl rfl (WL.pass rfl rfl rfl rfl (WL.pass rfl rfl rfl rfl (WL.qc rfl rfl rfl (WL.t (WC.qb rfl (WC.sr (WL.bld rfl (bld_41_z) rfl (?_))))))))))))
      refine WL.qf Tryz.sizeOf41 hb_1 rfl rfl (by simp; done) (by simp [Value.oneCell']; done) (by simp [Value.cells]; done) rfl ?_
      intro w_5 hs_5 hn_5 k_5
      replace kk := kk.chg k_5 (by intro x h1 h2; have h3 : _ = _ := h2; exfalso; omega)
      replace hb_1 := hn_5
      refine WL.assign rfl rfl (WL.t (WC.ret (WX.qb (WX.qj (.inl rfl) Tryz.results87 Tryz.isAgg41 Tryz.sizeOf41 hb_1 rfl (by rfl) rfl ?_))))
      first
       |(have hz : unE b ≠ 0 := h13
         obtain ⟨e1, e2⟩ := decU_no (decU_bad (b := b) (.inl hz))
         rw [e1, e2]
         exact ⟨_, rfl, rfl, kk⟩)
       |(have hz : (L.length : Int) ≠ 3 := h17
         obtain ⟨e1, e2⟩ := decU_no (decU_bad (b := b) (.inr (fun h9 => hz (by rw [eL, h9]; rfl))))
         rw [e1, e2]
         exact ⟨_, rfl, rfl, kk⟩)
       |(have hz : unE b = 0 := h13
         have hz2 : L = [i0, i1, i2] := hL
         have hd := decU_three (b := b) hz (eL ▸ hz2)
         by_cases hc : i0 = ⟨1, 77, ⟨#[]⟩⟩ ∧ i1.kind = 1 ∧ 1 ≤ i1.n ∧ i2.kind = 2 ∧ (unpR i2.s).2 = 0
         ·rw [if_pos hc] at hd
          obtain ⟨e1, e2⟩ := decU_yes hd
          rw [e1, e2]
          obtain ⟨c1, c2, c3, c4, c5⟩ := hc
          first
           |(exact ⟨_, rfl, rfl, kk⟩)
           |(exfalso; omega)
           |(exfalso; first | exact absurd c1 (by assumption) | exact absurd c5 (by assumption))
         ·rw [if_neg hc] at hd
          obtain ⟨e1, e2⟩ := decU_no hd
          rw [e1, e2]
          first
           |(exact ⟨_, rfl, rfl, kk⟩)
           |(have h2 : (unpR i2.s).2 = 2 := (unpR_err _).resolve_left (by assumption)
             refine ⟨_, rfl, ?_, kk⟩
             rw [← h2]
             rfl)
           |(exfalso; exact hc ⟨by assumption, by omega, by omega, by omega, by assumption⟩))
     ·refine WL.qb rfl rfl rfl (WL.move rfl rfl (WL.qa rfl rfl rfl (WL.move rfl rfl (WL.qa rfl rfl rfl (WL.qg Tryz.underlying117 Tryz.sizeOf116 hq.rsl rfl rfl ⟨hi2, rfl⟩ rfl ?_)))))
      intro b_5 o_5 hc_5
      refine WL.qa rfl rfl rfl (WL.fieldAddr (fld_116_0) rfl rfl (WL.qa rfl rfl rfl (WL.load Tryz.isAgg3 rfl (hc_5 _ _ rfl) rfl (WL.qa rfl rfl rfl (WL.qk rfl rfl rfl (fun h45 => ?_) (fun h45 => ?_))))))
      ·refine WL.qb rfl rfl rfl (WL.t (WC.qb rfl (WC.sr (WL.bld rfl (bld_41_z) rfl (?_)))))
       refine WL.qf Tryz.sizeOf41 hb_1 rfl rfl (by simp; done) (by simp [Value.oneCell']; done) (by simp [Value.cells]; done) rfl ?_
       intro w_6 hs_6 hn_6 k_6
       replace kk := kk.chg k_6 (by intro x h1 h2; have h3 : _ = _ := h2; exfalso; omega)
       replace hb_1 := hn_6
       refine WL.assign rfl rfl (WL.t (WC.ret (WX.qb (WX.qj (.inl rfl) Tryz.results87 Tryz.isAgg41 Tryz.sizeOf41 hb_1 rfl (by rfl) rfl ?_))))
       first
        |(have hz : unE b ≠ 0 := h13
          obtain ⟨e1, e2⟩ := decU_no (decU_bad (b := b) (.inl hz))
          rw [e1, e2]
          exact ⟨_, rfl, rfl, kk⟩)
        |(have hz : (L.length : Int) ≠ 3 := h17
          obtain ⟨e1, e2⟩ := decU_no (decU_bad (b := b) (.inr (fun h9 => hz (by rw [eL, h9]; rfl))))
          rw [e1, e2]
          exact ⟨_, rfl, rfl, kk⟩)
        |(have hz : unE b = 0 := h13
          have hz2 : L = [i0, i1, i2] := hL
          have hd := decU_three (b := b) hz (eL ▸ hz2)
          by_cases hc : i0 = ⟨1, 77, ⟨#[]⟩⟩ ∧ i1.kind = 1 ∧ 1 ≤ i1.n ∧ i2.kind = 2 ∧ (unpR i2.s).2 = 0
          ·rw [if_pos hc] at hd
           obtain ⟨e1, e2⟩ := decU_yes hd
           rw [e1, e2]
           obtain ⟨c1, c2, c3, c4, c5⟩ := hc
           first
            |(exact ⟨_, rfl, rfl, kk⟩)
            |(exfalso; omega)
            |(exfalso; first | exact absurd c1 (by assumption) | exact absurd c5 (by assumption))
          ·rw [if_neg hc] at hd
           obtain ⟨e1, e2⟩ := decU_no hd
           rw [e1, e2]
           first
            |(exact ⟨_, rfl, rfl, kk⟩)
            |(have h2 : (unpR i2.s).2 = 2 := (unpR_err _).resolve_left (by assumption)
              refine ⟨_, rfl, ?_, kk⟩
              rw [← h2]
              rfl)
            |(exfalso; exact hc ⟨by assumption, by omega, by omega, by omega, by assumption⟩))
      ·refine WL.qb rfl rfl rfl (WL.t (WC.qa rfl (WC.skip (WX.qa (WC.sr (WL.move rfl rfl (WL.qg Tryz.underlying117 Tryz.sizeOf116 hq.rsl rfl rfl ⟨hi2, rfl⟩ rfl ?_)))))))
       intro b_6 o_6 hc_6
       refine WL.fieldAddr (fld_116_2) rfl rfl (WL.load Tryz.isAgg9 rfl (hc_6 _ _ rfl) rfl (?_))
       have hg2 : Good i2 := un_good (b := b) i2 (by rw [← eL, hL]; simp)
       have hs2 : i2.s.size ≤ 4000 := by
        have h9 := hg2.1
        simp only [longI, decide_eq_false_iff_not] at h9
        omega
       refine WL.call eg_105 rfl rfl (unptr_calls i2.s _ (by omega)) ?_
       rintro v w2 ⟨rfl, k2⟩
       have zs_k2 := k2.size
       replace kk := kk.pure k2
       replace hb_1 := hb_1.pure k2
       replace hq := hq.pure k2
       refine WL.move rfl rfl (WL.extract rfl rfl rfl (WL.extract rfl rfl rfl (WL.alloc Tryz.zeroValue38 rfl ?_)))
       intro g_7 w_7 hge_7 hlt_7 hb_7 k_7
       replace kk := kk.pure k_7
       replace hb_1 := hb_1.pure k_7
       replace hq := hq.pure k_7
       refine WL.qf Tryz.sizeOf38 hb_7 rfl rfl (by rfl) (by exact Enc.one _ _) (by exact Nat.le_of_ble_eq_true rfl) rfl ?_
       intro w_8 hs_8 hn_8 k_8
       replace kk := kk.chg k_8 (by intro x h1 h2; have h3 : _ = _ := h2; exfalso; omega)
       replace hb_1 := hb_1.chg k_8 (by intro h1; have h2 : _ = _ := h1; exfalso; omega)
       replace hq := hq.chg k_8 (by intro b h1 h2 h3; have h4 : _ = _ := h3; (try dsimp only at h2); exfalso; omega)
       replace hb_7 := hn_8
       refine WL.assign rfl rfl (WL.t (WC.seq (WC.sr (WL.move rfl rfl (WL.qk rfl rfl rfl (fun h57 => ?_) (fun h57 => ?_))))))
       ·refine WL.t (WC.qb rfl (WC.sr (WL.bld rfl (bld_41_z) rfl (WL.move rfl rfl (?_)))))
        refine WL.qf Tryz.sizeOf41 hb_1 rfl rfl (by simp; done) (by simp [Value.oneCell']; done) (by simp [Value.cells]; done) rfl ?_
        intro w_9 hs_9 hn_9 k_9
        replace kk := kk.chg k_9 (by intro x h1 h2; have h3 : _ = _ := h2; exfalso; omega)
        replace hb_1 := hn_9
        refine WL.assign rfl rfl (WL.t (WC.ret (WX.qb (WX.qj (.inl rfl) Tryz.results87 Tryz.isAgg41 Tryz.sizeOf41 hb_1 rfl (by rfl) rfl ?_))))
        first
         |(have hz : unE b ≠ 0 := h13
           obtain ⟨e1, e2⟩ := decU_no (decU_bad (b := b) (.inl hz))
           rw [e1, e2]
           exact ⟨_, rfl, rfl, kk⟩)
         |(have hz : (L.length : Int) ≠ 3 := h17
           obtain ⟨e1, e2⟩ := decU_no (decU_bad (b := b) (.inr (fun h9 => hz (by rw [eL, h9]; rfl))))
           rw [e1, e2]
           exact ⟨_, rfl, rfl, kk⟩)
         |(have hz : unE b = 0 := h13
           have hz2 : L = [i0, i1, i2] := hL
           have hd := decU_three (b := b) hz (eL ▸ hz2)
           by_cases hc : i0 = ⟨1, 77, ⟨#[]⟩⟩ ∧ i1.kind = 1 ∧ 1 ≤ i1.n ∧ i2.kind = 2 ∧ (unpR i2.s).2 = 0
           ·rw [if_pos hc] at hd
            obtain ⟨e1, e2⟩ := decU_yes hd
            rw [e1, e2]
            obtain ⟨c1, c2, c3, c4, c5⟩ := hc
            first
             |(exact ⟨_, rfl, rfl, kk⟩)
             |(exfalso; omega)
             |(exfalso; first | exact absurd c1 (by assumption) | exact absurd c5 (by assumption))
           ·rw [if_neg hc] at hd
            obtain ⟨e1, e2⟩ := decU_no hd
            rw [e1, e2]
            first
             |(exact ⟨_, rfl, rfl, kk⟩)
             |(have h2 : (unpR i2.s).2 = 2 := (unpR_err _).resolve_left (by assumption)
               refine ⟨_, rfl, ?_, kk⟩
               rw [← h2]
               rfl)
             |(exfalso; exact hc ⟨by assumption, by omega, by omega, by omega, by assumption⟩))
       ·refine WL.t (WC.qa rfl (WC.skip (WX.qa (WC.seq (?_)))))
        obtain ⟨b0, o0, rfl⟩ := hq.rsl.place hi1
        refine WC.qc ((fun x => x = g_1)) [0, 1, 2, 3, 4, 5, 7] [6] mixed rfl rfl (fun wd_9 kd_9 zd_9 => ?_)
        replace kk := kk.pure kd_9
        replace hb_1 := hb_1.pure kd_9
        replace hq := hq.pure kd_9
        replace hb_7 := hb_7.pure kd_9
        apply DQ.step [(4, _)] rfl ⟨rfl, trivial⟩ rfl (fun _ _ => WL.move rfl rfl  WL.q)
        apply DQ.step [(60, _)] rfl ⟨rfl, trivial⟩ rfl
        ·intro wq_12 kq_12
         replace hq := hq.chg kq_12 (by intro b h1 h2 h3; have h4 : _ = _ := h3; (try dsimp only at h2); exfalso; omega)
         refine WL.qh hq.rsl Tryz.underlying117 Tryz.sizeOf116 rfl rfl ⟨hi1, rfl⟩ rfl (WL.q)
        apply DQ.step [(61, _)] rfl ⟨rfl, trivial⟩ rfl (fun _ _ => WL.fieldAddr (fld_116_1) rfl rfl  WL.q)
        apply DQ.step [(62, _)] rfl ⟨rfl, trivial⟩ rfl
        ·intro wq_14 kq_14
         replace hq := hq.chg kq_14 (by intro b h1 h2 h3; have h4 : _ = _ := h3; (try dsimp only at h2); exfalso; omega)
         refine WL.load Tryz.isAgg3 rfl ((hq.rsl.cellsAt hi1) _ _ rfl) rfl (WL.q)
        apply DQ.step [(6, _)] rfl ⟨rfl, trivial⟩ rfl
        ·intro wq_15 kq_15
         replace hb_7 := hb_7.chg kq_15 (by intro h1; have h2 : _ = _ := h1; exfalso; omega)
         refine WL.qq Tryz.isAgg38 Tryz.sizeOf38 hb_7 rfl (by rfl) rfl (?_)
         exact WL.q
        apply DQ.step [(63, _), (64, _)] rfl ⟨rfl, rfl, trivial⟩ rfl (fun _ _ => WL.bld rfl (bld_41_0_1 _ _ _ _ _) rfl  WL.q)
        apply DQ.step (E' := [])
        case ho => rfl
        case hs => exact trivial
        case hk => rfl
        case h1 =>
         intro wq_17 kq_17
         refine WL.assign rfl rfl (WL.q)
        refine DQ.done (fun hd_10 => ?_)
        refine DL.step [(2, _), (65, _)] rfl ⟨rfl, rfl, trivial⟩ rfl (fun wq_18 kq_18 => ?_)
        replace kk := kk.pure kq_18
        replace hb_1 := hb_1.pure kq_18
        replace hd_10 := hd_10.pure kq_18
        refine WL.qf Tryz.sizeOf41 hb_1 rfl rfl (by simp; done) (by simp [Value.oneCell']; done) (by simp [Value.cells]; done) rfl ?_
        intro w_19 hs_19 hn_19 k_19
        replace kk := kk.chg k_19 (by intro x h1 h2; have h3 : _ = _ := h2; exfalso; omega)
        replace hd_10 := hd_10.chg k_19 (by intro x h1 h2; exact h2)
        replace hb_1 := hn_19
        refine WL.nil (WX.qk (v := undef) ⟨hd_10, ?_⟩)
        refine DL.done (fun we_20 ke_20 => ?_)
        replace kk := kk.pure ke_20
        replace hb_1 := hb_1.pure ke_20
        refine WX.qa (WC.ret (WX.qj (.inl rfl) Tryz.results87 Tryz.isAgg41 Tryz.sizeOf41 hb_1 rfl (by rfl) rfl ?_))
        first
         |(have hz : unE b ≠ 0 := h13
           obtain ⟨e1, e2⟩ := decU_no (decU_bad (b := b) (.inl hz))
           rw [e1, e2]
           exact ⟨_, rfl, rfl, kk⟩)
         |(have hz : (L.length : Int) ≠ 3 := h17
           obtain ⟨e1, e2⟩ := decU_no (decU_bad (b := b) (.inr (fun h9 => hz (by rw [eL, h9]; rfl))))
           rw [e1, e2]
           exact ⟨_, rfl, rfl, kk⟩)
         |(have hz : unE b = 0 := h13
           have hz2 : L = [i0, i1, i2] := hL
           have hd := decU_three (b := b) hz (eL ▸ hz2)
           by_cases hc : i0 = ⟨1, 77, ⟨#[]⟩⟩ ∧ i1.kind = 1 ∧ 1 ≤ i1.n ∧ i2.kind = 2 ∧ (unpR i2.s).2 = 0
           ·rw [if_pos hc] at hd
            obtain ⟨e1, e2⟩ := decU_yes hd
            rw [e1, e2]
            obtain ⟨c1, c2, c3, c4, c5⟩ := hc
            first
             |(exact ⟨_, rfl, rfl, kk⟩)
             |(exfalso; omega)
             |(exfalso; first | exact absurd c1 (by assumption) | exact absurd c5 (by assumption))
           ·rw [if_neg hc] at hd
            obtain ⟨e1, e2⟩ := decU_no hd
            rw [e1, e2]
            first
             |(exact ⟨_, rfl, rfl, kk⟩)
             |(have h2 : (unpR i2.s).2 = 2 := (unpR_err _).resolve_left (by assumption)
               refine ⟨_, rfl, ?_, kk⟩
               rw [← h2]
               rfl)
             |(exfalso; exact hc ⟨by assumption, by omega, by omega, by omega, by assumption⟩))
end Go.Proofs.YtjeldcjchipdgaaGreatDoor
