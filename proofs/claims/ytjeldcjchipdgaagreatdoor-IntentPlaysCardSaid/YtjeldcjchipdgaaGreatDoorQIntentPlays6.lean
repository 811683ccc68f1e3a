import Derived.Test.YtjeldcjchipdgaaGreatDoorQIntentPlays5
namespace Go.Proofs.YtjeldcjchipdgaaGreatDoor
open Go.RowKit Go.HL
set_option maxRecDepth 100000
theorem sec_parts {c : List UInt8} (h : c.length ≤ 95) : ((sec c).getD 0 0).toNat = c.length + 32 ∧ ((sec c).take (1 + (c.length + 32))).drop 1 = c ++ sumB c ∧ (sec c).drop (1 + (c.length + 32)) = List.replicate (95 - c.length) 0 := by
 have hl : (c ++ sumB c).length = c.length + 32 := by rw [List.length_append, sumB_len]
 refine ⟨?_, ?_, ?_⟩
 ·show (B8 ((c.length : Int) + 32)).toNat = _
  rw [B8]
  have e1 : ((c.length : Int) + 32) % 256 = (c.length : Int) + 32 := Int.emod_eq_of_lt (by omega) (by omega)
  rw [e1, UInt8.toNat_ofNat']
  omega
 ·rw [sec, show 1 + (c.length + 32) = (c.length + 32) + 1 from by omega, List.cons_append, List.take_succ_cons, List.drop_succ_cons, List.drop_zero, List.take_append_of_le_length (by omega), ← hl, List.take_length]
 ·rw [sec, show 1 + (c.length + 32) = (c.length + 32) + 1 from by omega, List.cons_append, List.drop_succ_cons, ← hl, List.drop_left]
theorem open_sealed (c : List UInt8) : openR (c ++ sumB c) = (c, 0) := by
 have hl : (c ++ sumB c).length = c.length + 32 := by rw [List.length_append, sumB_len]
 rw [openR, hl, show c.length + 32 - 32 = c.length from by omega, List.take_left, List.drop_left, if_pos ⟨by omega, rfl⟩]
theorem open_parts {s : List UInt8} (h : (openR s).2 = 0) : s = (openR s).1 ++ sumB (openR s).1 ∧ (openR s).1.length + 32 = s.length := by
 unfold openR at h ⊢
 split at h
 ·rename_i h1
  rw [if_pos h1]
  dsimp only
  rw [h1.2, List.take_append_drop, List.length_take]
  exact ⟨rfl, by omega⟩
 ·cases h
theorem un_sec {l : List Item} (h : secE l = 0) (hg : ∀ i ∈ l, RIt i) : unS (secB l) = some l := by
 have h0 : checkE l = 0 := by
  unfold secE at h
  split at h
  ·assumption
  ·rename_i h1; exact absurd h h1
 have h1 : (encAll l).length ≤ 95 := by
  rw [secE, if_pos h0] at h
  split at h
  ·cases h
  ·omega
 obtain ⟨c1, c2⟩ := checkE_ok h0
 obtain ⟨p1, p2, p3⟩ := sec_parts h1
 rw [secB, if_pos h, unS, p1, p2, p3, open_sealed, if_pos ⟨sec_len h1, by omega, fun x hx => (List.mem_replicate.1 hx).2, rfl⟩]
 exact enc_dec l 0 (by omega) (fun i hi => ⟨(c2 i hi).1, (c2 i hi).2, hg i hi⟩)
theorem un_parts {b : List UInt8} {l : List Item} (h : unS b = some l) : b.length = 128 ∧ (b.getD 0 0).toNat < 128 ∧ (openR ((b.take (1 + (b.getD 0 0).toNat)).drop 1)).2 = 0 ∧ dec 0 (openR ((b.take (1 + (b.getD 0 0).toNat)).drop 1)).1 = some l ∧ (∀ i ∈ l, Good i) ∧ secE l = 0 ∧ secB l = b := by
 unfold unS at h
 split at h
 ·rename_i hc
  obtain ⟨g1, g2, g3, g4⟩ := hc
  obtain ⟨d1, d2, d3⟩ := dec_spec _ _ (Nat.le_refl _) 0 l (by omega) h
  obtain ⟨n, hn⟩ : ∃ n, n = (b.getD 0 0).toNat := ⟨_, rfl⟩
  rw [← hn] at g2 g3 g4 d3 h ⊢
  obtain ⟨s, hs⟩ : ∃ s, s = (b.take (1 + n)).drop 1 := ⟨_, rfl⟩
  rw [← hs] at g4 d3 h ⊢
  obtain ⟨o1, o2⟩ := open_parts g4
  have hsl : s.length = n := by rw [hs, List.length_drop, List.length_take]; omega
  have hE : secE l = 0 := by
   rw [secE, if_pos (icheck_good (by omega) d2), if_neg (by rw [d3]; omega)]
  refine ⟨g1, g2, g4, h, d2, hE, ?_⟩
  rw [secB, if_pos hE, d3, sec, ← o1]
  have e1 : B8 (((openR s).1.length : Int) + 32) = b.getD 0 0 := by
   apply UInt8.toNat_inj.1
   rw [← hn, B8]
   have e2 : (((openR s).1.length : Int) + 32) % 256 = ((openR s).1.length : Int) + 32 := Int.emod_eq_of_lt (by omega) (by omega)
   rw [e2, UInt8.toNat_ofNat']
   omega
  have e3 : List.replicate (95 - (openR s).1.length) 0 = b.drop (1 + n) := by
   refine (List.eq_replicate_iff.2 ⟨?_, g3⟩).symm
   rw [List.length_drop]
   omega
  rw [e1, e3, hs]
  cases b with
  |nil => simp at g1
  |cons x r =>
   simp only [List.getD_cons_zero, Nat.add_comm 1 n, List.take_succ_cons, List.drop_succ_cons, List.drop_zero, List.cons_append, List.take_append_drop]
 ·cases h
theorem un_not {b : List UInt8} (h : ∀ l, unS b = some l → False) : unL b = [] ∧ unE b = 2 := by
 cases hu : unS b with
 |none => exact un_none hu
 |some l => exact (h l hu).elim
theorem un_yes' {b : List UInt8} {l : List Item} (h : unS b = some l) : unL b = l ∧ unE b = 0 := by
 rw [unL, unE, h]
 exact ⟨rfl, rfl⟩
theorem docSector_calls {w : World} {ao : Option Addr} {c : Nat} {l : List Item} (hr : RSl (· < w.heap.size) w eit ao c l) (hl : l.length ≤ 9223372036854775807) (hwf : ∀ i ∈ l, RIt i) :
 Calls Tryz.prog 66 [.slice ao l.length c].toArray w (Ret fun v w' => v = .tuple #[.string ⟨(secB l).toArray⟩, vi (secE l)] ∧ Chg Nob w w') := by
 have kk := Chg.refl Nob w
 refine Calls.of_WC Tryz.func66 rfl Tryz.ntmps66 (by simp) ?_
 refine WC.sr (WL.assign rfl rfl (WL.assign rfl rfl (WL.t (WC.sr (WL.move rfl rfl (WL.call eg_84 rfl rfl (docEncode_calls hr hl hwf) ?_))))))
 rintro v w1 ⟨rfl, k1⟩
 obtain ⟨B, eB⟩ : ∃ B, B = (if checkE l = 0 then encAll l else []) := ⟨_, rfl⟩
 rw [← eB]
 obtain ⟨X, eX⟩ : ∃ X : ByteArray, X = ⟨B.toArray⟩ := ⟨_, rfl⟩
 have hXl : X.size = B.length := by rw [eX]; exact List.size_toArray
 rw [← eX]
 have hBl : B.length ≤ 140737488351232 := by
  rw [eB]
  split
  ·rename_i h0
   obtain ⟨h1, h2⟩ := checkE_ok h0
   have := encAll_len h2
   omega
  ·simp
 replace kk := kk.pure k1
 refine WL.move rfl rfl (WL.extract rfl rfl rfl (WL.extract rfl rfl rfl (WL.assign rfl rfl (WL.assign rfl rfl (WL.t (WC.seq (WC.sr (WL.move rfl rfl (WL.qo rfl rfl rfl (fun h12 => ?_) (fun h12 => ?_))))))))))
 ·refine WL.t (WC.qb rfl (WC.sr (WL.move rfl rfl (WL.assign rfl rfl (WL.assign rfl rfl (WL.t (WC.ret (WX.qb (WX.qi (.inl rfl) Tryz.results66 rfl rfl ?_)))))))))
  first
   |(have h1 : secE l = checkE l := by rw [secE, if_neg h12]
     refine ⟨_, rfl, ?_, kk⟩
     rw [secB, h1, if_neg h12]
     rfl)
   |(have hB : B = encAll l := by rw [eB, if_pos h12]
     have hB2 : 95 < (encAll l).length := by rw [← hB]; omega
     have h1 : secE l = 14 := by rw [secE, if_pos h12, if_pos hB2]
     refine ⟨_, rfl, ?_, kk⟩
     rw [secB, h1, if_neg (by decide)]
     done)
   |(have hB : B = encAll l := by rw [eB, if_pos h12]
     have hB2 : ¬ 95 < (encAll l).length := by rw [← hB]; omega
     have h1 : secE l = 0 := by rw [secE, if_pos h12, if_neg hB2]
     refine ⟨_, rfl, ?_, kk⟩
     rw [eV, sx_append, h1, secB, h1, if_pos rfl, ← hB, hYl]
     rfl)
 ·refine WL.t (WC.qa rfl (WC.skip (WX.qa (WC.seq (WC.sr (WL.move rfl rfl (WL.qr Tryz.underlying9 rfl rfl (WL.qe rfl rfl (by omega) rfl (WL.qe rfl rfl (by omega) rfl (?_))))))))))
  refine WL.qn rfl rfl rfl (fun h18 => ?_) (fun h18 => ?_)
  ·refine WL.t (WC.qb rfl (WC.sr (WL.assign rfl rfl (WL.assign rfl rfl (WL.nil (WX.qa (WC.ret (WX.qb (WX.qi (.inl rfl) Tryz.results66 rfl rfl ?_)))))))))
   first
    |(have h1 : secE l = checkE l := by rw [secE, if_neg h12]
      refine ⟨_, rfl, ?_, kk⟩
      rw [secB, h1, if_neg h12]
      rfl)
    |(have hB : B = encAll l := by rw [eB, if_pos h12]
      have hB2 : 95 < (encAll l).length := by rw [← hB]; omega
      have h1 : secE l = 14 := by rw [secE, if_pos h12, if_pos hB2]
      refine ⟨_, rfl, ?_, kk⟩
      rw [secB, h1, if_neg (by decide)]
      done)
    |(have hB : B = encAll l := by rw [eB, if_pos h12]
      have hB2 : ¬ 95 < (encAll l).length := by rw [← hB]; omega
      have h1 : secE l = 0 := by rw [secE, if_pos h12, if_neg hB2]
      refine ⟨_, rfl, ?_, kk⟩
      rw [eV, sx_append, h1, secB, h1, if_pos rfl, ← hB, hYl]
      rfl)
  ·refine WL.t (WC.qa rfl (WC.skip (WX.qa (WC.sr (WL.move rfl rfl (WL.move rfl rfl (WL.call eg_85 rfl rfl (sum64_calls X _ (by omega)) ?_)))))))
   rintro v w2 ⟨rfl, k2⟩
   replace kk := kk.pure k2
   have hsl := sumB_len B
   have hX2 : X ++ (⟨(sumB X.data.toList).toArray⟩ : ByteArray) = ⟨(B ++ sumB B).toArray⟩ := by rw [eX, sx_append]
   refine WL.qu rfl rfl (by show X.size + (sumB X.data.toList).toArray.size ≤ _; rw [List.size_toArray, sumB_len]; omega) rfl ?_
   rw [hX2]
   obtain ⟨Y, eY⟩ : ∃ Y : ByteArray, Y = ⟨(B ++ sumB B).toArray⟩ := ⟨_, rfl⟩
   have hYl : Y.size = B.length + 32 := by rw [eY]; show (B ++ sumB B).toArray.size = _; rw [List.size_toArray, List.length_append, hsl]
   rw [← eY]
   refine WL.assign rfl rfl (WL.t (WC.seq (WC.drawM (Nob) [0, 1, 2, 5, 7, 8, 9, 14] [3, 4, 6, 10, 11, 12, 13] mixed rfl rfl (fun wd_1 kd_1 zd_1 => ?_))))
   replace kk := kk.pure kd_1
   apply DQT.step (E' := [(4, _)])
   case ho => rfl
   case hs => exact ⟨rfl, trivial⟩
   case hk => rfl
   case h1 =>
    intro wq_3 kq_3
    refine WL.move rfl rfl (WL.q)
   apply DQT.step (E' := [(23, _)])
   case ho => rfl
   case hs => exact ⟨rfl, trivial⟩
   case hk => rfl
   case h1 =>
    intro wq_4 kq_4
    refine WL.qr Tryz.underlying9 rfl rfl (WL.q)
   apply DQT.step (E' := [(24, _)])
   case ho => rfl
   case hs => exact ⟨rfl, trivial⟩
   case hk => rfl
   case h1 =>
    intro wq_5 kq_5
    refine WL.c_i64_u8 Tryz.underlying3 Tryz.underlying5 rfl rfl (WL.q)
   apply DQT.step (E' := [(4, _)])
   case ho => rfl
   case hs => exact ⟨rfl, trivial⟩
   case hk => rfl
   case h1 =>
    intro wq_6 kq_6
    refine WL.move rfl rfl (WL.q)
   apply DQT.step (E' := [(4, _)])
   case ho => rfl
   case hs => exact ⟨rfl, trivial⟩
   case hk => rfl
   case h1 =>
    intro wq_7 kq_7
    refine WL.move rfl rfl (WL.q)
   apply DQT.step (E' := [(30, _)])
   case ho => rfl
   case hs => exact ⟨rfl, trivial⟩
   case hk => rfl
   case h1 =>
    intro wq_8 kq_8
    refine WL.qr Tryz.underlying9 rfl rfl (WL.q)
   apply DQT.step (E' := [(31, _)])
   case ho => rfl
   case hs => exact ⟨rfl, trivial⟩
   case hk => rfl
   case h1 =>
    intro wq_9 kq_9
    refine WL.qj rfl rfl (by constructor <;> omega) rfl ?_
    rw [show ((127 : Int) - Y.size) = ((95 - B.length : Nat) : Int) from by omega]
    exact WL.q
   apply DQT.step (E' := [])
   case ho => rfl
   case hs => exact trivial
   case hk => rfl
   case h1 =>
    intro wq_10 kq_10
    refine WL.assign rfl rfl (WL.q)
   refine DQT.done (fun hd_2 => ?_)
   refine ⟨?_, trivial, trivial, ?_, trivial, trivial, trivial, trivial⟩
   refine DT.step [(25, _)] rfl ⟨rfl, trivial⟩ rfl (fun wq_11 kq_11 => ?_)
   replace kk := kk.pure kq_11
   replace hd_2 := hd_2.pure kq_11
   refine WL.build (e := eb) [B8 (Y.size : Int)] Tryz.underlying51 Tryz.sizeOf5 Tryz.zeroValue5 rfl rfl rfl (by simp [Value.cells] <;> rfl) (by decide) rfl ?_
   intro a_hn w_hn hn l_hn z_hn k_hn
   replace kk := kk.pure k_hn
   replace hd_2 := hd_2.pure k_hn
   refine WL.nil (WX.one ⟨hd_2, ?_⟩)
   refine ⟨?_, trivial, ?_, trivial, trivial, trivial, trivial⟩
   refine DT.step [(26, _)] rfl ⟨rfl, trivial⟩ rfl (fun wq_12 kq_12 => ?_)
   replace kk := kk.pure kq_12
   replace hd_2 := hd_2.pure kq_12
   replace hn := hn.pure kq_12
   refine WL.qp Tryz.underlying51 Tryz.underlying5 Tryz.underlying9 hn.rsl rfl rfl (WL.nil (WX.one ⟨hd_2, ?_⟩))
   refine ⟨?_, ?_, trivial, trivial, trivial, trivial⟩
   refine DT.step [(27, _), (28, _)] rfl ⟨rfl, rfl, trivial⟩ rfl (fun wq_13 kq_13 => ?_)
   replace kk := kk.pure kq_13
   replace hd_2 := hd_2.pure kq_13
   have hV2 : (⟨[B8 (Y.size : Int)].toArray⟩ : ByteArray) ++ Y = ⟨(B8 (Y.size : Int) :: (B ++ sumB B)).toArray⟩ := by rw [eY, sx_append]; rfl
   refine WL.qu rfl rfl (by show [B8 (Y.size : Int)].toArray.size + Y.size ≤ _; rw [hYl]; simp; omega) rfl ?_
   rw [hV2]
   obtain ⟨V, eV⟩ : ∃ V : ByteArray, V = ⟨(B8 (Y.size : Int) :: (B ++ sumB B)).toArray⟩ := ⟨_, rfl⟩
   have hVl : V.size = B.length + 33 := by rw [eV]; show (B8 (Y.size : Int) :: (B ++ sumB B)).toArray.size = _; rw [List.size_toArray, List.length_cons, List.length_append, hsl]
   rw [← eV]
   refine WL.nil (WX.one ⟨hd_2, ?_⟩)
   refine ⟨?_, trivial, trivial, trivial, trivial⟩
   refine DT.step [(32, _)] rfl ⟨rfl, trivial⟩ rfl (fun wq_14 kq_14 => ?_)
   replace kk := kk.pure kq_14
   replace hd_2 := hd_2.pure kq_14
   refine WL.make (e := eb) (0 : UInt8) (95 - B.length) (95 - B.length) Tryz.underlying51 info_5 rfl rfl rfl ⟨rfl, rfl, Nat.le_refl _⟩ (by constructor <;> omega) rfl ?_
   intro g7 w7 hm7 k7 z7 eg7
   replace kk := kk.pure k7
   replace hd_2 := hd_2.pure k7
   refine WL.nil (WX.one ⟨hd_2, ?_⟩)
   refine ⟨?_, trivial, trivial, trivial⟩
   refine DT.step [(33, _)] rfl ⟨rfl, trivial⟩ rfl (fun wq_15 kq_15 => ?_)
   replace kk := kk.pure kq_15
   replace hd_2 := hd_2.pure kq_15
   replace hm7 := hm7.pure kq_15
   have hm8 := hm7.rsl
   refine WL.qp Tryz.underlying51 Tryz.underlying5 Tryz.underlying9 hm8 rfl rfl (WL.nil (WX.one ⟨hd_2, ?_⟩))
   refine ⟨?_, trivial, trivial⟩
   refine DT.step [(29, _), (34, _)] rfl ⟨rfl, rfl, trivial⟩ rfl (fun wq_16 kq_16 => ?_)
   replace kk := kk.pure kq_16
   replace hd_2 := hd_2.pure kq_16
   refine WL.qu rfl rfl (by show V.size + (List.replicate (95 - B.length) (0 : UInt8)).toArray.size ≤ _; rw [List.size_toArray, List.length_replicate]; omega) rfl ?_
   refine WL.nil (WX.one ⟨hd_2, ?_⟩)
   refine ⟨?_, trivial⟩
   refine DT.step [(35, _)] rfl ⟨rfl, trivial⟩ rfl (fun wq_17 kq_17 => ?_)
   replace kk := kk.pure kq_17
   replace hd_2 := hd_2.pure kq_17
   refine WL.assign rfl rfl (WL.nil (WX.one ⟨hd_2, ?_⟩))
   refine DT.done (fun we_18 ke_18 => ?_) _
   replace kk := kk.pure ke_18
   rotate_left
   refine DT.step [(32, _)] rfl ⟨rfl, trivial⟩ rfl (fun wq_13 kq_13 => ?_)
   replace kk := kk.pure kq_13
   replace hd_2 := hd_2.pure kq_13
   refine WL.make (e := eb) (0 : UInt8) (95 - B.length) (95 - B.length) Tryz.underlying51 info_5 rfl rfl rfl ⟨rfl, rfl, Nat.le_refl _⟩ (by constructor <;> omega) rfl ?_
   intro g7 w7 hm7 k7 z7 eg7
   replace kk := kk.pure k7
   replace hd_2 := hd_2.pure k7
   refine WL.nil (WX.one ⟨hd_2, ?_⟩)
   refine ⟨?_, ?_, trivial, trivial, trivial⟩
   refine DT.step [(27, _), (28, _)] rfl ⟨rfl, rfl, trivial⟩ rfl (fun wq_14 kq_14 => ?_)
   replace kk := kk.pure kq_14
   replace hd_2 := hd_2.pure kq_14
   replace hm7 := hm7.pure kq_14
   have hV2 : (⟨[B8 (Y.size : Int)].toArray⟩ : ByteArray) ++ Y = ⟨(B8 (Y.size : Int) :: (B ++ sumB B)).toArray⟩ := by rw [eY, sx_append]; rfl
   refine WL.qu rfl rfl (by show [B8 (Y.size : Int)].toArray.size + Y.size ≤ _; rw [hYl]; simp; omega) rfl ?_
   rw [hV2]
   obtain ⟨V, eV⟩ : ∃ V : ByteArray, V = ⟨(B8 (Y.size : Int) :: (B ++ sumB B)).toArray⟩ := ⟨_, rfl⟩
   have hVl : V.size = B.length + 33 := by rw [eV]; show (B8 (Y.size : Int) :: (B ++ sumB B)).toArray.size = _; rw [List.size_toArray, List.length_cons, List.length_append, hsl]
   rw [← eV]
   refine WL.nil (WX.one ⟨hd_2, ?_⟩)
   refine ⟨?_, trivial, trivial, trivial⟩
   refine DT.step [(33, _)] rfl ⟨rfl, trivial⟩ rfl (fun wq_15 kq_15 => ?_)
   replace kk := kk.pure kq_15
   replace hd_2 := hd_2.pure kq_15
   replace hm7 := hm7.pure kq_15
   have hm8 := hm7.rsl
   refine WL.qp Tryz.underlying51 Tryz.underlying5 Tryz.underlying9 hm8 rfl rfl (WL.nil (WX.one ⟨hd_2, ?_⟩))
   refine ⟨?_, trivial, trivial⟩
   refine DT.step [(29, _), (34, _)] rfl ⟨rfl, rfl, trivial⟩ rfl (fun wq_16 kq_16 => ?_)
   replace kk := kk.pure kq_16
   replace hd_2 := hd_2.pure kq_16
   refine WL.qu rfl rfl (by show V.size + (List.replicate (95 - B.length) (0 : UInt8)).toArray.size ≤ _; rw [List.size_toArray, List.length_replicate]; omega) rfl ?_
   refine WL.nil (WX.one ⟨hd_2, ?_⟩)
   refine ⟨?_, trivial⟩
   refine DT.step [(35, _)] rfl ⟨rfl, trivial⟩ rfl (fun wq_17 kq_17 => ?_)
   replace kk := kk.pure kq_17
   replace hd_2 := hd_2.pure kq_17
   refine WL.assign rfl rfl (WL.nil (WX.one ⟨hd_2, ?_⟩))
   refine DT.done (fun we_18 ke_18 => ?_) _
   replace kk := kk.pure ke_18
   rotate_left
   refine DT.step [(33, _)] rfl ⟨rfl, trivial⟩ rfl (fun wq_14 kq_14 => ?_)
   replace kk := kk.pure kq_14
   replace hd_2 := hd_2.pure kq_14
   replace hm7 := hm7.pure kq_14
   have hm8 := hm7.rsl
   refine WL.qp Tryz.underlying51 Tryz.underlying5 Tryz.underlying9 hm8 rfl rfl (WL.nil (WX.one ⟨hd_2, ?_⟩))
   refine ⟨?_, trivial, trivial, trivial⟩
   refine DT.step [(27, _), (28, _)] rfl ⟨rfl, rfl, trivial⟩ rfl (fun wq_15 kq_15 => ?_)
   replace kk := kk.pure kq_15
   replace hd_2 := hd_2.pure kq_15
   have hV2 : (⟨[B8 (Y.size : Int)].toArray⟩ : ByteArray) ++ Y = ⟨(B8 (Y.size : Int) :: (B ++ sumB B)).toArray⟩ := by rw [eY, sx_append]; rfl
   refine WL.qu rfl rfl (by show [B8 (Y.size : Int)].toArray.size + Y.size ≤ _; rw [hYl]; simp; omega) rfl ?_
   rw [hV2]
   obtain ⟨V, eV⟩ : ∃ V : ByteArray, V = ⟨(B8 (Y.size : Int) :: (B ++ sumB B)).toArray⟩ := ⟨_, rfl⟩
   have hVl : V.size = B.length + 33 := by rw [eV]; show (B8 (Y.size : Int) :: (B ++ sumB B)).toArray.size = _; rw [List.size_toArray, List.length_cons, List.length_append, hsl]
   rw [← eV]
   refine WL.nil (WX.one ⟨hd_2, ?_⟩)
   refine ⟨?_, trivial, trivial⟩
   refine DT.step [(29, _), (34, _)] rfl ⟨rfl, rfl, trivial⟩ rfl (fun wq_16 kq_16 => ?_)
   replace kk := kk.pure kq_16
   replace hd_2 := hd_2.pure kq_16
   refine WL.qu rfl rfl (by show V.size + (List.replicate (95 - B.length) (0 : UInt8)).toArray.size ≤ _; rw [List.size_toArray, List.length_replicate]; omega) rfl ?_
   refine WL.nil (WX.one ⟨hd_2, ?_⟩)
   refine ⟨?_, trivial⟩
   refine DT.step [(35, _)] rfl ⟨rfl, trivial⟩ rfl (fun wq_17 kq_17 => ?_)
   replace kk := kk.pure kq_17
   replace hd_2 := hd_2.pure kq_17
   refine WL.assign rfl rfl (WL.nil (WX.one ⟨hd_2, ?_⟩))
   refine DT.done (fun we_18 ke_18 => ?_) _
   replace kk := kk.pure ke_18
   rotate_left
   refine DT.step [(32, _)] rfl ⟨rfl, trivial⟩ rfl (fun wq_12 kq_12 => ?_)
   replace kk := kk.pure kq_12
   replace hd_2 := hd_2.pure kq_12
   replace hn := hn.pure kq_12
   refine WL.make (e := eb) (0 : UInt8) (95 - B.length) (95 - B.length) Tryz.underlying51 info_5 rfl rfl rfl ⟨rfl, rfl, Nat.le_refl _⟩ (by constructor <;> omega) rfl ?_
   intro g7 w7 hm7 k7 z7 eg7
   replace kk := kk.pure k7
   replace hd_2 := hd_2.pure k7
   replace hn := hn.pure k7
   refine WL.nil (WX.one ⟨hd_2, ?_⟩)
   refine ⟨?_, trivial, ?_, trivial, trivial, trivial⟩
   refine DT.step [(26, _)] rfl ⟨rfl, trivial⟩ rfl (fun wq_13 kq_13 => ?_)
   replace kk := kk.pure kq_13
   replace hd_2 := hd_2.pure kq_13
   replace hn := hn.pure kq_13
   replace hm7 := hm7.pure kq_13
   refine WL.qp Tryz.underlying51 Tryz.underlying5 Tryz.underlying9 hn.rsl rfl rfl (WL.nil (WX.one ⟨hd_2, ?_⟩))
   refine ⟨?_, ?_, trivial, trivial, trivial⟩
   refine DT.step [(27, _), (28, _)] rfl ⟨rfl, rfl, trivial⟩ rfl (fun wq_14 kq_14 => ?_)
   replace kk := kk.pure kq_14
   replace hd_2 := hd_2.pure kq_14
   replace hm7 := hm7.pure kq_14
   have hV2 : (⟨[B8 (Y.size : Int)].toArray⟩ : ByteArray) ++ Y = ⟨(B8 (Y.size : Int) :: (B ++ sumB B)).toArray⟩ := by rw [eY, sx_append]; rfl
   refine WL.qu rfl rfl (by show [B8 (Y.size : Int)].toArray.size + Y.size ≤ _; rw [hYl]; simp; omega) rfl ?_
   rw [hV2]
   obtain ⟨V, eV⟩ : ∃ V : ByteArray, V = ⟨(B8 (Y.size : Int) :: (B ++ sumB B)).toArray⟩ := ⟨_, rfl⟩
   have hVl : V.size = B.length + 33 := by rw [eV]; show (B8 (Y.size : Int) :: (B ++ sumB B)).toArray.size = _; rw [List.size_toArray, List.length_cons, List.length_append, hsl]
   rw [← eV]
   refine WL.nil (WX.one ⟨hd_2, ?_⟩)
   refine ⟨?_, trivial, trivial, trivial⟩
   refine DT.step [(33, _)] rfl ⟨rfl, trivial⟩ rfl (fun wq_15 kq_15 => ?_)
   replace kk := kk.pure kq_15
   replace hd_2 := hd_2.pure kq_15
   replace hm7 := hm7.pure kq_15
   have hm8 := hm7.rsl
   refine WL.qp Tryz.underlying51 Tryz.underlying5 Tryz.underlying9 hm8 rfl rfl (WL.nil (WX.one ⟨hd_2, ?_⟩))
   refine ⟨?_, trivial, trivial⟩
   refine DT.step [(29, _), (34, _)] rfl ⟨rfl, rfl, trivial⟩ rfl (fun wq_16 kq_16 => ?_)
   replace kk := kk.pure kq_16
   replace hd_2 := hd_2.pure kq_16
   refine WL.qu rfl rfl (by show V.size + (List.replicate (95 - B.length) (0 : UInt8)).toArray.size ≤ _; rw [List.size_toArray, List.length_replicate]; omega) rfl ?_
   refine WL.nil (WX.one ⟨hd_2, ?_⟩)
   refine ⟨?_, trivial⟩
   refine DT.step [(35, _)] rfl ⟨rfl, trivial⟩ rfl (fun wq_17 kq_17 => ?_)
   replace kk := kk.pure kq_17
   replace hd_2 := hd_2.pure kq_17
   refine WL.assign rfl rfl (WL.nil (WX.one ⟨hd_2, ?_⟩))
   refine DT.done (fun we_18 ke_18 => ?_) _
   replace kk := kk.pure ke_18
   rotate_left
   refine DT.step [(33, _)] rfl ⟨rfl, trivial⟩ rfl (fun wq_14 kq_14 => ?_)
   replace kk := kk.pure kq_14
   replace hd_2 := hd_2.pure kq_14
   replace hm7 := hm7.pure kq_14
   have hm8 := hm7.rsl
   refine WL.qp Tryz.underlying51 Tryz.underlying5 Tryz.underlying9 hm8 rfl rfl (WL.nil (WX.one ⟨hd_2, ?_⟩))
   refine ⟨?_, trivial, trivial, trivial⟩
   refine DT.step [(27, _), (28, _)] rfl ⟨rfl, rfl, trivial⟩ rfl (fun wq_15 kq_15 => ?_)
   replace kk := kk.pure kq_15
   replace hd_2 := hd_2.pure kq_15
   have hV2 : (⟨[B8 (Y.size : Int)].toArray⟩ : ByteArray) ++ Y = ⟨(B8 (Y.size : Int) :: (B ++ sumB B)).toArray⟩ := by rw [eY, sx_append]; rfl
   refine WL.qu rfl rfl (by show [B8 (Y.size : Int)].toArray.size + Y.size ≤ _; rw [hYl]; simp; omega) rfl ?_
   rw [hV2]
   obtain ⟨V, eV⟩ : ∃ V : ByteArray, V = ⟨(B8 (Y.size : Int) :: (B ++ sumB B)).toArray⟩ := ⟨_, rfl⟩
   have hVl : V.size = B.length + 33 := by rw [eV]; show (B8 (Y.size : Int) :: (B ++ sumB B)).toArray.size = _; rw [List.size_toArray, List.length_cons, List.length_append, hsl]
   rw [← eV]
   refine WL.nil (WX.one ⟨hd_2, ?_⟩)
   refine ⟨?_, trivial, trivial⟩
   refine DT.step [(29, _), (34, _)] rfl ⟨rfl, rfl, trivial⟩ rfl (fun wq_16 kq_16 => ?_)
   replace kk := kk.pure kq_16
   replace hd_2 := hd_2.pure kq_16
   refine WL.qu rfl rfl (by show V.size + (List.replicate (95 - B.length) (0 : UInt8)).toArray.size ≤ _; rw [List.size_toArray, List.length_replicate]; omega) rfl ?_
   refine WL.nil (WX.one ⟨hd_2, ?_⟩)
   refine ⟨?_, trivial⟩
   refine DT.step [(35, _)] rfl ⟨rfl, trivial⟩ rfl (fun wq_17 kq_17 => ?_)
   replace kk := kk.pure kq_17
   replace hd_2 := hd_2.pure kq_17
   refine WL.assign rfl rfl (WL.nil (WX.one ⟨hd_2, ?_⟩))
   refine DT.done (fun we_18 ke_18 => ?_) _
   replace kk := kk.pure ke_18
   rotate_left
   refine DT.step [(33, _)] rfl ⟨rfl, trivial⟩ rfl (fun wq_13 kq_13 => ?_)
   replace kk := kk.pure kq_13
   replace hd_2 := hd_2.pure kq_13
   replace hn := hn.pure kq_13
   replace hm7 := hm7.pure kq_13
   have hm8 := hm7.rsl
   refine WL.qp Tryz.underlying51 Tryz.underlying5 Tryz.underlying9 hm8 rfl rfl (WL.nil (WX.one ⟨hd_2, ?_⟩))
   refine ⟨?_, trivial, trivial, trivial, trivial⟩
   refine DT.step [(26, _)] rfl ⟨rfl, trivial⟩ rfl (fun wq_14 kq_14 => ?_)
   replace kk := kk.pure kq_14
   replace hd_2 := hd_2.pure kq_14
   replace hn := hn.pure kq_14
   refine WL.qp Tryz.underlying51 Tryz.underlying5 Tryz.underlying9 hn.rsl rfl rfl (WL.nil (WX.one ⟨hd_2, ?_⟩))
   refine ⟨?_, trivial, trivial, trivial⟩
   refine DT.step [(27, _), (28, _)] rfl ⟨rfl, rfl, trivial⟩ rfl (fun wq_15 kq_15 => ?_)
   replace kk := kk.pure kq_15
   replace hd_2 := hd_2.pure kq_15
   have hV2 : (⟨[B8 (Y.size : Int)].toArray⟩ : ByteArray) ++ Y = ⟨(B8 (Y.size : Int) :: (B ++ sumB B)).toArray⟩ := by rw [eY, sx_append]; rfl
   refine WL.qu rfl rfl (by show [B8 (Y.size : Int)].toArray.size + Y.size ≤ _; rw [hYl]; simp; omega) rfl ?_
   rw [hV2]
   obtain ⟨V, eV⟩ : ∃ V : ByteArray, V = ⟨(B8 (Y.size : Int) :: (B ++ sumB B)).toArray⟩ := ⟨_, rfl⟩
   have hVl : V.size = B.length + 33 := by rw [eV]; show (B8 (Y.size : Int) :: (B ++ sumB B)).toArray.size = _; rw [List.size_toArray, List.length_cons, List.length_append, hsl]
   rw [← eV]
   refine WL.nil (WX.one ⟨hd_2, ?_⟩)
   refine ⟨?_, trivial, trivial⟩
   refine DT.step [(29, _), (34, _)] rfl ⟨rfl, rfl, trivial⟩ rfl (fun wq_16 kq_16 => ?_)
   replace kk := kk.pure kq_16
   replace hd_2 := hd_2.pure kq_16
   refine WL.qu rfl rfl (by show V.size + (List.replicate (95 - B.length) (0 : UInt8)).toArray.size ≤ _; rw [List.size_toArray, List.length_replicate]; omega) rfl ?_
   refine WL.nil (WX.one ⟨hd_2, ?_⟩)
   refine ⟨?_, trivial⟩
   refine DT.step [(35, _)] rfl ⟨rfl, trivial⟩ rfl (fun wq_17 kq_17 => ?_)
   replace kk := kk.pure kq_17
   replace hd_2 := hd_2.pure kq_17
   refine WL.assign rfl rfl (WL.nil (WX.one ⟨hd_2, ?_⟩))
   refine DT.done (fun we_18 ke_18 => ?_) _
   replace kk := kk.pure ke_18
   rotate_left
   refine DT.step [(32, _)] rfl ⟨rfl, trivial⟩ rfl (fun wq_11 kq_11 => ?_)
   replace kk := kk.pure kq_11
   replace hd_2 := hd_2.pure kq_11
   refine WL.make (e := eb) (0 : UInt8) (95 - B.length) (95 - B.length) Tryz.underlying51 info_5 rfl rfl rfl ⟨rfl, rfl, Nat.le_refl _⟩ (by constructor <;> omega) rfl ?_
   intro g7 w7 hm7 k7 z7 eg7
   replace kk := kk.pure k7
   replace hd_2 := hd_2.pure k7
   refine WL.nil (WX.one ⟨hd_2, ?_⟩)
   refine ⟨?_, trivial, trivial, ?_, trivial, trivial, trivial⟩
   refine DT.step [(25, _)] rfl ⟨rfl, trivial⟩ rfl (fun wq_12 kq_12 => ?_)
   replace kk := kk.pure kq_12
   replace hd_2 := hd_2.pure kq_12
   replace hm7 := hm7.pure kq_12
   refine WL.build (e := eb) [B8 (Y.size : Int)] Tryz.underlying51 Tryz.sizeOf5 Tryz.zeroValue5 rfl rfl rfl (by simp [Value.cells] <;> rfl) (by decide) rfl ?_
   intro a_hn w_hn hn l_hn z_hn k_hn
   replace kk := kk.pure k_hn
   replace hd_2 := hd_2.pure k_hn
   replace hm7 := hm7.pure k_hn
   refine WL.nil (WX.one ⟨hd_2, ?_⟩)
   refine ⟨?_, trivial, ?_, trivial, trivial, trivial⟩
   refine DT.step [(26, _)] rfl ⟨rfl, trivial⟩ rfl (fun wq_13 kq_13 => ?_)
   replace kk := kk.pure kq_13
   replace hd_2 := hd_2.pure kq_13
   replace hm7 := hm7.pure kq_13
   replace hn := hn.pure kq_13
   refine WL.qp Tryz.underlying51 Tryz.underlying5 Tryz.underlying9 hn.rsl rfl rfl (WL.nil (WX.one ⟨hd_2, ?_⟩))
   refine ⟨?_, ?_, trivial, trivial, trivial⟩
   refine DT.step [(27, _), (28, _)] rfl ⟨rfl, rfl, trivial⟩ rfl (fun wq_14 kq_14 => ?_)
   replace kk := kk.pure kq_14
   replace hd_2 := hd_2.pure kq_14
   replace hm7 := hm7.pure kq_14
   have hV2 : (⟨[B8 (Y.size : Int)].toArray⟩ : ByteArray) ++ Y = ⟨(B8 (Y.size : Int) :: (B ++ sumB B)).toArray⟩ := by rw [eY, sx_append]; rfl
   refine WL.qu rfl rfl (by show [B8 (Y.size : Int)].toArray.size + Y.size ≤ _; rw [hYl]; simp; omega) rfl ?_
   rw [hV2]
   obtain ⟨V, eV⟩ : ∃ V : ByteArray, V = ⟨(B8 (Y.size : Int) :: (B ++ sumB B)).toArray⟩ := ⟨_, rfl⟩
   have hVl : V.size = B.length + 33 := by rw [eV]; show (B8 (Y.size : Int) :: (B ++ sumB B)).toArray.size = _; rw [List.size_toArray, List.length_cons, List.length_append, hsl]
   rw [← eV]
   refine WL.nil (WX.one ⟨hd_2, ?_⟩)
   refine ⟨?_, trivial, trivial, trivial⟩
   refine DT.step [(33, _)] rfl ⟨rfl, trivial⟩ rfl (fun wq_15 kq_15 => ?_)
   replace kk := kk.pure kq_15
   replace hd_2 := hd_2.pure kq_15
   replace hm7 := hm7.pure kq_15
   have hm8 := hm7.rsl
   refine WL.qp Tryz.underlying51 Tryz.underlying5 Tryz.underlying9 hm8 rfl rfl (WL.nil (WX.one ⟨hd_2, ?_⟩))
   refine ⟨?_, trivial, trivial⟩
   refine DT.step [(29, _), (34, _)] rfl ⟨rfl, rfl, trivial⟩ rfl (fun wq_16 kq_16 => ?_)
   replace kk := kk.pure kq_16
   replace hd_2 := hd_2.pure kq_16
   refine WL.qu rfl rfl (by show V.size + (List.replicate (95 - B.length) (0 : UInt8)).toArray.size ≤ _; rw [List.size_toArray, List.length_replicate]; omega) rfl ?_
   refine WL.nil (WX.one ⟨hd_2, ?_⟩)
   refine ⟨?_, trivial⟩
   refine DT.step [(35, _)] rfl ⟨rfl, trivial⟩ rfl (fun wq_17 kq_17 => ?_)
   replace kk := kk.pure kq_17
   replace hd_2 := hd_2.pure kq_17
   refine WL.assign rfl rfl (WL.nil (WX.one ⟨hd_2, ?_⟩))
   refine DT.done (fun we_18 ke_18 => ?_) _
   replace kk := kk.pure ke_18
   rotate_left
   refine DT.step [(33, _)] rfl ⟨rfl, trivial⟩ rfl (fun wq_14 kq_14 => ?_)
   replace kk := kk.pure kq_14
   replace hd_2 := hd_2.pure kq_14
   replace hm7 := hm7.pure kq_14
   have hm8 := hm7.rsl
   refine WL.qp Tryz.underlying51 Tryz.underlying5 Tryz.underlying9 hm8 rfl rfl (WL.nil (WX.one ⟨hd_2, ?_⟩))
   refine ⟨?_, trivial, trivial, trivial⟩
   refine DT.step [(27, _), (28, _)] rfl ⟨rfl, rfl, trivial⟩ rfl (fun wq_15 kq_15 => ?_)
   replace kk := kk.pure kq_15
   replace hd_2 := hd_2.pure kq_15
   have hV2 : (⟨[B8 (Y.size : Int)].toArray⟩ : ByteArray) ++ Y = ⟨(B8 (Y.size : Int) :: (B ++ sumB B)).toArray⟩ := by rw [eY, sx_append]; rfl
   refine WL.qu rfl rfl (by show [B8 (Y.size : Int)].toArray.size + Y.size ≤ _; rw [hYl]; simp; omega) rfl ?_
   rw [hV2]
   obtain ⟨V, eV⟩ : ∃ V : ByteArray, V = ⟨(B8 (Y.size : Int) :: (B ++ sumB B)).toArray⟩ := ⟨_, rfl⟩
   have hVl : V.size = B.length + 33 := by rw [eV]; show (B8 (Y.size : Int) :: (B ++ sumB B)).toArray.size = _; rw [List.size_toArray, List.length_cons, List.length_append, hsl]
   rw [← eV]
   refine WL.nil (WX.one ⟨hd_2, ?_⟩)
   refine ⟨?_, trivial, trivial⟩
   refine DT.step [(29, _), (34, _)] rfl ⟨rfl, rfl, trivial⟩ rfl (fun wq_16 kq_16 => ?_)
   replace kk := kk.pure kq_16
   replace hd_2 := hd_2.pure kq_16
   refine WL.qu rfl rfl (by show V.size + (List.replicate (95 - B.length) (0 : UInt8)).toArray.size ≤ _; rw [List.size_toArray, List.length_replicate]; omega) rfl ?_
   refine WL.nil (WX.one ⟨hd_2, ?_⟩)
   refine ⟨?_, trivial⟩
   refine DT.step [(35, _)] rfl ⟨rfl, trivial⟩ rfl (fun wq_17 kq_17 => ?_)
   replace kk := kk.pure kq_17
   replace hd_2 := hd_2.pure kq_17
   refine WL.assign rfl rfl (WL.nil (WX.one ⟨hd_2, ?_⟩))
   refine DT.done (fun we_18 ke_18 => ?_) _
   replace kk := kk.pure ke_18
   rotate_left
   refine DT.step [(33, _)] rfl ⟨rfl, trivial⟩ rfl (fun wq_13 kq_13 => ?_)
   replace kk := kk.pure kq_13
   replace hd_2 := hd_2.pure kq_13
   replace hm7 := hm7.pure kq_13
   replace hn := hn.pure kq_13
   have hm8 := hm7.rsl
   refine WL.qp Tryz.underlying51 Tryz.underlying5 Tryz.underlying9 hm8 rfl rfl (WL.nil (WX.one ⟨hd_2, ?_⟩))
   refine ⟨?_, trivial, trivial, trivial, trivial⟩
   refine DT.step [(26, _)] rfl ⟨rfl, trivial⟩ rfl (fun wq_14 kq_14 => ?_)
   replace kk := kk.pure kq_14
   replace hd_2 := hd_2.pure kq_14
   replace hn := hn.pure kq_14
   refine WL.qp Tryz.underlying51 Tryz.underlying5 Tryz.underlying9 hn.rsl rfl rfl (WL.nil (WX.one ⟨hd_2, ?_⟩))
   refine ⟨?_, trivial, trivial, trivial⟩
   refine DT.step [(27, _), (28, _)] rfl ⟨rfl, rfl, trivial⟩ rfl (fun wq_15 kq_15 => ?_)
   replace kk := kk.pure kq_15
   replace hd_2 := hd_2.pure kq_15
   have hV2 : (⟨[B8 (Y.size : Int)].toArray⟩ : ByteArray) ++ Y = ⟨(B8 (Y.size : Int) :: (B ++ sumB B)).toArray⟩ := by rw [eY, sx_append]; rfl
   refine WL.qu rfl rfl (by show [B8 (Y.size : Int)].toArray.size + Y.size ≤ _; rw [hYl]; simp; omega) rfl ?_
   rw [hV2]
   obtain ⟨V, eV⟩ : ∃ V : ByteArray, V = ⟨(B8 (Y.size : Int) :: (B ++ sumB B)).toArray⟩ := ⟨_, rfl⟩
   have hVl : V.size = B.length + 33 := by rw [eV]; show (B8 (Y.size : Int) :: (B ++ sumB B)).toArray.size = _; rw [List.size_toArray, List.length_cons, List.length_append, hsl]
   rw [← eV]
   refine WL.nil (WX.one ⟨hd_2, ?_⟩)
   refine ⟨?_, trivial, trivial⟩
   refine DT.step [(29, _), (34, _)] rfl ⟨rfl, rfl, trivial⟩ rfl (fun wq_16 kq_16 => ?_)
   replace kk := kk.pure kq_16
   replace hd_2 := hd_2.pure kq_16
   refine WL.qu rfl rfl (by show V.size + (List.replicate (95 - B.length) (0 : UInt8)).toArray.size ≤ _; rw [List.size_toArray, List.length_replicate]; omega) rfl ?_
   refine WL.nil (WX.one ⟨hd_2, ?_⟩)
   refine ⟨?_, trivial⟩
   refine DT.step [(35, _)] rfl ⟨rfl, trivial⟩ rfl (fun wq_17 kq_17 => ?_)
   replace kk := kk.pure kq_17
   replace hd_2 := hd_2.pure kq_17
   refine WL.assign rfl rfl (WL.nil (WX.one ⟨hd_2, ?_⟩))
   refine DT.done (fun we_18 ke_18 => ?_) _
   replace kk := kk.pure ke_18
   rotate_left
   refine DT.step [(33, _)] rfl ⟨rfl, trivial⟩ rfl (fun wq_12 kq_12 => ?_)
   replace kk := kk.pure kq_12
   replace hd_2 := hd_2.pure kq_12
   replace hm7 := hm7.pure kq_12
   have hm8 := hm7.rsl
   refine WL.qp Tryz.underlying51 Tryz.underlying5 Tryz.underlying9 hm8 rfl rfl (WL.nil (WX.one ⟨hd_2, ?_⟩))
   refine ⟨?_, trivial, trivial, trivial, trivial, trivial⟩
   refine DT.step [(25, _)] rfl ⟨rfl, trivial⟩ rfl (fun wq_13 kq_13 => ?_)
   replace kk := kk.pure kq_13
   replace hd_2 := hd_2.pure kq_13
   refine WL.build (e := eb) [B8 (Y.size : Int)] Tryz.underlying51 Tryz.sizeOf5 Tryz.zeroValue5 rfl rfl rfl (by simp [Value.cells] <;> rfl) (by decide) rfl ?_
   intro a_hn w_hn hn l_hn z_hn k_hn
   replace kk := kk.pure k_hn
   replace hd_2 := hd_2.pure k_hn
   refine WL.nil (WX.one ⟨hd_2, ?_⟩)
   refine ⟨?_, trivial, trivial, trivial, trivial⟩
   refine DT.step [(26, _)] rfl ⟨rfl, trivial⟩ rfl (fun wq_14 kq_14 => ?_)
   replace kk := kk.pure kq_14
   replace hd_2 := hd_2.pure kq_14
   replace hn := hn.pure kq_14
   refine WL.qp Tryz.underlying51 Tryz.underlying5 Tryz.underlying9 hn.rsl rfl rfl (WL.nil (WX.one ⟨hd_2, ?_⟩))
   refine ⟨?_, trivial, trivial, trivial⟩
   refine DT.step [(27, _), (28, _)] rfl ⟨rfl, rfl, trivial⟩ rfl (fun wq_15 kq_15 => ?_)
   replace kk := kk.pure kq_15
   replace hd_2 := hd_2.pure kq_15
   have hV2 : (⟨[B8 (Y.size : Int)].toArray⟩ : ByteArray) ++ Y = ⟨(B8 (Y.size : Int) :: (B ++ sumB B)).toArray⟩ := by rw [eY, sx_append]; rfl
   refine WL.qu rfl rfl (by show [B8 (Y.size : Int)].toArray.size + Y.size ≤ _; rw [hYl]; simp; omega) rfl ?_
   rw [hV2]
   obtain ⟨V, eV⟩ : ∃ V : ByteArray, V = ⟨(B8 (Y.size : Int) :: (B ++ sumB B)).toArray⟩ := ⟨_, rfl⟩
   have hVl : V.size = B.length + 33 := by rw [eV]; show (B8 (Y.size : Int) :: (B ++ sumB B)).toArray.size = _; rw [List.size_toArray, List.length_cons, List.length_append, hsl]
   rw [← eV]
   refine WL.nil (WX.one ⟨hd_2, ?_⟩)
   refine ⟨?_, trivial, trivial⟩
   refine DT.step [(29, _), (34, _)] rfl ⟨rfl, rfl, trivial⟩ rfl (fun wq_16 kq_16 => ?_)
   replace kk := kk.pure kq_16
   replace hd_2 := hd_2.pure kq_16
   refine WL.qu rfl rfl (by show V.size + (List.replicate (95 - B.length) (0 : UInt8)).toArray.size ≤ _; rw [List.size_toArray, List.length_replicate]; omega) rfl ?_
   refine WL.nil (WX.one ⟨hd_2, ?_⟩)
   refine ⟨?_, trivial⟩
   refine DT.step [(35, _)] rfl ⟨rfl, trivial⟩ rfl (fun wq_17 kq_17 => ?_)
   replace kk := kk.pure kq_17
   replace hd_2 := hd_2.pure kq_17
   refine WL.assign rfl rfl (WL.nil (WX.one ⟨hd_2, ?_⟩))
   refine DT.done (fun we_18 ke_18 => ?_) _
   replace kk := kk.pure ke_18
   rotate_left
   all_goals
    refine WX.qa (WC.ret (WX.qi (.inl rfl) Tryz.results66 rfl rfl ?_))
    first
     |(have h1 : secE l = checkE l := by rw [secE, if_neg h12]
       refine ⟨_, rfl, ?_, kk⟩
       rw [secB, h1, if_neg h12]
       rfl)
     |(have hB : B = encAll l := by rw [eB, if_pos h12]
       refine ⟨_, rfl, ?_, kk⟩
       rw [secB, h1, if_neg (by decide)]
       done)
     |(have hB : B = encAll l := by rw [eB, if_pos h12]
       have hB2 : ¬ 95 < (encAll l).length := by rw [← hB]; omega
       have h1 : secE l = 0 := by rw [secE, if_pos h12, if_neg hB2]
       refine ⟨_, rfl, ?_, kk⟩
       rw [eV, sx_append, h1, secB, h1, if_pos rfl, ← hB, hYl]
       rfl)
end Go.Proofs.YtjeldcjchipdgaaGreatDoor
namespace Go.Proofs.YtjeldcjchipdgaaGreatDoor
open Go.RowKit Go.HL
set_option maxRecDepth 100000
theorem ba_ext {X : ByteArray} {b : List UInt8} (h : X.data.toList = b) : X = ⟨b.toArray⟩ := by
 apply ByteArray.ext
 apply Array.ext'
 simpa using h
theorem decE_some {c : List UInt8} (h : decE c = 0) : dec 0 c = some (decL c) := by
 unfold decE at h
 unfold decL
 cases hd : dec 0 c with
 |none => rw [hd] at h; cases h
 |some l => rfl
theorem un_doc {b : List UInt8} {s : List UInt8} {n : Nat} (hn : n = (b.getD 0 0).toNat) (hs : s = (b.take (1 + n)).drop 1) :
 (b.length = 128 ∧ n < 128 ∧ (openR s).2 = 0 ∧ decE (openR s).1 = 0 ∧ secE (decL (openR s).1) = 0 ∧ secB (decL (openR s).1) = b → unL b = decL (openR s).1 ∧ unE b = 0) ∧
 (¬ (b.length = 128 ∧ n < 128 ∧ (openR s).2 = 0 ∧ decE (openR s).1 = 0 ∧ secE (decL (openR s).1) = 0 ∧ secB (decL (openR s).1) = b) → unL b = [] ∧ unE b = 2) := by
 subst hn; subst hs
 constructor
 ·rintro ⟨g1, g2, g3, g4, g5, g6⟩
  have hd := decE_some g4
  obtain ⟨d1, d2, d3⟩ := dec_spec _ _ (Nat.le_refl _) 0 _ (by omega) hd
  have h := un_sec g5 (fun i hi => (d2 i hi).2.2)
  rw [g6] at h
  exact un_yes' h
 ·intro h
  refine un_not (fun l hl => h ?_)
  obtain ⟨p1, p2, p3, p4, p5, p6, p7⟩ := un_parts hl
  have e1 : decL (openR ((b.take (1 + (b.getD 0 0).toNat)).drop 1)).1 = l := by rw [decL, p4]; rfl
  have e2 : decE (openR ((b.take (1 + (b.getD 0 0).toNat)).drop 1)).1 = 0 := by rw [decE, p4]; rfl
  rw [e1, e2]
  exact ⟨p1, p2, p3, rfl, p6, p7⟩
theorem dec_len (c : List UInt8) : (decL c).length ≤ 2000 := by
 unfold decL
 cases h : dec 0 c with
 |none => simp
 |some l => have := (dec_spec _ _ (Nat.le_refl _) 0 l (by omega) h).1; simpa using this
theorem dec_rit (c : List UInt8) : ∀ i ∈ decL c, RIt i := by
 unfold decL
 cases h : dec 0 c with
 |none => simp
 |some l => exact fun i hi => ((dec_spec _ _ (Nat.le_refl _) 0 l (by omega) h).2.1 i hi).2.2
theorem secB_len (l : List Item) : (secB l).length ≤ 128 := by
 unfold secB
 split
 ·rename_i h
  have h1 : (encAll l).length ≤ 95 := by
   unfold secE at h
   split at h
   ·split at h
    ·cases h
    ·omega
   ·rename_i h1; exact absurd h h1
  rw [sec_len h1]
  omega
 ·simp
theorem secB_128 {l : List Item} (h : secE l = 0) : (secB l).length = 128 := by
 have h1 : (encAll l).length ≤ 95 := by
  unfold secE at h
  split at h
  ·split at h
   ·cases h
   ·omega
  ·rename_i h1; exact absurd h h1
 rw [secB, if_pos h, sec_len h1]
theorem docUnsector_calls (X : ByteArray) (w : World) (hl : X.size ≤ 140737488351232) :
 Calls Tryz.prog 106 [.string X].toArray w (Ret fun v w' => (∃ (ao' : Option Addr) (c' : Nat), v = .tuple #[.slice ao' (unL X.data.toList).length c', vi (unE X.data.toList)] ∧ Row (w.heap.size ≤ ·) w' 116 eit ao' c' (unL X.data.toList)) ∧ Chg Nob w w') := by
 have kk := Chg.refl Nob w
 obtain ⟨b, hb⟩ : ∃ b, b = X.data.toList := ⟨_, rfl⟩
 have hbl : b.length = X.size := by rw [hb]; simp
 obtain ⟨n, hn⟩ : ∃ n, n = (b.getD 0 0).toNat := ⟨_, rfl⟩
 obtain ⟨s, hs⟩ : ∃ s, s = (b.take (1 + n)).drop 1 := ⟨_, rfl⟩
 rw [← hb]
 refine Calls.of_WC Tryz.func106 rfl Tryz.ntmps106 (by simp) ?_
 refine WC.sr (WL.assign rfl rfl (WL.assign rfl rfl (WL.t (WC.seq (WC.seq (WC.region (WL.move rfl rfl (WL.qr Tryz.underlying9 rfl rfl (WL.qo rfl rfl rfl (fun h10 => ?_) (fun h10 => ?_))))))))))
 ·refine WL.move rfl rfl (WL.pass rfl rfl rfl rfl (WL.pass rfl rfl rfl rfl (WL.pass rfl rfl rfl rfl (WL.pass rfl rfl rfl rfl (WL.qd rfl rfl rfl (WL.t (WC.qb rfl (WC.sr (WL.assign rfl rfl (WL.assign rfl rfl (WL.t (WC.ret (WX.qb (WX.qi (.inl rfl) Tryz.results106 rfl rfl ?_))))))))))))))
  obtain ⟨hy1, hy2⟩ := un_doc hn hs
  by_cases hc : b.length = 128 ∧ n < 128 ∧ (openR s).2 = 0 ∧ decE (openR s).1 = 0 ∧ secE (decL (openR s).1) = 0 ∧ secB (decL (openR s).1) = b
  ·obtain ⟨u1, u2⟩ := hy1 hc
   obtain ⟨g1, g2, g3, g4, g5, g6⟩ := hc
   rw [u1, u2]
   exfalso; omega
  ·obtain ⟨u1, u2⟩ := hy2 hc
   rw [u1, u2]
   exact ⟨_, rfl, ⟨none, 0, rfl, Row.nil _ _ _ _⟩, kk⟩
 ·refine WL.move rfl rfl (WL.qa rfl rfl rfl (WL.move rfl rfl (WL.qa rfl rfl rfl (?_))))
  obtain ⟨x, hx⟩ : ∃ x, X.data.toList[0]? = some x := ⟨_, List.getElem?_eq_getElem (by rw [← hb]; omega)⟩
  have hxn : x.toNat = n := by rw [hn, List.getD_eq_getElem?_getD, hb, hx]; rfl
  refine WL.sindex Tryz.underlying9 rfl rfl _ rfl _ hx rfl (WL.qa rfl rfl rfl (WL.c_u8_i64 Tryz.underlying5 Tryz.underlying3 rfl rfl (WL.qa rfl rfl rfl (WL.qn rfl rfl rfl (fun h15 => ?_) (fun h15 => ?_)))))
  ·refine WL.qc rfl rfl rfl (WL.t (WC.qb rfl (WC.sr (WL.assign rfl rfl (WL.assign rfl rfl (WL.t (WC.ret (WX.qb (WX.qi (.inl rfl) Tryz.results106 rfl rfl ?_)))))))))
   obtain ⟨hy1, hy2⟩ := un_doc hn hs
   by_cases hc : b.length = 128 ∧ n < 128 ∧ (openR s).2 = 0 ∧ decE (openR s).1 = 0 ∧ secE (decL (openR s).1) = 0 ∧ secB (decL (openR s).1) = b
   ·obtain ⟨u1, u2⟩ := hy1 hc
    obtain ⟨g1, g2, g3, g4, g5, g6⟩ := hc
    rw [u1, u2]
    exfalso; omega
   ·obtain ⟨u1, u2⟩ := hy2 hc
    rw [u1, u2]
    exact ⟨_, rfl, ⟨none, 0, rfl, Row.nil _ _ _ _⟩, kk⟩
  ·refine WL.qc rfl rfl rfl (WL.t (WC.qa rfl (WC.skip (WX.qa (WC.sr (WL.move rfl rfl (WL.move rfl rfl (WL.sindex Tryz.underlying9 rfl rfl _ rfl _ hx rfl ?_))))))))
   refine WL.c_u8_i64 Tryz.underlying5 Tryz.underlying3 rfl rfl (?_)
   refine WL.qe rfl rfl (by constructor <;> omega) rfl ?_
   rw [show ((1 : Int) + x.toNat) = ((1 + n : Nat) : Int) from by omega]
   refine WL.qv (l := 1) (h := 1 + n) Tryz.underlying9 rfl (.inl rfl) (.inl rfl) (by constructor <;> omega) rfl ?_
   have e2 : (X.extract 1 (1 + n)).data.toList = s := by
    rw [hs, hb]
    cases hX : X.data.toList with
    |nil => simp [hX]
    |cons y r => simp [hX, Nat.add_comm 1 n]
   have e3 : (X.extract 1 (1 + n)).size ≤ 4000 := by simp; omega
   refine WL.call eg_119 rfl rfl (docOpen_calls _ _ e3) ?_
   rintro v w2 ⟨rfl, k2⟩
   rw [e2]
   have hsl : s.length ≤ 128 := by rw [hs, List.length_drop, List.length_take]; omega
   have hol := openR_len s
   obtain ⟨Y, eY⟩ : ∃ Y : ByteArray, Y = ⟨(openR s).1.toArray⟩ := ⟨_, rfl⟩
   have hYl : Y.size ≤ 140737488351232 := by rw [eY]; show (openR s).1.toArray.size ≤ _; rw [List.size_toArray]; omega
   rw [← eY]
   have zs_k2 := k2.size
   replace kk := kk.pure k2
   refine WL.move rfl rfl (WL.extract rfl rfl rfl (WL.extract rfl rfl rfl (WL.assign rfl rfl (WL.assign rfl rfl (WL.t (WC.seq (WC.sr (WL.move rfl rfl (WL.qo rfl rfl rfl (fun h28 => ?_) (fun h28 => ?_))))))))))
   ·refine WL.t (WC.qb rfl (WC.sr (WL.assign rfl rfl (WL.assign rfl rfl (WL.nil (WX.qa (WC.ret (WX.qb (WX.qi (.inl rfl) Tryz.results106 rfl rfl ?_)))))))))
    obtain ⟨hy1, hy2⟩ := un_doc hn hs
    by_cases hc : b.length = 128 ∧ n < 128 ∧ (openR s).2 = 0 ∧ decE (openR s).1 = 0 ∧ secE (decL (openR s).1) = 0 ∧ secB (decL (openR s).1) = b
    ·obtain ⟨u1, u2⟩ := hy1 hc
     obtain ⟨g1, g2, g3, g4, g5, g6⟩ := hc
     rw [u1, u2]
     exfalso; omega
    ·obtain ⟨u1, u2⟩ := hy2 hc
     rw [u1, u2]
     exact ⟨_, rfl, ⟨none, 0, rfl, Row.nil _ _ _ _⟩, kk⟩
   ·refine WL.t (WC.qa rfl (WC.skip (WX.qa (WC.sr (WL.move rfl rfl (WL.call eg_120 rfl rfl (rdecode_calls hYl) ?_))))))
    rintro v w3 ⟨⟨a3, c3, rfl, hq⟩, k3⟩
    rw [show Y.data.toList = (openR s).1 from by rw [eY]] at hq ⊢
    replace kk := kk.pure k3
    replace hq := hq.lt
    refine WL.move rfl rfl (WL.extract rfl rfl rfl (WL.extract rfl rfl rfl (WL.assign rfl rfl (WL.assign rfl rfl (WL.t (WC.seq (WC.sr (WL.move rfl rfl (WL.qo rfl rfl rfl (fun h35 => ?_) (fun h35 => ?_))))))))))
    ·refine WL.t (WC.qb rfl (WC.sr (WL.assign rfl rfl (WL.assign rfl rfl (WL.nil (WX.qa (WC.ret (WX.qb (WX.qi (.inl rfl) Tryz.results106 rfl rfl ?_)))))))))
     obtain ⟨hy1, hy2⟩ := un_doc hn hs
     by_cases hc : b.length = 128 ∧ n < 128 ∧ (openR s).2 = 0 ∧ decE (openR s).1 = 0 ∧ secE (decL (openR s).1) = 0 ∧ secB (decL (openR s).1) = b
     ·obtain ⟨u1, u2⟩ := hy1 hc
      obtain ⟨g1, g2, g3, g4, g5, g6⟩ := hc
      rw [u1, u2]
      exfalso; omega
     ·obtain ⟨u1, u2⟩ := hy2 hc
      rw [u1, u2]
      exact ⟨_, rfl, ⟨none, 0, rfl, Row.nil _ _ _ _⟩, kk⟩
    ·refine WL.t (WC.qa rfl (WC.skip (WX.qa (WC.sr (WL.move rfl rfl (?_))))))
     have hq1 := hq.rsl.old
     refine WL.call eg_66 rfl rfl (docSector_calls hq1 (by have := dec_len (openR s).1; omega) (dec_rit _)) ?_
     rintro v w4 ⟨rfl, k4⟩
     replace kk := kk.pure k4
     replace hq := hq.pure k4
     refine WL.move rfl rfl (WL.extract rfl rfl rfl (WL.extract rfl rfl rfl (WL.assign rfl rfl (WL.assign rfl rfl (WL.t (WC.seq (WC.sr (WL.move rfl rfl (WL.qo rfl rfl rfl (fun h42 => ?_) (fun h42 => ?_))))))))))
     ·refine WL.move rfl rfl (WL.pass rfl rfl rfl rfl (WL.pass rfl rfl rfl rfl (WL.pass rfl rfl rfl rfl (WL.qd rfl rfl rfl (WL.t (WC.qb rfl (WC.sr (WL.assign rfl rfl (WL.assign rfl rfl (WL.t (WC.ret (WX.qb (WX.qi (.inl rfl) Tryz.results106 rfl rfl ?_)))))))))))))
      obtain ⟨hy1, hy2⟩ := un_doc hn hs
      by_cases hc : b.length = 128 ∧ n < 128 ∧ (openR s).2 = 0 ∧ decE (openR s).1 = 0 ∧ secE (decL (openR s).1) = 0 ∧ secB (decL (openR s).1) = b
      ·obtain ⟨u1, u2⟩ := hy1 hc
       obtain ⟨g1, g2, g3, g4, g5, g6⟩ := hc
       rw [u1, u2]
       exfalso; omega
      ·obtain ⟨u1, u2⟩ := hy2 hc
       rw [u1, u2]
       exact ⟨_, rfl, ⟨none, 0, rfl, Row.nil _ _ _ _⟩, kk⟩
     ·refine WL.move rfl rfl (WL.qa rfl rfl rfl (WL.move rfl rfl (WL.qa rfl rfl rfl (WL.move rfl rfl (WL.qa rfl rfl rfl (WL.sneq? rfl rfl rfl (fun h46 => ?_) (fun h46 => ?_)))))))
      ·refine WL.qc rfl rfl rfl (WL.t (WC.qb rfl (WC.sr (WL.assign rfl rfl (WL.assign rfl rfl (WL.t (WC.ret (WX.qb (WX.qi (.inl rfl) Tryz.results106 rfl rfl ?_)))))))))
       obtain ⟨hy1, hy2⟩ := un_doc hn hs
       by_cases hc : b.length = 128 ∧ n < 128 ∧ (openR s).2 = 0 ∧ decE (openR s).1 = 0 ∧ secE (decL (openR s).1) = 0 ∧ secB (decL (openR s).1) = b
       ·obtain ⟨u1, u2⟩ := hy1 hc
        obtain ⟨g1, g2, g3, g4, g5, g6⟩ := hc
        rw [u1, u2]
        exfalso; refine h46 ?_; rw [g6]; exact (ba_ext hb.symm).symm
       ·obtain ⟨u1, u2⟩ := hy2 hc
        rw [u1, u2]
        exact ⟨_, rfl, ⟨none, 0, rfl, Row.nil _ _ _ _⟩, kk⟩
      ·refine WL.qc rfl rfl rfl (WL.t (WC.qa rfl (WC.skip (WX.qa (WC.sr (WL.move rfl rfl (WL.assign rfl rfl (WL.assign rfl rfl (WL.t (WC.ret (WX.qi (.inl rfl) Tryz.results106 rfl rfl ?_)))))))))))
       obtain ⟨hy1, hy2⟩ := un_doc hn hs
       by_cases hc : b.length = 128 ∧ n < 128 ∧ (openR s).2 = 0 ∧ decE (openR s).1 = 0 ∧ secE (decL (openR s).1) = 0 ∧ secB (decL (openR s).1) = b
       ·obtain ⟨u1, u2⟩ := hy1 hc
        obtain ⟨g1, g2, g3, g4, g5, g6⟩ := hc
        rw [u1, u2]
        exact ⟨_, rfl, ⟨a3, c3, rfl, hq.mono (fun x hx => by omega)⟩, kk⟩
       ·obtain ⟨u1, u2⟩ := hy2 hc
        rw [u1, u2]
        exfalso
        refine hc ⟨by omega, by omega, h28, h35, h42, ?_⟩
        have h9 := congrArg (fun Z : ByteArray => Z.data.toList) h46
        rw [hb]
        exact h9
end Go.Proofs.YtjeldcjchipdgaaGreatDoor
namespace Go.Proofs.YtjeldcjchipdgaaGreatDoor
open Go.RowKit Go.HL
set_option maxRecDepth 100000
structure PtrV where
 a : Int
 z : Int
 b : Int
 s : ByteArray
theorem PtrV.eq_iff (p q : PtrV) : (p.a = q.a ∧ p.z = q.z ∧ p.b = q.b ∧ p.s = q.s) ↔ p = q := by
 obtain ⟨a, z, b, s⟩ := p
 obtain ⟨a2, z2, b2, s2⟩ := q
 simp
instance : DecidableEq PtrV := fun a b => decidable_of_iff _ (PtrV.eq_iff a b)
def rightP (p : PtrV) : Prop := 0 ≤ p.a ∧ 0 ≤ p.b ∧ 1 ≤ p.z ∧ p.z ≤ 1024 ∧ p.s.size = 32
instance (p : PtrV) : Decidable (rightP p) := by unfold rightP; infer_instance
end Go.Proofs.YtjeldcjchipdgaaGreatDoor
namespace Go.Proofs.YtjeldcjchipdgaaGreatDoor
open Go.RowKit Go.HL
set_option maxRecDepth 100000
theorem good1 {i : Item} (h : Good i) (k : i.kind = 1) : i = ⟨1, i.n, ⟨#[]⟩⟩ := by
 have h2 := h.2.1
 simp only [okI, decide_eq_true_eq] at h2
 obtain ⟨a, b, c⟩ := i
 simp only at k h2 ⊢
 subst k
 rcases h2 with ⟨_, rfl⟩ | ⟨h, _⟩
 ·rfl
 ·cases h
theorem good2 {i : Item} (h : Good i) (k : i.kind = 2) : i = ⟨2, 0, i.s⟩ := by
 have h2 := h.2.1
 simp only [okI, decide_eq_true_eq] at h2
 obtain ⟨a, b, c⟩ := i
 simp only at k h2 ⊢
 subst k
 rcases h2 with ⟨h, _⟩ | ⟨_, rfl⟩
 ·cases h
 ·rfl
end Go.Proofs.YtjeldcjchipdgaaGreatDoor
namespace Go.Proofs.YtjeldcjchipdgaaGreatDoor
open Go.RowKit Go.HL
set_option maxRecDepth 100000
structure UbV where
 t : Int
 p : PtrV
theorem UbV.eq_iff (u v : UbV) : (u.t = v.t ∧ u.p = v.p) ↔ u = v := by
 obtain ⟨a, b⟩ := u
 obtain ⟨c, d⟩ := v
 simp
instance : DecidableEq UbV := fun a b => decidable_of_iff _ (UbV.eq_iff a b)
theorem un_good {b : List UInt8} : ∀ i ∈ unL b, Good i := by
 cases hu : unS b with
 |none => rw [(un_none hu).1]; intro i hi; cases hi
 |some l => rw [(un_yes' hu).1]; exact (un_parts hu).2.2.2.2.1
end Go.Proofs.YtjeldcjchipdgaaGreatDoor
namespace Go.Proofs.YtjeldcjchipdgaaGreatDoor
open Go.RowKit Go.HL
set_option maxRecDepth 100000
abbrev Pl := Int × Int
def kpl (p : Pl) : Value := .agg #[vi p.1, vi p.2]
def vsl (r : Rw) : Value := .slice r.ao r.xs.length r.cap
def ewr : Enc (Pl × Rw) := ⟨3, fun x => [vi x.1.1, vi x.1.2, .slice x.2.ao x.2.xs.length x.2.cap], fun _ => rfl, by simp [Value.oneCell'], by decide⟩
theorem eqg_pl : Tryz.prog.eqGuardType Tryz.prog.depth 99 = false := by kernel_rfl
theorem eq_pl (a b c d : Int) (w : World) : (Op.equalIn 10000 99 (.agg #[vi a, vi b]) (.agg #[vi c, vi d])).run Tryz.prog w = .ok (decide (a = c ∧ b = d)) w := by
 refine eqA_of (d := 9999) Tryz.underlying99 (by kernel_rfl) ?_
 have h3 : (decide (a = c) && (decide (b = d) && true)) = decide (a = c ∧ b = d) := by simp [Bool.decide_and]
 rw [← h3]
 refine eqf_cons rfl (part1 (cs := [vi a, vi b]) Tryz.sizeOf3 Tryz.isAgg3 rfl) (part1 (cs := [vi c, vi d]) Tryz.sizeOf3 Tryz.isAgg3 rfl) (run_equalIn_int w 9998 _ _ _ _ _ Tryz.underlying3) (eqf_cons rfl (part1 (cs := [vi a, vi b]) Tryz.sizeOf3 Tryz.isAgg3 rfl) (part1 (cs := [vi c, vi d]) Tryz.sizeOf3 Tryz.isAgg3 rfl) (run_equalIn_int w 9998 _ _ _ _ _ Tryz.underlying3) eqf_nil)
theorem plOk : KeyOk Tryz.prog 99 kpl where
 chk em w k := by
  have h1 : ∀ a w, (Instr.checkKey em 9999 3 (vi a)).run Tryz.prog w = .ok () w := fun a w => by
   rw [Instr.checkKey]
   simp [run_underlying Tryz.underlying3]
  show (Instr.checkKey em (9999 + 1) 99 (.agg #[vi k.1, vi k.2])).run Tryz.prog w = .ok () w
  rw [Instr.checkKey]
  simp [run_underlying Tryz.underlying99, part, Tryz.sizeOf3, Tryz.isAgg3, h1]
 eq w k k' := by
  show (Op.equalIn 10000 99 (.agg #[vi k.1, vi k.2]) (.agg #[vi k'.1, vi k'.2])).run Tryz.prog w = .ok (decide (k = k')) w
  rw [eq_pl, decide_eq_decide.2 (Prod.ext_iff (x := k) (y := k')).symm]
 st := ⟨_, Tryz.underlying99⟩
 same k := by
  show Instr.sameBits (9999 + 1) (.agg #[vi k.1, vi k.2]) (.agg #[vi k.1, vi k.2]) = true
  rw [Instr.sameBits]
  simp [Instr.sameBits]
structure RA where
 dn : Nat
 sn : Nat
 last : List (Pl × List UInt8)
 gone : List Bool
 waits : List (Pl × List UInt8)
 off : Bool
 armed : Bool
 left : Int
def xsm (l : List (Pl × Rw)) : List (Pl × List UInt8) := l.map fun p => (p.1, p.2.xs)
structure RA.ok (s : RA) : Prop where
 dn : 1 ≤ s.dn ∧ s.dn ≤ 16
 sn : 1 ≤ s.sn ∧ s.sn ≤ 2000
 gl : s.gone.length = s.dn
 ll : ∀ p ∈ s.last, p.2.length = 128
 lw : ∀ p ∈ s.waits, p.2.length = 128
 lf : (s.armed = true → 0 ≤ s.left) ∧ -9223372036854775808 ≤ s.left ∧ s.left ≤ 9223372036854775807
 nd : (s.last.map (·.1)).Nodup
abbrev rcells (s : RA) (m : Nat) (ga : Option Addr) (gc : Nat) (wa : Option Addr) (wc n : Nat) : List Value := [vi s.dn, vi s.sn, .map (some m), .slice ga s.gone.length gc, .slice wa n wc, .bool s.off, .bool s.armed, vi s.left]
structure RI (S : Nat → Prop) (w : World) (m : Nat) (ga : Option Addr) (gc : Nat) (wa : Option Addr) (wc : Nat) (gl : List Bool) (ws ls : List (Pl × Rw)) : Prop where
 sm : S m
 map : Mp kpl vsl w m ls
 gone : Row S w 4 ebool ga gc gl
 waits : Row S w 101 ewr wa wc ws
 byl : ∀ p ∈ ls, Row S w 5 eb p.2.ao p.2.cap p.2.xs
 byw : ∀ p ∈ ws, Row S w 5 eb p.2.ao p.2.cap p.2.xs
section
variable {S M : Nat → Prop} {w w' : World} {m : Nat} {ga : Option Addr} {gc : Nat} {wa : Option Addr} {wc : Nat} {gl : List Bool} {ws ls : List (Pl × Rw)}
theorem RI.chg (h : RI S w m ga gc wa wc gl ws ls) (k : Chg M w w') (hd : ∀ b, b < w.heap.size → S b → M b → False) : RI S w' m ga gc wa wc gl ws ls :=
 ⟨h.sm, h.map.chg k (fun hm => hd m h.map.lt h.sm hm), h.gone.chg k hd, h.waits.chg k hd, fun p hp => (h.byl p hp).chg k hd, fun p hp => (h.byw p hp).chg k hd⟩
theorem RI.pure (h : RI S w m ga gc wa wc gl ws ls) (k : Chg Nob w w') : RI S w' m ga gc wa wc gl ws ls := h.chg k (fun _ _ _ x => x)
theorem RI.mono {S' : Nat → Prop} (h : RI S w m ga gc wa wc gl ws ls) (k : ∀ b, S b → S' b) : RI S' w m ga gc wa wc gl ws ls :=
 ⟨k _ h.sm, h.map, h.gone.mono k, h.waits.mono k, fun p hp => (h.byl p hp).mono k, fun p hp => (h.byw p hp).mono k⟩
theorem RI.open {R : Nat} {cs : List Value} (h : RI S w m ga gc wa wc gl ws ls) (hB : Blk w R 92 cs) : RI (fun b => S b ∧ b ≠ R) w m ga gc wa wc gl ws ls := by
 have hk := hB.kb
 refine ⟨⟨h.sm, fun e => ?_⟩, h.map, h.gone.kb.mono ?_, h.waits.kb.mono ?_, fun p hp => (h.byl p hp).kb.mono ?_, fun p hp => (h.byw p hp).kb.mono ?_⟩
 ·have := h.map.kb
  rw [e, hk] at this
  simp at this
 all_goals
  rintro b ⟨h1, h2⟩
  refine ⟨h1, fun e => ?_⟩
  rw [e, hk] at h2
  exact absurd h2 (by decide)
theorem RI.putMap {ls2 : List (Pl × Rw)} (h : RI S w m ga gc wa wc gl ws ls) (hM : Mp kpl vsl w' m ls2) (k : Chg (· = m) w w') (hn : ∀ p ∈ ls2, (∃ q ∈ ls, q.2 = p.2) ∨ (∃ q ∈ ws, q.2 = p.2)) : RI S w' m ga gc wa wc gl ws ls2 := by
 have hk := h.map.kb
 have hd : ∀ T b, b < w.heap.size → b = m → kb w b ≠ some (some T) := by
  rintro T b _ rfl
  rw [hk]
  simp
 have hb : ∀ p ∈ ls2, Row S w 5 eb p.2.ao p.2.cap p.2.xs := fun p hp => by
  rcases hn p hp with ⟨q, hq, e⟩ | ⟨q, hq, e⟩
  ·rw [← e]; exact h.byl q hq
  ·rw [← e]; exact h.byw q hq
 exact ⟨h.sm, hM, h.gone.chgK k (hd _), h.waits.chgK k (hd _), fun p hp => (hb p hp).chgK k (hd _), fun p hp => (h.byw p hp).chgK k (hd _)⟩
theorem RI.setWaits {wa2 : Option Addr} {wc2 : Nat} {ws2 : List (Pl × Rw)} (h : RI S w m ga gc wa wc gl ws ls) (hW : Row S w' 101 ewr wa2 wc2 ws2) (k : Chg M w w') (hM : ∀ b, M b → Eqb wa b) (hn : ∀ p ∈ ws2, (∃ q ∈ ws, q.2 = p.2) ∨ Row S w 5 eb p.2.ao p.2.cap p.2.xs) : RI S w' m ga gc wa2 wc2 gl ws2 ls := by
 have hd : ∀ b, b < w.heap.size → M b → kb w b = some (some 101) := fun b _ hm => h.waits.kb.at_.eqb (hM b hm) |>.2
 have hb : ∀ p ∈ ws2, Row S w 5 eb p.2.ao p.2.cap p.2.xs := fun p hp => by
  rcases hn p hp with ⟨q, hq, e⟩ | h1
  ·rw [← e]; exact h.byw q hq
  ·exact h1
 refine ⟨h.sm, h.map.chg k (fun hm => ?_), h.gone.chgK k (fun b h1 h2 => ?_), hW, fun p hp => (h.byl p hp).chgK k (fun b h1 h2 => ?_), fun p hp => (hb p hp).chgK k (fun b h1 h2 => ?_)⟩
 ·have h1 := hd m h.map.lt hm
  rw [h.map.kb] at h1
  simp at h1
 all_goals
  rw [hd b h1 h2]
  decide
theorem RI.setGone {gl2 : List Bool} {g : Nat} (h : RI S w m (some ⟨g, 0, none⟩) gc wa wc gl ws ls) (hG : Row S w' 4 ebool (some ⟨g, 0, none⟩) gc gl2) (k : Chg (· = g) w w') : RI S w' m (some ⟨g, 0, none⟩) gc wa wc gl2 ws ls := by
 have hk : kb w g = some (some 4) := (h.gone.kb.at_ _ rfl).2
 have hd : ∀ T, T ≠ 4 → ∀ b, b < w.heap.size → b = g → kb w b ≠ some (some T) := by
  rintro T hT b _ rfl e
  rw [hk] at e
  injection e with e
  injection e with e
  exact hT e.symm
 refine ⟨h.sm, h.map.chg k (fun hm => ?_), hG, h.waits.chgK k (hd _ (by decide)), fun p hp => (h.byl p hp).chgK k (hd _ (by decide)), fun p hp => (h.byw p hp).chgK k (hd _ (by decide))⟩
 have h1 := h.map.kb
 rw [show m = g from hm, hk] at h1
 simp at h1
end
structure RK (A : Nat → Prop) (w : World) (R : Nat) (s : RA) : Prop where
 aR : A R
 ok : s.ok
 ex : ∃ (m : Nat) (ga : Option Addr) (gc : Nat) (wa : Option Addr) (wc : Nat) (ws ls : List (Pl × Rw)), Blk w R 92 (rcells s m ga gc wa wc ws.length) ∧ RI A w m ga gc wa wc s.gone ws ls ∧ s.last = xsm ls ∧ s.waits = xsm ws
theorem RK.chg {A M : Nat → Prop} {w w' : World} {R : Nat} {s : RA} (h : RK A w R s) (k : Chg M w w') (hd : ∀ b, b < w.heap.size → A b → M b → False) : RK A w' R s := by
 obtain ⟨m, ga, gc, wa, wc, ws, ls, hB, hI, hl⟩ := h.ex
 exact ⟨h.aR, h.ok, m, ga, gc, wa, wc, ws, ls, hB.chg k (fun hm => hd R hB.lt h.aR hm), hI.chg k hd, hl⟩
theorem RK.pure {A : Nat → Prop} {w w' : World} {R : Nat} {s : RA} (h : RK A w R s) (k : Chg Nob w w') : RK A w' R s := h.chg k (fun _ _ _ x => x)
theorem RK.mono {A A' : Nat → Prop} {w : World} {R : Nat} {s : RA} (h : RK A w R s) (k : ∀ b, A b → A' b) : RK A' w R s := by
 obtain ⟨m, ga, gc, wa, wc, ws, ls, hB, hI, hl⟩ := h.ex
 exact ⟨k _ h.aR, h.ok, m, ga, gc, wa, wc, ws, ls, hB, hI.mono k, hl⟩
abbrev ptr (g : Nat) : Value := .pointer (some ⟨g, 0, none⟩)
theorem is_calls {A : Nat → Prop} {w : World} {R : Nat} {s : RA} (h : RK A w R s) (d : Int) : Calls Tryz.prog 54 [ptr R, vi d].toArray w (Ret fun v w' => v = .bool (decide (0 ≤ d ∧ d < s.dn)) ∧ Chg Nob w w') := by
 obtain ⟨m, ga, gc, wa, wc, ws, ls, hB, -⟩ := h.ex
 have hw := Chg.refl Nob w
 refine Calls.of_WC Tryz.func54 rfl Tryz.ntmps54 (by simp) ?_
 refine WC.sr (WL.assign rfl rfl (WL.t (WC.sr (WL.move rfl rfl (WL.ptrSome Tryz.underlying25 rfl rfl rfl ?_)))))
 refine WL.move rfl rfl (WL.qa rfl rfl rfl (WL.move rfl rfl (WL.qa rfl rfl rfl (WL.za rfl rfl rfl (fun h9 => ?_) (fun h9 => ?_)))))
 ·refine WL.qd rfl rfl rfl (WL.move rfl rfl (WL.qa rfl rfl rfl (WL.move rfl rfl (WL.qa rfl rfl rfl (WL.move rfl rfl (WL.qa rfl rfl rfl (WL.nilCheck rfl rfl (WL.qa rfl rfl rfl (WL.fieldAddr (fld_92_0) rfl rfl (WL.qa rfl rfl rfl (WL.qb Tryz.isAgg3 hB rfl rfl rfl (WL.qa rfl rfl rfl (WL.lss rfl rfl rfl (WL.qd rfl rfl rfl (WL.assign rfl rfl (WL.t (WC.ret (WX.qg (.inl rfl) Tryz.results54 rfl ?_))))))))))))))))))
  refine ⟨_, rfl, ?_, hw⟩
  congr 1
  simp
  omega
 ·refine WL.qd rfl rfl rfl (WL.move rfl rfl (WL.pass rfl rfl rfl rfl (WL.pass rfl rfl rfl rfl (WL.pass rfl rfl rfl rfl (WL.pass rfl rfl rfl rfl (WL.pass rfl rfl rfl rfl (WL.pass rfl rfl rfl rfl (WL.qc rfl rfl rfl (WL.assign rfl rfl (WL.t (WC.ret (WX.qg (.inl rfl) Tryz.results54 rfl ?_))))))))))))
  refine ⟨_, rfl, ?_, hw⟩
  congr 1
  simp
  omega
theorem in_calls {A : Nat → Prop} {w : World} {R : Nat} {s : RA} (h : RK A w R s) (d a : Int) : Calls Tryz.prog 58 [ptr R, vi d, vi a].toArray w (Ret fun v w' => v = .bool (decide (0 ≤ d ∧ d < s.dn ∧ 0 ≤ a ∧ a < s.sn)) ∧ Chg Nob w w') := by
 have hw := Chg.refl Nob w
 refine Calls.of_WC Tryz.func58 rfl Tryz.ntmps58 (by simp) ?_
 refine WC.sr (WL.assign rfl rfl (WL.t (WC.sr (WL.move rfl rfl (WL.move rfl rfl (WL.call eg_54 rfl rfl (is_calls h d) ?_))))))
 rintro v w1 ⟨rfl, k1⟩
 replace h := h.pure k1
 replace hw := hw.pure k1
 obtain ⟨m, ga, gc, wa, wc, ws, ls, hB, -⟩ := h.ex
 by_cases h9 : 0 ≤ d ∧ d < s.dn
 ·rw [decide_eq_true h9]
  refine WL.move rfl rfl (WL.qa rfl rfl rfl (WL.move rfl rfl (WL.qa rfl rfl rfl (WL.za rfl rfl rfl (fun h12 => ?_) (fun h12 => ?_)))))
  ·refine WL.qd rfl rfl rfl (WL.move rfl rfl (WL.qa rfl rfl rfl (WL.move rfl rfl (WL.qa rfl rfl rfl (WL.move rfl rfl (WL.qa rfl rfl rfl (WL.nilCheck rfl rfl (WL.qa rfl rfl rfl (WL.fieldAddr (fld_92_1) rfl rfl (WL.qa rfl rfl rfl (WL.qb Tryz.isAgg3 hB rfl rfl rfl (WL.qa rfl rfl rfl (WL.lss rfl rfl rfl (WL.qd rfl rfl rfl (WL.assign rfl rfl (WL.t (WC.ret (WX.qg (.inl rfl) Tryz.results58 rfl ?_))))))))))))))))))
   refine ⟨_, rfl, ?_, hw⟩
   congr 1
   first
    |(simp [h9.1, h9.2, h12]; done)
    |(simp; omega)
  ·refine WL.qd rfl rfl rfl (WL.move rfl rfl (WL.pass rfl rfl rfl rfl (WL.pass rfl rfl rfl rfl (WL.pass rfl rfl rfl rfl (WL.pass rfl rfl rfl rfl (WL.pass rfl rfl rfl rfl (WL.pass rfl rfl rfl rfl (WL.qc rfl rfl rfl (WL.assign rfl rfl (WL.t (WC.ret (WX.qg (.inl rfl) Tryz.results58 rfl ?_))))))))))))
   refine ⟨_, rfl, ?_, hw⟩
   congr 1
   first
    |(simp [h9.1, h9.2, h12]; done)
    |(simp; omega)
 ·rw [decide_eq_false h9]
  refine WL.move rfl rfl (WL.pass rfl rfl rfl rfl (WL.pass rfl rfl rfl rfl (WL.qc rfl rfl rfl (WL.move rfl rfl (WL.pass rfl rfl rfl rfl (WL.pass rfl rfl rfl rfl (WL.pass rfl rfl rfl rfl (WL.pass rfl rfl rfl rfl (WL.pass rfl rfl rfl rfl (WL.pass rfl rfl rfl rfl (WL.qc rfl rfl rfl (WL.assign rfl rfl (WL.t (WC.ret (WX.qg (.inl rfl) Tryz.results58 rfl ?_)))))))))))))))
  refine ⟨_, rfl, ?_, hw⟩
  congr 1
  first
   |(simp [h9.1, h9.2, h12]; done)
   |(simp; omega)
end Go.Proofs.YtjeldcjchipdgaaGreatDoor
namespace Go.Proofs.YtjeldcjchipdgaaGreatDoor
open Go.RowKit Go.HL
set_option maxRecDepth 100000
theorem newest_calls {S : Nat → Prop} {w : World} {R : Nat} {s : RA} {m : Nat} {ga : Option Addr} {gc : Nat} {wa : Option Addr} {wc : Nat} {ws : List (Pl × Rw)} (hB : Blk w R 92 (rcells s m ga gc wa wc ws.length)) (hW : Row S w 101 ewr wa wc ws) (p : Pl) :
 Calls Tryz.prog 61 [ptr R, kpl p].toArray w (Ret fun v w' => (∃ ao : Option Addr, v = .pointer ao ∧ ((ao = none ∧ ∀ x ∈ ws, x.1 ≠ p) ∨ (∃ j x g, ws[j]? = some x ∧ x.1 = p ∧ (∀ k y, j < k → ws[k]? = some y → y.1 ≠ p) ∧ wa = some ⟨g, 0, none⟩ ∧ ao = some ⟨g, 0 + j * 3, none⟩))) ∧ Chg Nob w w') := by
 replace hW := hW.lt
 have hw := Chg.refl Nob w
 have hcap := hW.own.cap
 have hws : ws.length ≤ 9223372036854775807 := by
  rcases hW.own.2.2 with ⟨_, h⟩ | ⟨_, _, _, _, _, _, h, _⟩
  ·omega
  ·simp only [maxLen] at h; omega
 obtain ⟨pd, pa⟩ := p
 refine Calls.of_WC Tryz.func61 rfl Tryz.ntmps61 (by simp) ?_
 refine WC.sr (WL.box rfl rfl ?_)
 intro g1 w1 hge1 hlt1 hP k1
 replace hP : Blk w1 g1 99 [vi pd, vi pa] := hP
 replace hB := hB.pure k1
 replace hW := hW.pure k1
 replace hw := hw.pure k1
 refine WL.assign rfl rfl (WL.t (WC.seq (WC.sr (WL.move rfl rfl (WL.nilCheck rfl rfl (WL.fieldAddr (fld_92_4) rfl rfl (WL.qb Tryz.isAgg90 hB rfl rfl rfl (WL.len Tryz.underlying90 rfl rfl (?_)))))))))
 refine WL.qj rfl rfl (by constructor <;> omega) rfl ?_
 refine WL.assign rfl rfl (WL.t (WC.block (?_)))
 refine WC.loop (σ := Nat) (fun i => [(0, ptr R), (3, ptr g1), (4, .pointer none), (5, vi ((i : Int) - 1))]) (fun i w' => i ≤ ws.length ∧ (∀ k x, i ≤ k → ws[k]? = some x → x.1 ≠ (pd, pa)) ∧ Blk w' R 92 (rcells s m ga gc wa wc ws.length) ∧ Row (fun b => S b ∧ b < w.heap.size) w' 101 ewr wa wc ws ∧ Blk w' g1 99 [vi pd, vi pa] ∧ Chg Nob w w') (fun i => i) ws.length ⟨rfl, rfl, rfl, rfl, trivial⟩ ⟨Nat.le_refl _, fun k x hk hx => by have := (List.getElem?_eq_some_iff.1 hx).1; omega, hB, hW, hP, hw⟩ ?_
 clear hB hW hP hw
 rintro i w1 ⟨hi, hno, hB, hW, hP, hw⟩
 refine WC.seq (WC.sr (WL.move rfl rfl (WL.za rfl rfl rfl (fun h13 => ?_) (fun h13 => ?_))))
 ·refine WL.t (WC.qb rfl (WC.skip (WX.qa (WC.seq (WC.block (WC.seq (?_)))))))
  obtain ⟨j, rfl⟩ : ∃ j, i = j + 1 := ⟨i - 1, by omega⟩
  have hx : ws[j]? = some ws[j] := List.getElem?_eq_getElem (by omega)
  obtain ⟨x, ex⟩ : ∃ x, x = ws[j] := ⟨_, rfl⟩
  rw [← ex] at hx
  obtain ⟨g, rfl⟩ := hW.place0 (j := j) (by omega)
  refine WC.qc (Nob) [0, 1, 2, 3, 4, 5, 6, 7, 8, 9] [] mixed rfl rfl (fun wd_1 kd_1 zd_1 => ?_)
  replace hB := hB.pure kd_1
  replace hW := hW.pure kd_1
  replace hw := hw.pure kd_1
  replace hP := hP.pure kd_1
  apply DQ.step [(0, _)] rfl ⟨rfl, trivial⟩ rfl (fun _ _ => WL.move rfl rfl  WL.q)
  apply DQ.step [(16, _)] rfl ⟨rfl, trivial⟩ rfl (fun _ _ => WL.nilCheck rfl rfl  WL.q)
  apply DQ.step [(17, _)] rfl ⟨rfl, trivial⟩ rfl (fun _ _ => WL.fieldAddr (fld_92_4) rfl rfl  WL.q)
  apply DQ.step [(18, _)] rfl ⟨rfl, trivial⟩ rfl
  ·intro wq_5 kq_5
   replace hB := hB.pure kq_5
   refine WL.qb Tryz.isAgg90 hB rfl rfl rfl (WL.q)
  apply DQ.step [(5, _)] rfl ⟨rfl, trivial⟩ rfl (fun _ _ => WL.move rfl rfl  WL.q)
  apply DQ.step [(19, _), (20, _)] rfl ⟨rfl, rfl, trivial⟩ rfl
  ·intro wq_7 kq_7
   replace hW := hW.pure kq_7
   refine WL.qf hW.rsl Tryz.underlying90 Tryz.sizeOf101 rfl rfl ⟨hx, (by omega)⟩ rfl ?_
   exact WL.q
  apply DQ.step [(21, _)] rfl ⟨rfl, trivial⟩ rfl (fun _ _ => WL.fieldAddr (fld_101_0) rfl rfl  WL.q)
  apply DQ.step [(22, _)] rfl ⟨rfl, trivial⟩ rfl
  ·intro wq_9 kq_9
   replace hW := hW.pure kq_9
   refine WL.qw [vi x.1.1, vi x.1.2] Tryz.isAgg99 Tryz.sizeOf99 rfl (fun q v hv => ?_) rfl rfl ?_
   ·have h1 := hW.rsl.cellsAt hx q v
    refine h1 ?_
    obtain ⟨⟨x1, x2⟩, x3⟩ := x
    match q, hv with
    |0, hv => exact hv
    |1, hv => exact hv
   exact WL.q
  apply DQ.step [(3, _)] rfl ⟨rfl, trivial⟩ rfl
  ·intro wq_10 kq_10
   replace hP := hP.pure kq_10
   refine WL.qz Tryz.isAgg99 Tryz.sizeOf99 hP rfl (by simp; done) rfl (?_)
   exact WL.q
  apply DQ.split (E' := [(23, _), (24, _)])
  case ho => rfl
  case hs => exact ⟨rfl, rfl, trivial⟩
  case hk => rfl
  case h1 =>
   intro wq_11 kq_11
   refine WL.aeql eqg_pl (eq_pl _ _ _ _) rfl rfl rfl (WL.q)
  case ht =>
   intro h25
   replace h25 := of_decide_eq_true h25
   refine DQ.done (fun _ => ?_)
   refine DL.done (fun we_12 ke_12 => ?_)
   replace hB := hB.pure ke_12
   replace hW := hW.pure ke_12
   replace hw := hw.pure ke_12
   refine WX.qa (WC.qb rfl (WC.sr (WL.move rfl rfl (WL.nilCheck rfl rfl (WL.fieldAddr (fld_92_4) rfl rfl (WL.qb Tryz.isAgg90 hB rfl rfl rfl (WL.move rfl rfl (WL.qf hW.rsl Tryz.underlying90 Tryz.sizeOf101 rfl rfl ⟨hx, by omega⟩ rfl ?_))))))))
   refine WL.assign rfl rfl (WL.t (WC.ret (WX.qe (WX.qb (WX.qb (WX.qe (WX.qb (WX.qg (.inl rfl) Tryz.results61 rfl ?_))))))))
   refine ⟨_, rfl, ?_, hw⟩
   first
    |exact ⟨_, rfl, .inr ⟨j, x, g, hx, Prod.ext h25.1 h25.2, fun k y hk hy => hno k y (by omega) hy, rfl, rfl⟩⟩
    |exact ⟨_, rfl, .inl ⟨rfl, fun x hx => by
      obtain ⟨k, hk, rfl⟩ := List.getElem_of_mem hx
      exact hno k _ (by omega) (List.getElem?_eq_getElem hk)⟩⟩
  case hf =>
   intro h25
   replace h25 := of_decide_eq_false h25
   refine DQ.done (fun _ => ?_)
   refine DL.done (fun we_12 ke_12 => ?_)
   have zs_ke_12 := ke_12.size
   replace hB := hB.pure ke_12
   replace hW := hW.pure ke_12
   replace hw := hw.pure ke_12
   replace hP := hP.pure ke_12
   refine WX.qa (WC.qa rfl (WC.skip (WX.qc (WX.qa (WC.region (WL.move rfl rfl (WL.qj rfl rfl (by omega) rfl (?_))))))))
   refine WL.assign rfl rfl (WL.nil (?_))
   refine WX.qf j ⟨rfl, rfl, rfl, by simp [List.lookup, ev]; try omega, trivial⟩ ⟨by omega, ?_, hB, hW, hP, hw⟩ (by omega)
   intro k y hk hy
   rcases Nat.lt_or_ge j k with h1 | h1
   ·exact hno k y (by omega) hy
   ·have : k = j := by omega
    subst this
    rw [hx] at hy
    injection hy with hy
    subst hy
    intro e
    rw [e] at h25
    exact h25 ⟨rfl, rfl⟩
 ·refine WL.t (WC.qa rfl (WC.exit (WX.qd (WX.qd (WX.qh (WX.qa (WC.sr (WL.assign rfl rfl (WL.t (WC.ret (WX.qg (.inl rfl) Tryz.results61 rfl ?_)))))))))))
  refine ⟨_, rfl, ?_, hw⟩
  first
   |exact ⟨_, rfl, .inr ⟨j, x, g, hx, Prod.ext h25.1 h25.2, fun k y hk hy => hno k y (by omega) hy, rfl, rfl⟩⟩
   |exact ⟨_, rfl, .inl ⟨rfl, fun x hx => by
     obtain ⟨k, hk, rfl⟩ := List.getElem_of_mem hx
     exact hno k _ (by omega) (List.getElem?_eq_getElem hk)⟩⟩
end Go.Proofs.YtjeldcjchipdgaaGreatDoor
namespace Go.Proofs.YtjeldcjchipdgaaGreatDoor
open Go.RowKit Go.HL
set_option maxRecDepth 100000
section
variable {K V : Type} [DecidableEq K]
theorem mget_app (l1 l2 : List (K × V)) (k : K) : mget (l1 ++ l2) k = match mget l1 k with | some v => some v | none => mget l2 k := by
 induction l1 with
 |nil => rfl
 |cons p r ih =>
  obtain ⟨k', v⟩ := p
  simp only [List.cons_append, mget]
  by_cases h : k = k'
  ·simp [h]
  ·simp [h, ih]
theorem mget_no {l : List (K × V)} {k : K} (h : ∀ x ∈ l, x.1 ≠ k) : mget l k = none := by
 induction l with
 |nil => rfl
 |cons p r ih =>
  obtain ⟨k', v⟩ := p
  have h1 := h (k', v) (by simp)
  simp only [mget]
  rw [if_neg (fun e => h1 e.symm)]
  exact ih (fun x hx => h x (List.mem_cons_of_mem _ hx))
theorem mget_mem {l : List (K × V)} {k : K} {v : V} (h : mget l k = some v) : (k, v) ∈ l := by
 induction l with
 |nil => cases h
 |cons p r ih =>
  obtain ⟨k', u⟩ := p
  simp only [mget] at h
  by_cases e : k = k'
  ·subst e
   simp at h
   simp [h]
  ·rw [if_neg e] at h
   exact List.mem_cons_of_mem _ (ih h)
def newV (ws : List (K × V)) (p : K) : Option V := mget ws.reverse p
theorem newV_none {ws : List (K × V)} {p : K} (h : ∀ x ∈ ws, x.1 ≠ p) : newV ws p = none := mget_no (fun x hx => h x (List.mem_reverse.1 hx))
omit [DecidableEq K] in
theorem split_at {ws : List (K × V)} {j : Nat} {x : K × V} (hx : ws[j]? = some x) : ws = ws.take j ++ [x] ++ ws.drop (j + 1) := by
 obtain ⟨hj, e⟩ := List.getElem?_eq_some_iff.1 hx
 rw [← e, List.append_assoc]
 simp
omit [DecidableEq K] in
theorem later_no {ws : List (K × V)} {p : K} {j : Nat} (h : ∀ k y, j < k → ws[k]? = some y → y.1 ≠ p) : ∀ x ∈ (ws.drop (j + 1)).reverse, x.1 ≠ p := by
 intro x hx
 obtain ⟨i, hi, rfl⟩ := List.getElem_of_mem (List.mem_reverse.1 hx)
 refine h (j + 1 + i) _ (by omega) ?_
 rw [← List.getElem?_drop]
 exact List.getElem?_eq_getElem hi
theorem newV_some {ws : List (K × V)} {p : K} {j : Nat} {x : K × V} (hx : ws[j]? = some x) (hp : x.1 = p) (h : ∀ k y, j < k → ws[k]? = some y → y.1 ≠ p) : newV ws p = some x.2 := by
 obtain ⟨x1, x2⟩ := x
 subst hp
 unfold newV
 rw [split_at hx, List.reverse_append, List.reverse_append, mget_app, mget_no (later_no h)]
 simp [mget]
def putW (ws : List (K × V)) (p : K) (v : V) : List (K × V) := (mput ws.reverse p v).reverse
theorem mput_app {l1 l2 : List (K × V)} {k : K} (h : ∀ x ∈ l1, x.1 ≠ k) (v : V) : mput (l1 ++ l2) k v = l1 ++ mput l2 k v := by
 induction l1 with
 |nil => rfl
 |cons p r ih =>
  obtain ⟨k', u⟩ := p
  have h1 := h (k', u) (by simp)
  simp only [List.cons_append, mput]
  rw [if_neg (fun e => h1 e.symm), ih (fun x hx => h x (List.mem_cons_of_mem _ hx))]
theorem putW_some {ws : List (K × V)} {p : K} {j : Nat} {x : K × V} (hx : ws[j]? = some x) (hp : x.1 = p) (h : ∀ k y, j < k → ws[k]? = some y → y.1 ≠ p) (v : V) : putW ws p v = ws.set j (p, v) := by
 obtain ⟨x1, x2⟩ := x
 subst hp
 have hj := (List.getElem?_eq_some_iff.1 hx).1
 unfold putW
 conv => lhs; rw [split_at hx]
 rw [List.reverse_append, List.reverse_append, mput_app (later_no h), List.set_eq_take_append_cons_drop, if_pos hj]
 simp [mput]
theorem mput_fst {l : List (K × V)} {k : K} {v : V} : (mput l k v).map (·.1) = if k ∈ l.map (·.1) then l.map (·.1) else l.map (·.1) ++ [k] := by
 induction l with
 |nil => simp [mput]
 |cons p r ih =>
  obtain ⟨k', u⟩ := p
  simp only [mput]
  by_cases h : k = k'
  ·simp [h]
  ·rw [if_neg h]
   simp only [List.map_cons, ih, List.mem_cons, h, false_or]
   split <;> rfl
theorem mput_nodup {l : List (K × V)} {k : K} {v : V} (h : (l.map (·.1)).Nodup) : ((mput l k v).map (·.1)).Nodup := by
 rw [mput_fst]
 split
 ·exact h
 ·rename_i h1
  rw [List.nodup_append]
  refine ⟨h, by simp, ?_⟩
  intro a ha b hb e
  simp at hb
  subst hb; subst e
  exact h1 ha
theorem mput_mem {l : List (K × V)} {k : K} {v : V} {x : K × V} (h : x ∈ mput l k v) : x ∈ l ∨ x = (k, v) := by
 induction l with
 |nil => simp [mput] at h; exact .inr h
 |cons p r ih =>
  obtain ⟨k', u⟩ := p
  simp only [mput] at h
  split at h
  ·rcases List.mem_cons.1 h with h1 | h1
   ·exact .inr h1
   ·exact .inl (List.mem_cons_of_mem _ h1)
  ·rcases List.mem_cons.1 h with h1 | h1
   ·exact .inl (by simp [h1])
   ·rcases ih h1 with h2 | h2
    ·exact .inl (List.mem_cons_of_mem _ h2)
    ·exact .inr h2
end
theorem xsm_get (l : List (Pl × Rw)) (p : Pl) : mget (xsm l) p = (mget l p).map (·.xs) := by
 induction l with
 |nil => rfl
 |cons x r ih =>
  obtain ⟨k', v⟩ := x
  simp only [xsm, List.map_cons, mget] at ih ⊢
  by_cases h : p = k'
  ·simp [h]
  ·simp [h, ih]
theorem xsm_put (l : List (Pl × Rw)) (p : Pl) (v : Rw) : xsm (mput l p v) = mput (xsm l) p v.xs := by
 induction l with
 |nil => rfl
 |cons x r ih =>
  obtain ⟨k', u⟩ := x
  simp only [xsm, List.map_cons, mput] at ih ⊢
  by_cases h : p = k'
  ·simp [h]
  ·simp [h, ih]
theorem xsm_rev (l : List (Pl × Rw)) : xsm l.reverse = (xsm l).reverse := by simp [xsm]
theorem xsm_newV (l : List (Pl × Rw)) (p : Pl) : newV (xsm l) p = (newV l p).map (·.xs) := by
 unfold newV
 rw [← xsm_rev, xsm_get]
theorem xsm_putW (l : List (Pl × Rw)) (p : Pl) (v : Rw) : xsm (putW l p v) = putW (xsm l) p v.xs := by
 unfold putW
 rw [← xsm_rev, ← xsm_put, ← xsm_rev]
theorem xsm_len (l : List (Pl × Rw)) : (xsm l).length = l.length := by simp [xsm]
def heldS (s : RA) (p : Pl) : List UInt8 := match newV s.waits p with
 |some b => b
 |none => (mget s.last p).getD (List.replicate 128 0)
theorem heldS_len {s : RA} (h : s.ok) (p : Pl) : (heldS s p).length = 128 := by
 unfold heldS
 cases h1 : newV s.waits p with
 |some b => exact h.lw _ (List.mem_reverse.1 (mget_mem h1))
 |none =>
  cases h2 : mget s.last p with
  |some b => exact h.ll _ (mget_mem h2)
  |none => rfl
theorem held_calls {A : Nat → Prop} {w : World} {R : Nat} {s : RA} (h : RK A w R s) (p : Pl) :
 Calls Tryz.prog 60 [ptr R, kpl p].toArray w (Ret fun v w' => (∃ r, v = vsl r ∧ RSl (· < w'.heap.size) w' eb r.ao r.cap r.xs ∧ r.xs = heldS s p) ∧ Chg Nob w w') := by
 obtain ⟨m, ga, gc, wa, wc, ws, ls, hB, hI, hls, hws⟩ := h.ex
 have hw := Chg.refl Nob w
 obtain ⟨pd, pa⟩ := p
 refine Calls.of_WC Tryz.func60 rfl Tryz.ntmps60 (by simp) ?_
 refine WC.sr (WL.box rfl rfl ?_)
 intro g1 w1 hge1 hlt1 hP k1
 replace hP : Blk w1 g1 99 [vi pd, vi pa] := hP
 replace hB := hB.pure k1
 replace hI := hI.pure k1
 replace hw := hw.pure k1
 refine WL.assign rfl rfl (WL.t (WC.seq (WC.sr (WL.move rfl rfl (WL.qz Tryz.isAgg99 Tryz.sizeOf99 hP rfl (by simp; done) rfl (?_))))))
 refine WL.call eg_61 rfl rfl (newest_calls hB hI.waits (pd, pa)) ?_
 rintro v w2 ⟨⟨ao, rfl, hnew⟩, k2⟩
 replace hB := hB.pure k2
 replace hI := hI.pure k2
 replace hw := hw.pure k2
 replace hP := hP.pure k2
 refine WL.assign rfl rfl (WL.t (WC.sr (WL.move rfl rfl (WL.ptrSome Tryz.underlying109 rfl rfl rfl ?_))))
 rcases hnew with ⟨rfl, hno⟩ | ⟨j, x, g, hx, hxp, hno, rfl, rfl⟩
 ·refine WL.t (WC.qa rfl (WC.skip (WX.qa (WC.seq (WC.seq (WC.qc (Nob) [0, 1, 2, 3, 4, 5, 6, 7, 8, 9, 10] [] mixed rfl rfl (fun wd_1 kd_1 zd_1 => ?_)))))))
  replace hB := hB.pure kd_1
  replace hI := hI.pure kd_1
  replace hw := hw.pure kd_1
  replace hP := hP.pure kd_1
  apply DQ.step [(0, _)] rfl ⟨rfl, trivial⟩ rfl (fun _ _ => WL.move rfl rfl  WL.q)
  apply DQ.step [(18, _)] rfl ⟨rfl, trivial⟩ rfl (fun _ _ => WL.nilCheck rfl rfl  WL.q)
  apply DQ.step [(19, _)] rfl ⟨rfl, trivial⟩ rfl (fun _ _ => WL.fieldAddr (fld_92_2) rfl rfl  WL.q)
  apply DQ.step [(20, _)] rfl ⟨rfl, trivial⟩ rfl
  ·intro wq_5 kq_5
   replace hB := hB.pure kq_5
   refine WL.qb Tryz.isAgg89 hB rfl rfl rfl (WL.q)
  apply DQ.step [(3, _)] rfl ⟨rfl, trivial⟩ rfl
  ·intro wq_6 kq_6
   replace hP := hP.pure kq_6
   refine WL.qz Tryz.isAgg99 Tryz.sizeOf99 hP rfl (by simp; done) rfl (?_)
   exact WL.q
  apply DQ.step [(21, _), (22, _)] rfl ⟨rfl, rfl, trivial⟩ rfl
  ·intro wq_7 kq_7
   replace hI := hI.pure kq_7
   refine WL.mlookup plOk Tryz.underlying89 Tryz.zeroValue51 hI.map rfl (show _ = some (kpl (pd, pa)) from rfl) rfl ?_
   rw [show (mget ls (pd, pa)).isSome = decide ((mget ls (pd, pa)).isSome = true) from by simp]
   exact WL.q
  apply DQ.step [(23, _)] rfl ⟨rfl, trivial⟩ rfl (fun _ _ => WL.move rfl rfl  WL.q)
  apply DQ.step [(17, _)] rfl ⟨rfl, trivial⟩ rfl (fun _ _ => WL.extract rfl rfl rfl  WL.q)
  apply DQ.step [(17, _)] rfl ⟨rfl, trivial⟩ rfl (fun _ _ => WL.extract rfl rfl rfl  WL.q)
  apply DQ.step [(24, _)] rfl ⟨rfl, trivial⟩ rfl (fun _ _ => WL.assign rfl rfl  WL.q)
  apply DQ.step [(25, _)] rfl ⟨rfl, trivial⟩ rfl (fun _ _ => WL.assign rfl rfl  WL.q)
  refine DQ.done (fun _ => ?_)
  refine DL.done (fun we_13 ke_13 => ?_)
  replace hI := hI.pure ke_13
  replace hw := hw.pure ke_13
  refine WX.qa (WC.sr (WL.move rfl rfl (WL.t (?_))))
  first | refine WC.cond_dec rfl (fun hc26 => ?_) (fun hc26 => ?_) | refine WC.cond_split rfl (fun hc26 => ?_) (fun hc26 => ?_)
  ·refine WC.sr (WL.move rfl rfl (WL.assign rfl rfl (WL.t (WC.ret (WX.qb (WX.qg (.inl rfl) Tryz.results60 rfl ?_))))))
   first
    |exact ⟨_, rfl, ⟨x.2, rfl, (hI.byw x (List.mem_of_getElem? hx)).rsl.old, by rw [heldS, hws, xsm_newV, newV_some hx hxp hno]; rfl⟩, hw⟩
    |(obtain ⟨r, hr⟩ := Option.isSome_iff_exists.1 hc26
      simp only [hr]
      exact ⟨_, rfl, ⟨r, rfl, (hI.byl _ (mget_mem hr)).rsl.old, by rw [heldS, hws, xsm_newV, newV_none hno, hls, xsm_get, hr]; rfl⟩, hw⟩)
    |(have hr : mget ls (pd, pa) = none := by simpa using hc26
      exact ⟨_, rfl, ⟨⟨some ⟨g3, 0, none⟩, 128, List.replicate 128 0⟩, rfl, hm.rsl.old, by rw [heldS, hws, xsm_newV, newV_none hno, hls, xsm_get, hr]; rfl⟩, hw⟩)
  ·refine WC.skip (WX.qa (WC.sr (WL.make (e := eb) (0 : UInt8) 128 128 Tryz.underlying51 info_5 rfl rfl rfl ⟨rfl, rfl, Nat.le_refl _⟩ (by decide) rfl ?_)))
   intro g3 w3 hm k3 z3 eg3
   replace hw := hw.pure k3
   refine WL.assign rfl rfl (WL.t (WC.ret (WX.qg (.inl rfl) Tryz.results60 rfl ?_)))
   first
    |exact ⟨_, rfl, ⟨x.2, rfl, (hI.byw x (List.mem_of_getElem? hx)).rsl.old, by rw [heldS, hws, xsm_newV, newV_some hx hxp hno]; rfl⟩, hw⟩
    |(obtain ⟨r, hr⟩ := Option.isSome_iff_exists.1 hc26
      simp only [hr]
      exact ⟨_, rfl, ⟨r, rfl, (hI.byl _ (mget_mem hr)).rsl.old, by rw [heldS, hws, xsm_newV, newV_none hno, hls, xsm_get, hr]; rfl⟩, hw⟩)
    |(have hr : mget ls (pd, pa) = none := by simpa using hc26
      exact ⟨_, rfl, ⟨⟨some ⟨g3, 0, none⟩, 128, List.replicate 128 0⟩, rfl, hm.rsl.old, by rw [heldS, hws, xsm_newV, newV_none hno, hls, xsm_get, hr]; rfl⟩, hw⟩)
 ·refine WL.t (WC.qb rfl (WC.sr (WL.move rfl rfl (WL.nilCheck rfl rfl (WL.fieldAddr (fld_101_1) rfl rfl (WL.load Tryz.isAgg51 rfl (hI.waits.rsl.cellsAt hx 2 _ rfl) rfl ?_))))))
  refine WL.assign rfl rfl (WL.t (WC.ret (WX.qb (WX.qg (.inl rfl) Tryz.results60 rfl ?_))))
  first
   |exact ⟨_, rfl, ⟨x.2, rfl, (hI.byw x (List.mem_of_getElem? hx)).rsl.old, by rw [heldS, hws, xsm_newV, newV_some hx hxp hno]; rfl⟩, hw⟩
   |(obtain ⟨r, hr⟩ := Option.isSome_iff_exists.1 hc26
     simp only [hr]
     exact ⟨_, rfl, ⟨r, rfl, (hI.byl _ (mget_mem hr)).rsl.old, by rw [heldS, hws, xsm_newV, newV_none hno, hls, xsm_get, hr]; rfl⟩, hw⟩)
   |(have hr : mget ls (pd, pa) = none := by simpa using hc26
     exact ⟨_, rfl, ⟨⟨some ⟨g3, 0, none⟩, 128, List.replicate 128 0⟩, rfl, hm.rsl.old, by rw [heldS, hws, xsm_newV, newV_none hno, hls, xsm_get, hr]; rfl⟩, hw⟩)
theorem bclone_calls {S : Nat → Prop} {w : World} {ao : Option Addr} {c : Nat} {b : List UInt8} (hr : RSl S w eb ao c b) (hl : b.length = 128) :
 Calls Tryz.prog 59 [.slice ao b.length c].toArray w (Ret fun v w' => (∃ (g c' : Nat), v = .slice (some ⟨g, 0, none⟩) b.length c' ∧ Row (· = g) w' 5 eb (some ⟨g, 0, none⟩) c' b ∧ w.heap.size ≤ g ∧ g < w'.heap.size) ∧ Chg Nob w w') := by
 replace hr := hr.old
 have hw := Chg.refl Nob w
 have hlt := hr.lt
 refine Calls.of_WC Tryz.func59 rfl Tryz.ntmps59 (by simp) ?_
 refine WC.sr (WL.assign rfl rfl (WL.t (WC.seq (WC.sr (WL.move rfl rfl (WL.isNil? Tryz.underlying51 rfl rfl rfl (fun h4 => ?_) (fun h4 => ?_)))))))
 ·subst h4
  have hn := hr.none_nil
  rw [hn] at hl
  cases hl
 ·refine WL.t (WC.qa rfl (WC.skip (WX.qa (WC.sr (?_)))))
  refine WL.build (e := eb) [] Tryz.underlying51 Tryz.sizeOf5 Tryz.zeroValue5 rfl rfl rfl (by simp [Value.cells]; done) (by decide) rfl ?_
  intro a_hq w_hq hq l_hq z_hq k_hq
  replace hr := hr.pure k_hq
  replace hw := hw.pure k_hq
  refine WL.move rfl rfl (?_)
  refine WL.append0 (e := eb) info_5 rfl Tryz.underlying51 rfl rfl hq (hr.src Tryz.underlying51) (by omega) (by constructor <;> omega) rfl ?_
  intro g2 c2 w2 hb2 k2 eg2 z2
  replace hw := hw.pure k2
  refine WL.assign rfl rfl (WL.t (WC.ret (WX.qg (.inl rfl) Tryz.results59 rfl ?_)))
  exact ⟨_, rfl, ⟨g2, c2, rfl, hb2, by omega, by omega⟩, hw⟩
end Go.Proofs.YtjeldcjchipdgaaGreatDoor
namespace Go.Proofs.YtjeldcjchipdgaaGreatDoor
open Go.RowKit Go.HL
set_option maxRecDepth 100000
theorem RK.old {A : Nat → Prop} {w : World} {R : Nat} {s : RA} (h : RK A w R s) : RK (fun b => A b ∧ b < w.heap.size) w R s := by
 obtain ⟨m, ga, gc, wa, wc, ws, ls, hB, hI, hl⟩ := h.ex
 exact ⟨⟨h.aR, hB.lt⟩, h.ok, m, ga, gc, wa, wc, ws, ls, hB, ⟨⟨hI.sm, hI.map.lt⟩, hI.map, hI.gone.lt, hI.waits.lt, fun p hp => (hI.byl p hp).lt, fun p hp => (hI.byw p hp).lt⟩, hl⟩
def inS (s : RA) (d a : Int) : Prop := 0 ≤ d ∧ d < s.dn ∧ 0 ≤ a ∧ a < s.sn
instance (s : RA) (d a : Int) : Decidable (inS s d a) := inferInstanceAs (Decidable (0 ≤ d ∧ d < s.dn ∧ 0 ≤ a ∧ a < s.sn))
def isS (s : RA) (d : Int) : Prop := 0 ≤ d ∧ d < s.dn
instance (s : RA) (d : Int) : Decidable (isS s d) := inferInstanceAs (Decidable (0 ≤ d ∧ d < s.dn))
def goneS (s : RA) (d : Int) : Bool := s.gone.getD d.toNat false
theorem goneS_at {s : RA} (h : s.ok) {d : Int} (hd : isS s d) : s.gone[d.toNat]? = some (goneS s d) := by
 have : d.toNat < s.gone.length := by rw [h.gl]; have h1 := hd.1; have h2 := hd.2; omega
 rw [goneS, List.getD_eq_getElem?_getD, List.getElem?_eq_getElem this]
 rfl
theorem Drives_calls {A : Nat → Prop} {w : World} {R : Nat} {s : RA} (h : RK A w R s) : Calls Tryz.prog 49 [ptr R].toArray w (Ret fun v w' => v = vi s.dn ∧ Chg Nob w w') := by
 obtain ⟨m, ga, gc, wa, wc, ws, ls, hB, -⟩ := h.ex
 have hw := Chg.refl Nob w
 refine Calls.of_WC Tryz.func49 rfl Tryz.ntmps49 (by simp) ?_
 refine WC.sr (WL.assign rfl rfl (WL.t (WC.seq (WC.sr (WL.move rfl rfl (WL.qq Tryz.underlying25 rfl rfl rfl ?_))))))
 refine WL.t (WC.qa rfl (WC.skip (WX.qa (WC.sr (WL.move rfl rfl (WL.nilCheck rfl rfl (WL.fieldAddr (fld_92_0) rfl rfl (WL.qb Tryz.isAgg3 hB rfl rfl rfl (WL.assign rfl rfl (WL.t (WC.ret (WX.qg (.inl rfl) Tryz.results49 rfl ?_))))))))))))
 exact ⟨_, rfl, rfl, hw⟩
theorem Sectors_calls {A : Nat → Prop} {w : World} {R : Nat} {s : RA} (h : RK A w R s) : Calls Tryz.prog 70 [ptr R].toArray w (Ret fun v w' => v = vi s.sn ∧ Chg Nob w w') := by
 obtain ⟨m, ga, gc, wa, wc, ws, ls, hB, -⟩ := h.ex
 have hw := Chg.refl Nob w
 refine Calls.of_WC Tryz.func70 rfl Tryz.ntmps70 (by simp) ?_
 refine WC.sr (WL.assign rfl rfl (WL.t (WC.seq (WC.sr (WL.move rfl rfl (WL.qq Tryz.underlying25 rfl rfl rfl ?_))))))
 refine WL.t (WC.qa rfl (WC.skip (WX.qa (WC.sr (WL.move rfl rfl (WL.nilCheck rfl rfl (WL.fieldAddr (fld_92_1) rfl rfl (WL.qb Tryz.isAgg3 hB rfl rfl rfl (WL.assign rfl rfl (WL.t (WC.ret (WX.qg (.inl rfl) Tryz.results70 rfl ?_))))))))))))
 exact ⟨_, rfl, rfl, hw⟩
theorem Pending_calls {A : Nat → Prop} {w : World} {R : Nat} {s : RA} (h : RK A w R s) : Calls Tryz.prog 45 [ptr R].toArray w (Ret fun v w' => v = vi s.waits.length ∧ Chg Nob w w') := by
 obtain ⟨m, ga, gc, wa, wc, ws, ls, hB, -, -, hws⟩ := h.ex
 have hw := Chg.refl Nob w
 refine Calls.of_WC Tryz.func45 rfl Tryz.ntmps45 (by simp) ?_
 refine WC.sr (WL.assign rfl rfl (WL.t (WC.seq (WC.sr (WL.move rfl rfl (WL.qq Tryz.underlying25 rfl rfl rfl ?_))))))
 refine WL.t (WC.qa rfl (WC.skip (WX.qa (WC.sr (WL.move rfl rfl (WL.nilCheck rfl rfl (WL.fieldAddr (fld_92_4) rfl rfl (WL.qb Tryz.isAgg90 hB rfl rfl rfl (WL.len Tryz.underlying90 rfl rfl (WL.assign rfl rfl (WL.t (WC.ret (WX.qg (.inl rfl) Tryz.results45 rfl ?_)))))))))))))
 exact ⟨_, rfl, by rw [hws, xsm_len], hw⟩
def errS (s : RA) (d a : Int) : Int := if ¬ inS s d a then 1 else if goneS s d = true then 3 else if s.off = true then 16 else 0
theorem Read_calls {A : Nat → Prop} {w : World} {R : Nat} {s : RA} (h : RK A w R s) (d a : Int) :
 Calls Tryz.prog 86 [ptr R, vi d, vi a].toArray w (Ret fun v w' => (∃ (r : Rw) (e : Int), v = .tuple #[vsl r, vi e] ∧ e = errS s d a ∧ (e = 0 → r.xs = heldS s (d, a)) ∧ (e ≠ 0 → r = ⟨none, 0, []⟩) ∧ Row (w.heap.size ≤ ·) w' 5 eb r.ao r.cap r.xs) ∧ Chg Nob w w') := by
 have hw := Chg.refl Nob w
 refine Calls.of_WC Tryz.func86 rfl Tryz.ntmps86 (by simp) ?_
 refine WC.sr (WL.assign rfl rfl (WL.assign rfl rfl (WL.t (WC.seq (WC.block (WC.sr (WL.move rfl rfl (WL.move rfl rfl (WL.move rfl rfl (WL.call eg_58 rfl rfl (in_calls h d a) ?_))))))))))
 rintro v w1 ⟨rfl, k1⟩
 have zs_k1 := k1.size
 replace h := h.pure k1
 replace hw := hw.pure k1
 obtain ⟨m, ga, gc, wa, wc, ws, ls, hB, hI, -⟩ := h.ex
 by_cases h12 : inS s d a
 ·rw [show decide (0 ≤ d ∧ d < (s.dn : Int) ∧ 0 ≤ a ∧ a < (s.sn : Int)) = true from decide_eq_true h12]
  refine WL.not rfl rfl (WL.assign rfl rfl (WL.t (WC.qa rfl (WC.sr (WL.move rfl rfl (WL.nilCheck rfl rfl (WL.fieldAddr (fld_92_3) rfl rfl (WL.qb Tryz.isAgg84 hB rfl rfl rfl (WL.move rfl rfl (?_))))))))))
  have hgd := goneS_at h.ok (d := d) ⟨h12.1, h12.2.1⟩
  refine WL.qg (e := ebool) Tryz.underlying84 Tryz.sizeOf4 hI.gone.rsl rfl rfl ⟨hgd, by have := h12.1; omega⟩ rfl ?_
  intro bb oo hcc
  refine WL.load Tryz.isAgg4 rfl (hcc 0 _ rfl) rfl ?_
  rcases hg : goneS s d with _ | _
  ·refine WL.assign rfl rfl (WL.t (WC.qa rfl (WC.sr (WL.move rfl rfl (WL.nilCheck rfl rfl (WL.fieldAddr (fld_92_5) rfl rfl (WL.qb Tryz.isAgg4 hB rfl rfl rfl ?_)))))))
   rcases ho : s.off with _ | _
   ·refine WL.assign rfl rfl (WL.t (WC.qa rfl (WC.skip (WX.qc (WX.qa (WC.seq (WC.region (WL.move rfl rfl (WL.move rfl rfl (WL.move rfl rfl (WL.bld rfl (bld_99_0_1 _ _) rfl (WL.call eg_60 rfl rfl (held_calls h (d, a)) ?_))))))))))))
    rintro v w2 ⟨⟨r, rfl, hr, hx⟩, k2⟩
    have zs_k2 := k2.size
    replace h := h.pure k2
    replace hw := hw.pure k2
    refine WL.call eg_59 rfl rfl (bclone_calls hr (by rw [hx]; exact heldS_len h.ok _)) ?_
    rintro v w3 ⟨⟨g, c, rfl, hq, hq1, hq2⟩, k3⟩
    replace hw := hw.pure k3
    refine WL.assign rfl rfl (WL.assign rfl rfl (WL.t (WC.ret (WX.qi (.inl rfl) Tryz.results86 rfl rfl ?_))))
    exact ⟨_, rfl, ⟨⟨some ⟨g, 0, none⟩, c, r.xs⟩, 0, rfl, by simp [errS, h12, hg, ho], fun _ => hx, fun h0 => absurd rfl h0, hq.mono (fun b hb => by omega)⟩, hw⟩
   ·refine WL.assign rfl rfl (WL.t (WC.qb rfl (WC.sr (WL.assign rfl rfl (WL.assign rfl rfl (WL.t (WC.ret (WX.qe (WX.qb (WX.qi (.inl rfl) Tryz.results86 rfl rfl ?_))))))))))
    exact ⟨_, rfl, ⟨⟨none, 0, []⟩, 16, rfl, by simp [errS, h12, hg, ho], fun h0 => absurd h0 (by decide), fun _ => rfl, Row.nil _ _ _ _⟩, hw⟩
  ·refine WL.assign rfl rfl (WL.t (WC.qb rfl (WC.sr (WL.assign rfl rfl (WL.assign rfl rfl (WL.t (WC.ret (WX.qe (WX.qb (WX.qi (.inl rfl) Tryz.results86 rfl rfl ?_))))))))))
   exact ⟨_, rfl, ⟨⟨none, 0, []⟩, 3, rfl, by simp [errS, h12, hg], fun h0 => absurd h0 (by decide), fun _ => rfl, Row.nil _ _ _ _⟩, hw⟩
 ·rw [show decide (0 ≤ d ∧ d < (s.dn : Int) ∧ 0 ≤ a ∧ a < (s.sn : Int)) = false from decide_eq_false h12]
  refine WL.not rfl rfl (WL.assign rfl rfl (WL.t (WC.qb rfl (WC.sr (WL.assign rfl rfl (WL.assign rfl rfl (WL.t (WC.ret (WX.qe (WX.qb (WX.qi (.inl rfl) Tryz.results86 rfl rfl ?_)))))))))))
  exact ⟨_, rfl, ⟨⟨none, 0, []⟩, 1, rfl, by simp [errS, h12], fun h0 => absurd h0 (by decide), fun _ => rfl, Row.nil _ _ _ _⟩, hw⟩
def offS (s : RA) : Bool := s.off || (s.armed && decide (s.left = 0))
def spendS (s : RA) : RA := if offS s = true then { s with off := true } else { s with left := if s.armed = true then s.left - 1 else s.left }
theorem spendS_ok {s : RA} (h : s.ok) : (spendS s).ok := by
 unfold spendS
 split
 ·exact ⟨h.dn, h.sn, h.gl, h.ll, h.lw, h.lf, h.nd⟩
 ·rename_i h1
  refine ⟨h.dn, h.sn, h.gl, h.ll, h.lw, ?_, h.nd⟩
  obtain ⟨l1, l2, l3⟩ := h.lf
  show (s.armed = true → 0 ≤ (if s.armed = true then s.left - 1 else s.left)) ∧ _ ≤ (if s.armed = true then s.left - 1 else s.left) ∧ (if s.armed = true then s.left - 1 else s.left) ≤ _
  by_cases h2 : s.armed = true
  ·rw [if_pos h2]
   have := l1 h2
   simp [offS, h2] at h1
   have h3 := h1.2
   refine ⟨fun _ => ?_, ?_, ?_⟩ <;> omega
  ·rw [if_neg h2]
   exact ⟨fun h3 => absurd h3 h2, l2, l3⟩
theorem spend_calls {A : Nat → Prop} {w : World} {R : Nat} {s : RA} (h : RK A w R s) :
 Calls Tryz.prog 51 [ptr R].toArray w (Ret fun v w' => v = .bool (!offS s) ∧ RK A w' R (spendS s) ∧ Chg (fun x => x = R) w w' ∧ w'.heap.size = w.heap.size) := by
 have aR := h.aR
 have hok := h.ok
 have hsok := spendS_ok h.ok
 obtain ⟨m, ga, gc, wa, wc, ws, ls, hB, hI, hls, hws⟩ := h.ex
 replace hI := hI.open hB
 have hw := Chg.refl (fun x => x = R) w
 have hsz : w.heap.size = w.heap.size := rfl
 refine Calls.of_WC Tryz.func51 rfl Tryz.ntmps51 (by simp) ?_
 refine WC.sr (WL.assign rfl rfl (WL.t (WC.seq (WC.sr (WL.move rfl rfl (WL.nilCheck rfl rfl (WL.fieldAddr (fld_92_6) rfl rfl (WL.qb Tryz.isAgg4 hB rfl rfl rfl (WL.move rfl rfl (WL.caseB (t := 7) rfl (fun hb7 => ?_) (fun hb7 => ?_)))))))))))
 ·refine WL.qa rfl rfl rfl (WL.move rfl rfl (WL.qa rfl rfl rfl (WL.nilCheck rfl rfl (WL.qa rfl rfl rfl (WL.fieldAddr (fld_92_7) rfl rfl (WL.qa rfl rfl rfl (WL.qb Tryz.isAgg3 hB rfl rfl rfl (WL.qa rfl rfl rfl (WL.qi rfl rfl rfl (fun h12 => ?_) (fun h12 => ?_))))))))))
  ·refine WL.qd rfl rfl rfl (WL.t (WC.qb rfl (WC.region (WL.move rfl rfl (WL.nilCheck rfl rfl (WL.fieldAddr (fld_92_5) rfl rfl (WL.store Tryz.sizeOf4 hB rfl rfl rfl rfl ?_)))))))
   intro w_1 hs_1 hn_1 k_1
   replace hI := hI.chg k_1 (by intro b h1 h2 h3; have h4 : _ = _ := h3; (try dsimp only at h2); exfalso; omega)
   replace hw := hw.chg k_1 (by intro x h1 h2; exact h2)
   replace hB := hn_1
   refine WL.t (WC.seq (WC.sr (WL.move rfl rfl (WL.nilCheck rfl rfl (WL.fieldAddr (fld_92_5) rfl rfl (WL.qb Tryz.isAgg4 hB rfl rfl rfl (WL.t (?_))))))))
   first | refine WC.cond_dec rfl (fun hc20 => ?_) (fun hc20 => ?_) | refine WC.cond_split rfl (fun hc20 => ?_) (fun hc20 => ?_)
   ·refine WC.sr (WL.assign rfl rfl (WL.t (WC.ret (WX.qb (WX.qg (.inl rfl) Tryz.results51 rfl ?_)))))
    refine ⟨_, rfl, ?_, ⟨aR, hsok, m, ga, gc, wa, wc, ws, ls, Eq.mp (congrArg (Blk _ R 92) ?_) hB, ?_, ?_, ?_⟩, hw, by omega⟩
    ·congr 1
     simp [offS, *]
    ·simp [rcells, spendS, offS, *]
    ·refine (show (spendS s).gone = s.gone from ?_) ▸ hI.mono (fun b hb => hb.1)
     unfold spendS
     split <;> rfl
    ·rw [← hls]
     unfold spendS
     split <;> rfl
    ·rw [← hws]
     unfold spendS
     split <;> rfl
   ·refine WC.skip (WX.qa (WC.seq (WC.sr (WL.move rfl rfl (WL.nilCheck rfl rfl (WL.fieldAddr (fld_92_6) rfl rfl (WL.qb Tryz.isAgg4 hB rfl rfl rfl (WL.t (?_)))))))))
    first | refine WC.cond_dec rfl (fun hc24 => ?_) (fun hc24 => ?_) | refine WC.cond_split rfl (fun hc24 => ?_) (fun hc24 => ?_)
    ·refine WC.region (WL.move rfl rfl (WL.nilCheck rfl rfl (WL.fieldAddr (fld_92_7) rfl rfl (WL.qb Tryz.isAgg3 hB rfl rfl rfl (?_)))))
     refine WL.qj rfl rfl (by constructor <;> omega) rfl ?_
     refine WL.nilCheck rfl rfl (WL.fieldAddr (fld_92_7) rfl rfl (WL.store Tryz.sizeOf3 hB rfl rfl rfl rfl ?_))
     intro w_2 hs_2 hn_2 k_2
     refine WL.t (WC.sr (WL.assign rfl rfl (WL.t (WC.ret (WX.qg (.inl rfl) Tryz.results51 rfl ?_)))))
     exfalso; cases hc20; done
    ·refine WC.skip (WX.qa (WC.sr (WL.assign rfl rfl (WL.t (WC.ret (WX.qg (.inl rfl) Tryz.results51 rfl ?_))))))
     exfalso; cases hc20; done
  ·refine WL.qd rfl rfl rfl (WL.t (WC.qa rfl (WC.skip (WX.qa (WC.seq (WC.seq (WC.region (WL.move rfl rfl (WL.nilCheck rfl rfl (WL.fieldAddr (fld_92_5) rfl rfl (WL.qb Tryz.isAgg4 hB rfl rfl rfl (WL.t (?_)))))))))))))
   first | refine WC.cond_dec rfl (fun hc20 => ?_) (fun hc20 => ?_) | refine WC.cond_split rfl (fun hc20 => ?_) (fun hc20 => ?_)
   ·refine WC.sr (WL.assign rfl rfl (WL.t (WC.ret (WX.qb (WX.qg (.inl rfl) Tryz.results51 rfl ?_)))))
    refine ⟨_, rfl, ?_, ⟨aR, hsok, m, ga, gc, wa, wc, ws, ls, Eq.mp (congrArg (Blk _ R 92) ?_) hB, ?_, ?_, ?_⟩, hw, by omega⟩
    ·congr 1
     simp [offS, *]
    ·simp [rcells, spendS, offS, *]
    ·refine (show (spendS s).gone = s.gone from ?_) ▸ hI.mono (fun b hb => hb.1)
     unfold spendS
     split <;> rfl
    ·rw [← hls]
     unfold spendS
     split <;> rfl
    ·rw [← hws]
     unfold spendS
     split <;> rfl
   ·refine WC.skip (WX.qa (WC.seq (WC.sr (WL.move rfl rfl (WL.nilCheck rfl rfl (WL.fieldAddr (fld_92_6) rfl rfl (WL.qb Tryz.isAgg4 hB rfl rfl rfl (WL.t (?_)))))))))
    first | refine WC.cond_dec rfl (fun hc24 => ?_) (fun hc24 => ?_) | refine WC.cond_split rfl (fun hc24 => ?_) (fun hc24 => ?_)
    ·refine WC.region (WL.move rfl rfl (WL.nilCheck rfl rfl (WL.fieldAddr (fld_92_7) rfl rfl (WL.qb Tryz.isAgg3 hB rfl rfl rfl (?_)))))
     have hl0 := hok.lf.1 hc24
     have hl1 := hok.lf.2.2
     refine WL.qj rfl rfl (by constructor <;> omega) rfl ?_
     refine WL.nilCheck rfl rfl (WL.fieldAddr (fld_92_7) rfl rfl (WL.store Tryz.sizeOf3 hB rfl rfl rfl rfl ?_))
     intro w_1 hs_1 hn_1 k_1
     have zs_k_1 := k_1.size
     replace hI := hI.chg k_1 (by intro b h1 h2 h3; have h4 : _ = _ := h3; (try dsimp only at h2); exfalso; omega)
     replace hw := hw.chg k_1 (by intro x h1 h2; exact h2)
     replace hB := hn_1
     refine WL.t (WC.sr (WL.assign rfl rfl (WL.t (WC.ret (WX.qg (.inl rfl) Tryz.results51 rfl ?_)))))
     refine ⟨_, rfl, ?_, ⟨aR, hsok, m, ga, gc, wa, wc, ws, ls, Eq.mp (congrArg (Blk _ R 92) ?_) hB, ?_, ?_, ?_⟩, hw, by omega⟩
     ·congr 1
      simp [offS, *]
     ·simp [rcells, spendS, offS, *]
     ·refine (show (spendS s).gone = s.gone from ?_) ▸ hI.mono (fun b hb => hb.1)
      unfold spendS
      split <;> rfl
     ·rw [← hls]
      unfold spendS
      split <;> rfl
     ·rw [← hws]
      unfold spendS
      split <;> rfl
    ·refine WC.skip (WX.qa (WC.sr (WL.assign rfl rfl (WL.t (WC.ret (WX.qg (.inl rfl) Tryz.results51 rfl ?_))))))
     exfalso; rw [hb7] at hc24; cases hc24; done
 ·refine WL.pass rfl rfl rfl rfl (WL.pass rfl rfl rfl rfl (WL.pass rfl rfl rfl rfl (WL.pass rfl rfl rfl rfl (WL.pass rfl rfl rfl rfl (WL.qc rfl rfl rfl (WL.t (WC.qa rfl (WC.skip (WX.qa (WC.seq (WC.sr (WL.move rfl rfl (WL.nilCheck rfl rfl (WL.fieldAddr (fld_92_5) rfl rfl (WL.qb Tryz.isAgg4 hB rfl rfl rfl (WL.t (?_)))))))))))))))))
  first | refine WC.cond_dec rfl (fun hc20 => ?_) (fun hc20 => ?_) | refine WC.cond_split rfl (fun hc20 => ?_) (fun hc20 => ?_)
  ·refine WC.sr (WL.assign rfl rfl (WL.t (WC.ret (WX.qb (WX.qg (.inl rfl) Tryz.results51 rfl ?_)))))
   refine ⟨_, rfl, ?_, ⟨aR, hsok, m, ga, gc, wa, wc, ws, ls, Eq.mp (congrArg (Blk _ R 92) ?_) hB, ?_, ?_, ?_⟩, hw, by omega⟩
   ·congr 1
    simp [offS, *]
   ·simp [rcells, spendS, offS, *]
   ·refine (show (spendS s).gone = s.gone from ?_) ▸ hI.mono (fun b hb => hb.1)
    unfold spendS
    split <;> rfl
   ·rw [← hls]
    unfold spendS
    split <;> rfl
   ·rw [← hws]
    unfold spendS
    split <;> rfl
  ·refine WC.skip (WX.qa (WC.seq (WC.sr (WL.move rfl rfl (WL.nilCheck rfl rfl (WL.fieldAddr (fld_92_6) rfl rfl (WL.qb Tryz.isAgg4 hB rfl rfl rfl (WL.t (?_)))))))))
   first | refine WC.cond_dec rfl (fun hc24 => ?_) (fun hc24 => ?_) | refine WC.cond_split rfl (fun hc24 => ?_) (fun hc24 => ?_)
   ·refine WC.region (WL.move rfl rfl (WL.nilCheck rfl rfl (WL.fieldAddr (fld_92_7) rfl rfl (WL.qb Tryz.isAgg3 hB rfl rfl rfl (?_)))))
    have hl0 := hok.lf.1 hc24
    have hl1 := hok.lf.2.2
    refine WL.qj rfl rfl (by constructor <;> omega) rfl ?_
    refine WL.nilCheck rfl rfl (WL.fieldAddr (fld_92_7) rfl rfl (WL.store Tryz.sizeOf3 hB rfl rfl rfl rfl ?_))
    intro w_1 hs_1 hn_1 k_1
    have zs_k_1 := k_1.size
    replace hI := hI.chg k_1 (by intro b h1 h2 h3; have h4 : _ = _ := h3; (try dsimp only at h2); exfalso; omega)
    replace hw := hw.chg k_1 (by intro x h1 h2; exact h2)
    replace hB := hn_1
    refine WL.t (WC.sr (WL.assign rfl rfl (WL.t (WC.ret (WX.qg (.inl rfl) Tryz.results51 rfl ?_)))))
    exfalso; rw [hb7] at hc24; cases hc24; done
   ·refine WC.skip (WX.qa (WC.sr (WL.assign rfl rfl (WL.t (WC.ret (WX.qg (.inl rfl) Tryz.results51 rfl ?_))))))
    refine ⟨_, rfl, ?_, ⟨aR, hsok, m, ga, gc, wa, wc, ws, ls, Eq.mp (congrArg (Blk _ R 92) ?_) hB, ?_, ?_, ?_⟩, hw, by omega⟩
    ·congr 1
     simp [offS, *]
    ·simp [rcells, spendS, offS, *]
    ·refine (show (spendS s).gone = s.gone from ?_) ▸ hI.mono (fun b hb => hb.1)
     unfold spendS
     split <;> rfl
    ·rw [← hls]
     unfold spendS
     split <;> rfl
    ·rw [← hws]
     unfold spendS
     split <;> rfl
end Go.Proofs.YtjeldcjchipdgaaGreatDoor
namespace Go.Proofs.YtjeldcjchipdgaaGreatDoor
open Go.RowKit Go.HL
set_option maxRecDepth 100000
theorem spendS_dn (s : RA) : (spendS s).dn = s.dn := by unfold spendS; split <;> rfl
theorem spendS_sn (s : RA) : (spendS s).sn = s.sn := by unfold spendS; split <;> rfl
theorem spendS_gone (s : RA) : (spendS s).gone = s.gone := by unfold spendS; split <;> rfl
theorem spendS_waits (s : RA) : (spendS s).waits = s.waits := by unfold spendS; split <;> rfl
theorem spendS_last (s : RA) : (spendS s).last = s.last := by unfold spendS; split <;> rfl
def writeE (s : RA) (d a : Int) (n : Nat) : Int := if ¬ inS s d a ∨ n ≠ 128 then 1 else if goneS s d = true then 3 else if offS s = true then 16 else 0
def writeS (s : RA) (d a : Int) (b : List UInt8) : RA := if writeE s d a b.length = 0 then { spendS s with waits := s.waits ++ [((d, a), b)] } else if writeE s d a b.length = 16 then spendS s else s
theorem writeE_0 {s : RA} {d a : Int} {n : Nat} : writeE s d a n = 0 ↔ inS s d a ∧ n = 128 ∧ goneS s d = false ∧ offS s = false := by
 unfold writeE
 by_cases h1 : inS s d a <;> by_cases h2 : n = 128 <;> cases h3 : goneS s d <;> cases h4 : offS s <;> simp [h1, h2]
theorem writeS_ok {s : RA} (h : s.ok) (d a : Int) (b : List UInt8) : (writeS s d a b).ok := by
 have h1 := spendS_ok h
 unfold writeS
 split
 ·rename_i h2
  have hb := (writeE_0.1 h2).2.1
  refine ⟨h1.dn, h1.sn, h1.gl, h1.ll, fun p hp => ?_, h1.lf, h1.nd⟩
  rcases List.mem_append.1 hp with h3 | h3
  ·exact h.lw p h3
  ·simp at h3
   rw [h3]
   exact hb
 ·split
  ·exact h1
  ·exact h
theorem Write_calls {A S : Nat → Prop} {w : World} {R : Nat} {s : RA} (h : RK A w R s) (d a : Int) {ao : Option Addr} {c : Nat} {b : List UInt8} (hb : RSl S w eb ao c b) (hS : ∀ x, S x → x = R → False) (hn : s.waits.length ≤ 100000) :
 Calls Tryz.prog 22 [ptr R, vi d, vi a, .slice ao b.length c].toArray w (Ret fun v w' => v = vi (writeE s d a b.length) ∧ RK (fun x => A x ∨ w.heap.size ≤ x) w' R (writeS s d a b) ∧ Chg A w w') := by
 have aR := h.aR
 have hwok := writeS_ok h.ok d a b
 have hw := Chg.refl A w
 refine Calls.of_WC Tryz.func22 rfl Tryz.ntmps22 (by simp) ?_
 refine WC.sr (WL.assign rfl rfl (WL.t (WC.seq (WC.block (WC.seq (WC.region (WL.move rfl rfl (WL.move rfl rfl (WL.move rfl rfl (WL.call eg_58 rfl rfl (in_calls h d a) ?_))))))))))
 rintro v w1 ⟨rfl, k1⟩
 have zs_k1 := k1.size
 replace h := h.pure k1
 replace hb := hb.pure k1
 replace hw := hw.pure k1
 by_cases h12 : inS s d a
 ·rw [show decide (0 ≤ d ∧ d < (s.dn : Int) ∧ 0 ≤ a ∧ a < (s.sn : Int)) = true from decide_eq_true h12]
  refine WL.not rfl rfl (WL.move rfl rfl (WL.qa rfl rfl rfl (WL.move rfl rfl (WL.qa rfl rfl rfl (WL.len Tryz.underlying51 rfl rfl (WL.qa rfl rfl rfl (WL.qo rfl rfl rfl (fun h18 => ?_) (fun h18 => ?_))))))))
  ·refine WL.qc rfl rfl rfl (WL.assign rfl rfl (WL.t (WC.qb rfl (WC.sr (WL.assign rfl rfl (WL.t (WC.ret (WX.qe (WX.qb (WX.qg (.inl rfl) Tryz.results22 rfl ?_))))))))))
   have hh : (b.length : Int) ≠ 128 := h18
   have hh2 : b.length ≠ 128 := by omega
   exact ⟨_, rfl, by simp [writeE, hh2], by rw [show writeS s d a b = s from by simp [writeS, writeE, hh2]]; exact h.mono (fun x hx => .inl hx), hw⟩
  ·refine WL.qc rfl rfl rfl (WL.assign rfl rfl (WL.t (WC.qa rfl (WC.sr (WL.move rfl rfl (WL.nilCheck rfl rfl (WL.fieldAddr (fld_92_3) rfl rfl (?_))))))))
   obtain ⟨m, ga, gc, wa, wc, ws, ls, hB, hI, -⟩ := h.ex
   refine WL.qb Tryz.isAgg84 hB rfl rfl rfl (WL.move rfl rfl (?_))
   have hgd := goneS_at h.ok (d := d) ⟨h12.1, h12.2.1⟩
   refine WL.qg (e := ebool) Tryz.underlying84 Tryz.sizeOf4 hI.gone.rsl rfl rfl ⟨hgd, by have := h12.1; omega⟩ rfl ?_
   intro bb oo hcc
   refine WL.load Tryz.isAgg4 rfl (hcc 0 _ rfl) rfl ?_
   rcases hg : goneS s d with _ | _
   ·refine WL.assign rfl rfl (WL.t (WC.qa rfl (WC.sr (WL.move rfl rfl (?_)))))
    clear hB hI hcc
    refine WL.call eg_51 rfl rfl (spend_calls h) ?_
    rintro v w2 ⟨rfl, h2, k2, z2⟩
    replace hb := hb.chg k2 (by intro x h0 h1 h2; exact hS x h1 h2)
    replace hw := hw.chg k2 (by intro x h1 h2; have h3 : _ = _ := h2; subst h3; assumption)
    rcases ho : offS s with _ | _
    ·refine WL.not rfl rfl (WL.assign rfl rfl (WL.t (WC.qa rfl (WC.skip (WX.qc (WX.qa (WC.seq (?_))))))))
     obtain ⟨m, ga, gc, wa, wc, ws, ls, hB, hI, hls, hws⟩ := h2.ex
     replace hI := (hI.open hB).mono (S' := fun x => (A x ∨ w.heap.size ≤ x) ∧ x ≠ R) (fun x hx => ⟨.inl hx.1, hx.2⟩)
     have aR2 : A R ∨ w.heap.size ≤ R := .inl aR
     have lR := hB.lt
     have zw := hw.size
     have hwl : ws.length ≤ 100000 := by rw [← xsm_len, ← hws, spendS_waits]; exact hn
     refine WC.drawM ((fun x => A x ∨ w.heap.size ≤ x)) [0, 1, 2, 3, 5, 6, 7, 8, 13, 14] [4, 9, 10, 11, 12, 15] mixed rfl rfl (fun wd_1 kd_1 zd_1 => ?_)
     have zs_kd_1 := kd_1.size
     replace hb := hb.pure kd_1
     replace hw := hw.pure kd_1
     replace hB := hB.pure kd_1
     replace hI := hI.pure kd_1
     apply DQT.step (E' := [(0, _)])
     case ho => rfl
     case hs => exact ⟨rfl, trivial⟩
     case hk => rfl
     case h1 =>
      intro wq_3 kq_3
      refine WL.move rfl rfl (WL.q)
     apply DQT.step (E' := [(0, _)])
     case ho => rfl
     case hs => exact ⟨rfl, trivial⟩
     case hk => rfl
     case h1 =>
      intro wq_4 kq_4
      refine WL.move rfl rfl (WL.q)
     apply DQT.step (E' := [(33, _)])
     case ho => rfl
     case hs => exact ⟨rfl, trivial⟩
     case hk => rfl
     case h1 =>
      intro wq_5 kq_5
      refine WL.nilCheck rfl rfl (WL.q)
     apply DQT.step (E' := [(34, _)])
     case ho => rfl
     case hs => exact ⟨rfl, trivial⟩
     case hk => rfl
     case h1 =>
      intro wq_6 kq_6
      refine WL.fieldAddr (fld_92_4) rfl rfl (WL.q)
     apply DQT.step (E' := [(1, _)])
     case ho => rfl
     case hs => exact ⟨rfl, trivial⟩
     case hk => rfl
     case h1 =>
      intro wq_7 kq_7
      refine WL.move rfl rfl (WL.q)
     apply DQT.step (E' := [(2, _)])
     case ho => rfl
     case hs => exact ⟨rfl, trivial⟩
     case hk => rfl
     case h1 =>
      intro wq_8 kq_8
      refine WL.move rfl rfl (WL.q)
     apply DQT.step (E' := [(37, _), (38, _)])
     case ho => rfl
     case hs => exact ⟨rfl, rfl, trivial⟩
     case hk => rfl
     case h1 =>
      intro wq_9 kq_9
      refine WL.bld rfl (bld_99_0_1 _ _) rfl (WL.q)
     apply DQT.step (E' := [(3, _)])
     case ho => rfl
     case hs => exact ⟨rfl, trivial⟩
     case hk => rfl
     case h1 =>
      intro wq_10 kq_10
      refine WL.move rfl rfl (WL.q)
     apply DQT.step (E' := [(32, _)])
     case ho => rfl
     case hs => exact ⟨rfl, trivial⟩
     case hk => rfl
     case h1 =>
      intro wq_11 kq_11
      refine WL.nilCheck rfl rfl (WL.q)
     apply DQT.step (E' := [(45, _)])
     case ho => rfl
     case hs => exact ⟨rfl, trivial⟩
     case hk => rfl
     case h1 =>
      intro wq_12 kq_12
      refine WL.fieldAddr (fld_92_4) rfl rfl (WL.q)
     refine DQT.done (fun hd_2 => ?_)
     refine ⟨?_, ?_, trivial, trivial, trivial, trivial, trivial⟩
     refine DT.step [(35, _)] rfl ⟨rfl, trivial⟩ rfl (fun wq_13 kq_13 => ?_)
     have zs_kq_13 := kq_13.size
     replace hb := hb.pure kq_13
     replace hw := hw.pure kq_13
     replace hB := hB.pure kq_13
     replace hI := hI.pure kq_13
     replace hd_2 := hd_2.pure kq_13
     refine WL.qb Tryz.isAgg90 hB rfl rfl rfl (WL.nil (WX.one ⟨hd_2, ?_⟩))
     refine ⟨?_, trivial, trivial, trivial, trivial, trivial⟩
     refine DT.step [(40, _)] rfl ⟨rfl, trivial⟩ rfl (fun wq_14 kq_14 => ?_)
     have zs_kq_14 := kq_14.size
     replace hb := hb.pure kq_14
     replace hw := hw.pure kq_14
     replace hB := hB.pure kq_14
     replace hI := hI.pure kq_14
     replace hd_2 := hd_2.pure kq_14
     refine WL.call eg_59 rfl rfl (bclone_calls hb (by omega)) ?_
     rintro v w3 ⟨⟨gq, cq, rfl, hq, hq1, hq2⟩, k3⟩
     have zs_k3 := k3.size
     replace hb := hb.pure k3
     replace hw := hw.pure k3
     replace hB := hB.pure k3
     replace hI := hI.pure k3
     replace hd_2 := hd_2.pure k3
     refine WL.nil (WX.one ⟨hd_2, ?_⟩)
     refine ⟨?_, trivial, trivial, trivial, trivial⟩
     refine DT.step [(39, _), (41, _)] rfl ⟨rfl, rfl, trivial⟩ rfl (fun wq_15 kq_15 => ?_)
     have zs_kq_15 := kq_15.size
     replace hb := hb.pure kq_15
     replace hw := hw.pure kq_15
     replace hB := hB.pure kq_15
     replace hI := hI.pure kq_15
     replace hd_2 := hd_2.pure kq_15
     replace hq := hq.pure kq_15
     refine WL.bld rfl (bld_101_0_1 _ _ _ _ _) rfl (WL.nil (WX.one ⟨hd_2, ?_⟩))
     refine ⟨?_, trivial, trivial, trivial⟩
     refine DT.step [(42, _)] rfl ⟨rfl, trivial⟩ rfl (fun wq_16 kq_16 => ?_)
     have zs_kq_16 := kq_16.size
     replace hb := hb.pure kq_16
     replace hw := hw.pure kq_16
     replace hB := hB.pure kq_16
     replace hI := hI.pure kq_16
     replace hd_2 := hd_2.pure kq_16
     replace hq := hq.pure kq_16
     refine WL.build (e := ewr) [((d, a), ⟨some ⟨gq, 0, none⟩, cq, b⟩)] Tryz.underlying90 Tryz.sizeOf101 Tryz.zeroValue101 rfl rfl rfl (by simp [Value.cells] <;> rfl) (by decide) rfl ?_
     intro a_b43 w_b43 b43 l_b43 z_b43 k_b43
     have zs_k_b43 := k_b43.size
     replace hb := hb.pure k_b43
     replace hw := hw.pure k_b43
     replace hB := hB.pure k_b43
     replace hI := hI.pure k_b43
     replace hd_2 := hd_2.pure k_b43
     replace hq := hq.pure k_b43
     refine WL.nil (WX.one ⟨hd_2, ?_⟩)
     refine ⟨?_, trivial, trivial⟩
     refine DT.step [(36, _), (43, _)] rfl ⟨rfl, rfl, trivial⟩ rfl (fun wq_17 kq_17 => ?_)
     have zs_kq_17 := kq_17.size
     replace hb := hb.pure kq_17
     replace hw := hw.pure kq_17
     replace hB := hB.pure kq_17
     replace hI := hI.pure kq_17
     replace hd_2 := hd_2.pure kq_17
     replace hq := hq.pure kq_17
     replace b43 := b43.pure kq_17
     refine WL.append (e := ewr) info_101 rfl Tryz.underlying90 rfl rfl hI.waits (b43.rsl.src Tryz.underlying90) (by constructor <;> (simp only [List.length_cons, List.length_nil]; omega)) (fun x hx => ⟨.inr (by omega), by omega⟩) rfl ?_
     intro ao9 c9 w9 hb9 gg9 n9
     have hq9 : Row (fun x => (A x ∨ w.heap.size ≤ x) ∧ x ≠ R) _ 5 eb (some ⟨gq, 0, none⟩) cq b := hq.mono (fun x hx => ⟨.inr (by omega), by omega⟩)
     have hI9 := hI.setWaits hb9 gg9.chg (fun x hx => hx.1) (fun p hp => by
      rcases List.mem_append.1 hp with h3 | h3
      ·exact .inl ⟨p, h3, rfl⟩
      ·simp at h3
       right
       rw [h3]
       exact hq9)
     have gk : Chg (fun x => (A x ∨ w.heap.size ≤ x) ∧ x ≠ R) _ w9 := gg9.chg.mono (fun x _ hx => hx.2)
     have zs_gk := gk.size
     replace hw := hw.chg gk (by intro x h1 h2; rcases h2.1 with h3 | h3; exact h3; exfalso; omega)
     replace hB := hB.chg gk (by intro h1; exfalso; have h4 := h1.2; (try dsimp only at *); omega)
     replace hd_2 := hd_2.chg gk (by intro x h1 h2; exact h2.1)
     refine WL.nil (WX.one ⟨hd_2, ?_⟩)
     refine ⟨?_, trivial⟩
     refine DT.step [(46, _), (44, _)] rfl ⟨rfl, rfl, trivial⟩ rfl (fun wq_18 kq_18 => ?_)
     have zs_kq_18 := kq_18.size
     replace hw := hw.pure kq_18
     replace hB := hB.pure kq_18
     replace hd_2 := hd_2.pure kq_18
     replace hI9 := hI9.pure kq_18
     refine WL.store Tryz.sizeOf90 hB rfl rfl rfl rfl ?_
     intro w_19 hs_19 hn_19 k_19
     have zs_k_19 := k_19.size
     replace hw := hw.chg k_19 (by intro x h1 h2; have h3 : _ = _ := h2; subst h3; assumption)
     replace hd_2 := hd_2.chg k_19 (by intro x h1 h2; have h3 : _ = _ := h2; subst h3; assumption)
     replace hI9 := hI9.chg k_19 (by intro b h1 h2 h3; have h4 : _ = _ := h3; (try dsimp only at h2); exfalso; omega)
     replace hB := hn_19
     refine WL.nil (WX.qk (v := undef) ⟨hd_2, ?_⟩)
     refine DT.done (fun we_20 ke_20 => ?_) _
     have zs_ke_20 := ke_20.size
     replace hw := hw.pure ke_20
     replace hB := hB.pure ke_20
     replace hd_2 := hd_2.pure ke_20
     replace hI9 := hI9.pure ke_20
     rotate_left
     refine DT.step [(40, _)] rfl ⟨rfl, trivial⟩ rfl (fun wq_13 kq_13 => ?_)
     have zs_kq_13 := kq_13.size
     replace hb := hb.pure kq_13
     replace hw := hw.pure kq_13
     replace hB := hB.pure kq_13
     replace hI := hI.pure kq_13
     replace hd_2 := hd_2.pure kq_13
     refine WL.call eg_59 rfl rfl (bclone_calls hb (by omega)) ?_
     rintro v w3 ⟨⟨gq, cq, rfl, hq, hq1, hq2⟩, k3⟩
     have zs_k3 := k3.size
     replace hb := hb.pure k3
     replace hw := hw.pure k3
     replace hB := hB.pure k3
     replace hI := hI.pure k3
     replace hd_2 := hd_2.pure k3
     refine WL.nil (WX.one ⟨hd_2, ?_⟩)
     refine ⟨?_, ?_, trivial, trivial, trivial, trivial⟩
     refine DT.step [(35, _)] rfl ⟨rfl, trivial⟩ rfl (fun wq_14 kq_14 => ?_)
     have zs_kq_14 := kq_14.size
     replace hb := hb.pure kq_14
     replace hw := hw.pure kq_14
     replace hB := hB.pure kq_14
     replace hI := hI.pure kq_14
     replace hd_2 := hd_2.pure kq_14
     replace hq := hq.pure kq_14
     refine WL.qb Tryz.isAgg90 hB rfl rfl rfl (WL.nil (WX.one ⟨hd_2, ?_⟩))
     refine ⟨?_, trivial, trivial, trivial, trivial⟩
     refine DT.step [(39, _), (41, _)] rfl ⟨rfl, rfl, trivial⟩ rfl (fun wq_15 kq_15 => ?_)
     have zs_kq_15 := kq_15.size
     replace hb := hb.pure kq_15
     replace hw := hw.pure kq_15
     replace hB := hB.pure kq_15
     replace hI := hI.pure kq_15
     replace hd_2 := hd_2.pure kq_15
     replace hq := hq.pure kq_15
     refine WL.bld rfl (bld_101_0_1 _ _ _ _ _) rfl (WL.nil (WX.one ⟨hd_2, ?_⟩))
     refine ⟨?_, trivial, trivial, trivial⟩
     refine DT.step [(42, _)] rfl ⟨rfl, trivial⟩ rfl (fun wq_16 kq_16 => ?_)
     have zs_kq_16 := kq_16.size
     replace hb := hb.pure kq_16
     replace hw := hw.pure kq_16
     replace hB := hB.pure kq_16
     replace hI := hI.pure kq_16
     replace hd_2 := hd_2.pure kq_16
     replace hq := hq.pure kq_16
     refine WL.build (e := ewr) [((d, a), ⟨some ⟨gq, 0, none⟩, cq, b⟩)] Tryz.underlying90 Tryz.sizeOf101 Tryz.zeroValue101 rfl rfl rfl (by simp [Value.cells] <;> rfl) (by decide) rfl ?_
     intro a_b43 w_b43 b43 l_b43 z_b43 k_b43
     have zs_k_b43 := k_b43.size
     replace hb := hb.pure k_b43
     replace hw := hw.pure k_b43
     replace hB := hB.pure k_b43
     replace hI := hI.pure k_b43
     replace hd_2 := hd_2.pure k_b43
     replace hq := hq.pure k_b43
     refine WL.nil (WX.one ⟨hd_2, ?_⟩)
     refine ⟨?_, trivial, trivial⟩
     refine DT.step [(36, _), (43, _)] rfl ⟨rfl, rfl, trivial⟩ rfl (fun wq_17 kq_17 => ?_)
     have zs_kq_17 := kq_17.size
     replace hb := hb.pure kq_17
     replace hw := hw.pure kq_17
     replace hB := hB.pure kq_17
     replace hI := hI.pure kq_17
     replace hd_2 := hd_2.pure kq_17
     replace hq := hq.pure kq_17
     replace b43 := b43.pure kq_17
     refine WL.append (e := ewr) info_101 rfl Tryz.underlying90 rfl rfl hI.waits (b43.rsl.src Tryz.underlying90) (by constructor <;> (simp only [List.length_cons, List.length_nil]; omega)) (fun x hx => ⟨.inr (by omega), by omega⟩) rfl ?_
     intro ao9 c9 w9 hb9 gg9 n9
     have hq9 : Row (fun x => (A x ∨ w.heap.size ≤ x) ∧ x ≠ R) _ 5 eb (some ⟨gq, 0, none⟩) cq b := hq.mono (fun x hx => ⟨.inr (by omega), by omega⟩)
     have hI9 := hI.setWaits hb9 gg9.chg (fun x hx => hx.1) (fun p hp => by
      rcases List.mem_append.1 hp with h3 | h3
      ·exact .inl ⟨p, h3, rfl⟩
      ·simp at h3
       right
       rw [h3]
       exact hq9)
     have gk : Chg (fun x => (A x ∨ w.heap.size ≤ x) ∧ x ≠ R) _ w9 := gg9.chg.mono (fun x _ hx => hx.2)
     have zs_gk := gk.size
     replace hw := hw.chg gk (by intro x h1 h2; rcases h2.1 with h3 | h3; exact h3; exfalso; omega)
     replace hB := hB.chg gk (by intro h1; exfalso; have h4 := h1.2; (try dsimp only at *); omega)
     replace hd_2 := hd_2.chg gk (by intro x h1 h2; exact h2.1)
     refine WL.nil (WX.one ⟨hd_2, ?_⟩)
     refine ⟨?_, trivial⟩
     refine DT.step [(46, _), (44, _)] rfl ⟨rfl, rfl, trivial⟩ rfl (fun wq_18 kq_18 => ?_)
     have zs_kq_18 := kq_18.size
     replace hw := hw.pure kq_18
     replace hB := hB.pure kq_18
     replace hd_2 := hd_2.pure kq_18
     replace hI9 := hI9.pure kq_18
     refine WL.store Tryz.sizeOf90 hB rfl rfl rfl rfl ?_
     intro w_19 hs_19 hn_19 k_19
     have zs_k_19 := k_19.size
     replace hw := hw.chg k_19 (by intro x h1 h2; have h3 : _ = _ := h2; subst h3; assumption)
     replace hd_2 := hd_2.chg k_19 (by intro x h1 h2; have h3 : _ = _ := h2; subst h3; assumption)
     replace hI9 := hI9.chg k_19 (by intro b h1 h2 h3; have h4 : _ = _ := h3; (try dsimp only at h2); exfalso; omega)
     replace hB := hn_19
     refine WL.nil (WX.qk (v := undef) ⟨hd_2, ?_⟩)
     refine DT.done (fun we_20 ke_20 => ?_) _
     have zs_ke_20 := ke_20.size
     replace hw := hw.pure ke_20
     replace hB := hB.pure ke_20
     replace hd_2 := hd_2.pure ke_20
     replace hI9 := hI9.pure ke_20
     rotate_left
     refine DT.step [(39, _), (41, _)] rfl ⟨rfl, rfl, trivial⟩ rfl (fun wq_14 kq_14 => ?_)
     have zs_kq_14 := kq_14.size
     replace hb := hb.pure kq_14
     replace hw := hw.pure kq_14
     replace hB := hB.pure kq_14
     replace hI := hI.pure kq_14
     replace hd_2 := hd_2.pure kq_14
     replace hq := hq.pure kq_14
     refine WL.bld rfl (bld_101_0_1 _ _ _ _ _) rfl (WL.nil (WX.one ⟨hd_2, ?_⟩))
     refine ⟨?_, ?_, trivial, trivial, trivial⟩
     refine DT.step [(35, _)] rfl ⟨rfl, trivial⟩ rfl (fun wq_15 kq_15 => ?_)
     have zs_kq_15 := kq_15.size
     replace hb := hb.pure kq_15
     replace hw := hw.pure kq_15
     replace hB := hB.pure kq_15
     replace hI := hI.pure kq_15
     replace hd_2 := hd_2.pure kq_15
     replace hq := hq.pure kq_15
     refine WL.qb Tryz.isAgg90 hB rfl rfl rfl (WL.nil (WX.one ⟨hd_2, ?_⟩))
     refine ⟨?_, trivial, trivial, trivial⟩
     refine DT.step [(42, _)] rfl ⟨rfl, trivial⟩ rfl (fun wq_16 kq_16 => ?_)
     have zs_kq_16 := kq_16.size
     replace hb := hb.pure kq_16
     replace hw := hw.pure kq_16
     replace hB := hB.pure kq_16
     replace hI := hI.pure kq_16
     replace hd_2 := hd_2.pure kq_16
     replace hq := hq.pure kq_16
     refine WL.build (e := ewr) [((d, a), ⟨some ⟨gq, 0, none⟩, cq, b⟩)] Tryz.underlying90 Tryz.sizeOf101 Tryz.zeroValue101 rfl rfl rfl (by simp [Value.cells] <;> rfl) (by decide) rfl ?_
     intro a_b43 w_b43 b43 l_b43 z_b43 k_b43
     have zs_k_b43 := k_b43.size
     replace hb := hb.pure k_b43
     replace hw := hw.pure k_b43
     replace hB := hB.pure k_b43
     replace hI := hI.pure k_b43
     replace hd_2 := hd_2.pure k_b43
     replace hq := hq.pure k_b43
     refine WL.nil (WX.one ⟨hd_2, ?_⟩)
     refine ⟨?_, trivial, trivial⟩
     refine DT.step [(36, _), (43, _)] rfl ⟨rfl, rfl, trivial⟩ rfl (fun wq_17 kq_17 => ?_)
     have zs_kq_17 := kq_17.size
     replace hb := hb.pure kq_17
     replace hw := hw.pure kq_17
     replace hB := hB.pure kq_17
     replace hI := hI.pure kq_17
     replace hd_2 := hd_2.pure kq_17
     replace hq := hq.pure kq_17
     replace b43 := b43.pure kq_17
     refine WL.append (e := ewr) info_101 rfl Tryz.underlying90 rfl rfl hI.waits (b43.rsl.src Tryz.underlying90) (by constructor <;> (simp only [List.length_cons, List.length_nil]; omega)) (fun x hx => ⟨.inr (by omega), by omega⟩) rfl ?_
     intro ao9 c9 w9 hb9 gg9 n9
     have hq9 : Row (fun x => (A x ∨ w.heap.size ≤ x) ∧ x ≠ R) _ 5 eb (some ⟨gq, 0, none⟩) cq b := hq.mono (fun x hx => ⟨.inr (by omega), by omega⟩)
     have hI9 := hI.setWaits hb9 gg9.chg (fun x hx => hx.1) (fun p hp => by
      rcases List.mem_append.1 hp with h3 | h3
      ·exact .inl ⟨p, h3, rfl⟩
      ·simp at h3
       right
       rw [h3]
       exact hq9)
     have gk : Chg (fun x => (A x ∨ w.heap.size ≤ x) ∧ x ≠ R) _ w9 := gg9.chg.mono (fun x _ hx => hx.2)
     have zs_gk := gk.size
     replace hw := hw.chg gk (by intro x h1 h2; rcases h2.1 with h3 | h3; exact h3; exfalso; omega)
     replace hB := hB.chg gk (by intro h1; exfalso; have h4 := h1.2; (try dsimp only at *); omega)
     replace hd_2 := hd_2.chg gk (by intro x h1 h2; exact h2.1)
     refine WL.nil (WX.one ⟨hd_2, ?_⟩)
     refine ⟨?_, trivial⟩
     refine DT.step [(46, _), (44, _)] rfl ⟨rfl, rfl, trivial⟩ rfl (fun wq_18 kq_18 => ?_)
     have zs_kq_18 := kq_18.size
     replace hw := hw.pure kq_18
     replace hB := hB.pure kq_18
     replace hd_2 := hd_2.pure kq_18
     replace hI9 := hI9.pure kq_18
     refine WL.store Tryz.sizeOf90 hB rfl rfl rfl rfl ?_
     intro w_19 hs_19 hn_19 k_19
     have zs_k_19 := k_19.size
     replace hw := hw.chg k_19 (by intro x h1 h2; have h3 : _ = _ := h2; subst h3; assumption)
     replace hd_2 := hd_2.chg k_19 (by intro x h1 h2; have h3 : _ = _ := h2; subst h3; assumption)
     replace hI9 := hI9.chg k_19 (by intro b h1 h2 h3; have h4 : _ = _ := h3; (try dsimp only at h2); exfalso; omega)
     replace hB := hn_19
     refine WL.nil (WX.qk (v := undef) ⟨hd_2, ?_⟩)
     refine DT.done (fun we_20 ke_20 => ?_) _
     have zs_ke_20 := ke_20.size
     replace hw := hw.pure ke_20
     replace hB := hB.pure ke_20
     replace hd_2 := hd_2.pure ke_20
     replace hI9 := hI9.pure ke_20
     rotate_left
     refine DT.step [(42, _)] rfl ⟨rfl, trivial⟩ rfl (fun wq_15 kq_15 => ?_)
     have zs_kq_15 := kq_15.size
     replace hb := hb.pure kq_15
     replace hw := hw.pure kq_15
     replace hB := hB.pure kq_15
     replace hI := hI.pure kq_15
     replace hd_2 := hd_2.pure kq_15
     replace hq := hq.pure kq_15
     refine WL.build (e := ewr) [((d, a), ⟨some ⟨gq, 0, none⟩, cq, b⟩)] Tryz.underlying90 Tryz.sizeOf101 Tryz.zeroValue101 rfl rfl rfl (by simp [Value.cells] <;> rfl) (by decide) rfl ?_
     intro a_b43 w_b43 b43 l_b43 z_b43 k_b43
     have zs_k_b43 := k_b43.size
     replace hb := hb.pure k_b43
     replace hw := hw.pure k_b43
     replace hB := hB.pure k_b43
     replace hI := hI.pure k_b43
     replace hd_2 := hd_2.pure k_b43
     replace hq := hq.pure k_b43
     refine WL.nil (WX.one ⟨hd_2, ?_⟩)
     refine ⟨?_, trivial, trivial, trivial⟩
     refine DT.step [(35, _)] rfl ⟨rfl, trivial⟩ rfl (fun wq_16 kq_16 => ?_)
     have zs_kq_16 := kq_16.size
     replace hb := hb.pure kq_16
     replace hw := hw.pure kq_16
     replace hB := hB.pure kq_16
     replace hI := hI.pure kq_16
     replace hd_2 := hd_2.pure kq_16
     replace hq := hq.pure kq_16
     replace b43 := b43.pure kq_16
     refine WL.qb Tryz.isAgg90 hB rfl rfl rfl (WL.nil (WX.one ⟨hd_2, ?_⟩))
     refine ⟨?_, trivial, trivial⟩
     refine DT.step [(36, _), (43, _)] rfl ⟨rfl, rfl, trivial⟩ rfl (fun wq_17 kq_17 => ?_)
     have zs_kq_17 := kq_17.size
     replace hb := hb.pure kq_17
     replace hw := hw.pure kq_17
     replace hB := hB.pure kq_17
     replace hI := hI.pure kq_17
     replace hd_2 := hd_2.pure kq_17
     replace hq := hq.pure kq_17
     replace b43 := b43.pure kq_17
     refine WL.append (e := ewr) info_101 rfl Tryz.underlying90 rfl rfl hI.waits (b43.rsl.src Tryz.underlying90) (by constructor <;> (simp only [List.length_cons, List.length_nil]; omega)) (fun x hx => ⟨.inr (by omega), by omega⟩) rfl ?_
     intro ao9 c9 w9 hb9 gg9 n9
     have hq9 : Row (fun x => (A x ∨ w.heap.size ≤ x) ∧ x ≠ R) _ 5 eb (some ⟨gq, 0, none⟩) cq b := hq.mono (fun x hx => ⟨.inr (by omega), by omega⟩)
     have hI9 := hI.setWaits hb9 gg9.chg (fun x hx => hx.1) (fun p hp => by
      rcases List.mem_append.1 hp with h3 | h3
      ·exact .inl ⟨p, h3, rfl⟩
      ·simp at h3
       right
       rw [h3]
       exact hq9)
     have gk : Chg (fun x => (A x ∨ w.heap.size ≤ x) ∧ x ≠ R) _ w9 := gg9.chg.mono (fun x _ hx => hx.2)
     have zs_gk := gk.size
     replace hw := hw.chg gk (by intro x h1 h2; rcases h2.1 with h3 | h3; exact h3; exfalso; omega)
     replace hB := hB.chg gk (by intro h1; exfalso; have h4 := h1.2; (try dsimp only at *); omega)
     replace hd_2 := hd_2.chg gk (by intro x h1 h2; exact h2.1)
     refine WL.nil (WX.one ⟨hd_2, ?_⟩)
     refine ⟨?_, trivial⟩
     refine DT.step [(46, _), (44, _)] rfl ⟨rfl, rfl, trivial⟩ rfl (fun wq_18 kq_18 => ?_)
     have zs_kq_18 := kq_18.size
     replace hw := hw.pure kq_18
     replace hB := hB.pure kq_18
     replace hd_2 := hd_2.pure kq_18
     replace hI9 := hI9.pure kq_18
     refine WL.store Tryz.sizeOf90 hB rfl rfl rfl rfl ?_
     intro w_19 hs_19 hn_19 k_19
     have zs_k_19 := k_19.size
     replace hw := hw.chg k_19 (by intro x h1 h2; have h3 : _ = _ := h2; subst h3; assumption)
     replace hd_2 := hd_2.chg k_19 (by intro x h1 h2; have h3 : _ = _ := h2; subst h3; assumption)
     replace hI9 := hI9.chg k_19 (by intro b h1 h2 h3; have h4 : _ = _ := h3; (try dsimp only at h2); exfalso; omega)
     replace hB := hn_19
     refine WL.nil (WX.qk (v := undef) ⟨hd_2, ?_⟩)
     refine DT.done (fun we_20 ke_20 => ?_) _
     have zs_ke_20 := ke_20.size
     replace hw := hw.pure ke_20
     replace hB := hB.pure ke_20
     replace hd_2 := hd_2.pure ke_20
     replace hI9 := hI9.pure ke_20
     rotate_left
     all_goals
      refine WX.qa (WC.sr (WL.assign rfl rfl (WL.t (WC.ret (WX.qg (.inl rfl) Tryz.results22 rfl ?_)))))
      have hh2 : b.length = 128 := by omega
      have e0 : writeE s d a b.length = 0 := by simp [writeE, h12, hh2, hg, ho]
      refine ⟨_, rfl, by rw [e0], ⟨aR2, hwok, m, ga, gc, ao9, c9, ws ++ [((d, a), ⟨some ⟨gq, 0, none⟩, cq, b⟩)], ls, Eq.mp (congrArg (Blk _ R 92) ?_) hB, ?_, ?_, ?_⟩, hw⟩
      ·simp [writeS, e0]
      ·simp only [writeS, e0, if_true]
       exact hI9.mono (fun x hx => hx.1)
      ·simp only [writeS, e0, if_true]
       exact hls
      ·simp only [writeS, e0, if_true]
       rw [spendS_waits] at hws
       rw [hws]
       simp [xsm]
    ·refine WL.not rfl rfl (WL.assign rfl rfl (WL.t (WC.qb rfl (WC.sr (WL.assign rfl rfl (WL.t (WC.ret (WX.qe (WX.qb (WX.qg (.inl rfl) Tryz.results22 rfl ?_))))))))))
     have hh : offS s = true := ho
     have hh2 : b.length = 128 := by omega
     exact ⟨_, rfl, by simp [writeE, h12, hh2, hg, ho], by rw [show writeS s d a b = spendS s from by simp [writeS, writeE, h12, hh2, hg, ho]]; exact h2.mono (fun x hx => .inl hx), hw⟩
   ·refine WL.assign rfl rfl (WL.t (WC.qb rfl (WC.sr (WL.assign rfl rfl (WL.nil (WX.qa (WC.ret (WX.qe (WX.qb (WX.qg (.inl rfl) Tryz.results22 rfl ?_))))))))))
    have hh : goneS s d = true := hg
    have hh2 : b.length = 128 := by omega
    exact ⟨_, rfl, by simp [writeE, h12, hh2, hg], by rw [show writeS s d a b = s from by simp [writeS, writeE, h12, hh2, hg]]; exact h.mono (fun x hx => .inl hx), hw⟩
 ·rw [show decide (0 ≤ d ∧ d < (s.dn : Int) ∧ 0 ≤ a ∧ a < (s.sn : Int)) = false from decide_eq_false h12]
  refine WL.not rfl rfl (WL.move rfl rfl (WL.pass rfl rfl rfl rfl (WL.pass rfl rfl rfl rfl (WL.pass rfl rfl rfl rfl (WL.qd rfl rfl rfl (WL.assign rfl rfl (WL.nil (WX.qa (WC.qb rfl (WC.sr (WL.assign rfl rfl (WL.t (WC.ret (WX.qe (WX.qb (WX.qg (.inl rfl) Tryz.results22 rfl ?_))))))))))))))))
  have hh : ¬ inS s d a := h12
  exact ⟨_, rfl, by simp [writeE, h12], by rw [show writeS s d a b = s from by simp [writeS, writeE, h12]]; exact h.mono (fun x hx => .inl hx), hw⟩
end Go.Proofs.YtjeldcjchipdgaaGreatDoor
namespace Go.Proofs.YtjeldcjchipdgaaGreatDoor
open Go.RowKit Go.HL
set_option maxRecDepth 100000
def puts {V : Type} (kp : Nat → Bool) (ws l : List (Pl × V)) : Nat → List (Pl × V)
 |0 => l
 |i + 1 => match ws[i]? with
  |some x => if kp i = true then mput (puts kp ws l i) x.1 x.2 else puts kp ws l i
  |none => puts kp ws l i
theorem puts_yes {V : Type} {kp : Nat → Bool} {ws l : List (Pl × V)} {i : Nat} {x : Pl × V} (hx : ws[i]? = some x) (hk : kp i = true) : puts kp ws l (i + 1) = mput (puts kp ws l i) x.1 x.2 := by simp [puts, hx, hk]
theorem puts_not {V : Type} {kp : Nat → Bool} {ws l : List (Pl × V)} {i : Nat} {x : Pl × V} (hx : ws[i]? = some x) (hk : kp i = false) : puts kp ws l (i + 1) = puts kp ws l i := by simp [puts, hx, hk]
theorem xsm_at (l : List (Pl × Rw)) (i : Nat) : (xsm l)[i]? = (l[i]?).map fun p => (p.1, p.2.xs) := by simp [xsm]
theorem xsm_puts (kp : Nat → Bool) (ws l : List (Pl × Rw)) (i : Nat) : xsm (puts kp ws l i) = puts kp (xsm ws) (xsm l) i := by
 induction i with
 |zero => rfl
 |succ i ih =>
  simp only [puts, xsm_at]
  cases h : ws[i]? with
  |none => simpa using ih
  |some x =>
   simp only [Option.map_some]
   split
   ·rw [xsm_put, ih]
   ·exact ih
theorem puts_nodup {V : Type} {kp : Nat → Bool} {ws l : List (Pl × V)} (h : (l.map (·.1)).Nodup) (i : Nat) : ((puts kp ws l i).map (·.1)).Nodup := by
 induction i with
 |zero => exact h
 |succ i ih =>
  simp only [puts]
  split
  ·split
   ·exact mput_nodup ih
   ·exact ih
  ·exact ih
theorem puts_mem {V : Type} {kp : Nat → Bool} {ws l : List (Pl × V)} {i : Nat} {x : Pl × V} (h : x ∈ puts kp ws l i) : x ∈ l ∨ x ∈ ws := by
 induction i with
 |zero => exact .inl h
 |succ i ih =>
  simp only [puts] at h
  split at h
  ·rename_i y hy
   split at h
   ·rcases mput_mem h with h1 | h1
    ·exact ih h1
    ·subst h1
     exact .inr (List.mem_of_getElem? hy)
   ·exact ih h
  ·exact ih h
theorem RI.noWaits {S : Nat → Prop} {w : World} {m : Nat} {ga : Option Addr} {gc : Nat} {wa : Option Addr} {wc : Nat} {gl : List Bool} {ws ls : List (Pl × Rw)} (h : RI S w m ga gc wa wc gl ws ls) : RI S w m ga gc none 0 gl [] ls :=
 ⟨h.sm, h.map, h.gone, Row.nil _ _ _ _, h.byl, fun p hp => by simp at hp⟩
def flushS (s : RA) : RA := if offS s = true then spendS s else { spendS s with last := puts (fun _ => true) s.waits s.last s.waits.length, waits := [] }
theorem flushS_ok {s : RA} (h : s.ok) : (flushS s).ok := by
 have h1 := spendS_ok h
 unfold flushS
 split
 ·exact h1
 ·refine ⟨h1.dn, h1.sn, h1.gl, fun p hp => ?_, fun p hp => by simp at hp, h1.lf, puts_nodup h.nd _⟩
  rcases puts_mem hp with h2 | h2
  ·exact h.ll p h2
  ·exact h.lw p h2
theorem Flush_calls {A : Nat → Prop} {w : World} {R : Nat} {s : RA} (h : RK A w R s) :
 Calls Tryz.prog 11 [ptr R].toArray w (Ret fun v w' => v = vi (if offS s = true then 16 else 0) ∧ RK A w' R (flushS s) ∧ Chg A w w') := by
 have aR := h.aR
 have hfok := flushS_ok h.ok
 have hw := Chg.refl A w
 refine Calls.of_WC Tryz.func11 rfl Tryz.ntmps11 (by simp) ?_
 refine WC.sr (WL.assign rfl rfl (WL.t (WC.seq (WC.block (WC.seq (WC.region (WL.move rfl rfl (WL.qq Tryz.underlying25 rfl rfl rfl ?_))))))))
 refine WL.assign rfl rfl (WL.t (WC.qa rfl (WC.sr (WL.move rfl rfl (WL.call eg_51 rfl rfl (spend_calls h) ?_)))))
 rintro v w2 ⟨rfl, h2, k2, z2⟩
 replace hw := hw.chg k2 (by intro x h1 h2; have h3 : _ = _ := h2; subst h3; assumption)
 rcases ho : offS s with _ | _
 ·obtain ⟨m, ga, gc, wa, wc, ws, ls, hB, hI, hls, hws⟩ := h2.old.ex
  have am : A m := hI.sm.1
  replace hI := hI.open hB
  have hmR : m ≠ R := hI.sm.2
  have lR := hB.lt
  have lm := hI.map.lt
  have hcap := hI.waits.own.cap
  have hwl : ws.length ≤ 9223372036854775807 := by
   rcases hI.waits.own.2.2 with ⟨_, h⟩ | ⟨_, _, _, _, _, _, h, _⟩
   ·omega
   ·simp only [maxLen] at h; omega
  refine WL.not rfl rfl (WL.assign rfl rfl (WL.t (WC.qa rfl (WC.skip (WX.qc (WX.qa (WC.seq (WC.sr (WL.move rfl rfl (WL.nilCheck rfl rfl (WL.fieldAddr (fld_92_4) rfl rfl (WL.qb Tryz.isAgg90 hB rfl rfl rfl (WL.len Tryz.underlying90 rfl rfl (WL.move rfl rfl (WL.t (WC.block (?_)))))))))))))))))
  have zw := hw.size
  refine WC.loop (σ := Nat) (fun i => [(0, ptr R), (15, .slice wa ws.length wc), (16, vi ws.length), (17, vi (i : Int))]) (fun i w' => i ≤ ws.length ∧ Blk w' R 92 (rcells (spendS s) m ga gc wa wc ws.length) ∧ RI (fun b => (A b ∧ b < w2.heap.size) ∧ b ≠ R) w' m ga gc wa wc (spendS s).gone ws (puts (fun _ => true) ws ls i) ∧ Chg A w w' ∧ w2.heap.size ≤ w'.heap.size) (fun i => ws.length - i) 0 ⟨rfl, rfl, rfl, rfl, trivial⟩ ⟨Nat.zero_le _, hB, hI, hw, Nat.le_refl _⟩ ?_
  clear hB hI hw
  rintro i w1 ⟨hi, hB, hI, hw, z1⟩
  refine WC.sr (WL.qh rfl rfl rfl (fun h18 => ?_) (fun h18 => ?_))
  ·refine WL.t (WC.seq (WC.qb rfl (WC.skip (WX.qa (WC.seq (WC.block (WC.sr (?_))))))))
   have hi2 : i < ws.length := by omega
   have hx : ws[i]? = some ws[i] := List.getElem?_eq_getElem hi2
   obtain ⟨x, ex⟩ : ∃ x, x = ws[i] := ⟨_, rfl⟩
   rw [← ex] at hx
   refine WL.qg (e := ewr) Tryz.underlying90 Tryz.sizeOf101 hI.waits.rsl rfl rfl ⟨hx, rfl⟩ rfl ?_
   intro bb oo hcc
   refine WL.qw _ Tryz.isAgg101 Tryz.sizeOf101 rfl hcc rfl rfl (WL.alloc Tryz.zeroValue101 rfl ?_)
   intro g_1 w_1 hge_1 hlt_1 hb_1 k_1
   replace hw := hw.pure k_1
   replace hB := hB.pure k_1
   replace hI := hI.pure k_1
   refine WL.ql Tryz.sizeOf101 hb_1 rfl rfl (by rfl) (by exact Enc.one _ _) (by exact Nat.le_of_ble_eq_true rfl) rfl ?_
   intro w_2 hs_2 hn_2 k_2
   replace hw := hw.chg k_2 (by intro x h1 h2; have h3 : _ = _ := h2; exfalso; omega)
   replace hB := hB.chg k_2 (by intro h1; have h2 : _ = _ := h1; exfalso; omega)
   replace hI := hI.chg k_2 (by intro b h1 h2 h3; have h4 : _ = _ := h3; (try dsimp only at h2); exfalso; omega)
   replace hb_1 := hn_2
   refine WL.t (?_)
   have hb8 : Blk _ g_1 101 [vi x.1.1, vi x.1.2, vsl x.2] := hb_1
   refine WC.qc ((fun x => x = m)) [0, 1, 2, 3, 4, 5, 6, 7] [8] mixed rfl rfl (fun wd_3 kd_3 zd_3 => ?_)
   replace hw := hw.pure kd_3
   replace hB := hB.pure kd_3
   replace hI := hI.pure kd_3
   replace hb8 := hb8.pure kd_3
   apply DQ.step [(0, _)] rfl ⟨rfl, trivial⟩ rfl (fun _ _ => WL.move rfl rfl  WL.q)
   apply DQ.step [(21, _)] rfl ⟨rfl, trivial⟩ rfl (fun _ _ => WL.nilCheck rfl rfl  WL.q)
   apply DQ.step [(22, _)] rfl ⟨rfl, trivial⟩ rfl (fun _ _ => WL.fieldAddr (fld_92_2) rfl rfl  WL.q)
   apply DQ.step [(23, _)] rfl ⟨rfl, trivial⟩ rfl
   ·intro wq_8 kq_8
    replace hB := hB.chg kq_8 (by intro h1; have h2 : _ = _ := h1; exfalso; omega)
    refine WL.qb Tryz.isAgg89 hB rfl rfl rfl (WL.q)
   apply DQ.step [(4, _)] rfl ⟨rfl, trivial⟩ rfl (fun _ _ => WL.fieldAddr (fld_101_0) rfl rfl  WL.q)
   apply DQ.step [(25, _)] rfl ⟨rfl, trivial⟩ rfl
   ·intro wq_10 kq_10
    replace hb8 := hb8.chg kq_10 (by intro h1; have h2 : _ = _ := h1; exfalso; omega)
    refine WL.qw [vi x.1.1, vi x.1.2] Tryz.isAgg99 Tryz.sizeOf99 rfl (fun q v hv => ?_) rfl rfl ?_
    ·refine hb8.cell (j := 0 + 0 + q) ?_
     match q, hv with
     |0, hv => exact hv
     |1, hv => exact hv
    exact WL.q
   apply DQ.step [(4, _)] rfl ⟨rfl, trivial⟩ rfl (fun _ _ => WL.fieldAddr (fld_101_1) rfl rfl  WL.q)
   apply DQ.step [(27, _)] rfl ⟨rfl, trivial⟩ rfl
   ·intro wq_12 kq_12
    replace hb8 := hb8.chg kq_12 (by intro h1; have h2 : _ = _ := h1; exfalso; omega)
    refine WL.qb Tryz.isAgg51 hb8 rfl rfl rfl (WL.q)
   refine DQ.done (fun hd_4 => ?_)
   refine DL.step [(24, _), (26, _), (28, _)] rfl ⟨rfl, rfl, rfl, trivial⟩ rfl (fun wq_13 kq_13 => ?_)
   have zs_kq_13 := kq_13.size
   replace hw := hw.pure kq_13
   replace hB := hB.pure kq_13
   replace hI := hI.pure kq_13
   replace hd_4 := hd_4.pure kq_13
   refine WL.mput (v := x.2) plOk Tryz.underlying89 hI.map rfl (show _ = some (kpl x.1) from rfl) (show _ = some (vsl x.2) from rfl) ?_
   intro w9 z9 hM9 k9
   have hI9 := hI.putMap hM9 k9 (fun p hp => by
    rcases mput_mem hp with h3 | h3
    ·exact .inl ⟨p, h3, rfl⟩
    ·subst h3
     exact .inr ⟨x, List.mem_of_getElem? hx, rfl⟩)
   rw [← puts_yes (kp := fun _ => true) hx rfl] at hI9
   replace hw := hw.chg k9 (by intro x h1 h2; have h3 : _ = _ := h2; subst h3; assumption)
   replace hB := hB.chg k9 (by intro h1; have h2 : _ = _ := h1; exfalso; omega)
   replace hd_4 := hd_4.chg k9 (by intro x h1 h2; exact h2)
   refine WL.nil (WX.qk (v := undef) ⟨hd_4, ?_⟩)
   refine DL.done (fun we_14 ke_14 => ?_)
   have zs_ke_14 := ke_14.size
   replace hw := hw.pure ke_14
   replace hB := hB.pure ke_14
   replace hI9 := hI9.pure ke_14
   refine WX.qc (WX.qa (WC.region (WL.qe rfl rfl (by omega) rfl (WL.move rfl rfl (WL.nil (?_))))))
   exact WX.qf (i + 1) ⟨rfl, rfl, rfl, rfl, trivial⟩ ⟨by omega, hB, hI9, hw, by omega⟩ (by omega)
  ·refine WL.t (WC.seq (WC.qa rfl (WC.exit (WX.qd (WX.qd (WX.qh (WX.qa (WC.sr (WL.move rfl rfl (WL.nilCheck rfl rfl (WL.fieldAddr (fld_92_4) rfl rfl (WL.store Tryz.sizeOf90 hB rfl rfl rfl rfl ?_))))))))))))
   intro w_1 hs_1 hn_1 k_1
   have zs_k_1 := k_1.size
   replace hw := hw.chg k_1 (by intro x h1 h2; have h3 : _ = _ := h2; subst h3; assumption)
   replace hI := hI.chg k_1 (by intro b h1 h2 h3; have h4 : _ = _ := h3; (try dsimp only at h2); exfalso; omega)
   replace hB := hn_1
   refine WL.t (WC.sr (WL.assign rfl rfl (WL.t (WC.ret (WX.qg (.inl rfl) Tryz.results11 rfl ?_)))))
   first
    |(have hh : offS s = true := ho
      refine ⟨_, rfl, rfl, ?_, hw⟩
      rw [show flushS s = spendS s from by simp [flushS, ho]]
      exact h2)
    |(have hil : i = ws.length := by omega
      subst hil
      rw [spendS_waits] at hws
      rw [spendS_last] at hls
      refine ⟨_, rfl, rfl, ⟨aR, hfok, m, ga, gc, none, 0, [], puts (fun _ => true) ws ls ws.length, Eq.mp (congrArg (Blk _ R 92) ?_) hB, ?_, ?_, ?_⟩, hw⟩
      ·simp [flushS, ho]
      ·simp only [flushS, ho]
       exact (hI.mono (fun x hx => hx.1.1)).noWaits
      ·simp only [flushS, ho]
       rw [xsm_puts, hls, hws, xsm_len]
       rfl
      ·simp [flushS, ho, xsm])
 ·refine WL.not rfl rfl (WL.assign rfl rfl (WL.t (WC.qb rfl (WC.sr (WL.assign rfl rfl (WL.t (WC.ret (WX.qe (WX.qb (WX.qg (.inl rfl) Tryz.results11 rfl ?_))))))))))
  first
   |(have hh : offS s = true := ho
     refine ⟨_, rfl, rfl, ?_, hw⟩
     rw [show flushS s = spendS s from by simp [flushS, ho]]
     exact h2)
   |(have hil : i = ws.length := by omega
     subst hil
     rw [spendS_waits] at hws
     rw [spendS_last] at hls
     refine ⟨_, rfl, rfl, ⟨aR, hfok, m, ga, gc, none, 0, [], puts (fun _ => true) ws ls ws.length, Eq.mp (congrArg (Blk _ R 92) ?_) hB, ?_, ?_, ?_⟩, hw⟩
     ·simp [flushS, ho]
     ·simp only [flushS, ho]
      exact (hI.mono (fun x hx => hx.1.1)).noWaits
     ·simp only [flushS, ho]
      rw [xsm_puts, hls, hws, xsm_len]
      rfl
     ·simp [flushS, ho, xsm])
end Go.Proofs.YtjeldcjchipdgaaGreatDoor
