import Derived.Test.YtggecdldnpildaaGreatQArrayStands11
namespace Go.Proofs.YtggecdldnpildaaGreat
open Go.RowKit Go.HL
set_option maxRecDepth 100000

/-! drives fail, each lost or rotten -/
def outL (n : Nat) (L : List Int) : List Bool := (List.range n).map fun d : Nat => decide ((d : Int) ∈ L)
theorem outL_len (n : Nat) (L : List Int) : (outL n L).length = n := by simp [outL]
theorem outL_at {n d : Nat} (L : List Int) (h : d < n) : (outL n L)[d]? = some (decide ((d : Int) ∈ L)) := by simp [outL, h]
theorem outL_nil (n : Nat) : outL n [] = List.replicate n false := by
  apply List.ext_getElem?
  intro i
  rw [List.getElem?_replicate]
  split
  · rename_i h
    rw [outL_at [] h]
    simp
  · rename_i h
    rw [List.getElem?_eq_none (by rw [outL_len]; omega)]
theorem outL_set {n d : Nat} (L : List Int) (h : d < n) : (outL n L).set d true = outL n ((d : Int) :: L) := by
  apply List.ext_getElem?
  intro i
  rw [List.getElem?_set]
  by_cases hi : i < n
  · by_cases e : d = i
    · subst e
      rw [if_pos rfl, if_pos (by rw [outL_len]; exact hi), outL_at _ hi]
      simp
    · rw [if_neg e, outL_at _ hi, outL_at _ hi]
      have : ¬ (i : Int) = (d : Int) := by omega
      simp [this]
  · rw [if_neg (by omega), List.getElem?_eq_none (by rw [outL_len]; omega), List.getElem?_eq_none (by rw [outL_len]; omega)]
/-- what may have befallen a rack: of the drives of L alone -/
structure Hurt (s0 s : RA) (L : List Int) : Prop where
  dn : s.dn = s0.dn
  sn : s.sn = s0.sn
  up : Up s
  wl : s.waits.length ≤ s0.waits.length
  int : ∀ f a cells B, Intact s0 f a cells B → Intact s f a cells (L ++ B)
  gn : ∀ d : Int, 0 ≤ d → goneS s d = true → goneS s0 d = true ∨ d ∈ L
theorem Hurt.start {s : RA} (h : Up s) : Hurt s s [] := ⟨rfl, rfl, h, Nat.le_refl _, fun f a cells B hI => hI, fun d _ h => .inl h⟩
theorem Hurt.more {s0 s : RA} {L : List Int} (h : Hurt s0 s L) (d : Int) : Hurt s0 s (d :: L) :=
  ⟨h.dn, h.sn, h.up, h.wl, fun f a cells B hI => (h.int f a cells B hI).mono (fun y hy => List.mem_cons_of_mem _ hy), fun y h0 hy => (h.gn y h0 hy).imp id (fun h => List.mem_cons_of_mem _ h)⟩
theorem Hurt.lose {s0 s : RA} {L : List Int} (h : Hurt s0 s L) (hok : s.ok) {d : Int} (hd : isS s d) (hm : d ∈ L) : Hurt s0 (loseS s d true) L :=
  ⟨h.dn, h.sn, loseS_up h.up _ _, Nat.le_trans (List.length_filter_le _ _) h.wl, fun f a cells B hI => lose_intact hok (h.int f a cells B hI) hd (List.mem_append.2 (.inl hm)), fun y h0 hy => by
    rw [loseS_gone hok hd true h0] at hy
    split at hy
    · rename_i e
      exact .inr (e ▸ hm)
    · exact h.gn y h0 hy⟩
theorem Hurt.rot {s0 s : RA} {L : List Int} (h : Hurt s0 s L) {d : Int} (hm : d ∈ L) (x n : Int) : Hurt s0 (rotS s (d, x) n) L :=
  ⟨by rw [rotS_dn, h.dn], by rw [rotS_sn, h.sn], rotS_up h.up _ _, by rw [rotS_len]; exact h.wl, fun f a cells B hI => rot_intact (h.int f a cells B hI) (List.mem_append.2 (.inl hm)), fun y h0 hy => by
    rw [rotS_gone] at hy
    exact h.gn y h0 hy⟩
theorem Hurt.rotI {s0 s : RA} {L : List Int} (h : Hurt s0 s L) {d : Int} (hm : d ∈ L) (x n : Int) : Hurt s0 (if rotE s d x n = 0 then rotS s (d, x) n else s) L := by
  split
  · exact h.rot hm x n
  · exact h
set_option maxHeartbeats 8000000 in
theorem fail_calls {A S : Nat → Prop} {w : World} {R : Nat} {s0 : RA} (h : RK A w R s0) (hA : ∀ y, A y → y < w.heap.size) (hu : Up s0) (h5 : 5 ≤ s0.dn) (x : BkV) (hf : RSl S w ei x.fo x.fc x.fl) (hh : RSl S w ei x.ho x.hc x.hl) (hS : ∀ y, S y → y < w.heap.size ∧ ¬ A y) (hb : ∀ y ∈ x.hl, -9223372036854775808 ≤ y ∧ y ≤ 9223372036854775807) :
    Calls Tryz.prog 27 [ptr R, bkval x].toArray w (Ret fun v w' => (∃ (go : Nat) (L : List Int) (s : RA), v = .slice (some ⟨go, 0, none⟩) (outL s0.dn L).length s0.dn ∧ Row (fun y => w.heap.size ≤ y) w' 4 ebool (some ⟨go, 0, none⟩) s0.dn (outL s0.dn L) ∧ L.length ≤ 3 ∧ Hurt s0 s L ∧ RK (fun y => A y ∨ w.heap.size ≤ y) w' R s) ∧ Chg A w w') := by
  obtain ⟨xd, xa, xm, fo, fc, fl, ho, hc, hlw⟩ := x
  have hw := Chg.refl A w
  have hdn := h.ok.dn
  have hsn := h.ok.sn
  have lR := hA R h.aR
  refine Calls.of_WC Tryz.func27 rfl Tryz.ntmps27 (by simp) ?_
  refine WC.seq (WC.region (?_))
  refine WL.box rfl rfl ?_
  intro gb wb hge hlt hbb kb
  have zs_kb := kb.size
  replace h := h.pure kb
  replace hf := hf.pure kb
  replace hh := hh.pure kb
  replace hw := hw.pure kb
  have hbk : Blk _ gb 47 (bkcells ⟨xd, xa, xm, fo, fc, fl, ho, hc, hlw⟩) := hbb
  refine WL.assign rfl rfl (WL.nil (WX.then_normal (WC.seq (WC.region (WL.move rfl rfl (?_))))))
  refine WL.call eg_25 rfl rfl (Drives_calls h) ?_
  rintro v w1 ⟨rfl, k1⟩
  have zs_k1 := k1.size
  replace h := h.pure k1
  replace hf := hf.pure k1
  replace hh := hh.pure k1
  replace hw := hw.pure k1
  replace hbk := hbk.pure k1
  refine WL.make (e := ebool) false s0.dn s0.dn Tryz.underlying55 info_4 rfl rfl rfl ⟨rfl, rfl, Nat.le_refl _⟩ (by constructor <;> omega) rfl ?_
  intro go w2 hm2 k2 z2 ego
  rw [← outL_nil] at hm2 ⊢
  have zw1 := hw.size
  have zs_k2 := k2.size
  replace h := h.pure k2
  replace hf := hf.pure k2
  replace hh := hh.pure k2
  replace hw := hw.pure k2
  replace hbk := hbk.pure k2
  refine WL.assign rfl rfl (WL.nil (WX.then_normal (WC.seq (WC.seq (WC.region (WL.assign rfl rfl (WL.nil (?_))))))))
  refine WX.then_normal (WC.block (?_))
  have lgb := hbk.lt
  have zw2 := hw.size
  have hgo : w.heap.size ≤ go ∧ go < w2.heap.size := by omega
  have hgne : gb ≠ go := by omega
  obtain ⟨n1, hn1⟩ : ∃ n1, n1 = w2.heap.size := ⟨_, rfl⟩
  have hm : Row (fun y => y = go) w2 4 ebool (some ⟨go, 0, none⟩) s0.dn (outL s0.dn []) := ⟨fun a ea => by injection ea with ea; subst ea; rfl, hm2.own⟩
  have hOl : ∀ L, (outL s0.dn L).length = s0.dn := fun L => outL_len _ _
  refine WC.loop (σ := Nat × List Int) (fun q => [(0, ptr R), (3, ptr gb), (5, .slice (some ⟨go, 0, none⟩) (outL s0.dn q.2).length s0.dn), (6, vi (q.1 : Int))]) (fun q w' => q.1 ≤ 3 ∧ q.2.length ≤ q.1 ∧ RSl S w' ei fo fc fl ∧ RSl S w' ei ho hc hlw ∧ Blk w' gb 47 (bkcells ⟨xd, xa, xm, fo, fc, fl, ho, hc, hlw⟩) ∧ Row (fun y => y = go) w' 4 ebool (some ⟨go, 0, none⟩) s0.dn (outL s0.dn q.2) ∧ Chg A w w' ∧ n1 ≤ w'.heap.size ∧ ∃ s : RA, Hurt s0 s q.2 ∧ RK (fun y => A y ∨ n1 ≤ y) w' R s) (fun q => 3 - q.1) (0, []) ⟨rfl, rfl, rfl, rfl, trivial⟩ ⟨Nat.zero_le _, Nat.le_refl _, hf, hh, hbk, hm, hw, by omega, s0, Hurt.start hu, h.mono (fun y hy => .inl hy)⟩ ?_
  clear h hf hh hbk hm hm2 hw hu hbb
  rintro ⟨i, L⟩ w3 ⟨hi, hL, hf, hh, hbk, hm, hw, zn, s, hF, h⟩
  simp only at hi hL hm hF
  dsimp only
  have hsd := hF.dn
  have hss := hF.sn
  have hOL := hOl L
  refine WC.seq (WC.seq (WC.region (WL.move rfl rfl (WL.fieldAddr (fld_47_3) rfl rfl (WL.loadB Tryz.isAgg39 hbk rfl rfl rfl (WL.len Tryz.underlying39 rfl rfl (?_)))))))
  refine WL.lss? rfl rfl rfl (fun h16 => ?_) (fun h16 => ?_)
  ·
    refine WL.move rfl rfl (WL.want rfl rfl rfl (WL.move rfl rfl (WL.want rfl rfl rfl (?_))))
    refine WL.lss? rfl rfl rfl (fun h19 => ?_) (fun h19 => ?_)
    ·
      refine WL.pickT rfl rfl rfl (WL.nil (WX.then_normal (WC.cond_true rfl (WC.skip (WX.then_normal (WC.seq (WC.block (?_))))))))
      refine WC.seq (?_)
      obtain ⟨l, hl⟩ : ∃ l, fl[i]? = some l := ⟨_, List.getElem?_eq_getElem (by have h9 : (i : Int) < (fl.length : Int) := h16; omega)⟩
      have hf0 := hf
      have hB64 : (B64 (s.dn : Int)).toNat = s.dn := B64_nat (by omega)
      obtain ⟨d, hd⟩ : ∃ d, d = (B64 l % B64 (s.dn : Int)).toNat := ⟨_, rfl⟩
      have hdn2 : d < s.dn := by rw [hd, UInt64.toNat_mod, hB64]; exact Nat.mod_lt _ (by omega)
      have hds : isS s (d : Int) := ⟨by omega, by omega⟩
      have hd0 : d < s0.dn := by omega
      obtain ⟨b1, o1, rfl⟩ := hf.place hl
      refine WC.draw (Nob) [0, 1, 2, 3, 4, 5, 6, 7, 8, 9, 10, 11] [] mixed rfl rfl (fun wd_1 kd_1 zd_1 => ?_)
      have zs_kd_1 := kd_1.size
      replace hf := hf.pure kd_1
      replace hh := hh.pure kd_1
      replace hbk := hbk.pure kd_1
      replace hm := hm.pure kd_1
      replace hw := hw.pure kd_1
      replace h := h.pure kd_1
      apply DQ.step (E' := [(3, _)])
      case ho => rfl
      case hs => exact ⟨rfl, trivial⟩
      case hk => rfl
      case h1 =>
        intro wq_2 kq_2
        refine WL.fieldAddr (fld_47_3) rfl rfl (?_)
        refine WL.nil ?_
        exact WX.one ⟨rfl, by exact Chg.refl _ _⟩
      apply DQ.step (E' := [(23, _)])
      case ho => rfl
      case hs => exact ⟨rfl, trivial⟩
      case hk => rfl
      case h1 =>
        intro wq_3 kq_3
        have zs_kq_3 := kq_3.size
        replace hf := hf.pure kq_3
        replace hh := hh.pure kq_3
        replace hbk := hbk.pure kq_3
        replace hm := hm.pure kq_3
        replace hw := hw.pure kq_3
        replace h := h.pure kq_3
        refine WL.loadB Tryz.isAgg39 hbk rfl rfl rfl (?_)
        refine WL.nil ?_
        exact WX.one ⟨rfl, by exact Chg.refl _ _⟩
      apply DQ.step (E' := [(6, _)])
      case ho => rfl
      case hs => exact ⟨rfl, trivial⟩
      case hk => rfl
      case h1 =>
        intro wq_4 kq_4
        refine WL.move rfl rfl (?_)
        refine WL.nil ?_
        exact WX.one ⟨rfl, by exact Chg.refl _ _⟩
      apply DQ.step (E' := [(24, _), (25, _)])
      case ho => rfl
      case hs => exact ⟨rfl, rfl, trivial⟩
      case hk => rfl
      case h1 =>
        intro wq_5 kq_5
        have zs_kq_5 := kq_5.size
        replace hf := hf.pure kq_5
        replace hh := hh.pure kq_5
        replace hbk := hbk.pure kq_5
        replace hm := hm.pure kq_5
        replace hw := hw.pure kq_5
        replace h := h.pure kq_5
        refine WL.indexC hf Tryz.underlying39 Tryz.sizeOf3 rfl rfl ⟨hl, rfl⟩ rfl ?_
        refine WL.nil ?_
        exact WX.one ⟨rfl, by exact Chg.refl _ _⟩
      apply DQ.step (E' := [(26, _)])
      case ho => rfl
      case hs => exact ⟨rfl, trivial⟩
      case hk => rfl
      case h1 =>
        intro wq_6 kq_6
        have zs_kq_6 := kq_6.size
        replace hf := hf.pure kq_6
        replace hh := hh.pure kq_6
        replace hbk := hbk.pure kq_6
        replace hm := hm.pure kq_6
        replace hw := hw.pure kq_6
        replace h := h.pure kq_6
        refine WL.load Tryz.isAgg3 rfl ((hf.cellsAt hl) 0 _ rfl) rfl (?_)
        refine WL.nil ?_
        exact WX.one ⟨rfl, by exact Chg.refl _ _⟩
      apply DQ.step (E' := [(27, _)])
      case ho => rfl
      case hs => exact ⟨rfl, trivial⟩
      case hk => rfl
      case h1 =>
        intro wq_7 kq_7
        have zs_kq_7 := kq_7.size
        replace hf := hf.pure kq_7
        replace hh := hh.pure kq_7
        replace hbk := hbk.pure kq_7
        replace hm := hm.pure kq_7
        replace hw := hw.pure kq_7
        replace h := h.pure kq_7
        refine WL.c_i64_u64 Tryz.underlying3 Tryz.underlying23 rfl rfl (?_)
        refine WL.nil ?_
        exact WX.one ⟨rfl, by exact Chg.refl _ _⟩
      apply DQ.step (E' := [(0, _)])
      case ho => rfl
      case hs => exact ⟨rfl, trivial⟩
      case hk => rfl
      case h1 =>
        intro wq_8 kq_8
        refine WL.move rfl rfl (?_)
        refine WL.nil ?_
        exact WX.one ⟨rfl, by exact Chg.refl _ _⟩
      apply DQ.step (E' := [(29, _)])
      case ho => rfl
      case hs => exact ⟨rfl, trivial⟩
      case hk => rfl
      case h1 =>
        intro wq_9 kq_9
        have zs_kq_9 := kq_9.size
        replace hf := hf.pure kq_9
        replace hh := hh.pure kq_9
        replace hbk := hbk.pure kq_9
        replace hm := hm.pure kq_9
        replace hw := hw.pure kq_9
        replace h := h.pure kq_9
        refine WL.call eg_25 rfl rfl (Drives_calls h) ?_
        rintro v w4 ⟨rfl, k4⟩
        have zs_k4 := k4.size
        replace hf := hf.pure k4
        replace hh := hh.pure k4
        replace hbk := hbk.pure k4
        replace hm := hm.pure k4
        replace hw := hw.pure k4
        replace h := h.pure k4
        refine WL.nil ?_
        exact WX.one ⟨rfl, by assumption⟩
      apply DQ.step (E' := [(30, _)])
      case ho => rfl
      case hs => exact ⟨rfl, trivial⟩
      case hk => rfl
      case h1 =>
        intro wq_10 kq_10
        have zs_kq_10 := kq_10.size
        replace hf := hf.pure kq_10
        replace hh := hh.pure kq_10
        replace hbk := hbk.pure kq_10
        replace hm := hm.pure kq_10
        replace hw := hw.pure kq_10
        replace h := h.pure kq_10
        refine WL.c_i64_u64 Tryz.underlying3 Tryz.underlying23 rfl rfl (?_)
        refine WL.nil ?_
        exact WX.one ⟨rfl, by exact Chg.refl _ _⟩
      apply DQ.step (E' := [(28, _), (31, _)])
      case ho => rfl
      case hs => exact ⟨rfl, rfl, trivial⟩
      case hk => rfl
      case h1 =>
        intro wq_11 kq_11
        refine WL.num rfl rfl (n_rem64 _ _ _ _ (by rw [hB64]; omega)) rfl ?_
        refine WL.nil ?_
        exact WX.one ⟨rfl, by exact Chg.refl _ _⟩
      apply DQ.step (E' := [(32, _)])
      case ho => rfl
      case hs => exact ⟨rfl, trivial⟩
      case hk => rfl
      case h1 =>
        intro wq_12 kq_12
        have zs_kq_12 := kq_12.size
        replace hf := hf.pure kq_12
        replace hh := hh.pure kq_12
        replace hbk := hbk.pure kq_12
        replace hm := hm.pure kq_12
        replace hw := hw.pure kq_12
        replace h := h.pure kq_12
        refine WL.c_u64_i64s (n := d) Tryz.underlying23 Tryz.underlying3 rfl ⟨hd.symm, by omega⟩ rfl ?_
        refine WL.nil ?_
        exact WX.one ⟨rfl, by exact Chg.refl _ _⟩
      apply DQ.step (E' := [(33, _)])
      case ho => rfl
      case hs => exact ⟨rfl, trivial⟩
      case hk => rfl
      case h1 =>
        intro wq_13 kq_13
        refine WL.assign rfl rfl (?_)
        refine WL.nil ?_
        exact WX.one ⟨rfl, by exact Chg.refl _ _⟩
      refine DQ.done (fun _ => ?_)
      refine DL.done (fun we_14 ke_14 => ?_)
      have zs_ke_14 := ke_14.size
      replace hf := hf.pure ke_14
      replace hh := hh.pure ke_14
      replace hbk := hbk.pure ke_14
      replace hm := hm.pure ke_14
      replace hw := hw.pure ke_14
      replace h := h.pure ke_14
      refine WX.then_normal (WC.seq (WC.seq (WC.region (WL.move rfl rfl (WL.move rfl rfl (?_))))))
      refine WL.indexT (e := ebool) Tryz.underlying55 Tryz.sizeOf4 hm.rsl rfl rfl ⟨outL_at L hd0, rfl⟩ rfl ?_
      intro bb oo hcc
      refine WL.load Tryz.isAgg4 rfl (hcc 0 _ rfl) rfl ?_
      by_cases hdL : (d : Int) ∈ L
      ·
        rw [decide_eq_true hdL]
        refine WL.nil (WX.then_normal (WC.cond_true rfl (WC.exit (WX.then_exit (WX.block_here (WX.then_normal (WC.region (?_))))))))
        refine WL.move rfl rfl (WL.add64 rfl rfl (by omega) rfl (WL.assign rfl rfl (WL.nil (?_))))
        exact WX.loop_next (i + 1, L) ⟨rfl, rfl, rfl, rfl, trivial⟩ ⟨by show i + 1 ≤ 3; omega, by show L.length ≤ i + 1; omega, hf, hh, hbk, hm, hw, by omega, s, hF, h⟩ (by show 3 - (i + 1) < 3 - i; omega)
      ·
        rw [decide_eq_false hdL]
        refine WL.nil (WX.then_normal (WC.cond_false rfl (WC.skip (WX.then_normal (WC.seq (WC.region (WL.move rfl rfl (?_))))))))
        refine WL.move rfl rfl (?_)
        refine WL.index (j := d) Tryz.underlying55 Tryz.sizeOf4 rfl rfl rfl (by omega) rfl ?_
        refine WL.storeRow (z := true) d Tryz.sizeOf4 hm rfl rfl rfl (by show 0 + d * 1 = d; omega) (by omega) rfl ?_
        intro w8 z8 hm8 k8
        replace hf := hf.chg k8 (fun y _ h1 h2 => by have := (hS y h1).1; have h3 : y = go := h2; omega)
        replace hh := hh.chg k8 (fun y _ h1 h2 => by have := (hS y h1).1; have h3 : y = go := h2; omega)
        replace hbk := hbk.chg k8 (fun h => hgne h)
        replace h := h.chg k8 (fun y _ h1 h2 => by have h3 : y = go := h2; exact h1.elim (fun h4 => by have := hA y h4; omega) (fun h4 => by omega))
        replace hw := hw.chg k8 (fun y h1 h2 => by have h3 : y = go := h2; omega)
        rw [outL_set L hd0] at hm8
        have hOL2 := hOl ((d : Int) :: L)
        rw [show (outL s0.dn L).length = (outL s0.dn ((d : Int) :: L)).length from by rw [hOL, hOL2]]
        have hF2 := hF.more (d : Int)
        refine WL.nil (WX.then_normal (WC.seq (WC.seq (WC.region (WL.move rfl rfl (WL.fieldAddr (fld_47_4) rfl rfl (WL.loadB Tryz.isAgg39 hbk rfl rfl rfl (?_))))))))
        refine WL.len Tryz.underlying39 rfl rfl (?_)
        refine WL.lss? rfl rfl rfl (fun h45 => ?_) (fun h45 => ?_)
        ·
          refine WL.move rfl rfl (WL.want rfl rfl rfl (WL.fieldAddr (fld_47_4) rfl rfl (WL.want rfl rfl rfl (WL.loadB Tryz.isAgg39 hbk rfl rfl rfl (WL.want rfl rfl rfl (WL.move rfl rfl (WL.want rfl rfl rfl (?_))))))))
          obtain ⟨hv, hhv⟩ : ∃ hv, hlw[i]? = some hv := ⟨_, List.getElem?_eq_getElem (by have h9 : (i : Int) < (hlw.length : Int) := h45; omega)⟩
          refine WL.indexT (e := ei) Tryz.underlying39 Tryz.sizeOf3 hh rfl rfl ⟨hhv, rfl⟩ rfl ?_
          intro bb oo hcc
          refine WL.want rfl rfl rfl (WL.load Tryz.isAgg3 rfl (hcc 0 _ rfl) rfl (WL.want rfl rfl rfl (?_)))
          refine WL.remk rfl rfl (by decide) rfl ?_
          refine WL.want rfl rfl rfl (?_)
          refine WL.neq? rfl rfl rfl (fun h53 => ?_) (fun h53 => ?_)
          ·
            refine WL.pickT rfl rfl rfl (WL.nil (WX.then_normal (WC.cond_true rfl (WC.seq (WC.region (WL.move rfl rfl (WL.move rfl rfl (?_))))))))
            have hok := h.ok
            refine WL.call eg_18 rfl rfl (LoseU h hds) ?_
            rintro v w9 ⟨rfl, h9, k9⟩
            have z9 := k9.size
            replace hf := hf.chg k9 (fun y _ h1 h2 => h2.elim (fun h4 => (hS y h1).2 h4) (fun h4 => by have := (hS y h1).1; omega))
            replace hh := hh.chg k9 (fun y _ h1 h2 => h2.elim (fun h4 => (hS y h1).2 h4) (fun h4 => by have := (hS y h1).1; omega))
            replace hbk := hbk.chg k9 (fun h2 => h2.elim (fun h4 => by have := hA _ h4; omega) (fun h4 => by omega))
            replace hm8 := hm8.chg k9 (fun y _ h1 h2 => by have h3 : y = go := h1; exact h2.elim (fun h4 => by have := hA _ h4; omega) (fun h4 => by omega))
            replace hw := hw.chg k9 (fun y h1 h2 => h2.elim id (fun h4 => by omega))
            have hF9 := hF2.lose hok hds (List.mem_cons_self ..)
            refine WL.nil (WX.then_normal (WC.exit (WX.then_exit (WX.block_here (WX.then_normal (WC.region (WL.move rfl rfl (?_))))))))
            refine WL.add64 rfl rfl (by omega) rfl (WL.assign rfl rfl (WL.nil (?_)))
            exact WX.loop_next (i + 1, (d : Int) :: L) ⟨rfl, rfl, rfl, rfl, trivial⟩ ⟨by show i + 1 ≤ 3; omega, by show L.length + 1 ≤ i + 1; omega, hf, hh, hbk, hm8, hw, by omega, _, hF9, h9⟩ (by show 3 - (i + 1) < 3 - i; omega)
          ·
            refine WL.pickT rfl rfl rfl (WL.nil (WX.then_normal (WC.cond_false rfl (WC.skip (WX.then_normal (WC.seq (WC.region (?_))))))))
            refine WL.assign rfl rfl (WL.nil (WX.then_normal (WC.block (?_))))
            have zc := hw.size
            refine WC.loop (σ := Nat) (fun q => [(0, ptr R), (3, ptr gb), (5, .slice (some ⟨go, 0, none⟩) (outL s0.dn ((d : Int) :: L)).length s0.dn), (6, vi (i : Int)), (7, vi (d : Int)), (8, vi (q : Int))]) (fun q w' => q ≤ s0.sn ∧ RSl S w' ei (some ⟨b1, o1, none⟩) fc fl ∧ RSl S w' ei ho hc hlw ∧ Blk w' gb 47 (bkcells ⟨xd, xa, xm, some ⟨b1, o1, none⟩, fc, fl, ho, hc, hlw⟩) ∧ Row (fun y => y = go) w' 4 ebool (some ⟨go, 0, none⟩) s0.dn (outL s0.dn ((d : Int) :: L)) ∧ Chg A w w' ∧ n1 ≤ w'.heap.size ∧ ∃ s : RA, Hurt s0 s ((d : Int) :: L) ∧ RK (fun y => A y ∨ n1 ≤ y) w' R s) (fun q => s0.sn - q) 0 ⟨rfl, rfl, rfl, rfl, rfl, rfl, trivial⟩ ⟨Nat.zero_le _, hf, hh, hbk, hm8, hw, by omega, s, hF2, h⟩ ?_
            clear hf hh hbk hm8 hw h hm hF2 hF hf0 hsd hss hB64 hd hdn2 hds
            rintro q w5 ⟨hq, hf, hh, hbk, hm8, hw, zn5, s, hF2, h⟩
            have hsd := hF2.dn
            have hss := hF2.sn
            refine WC.seq (WC.seq (WC.region (WL.move rfl rfl (WL.move rfl rfl (?_)))))
            refine WL.call eg_38 rfl rfl (Sectors_calls h) ?_
            rintro v w6 ⟨rfl, k6⟩
            have zs_k6 := k6.size
            replace hf := hf.pure k6
            replace hh := hh.pure k6
            replace hbk := hbk.pure k6
            replace hm8 := hm8.pure k6
            replace hw := hw.pure k6
            replace h := h.pure k6
            refine WL.lss? rfl rfl rfl (fun h61 => ?_) (fun h61 => ?_)
            ·
              refine WL.nil (WX.then_normal (WC.cond_true rfl (WC.skip (WX.then_normal (WC.seq (WC.block (WC.seq (?_))))))))
              refine WC.region (WL.move rfl rfl (WL.fieldAddr (fld_47_4) rfl rfl (WL.loadB Tryz.isAgg39 hbk rfl rfl rfl (WL.len Tryz.underlying39 rfl rfl (?_)))))
              refine WL.geq? rfl rfl rfl (fun h68 => ?_) (fun h68 => ?_)
              ·
                refine WL.move rfl rfl (WL.pass rfl rfl rfl rfl (WL.pass rfl rfl rfl rfl (WL.pass rfl rfl rfl rfl (WL.pass rfl rfl rfl rfl (WL.pass rfl rfl rfl rfl (WL.pass rfl rfl rfl rfl (WL.pass rfl rfl rfl rfl (?_))))))))
                refine WL.pass rfl rfl rfl rfl (WL.pass rfl rfl rfl rfl (WL.pass rfl rfl rfl rfl (WL.pickT rfl rfl rfl (WL.nil (WX.then_normal (WC.cond_true rfl (WC.region (?_))))))))
                refine WL.move rfl rfl (WL.move rfl rfl (WL.move rfl rfl (WL.move rfl rfl (?_))))
                refine WL.mul64 rfl rfl (by constructor <;> omega) rfl ?_
                refine WL.move rfl rfl (?_)
                refine WL.add64 rfl rfl (by constructor <;> omega) rfl ?_
                have zc := hw.size
                have z5n := h.aR
                refine WL.call eg_28 rfl rfl (Rot_calls h (d : Int) (q : Int) ((q : Int) * 131 + (i : Int)) (by omega)) ?_
                rintro v w7 ⟨rfl, h7, k7⟩
                have z7 := k7.size
                have hF7 := hF2.rotI (List.mem_cons_self ..) (q : Int) ((q : Int) * 131 + (i : Int))
                replace hf := hf.chg k7 (fun y _ h1 h2 => h2.elim (fun h4 => (hS y h1).2 h4) (fun h4 => by have := (hS y h1).1; omega))
                replace hh := hh.chg k7 (fun y _ h1 h2 => h2.elim (fun h4 => (hS y h1).2 h4) (fun h4 => by have := (hS y h1).1; omega))
                replace hbk := hbk.chg k7 (fun h2 => h2.elim (fun h4 => by have := hA _ h4; omega) (fun h4 => by omega))
                replace hm8 := hm8.chg k7 (fun y _ h1 h2 => by have h3 : y = go := h1; exact h2.elim (fun h4 => by have := hA _ h4; omega) (fun h4 => by omega))
                replace hw := hw.chg k7 (fun y h1 h2 => h2.elim id (fun h4 => by omega))
                replace h7 := h7.mono (A' := fun y => A y ∨ n1 ≤ y) (fun y hy => hy.elim id (fun h => .inr (by omega)))
                refine WL.nil (WX.block_normal (WX.then_normal (WC.region (WL.move rfl rfl (WL.add64 rfl rfl (by omega) rfl (WL.assign rfl rfl (WL.nil (?_))))))))
                exact WX.loop_next (q + 1) ⟨rfl, rfl, rfl, rfl, rfl, rfl, trivial⟩ ⟨by omega, hf, hh, hbk, hm8, hw, by omega, _, hF7, h7⟩ (by omega)
              ·
                refine WL.move rfl rfl (WL.want rfl rfl rfl (WL.fieldAddr (fld_47_4) rfl rfl (WL.want rfl rfl rfl (WL.loadB Tryz.isAgg39 hbk rfl rfl rfl (WL.want rfl rfl rfl (WL.move rfl rfl (WL.want rfl rfl rfl (?_))))))))
                obtain ⟨hv2, hhv2⟩ : ∃ hv, hlw[i]? = some hv := ⟨_, List.getElem?_eq_getElem (by have h9 : (i : Int) < (hlw.length : Int) := h68; omega)⟩
                refine WL.indexT (e := ei) Tryz.underlying39 Tryz.sizeOf3 hh rfl rfl ⟨hhv2, rfl⟩ rfl ?_
                intro bb oo hcc
                refine WL.want rfl rfl rfl (WL.load Tryz.isAgg3 rfl (hcc 0 _ rfl) rfl (WL.want rfl rfl rfl (?_)))
                refine WL.quok rfl rfl (by decide) rfl ?_
                refine WL.want rfl rfl rfl (WL.move rfl rfl (WL.want rfl rfl rfl (?_)))
                refine WL.addk rfl rfl rfl ?_
                refine WL.want rfl rfl rfl (?_)
                refine WL.remk rfl rfl (by decide) rfl ?_
                refine WL.want rfl rfl rfl (?_)
                refine WL.neq? rfl rfl rfl (fun h79 => ?_) (fun h79 => ?_)
                ·
                  refine WL.pickF rfl rfl rfl (WL.nil (WX.then_normal (WC.cond_true rfl (WC.region (WL.move rfl rfl (WL.move rfl rfl (WL.move rfl rfl (?_))))))))
                  refine WL.move rfl rfl (?_)
                  refine WL.mul64 rfl rfl (by constructor <;> omega) rfl ?_
                  refine WL.move rfl rfl (?_)
                  refine WL.add64 rfl rfl (by constructor <;> omega) rfl ?_
                  have zc := hw.size
                  have z5n := h.aR
                  refine WL.call eg_28 rfl rfl (Rot_calls h (d : Int) (q : Int) ((q : Int) * 131 + (i : Int)) (by omega)) ?_
                  rintro v w7 ⟨rfl, h7, k7⟩
                  have z7 := k7.size
                  have hF7 := hF2.rotI (List.mem_cons_self ..) (q : Int) ((q : Int) * 131 + (i : Int))
                  replace hf := hf.chg k7 (fun y _ h1 h2 => h2.elim (fun h4 => (hS y h1).2 h4) (fun h4 => by have := (hS y h1).1; omega))
                  replace hh := hh.chg k7 (fun y _ h1 h2 => h2.elim (fun h4 => (hS y h1).2 h4) (fun h4 => by have := (hS y h1).1; omega))
                  replace hbk := hbk.chg k7 (fun h2 => h2.elim (fun h4 => by have := hA _ h4; omega) (fun h4 => by omega))
                  replace hm8 := hm8.chg k7 (fun y _ h1 h2 => by have h3 : y = go := h1; exact h2.elim (fun h4 => by have := hA _ h4; omega) (fun h4 => by omega))
                  replace hw := hw.chg k7 (fun y h1 h2 => h2.elim id (fun h4 => by omega))
                  replace h7 := h7.mono (A' := fun y => A y ∨ n1 ≤ y) (fun y hy => hy.elim id (fun h => .inr (by omega)))
                  refine WL.nil (WX.block_normal (WX.then_normal (WC.region (WL.move rfl rfl (WL.add64 rfl rfl (by omega) rfl (WL.assign rfl rfl (WL.nil (?_))))))))
                  exact WX.loop_next (q + 1) ⟨rfl, rfl, rfl, rfl, rfl, rfl, trivial⟩ ⟨by omega, hf, hh, hbk, hm8, hw, by omega, _, hF7, h7⟩ (by omega)
                ·
                  refine WL.pickF rfl rfl rfl (WL.nil (WX.then_normal (WC.cond_false rfl (WC.skip (WX.block_normal (WX.then_normal (WC.region (?_))))))))
                  refine WL.move rfl rfl (WL.add64 rfl rfl (by omega) rfl (WL.assign rfl rfl (WL.nil (?_))))
                  exact WX.loop_next (q + 1) ⟨rfl, rfl, rfl, rfl, rfl, rfl, trivial⟩ ⟨by omega, hf, hh, hbk, hm8, hw, by omega, s, hF2, h⟩ (by omega)
            ·
              refine WL.nil (WX.then_normal (WC.cond_false rfl (WC.exit (WX.then_exit (WX.then_exit (WX.block_here (WX.block_normal (?_))))))))
              refine WX.then_normal (WC.region (WL.move rfl rfl (WL.add64 rfl rfl (by omega) rfl (WL.assign rfl rfl (WL.nil (?_))))))
              exact WX.loop_next (i + 1, (d : Int) :: L) ⟨rfl, rfl, rfl, rfl, trivial⟩ ⟨by show i + 1 ≤ 3; omega, by show L.length + 1 ≤ i + 1; omega, hf, hh, hbk, hm8, hw, by omega, s, hF2, h⟩ (by show 3 - (i + 1) < 3 - i; omega)
        ·
          refine WL.move rfl rfl (WL.pass rfl rfl rfl rfl (WL.pass rfl rfl rfl rfl (WL.pass rfl rfl rfl rfl (WL.pass rfl rfl rfl rfl (WL.pass rfl rfl rfl rfl (WL.pass rfl rfl rfl rfl (WL.pass rfl rfl rfl rfl (?_))))))))
          refine WL.pickF rfl rfl rfl (WL.nil (WX.then_normal (WC.cond_false rfl (WC.skip (WX.then_normal (WC.seq (WC.region (?_))))))))
          refine WL.assign rfl rfl (WL.nil (WX.then_normal (WC.block (?_))))
          have zc := hw.size
          refine WC.loop (σ := Nat) (fun q => [(0, ptr R), (3, ptr gb), (5, .slice (some ⟨go, 0, none⟩) (outL s0.dn ((d : Int) :: L)).length s0.dn), (6, vi (i : Int)), (7, vi (d : Int)), (8, vi (q : Int))]) (fun q w' => q ≤ s0.sn ∧ RSl S w' ei (some ⟨b1, o1, none⟩) fc fl ∧ RSl S w' ei ho hc hlw ∧ Blk w' gb 47 (bkcells ⟨xd, xa, xm, some ⟨b1, o1, none⟩, fc, fl, ho, hc, hlw⟩) ∧ Row (fun y => y = go) w' 4 ebool (some ⟨go, 0, none⟩) s0.dn (outL s0.dn ((d : Int) :: L)) ∧ Chg A w w' ∧ n1 ≤ w'.heap.size ∧ ∃ s : RA, Hurt s0 s ((d : Int) :: L) ∧ RK (fun y => A y ∨ n1 ≤ y) w' R s) (fun q => s0.sn - q) 0 ⟨rfl, rfl, rfl, rfl, rfl, rfl, trivial⟩ ⟨Nat.zero_le _, hf, hh, hbk, hm8, hw, by omega, s, hF2, h⟩ ?_
          clear hf hh hbk hm8 hw h hm hF2 hF hf0 hsd hss hB64 hd hdn2 hds
          rintro q w5 ⟨hq, hf, hh, hbk, hm8, hw, zn5, s, hF2, h⟩
          have hsd := hF2.dn
          have hss := hF2.sn
          refine WC.seq (WC.seq (WC.region (WL.move rfl rfl (WL.move rfl rfl (?_)))))
          refine WL.call eg_38 rfl rfl (Sectors_calls h) ?_
          rintro v w6 ⟨rfl, k6⟩
          have zs_k6 := k6.size
          replace hf := hf.pure k6
          replace hh := hh.pure k6
          replace hbk := hbk.pure k6
          replace hm8 := hm8.pure k6
          replace hw := hw.pure k6
          replace h := h.pure k6
          refine WL.lss? rfl rfl rfl (fun h61 => ?_) (fun h61 => ?_)
          ·
            refine WL.nil (WX.then_normal (WC.cond_true rfl (WC.skip (WX.then_normal (WC.seq (WC.block (WC.seq (?_))))))))
            refine WC.region (WL.move rfl rfl (WL.fieldAddr (fld_47_4) rfl rfl (WL.loadB Tryz.isAgg39 hbk rfl rfl rfl (WL.len Tryz.underlying39 rfl rfl (?_)))))
            refine WL.geq? rfl rfl rfl (fun h68 => ?_) (fun h68 => ?_)
            ·
              refine WL.move rfl rfl (WL.pass rfl rfl rfl rfl (WL.pass rfl rfl rfl rfl (WL.pass rfl rfl rfl rfl (WL.pass rfl rfl rfl rfl (WL.pass rfl rfl rfl rfl (WL.pass rfl rfl rfl rfl (WL.pass rfl rfl rfl rfl (?_))))))))
              refine WL.pass rfl rfl rfl rfl (WL.pass rfl rfl rfl rfl (WL.pass rfl rfl rfl rfl (WL.pickT rfl rfl rfl (WL.nil (WX.then_normal (WC.cond_true rfl (WC.region (?_))))))))
              refine WL.move rfl rfl (WL.move rfl rfl (WL.move rfl rfl (WL.move rfl rfl (?_))))
              refine WL.mul64 rfl rfl (by constructor <;> omega) rfl ?_
              refine WL.move rfl rfl (?_)
              refine WL.add64 rfl rfl (by constructor <;> omega) rfl ?_
              have zc := hw.size
              have z5n := h.aR
              refine WL.call eg_28 rfl rfl (Rot_calls h (d : Int) (q : Int) ((q : Int) * 131 + (i : Int)) (by omega)) ?_
              rintro v w7 ⟨rfl, h7, k7⟩
              have z7 := k7.size
              have hF7 := hF2.rotI (List.mem_cons_self ..) (q : Int) ((q : Int) * 131 + (i : Int))
              replace hf := hf.chg k7 (fun y _ h1 h2 => h2.elim (fun h4 => (hS y h1).2 h4) (fun h4 => by have := (hS y h1).1; omega))
              replace hh := hh.chg k7 (fun y _ h1 h2 => h2.elim (fun h4 => (hS y h1).2 h4) (fun h4 => by have := (hS y h1).1; omega))
              replace hbk := hbk.chg k7 (fun h2 => h2.elim (fun h4 => by have := hA _ h4; omega) (fun h4 => by omega))
              replace hm8 := hm8.chg k7 (fun y _ h1 h2 => by have h3 : y = go := h1; exact h2.elim (fun h4 => by have := hA _ h4; omega) (fun h4 => by omega))
              replace hw := hw.chg k7 (fun y h1 h2 => h2.elim id (fun h4 => by omega))
              replace h7 := h7.mono (A' := fun y => A y ∨ n1 ≤ y) (fun y hy => hy.elim id (fun h => .inr (by omega)))
              refine WL.nil (WX.block_normal (WX.then_normal (WC.region (WL.move rfl rfl (WL.add64 rfl rfl (by omega) rfl (WL.assign rfl rfl (WL.nil (?_))))))))
              exact WX.loop_next (q + 1) ⟨rfl, rfl, rfl, rfl, rfl, rfl, trivial⟩ ⟨by omega, hf, hh, hbk, hm8, hw, by omega, _, hF7, h7⟩ (by omega)
            ·
              refine WL.move rfl rfl (WL.want rfl rfl rfl (WL.fieldAddr (fld_47_4) rfl rfl (WL.want rfl rfl rfl (WL.loadB Tryz.isAgg39 hbk rfl rfl rfl (WL.want rfl rfl rfl (WL.move rfl rfl (WL.want rfl rfl rfl (?_))))))))
              obtain ⟨hv2, hhv2⟩ : ∃ hv, hlw[i]? = some hv := ⟨_, List.getElem?_eq_getElem (by have h9 : (i : Int) < (hlw.length : Int) := h68; omega)⟩
              refine WL.indexT (e := ei) Tryz.underlying39 Tryz.sizeOf3 hh rfl rfl ⟨hhv2, rfl⟩ rfl ?_
              intro bb oo hcc
              refine WL.want rfl rfl rfl (WL.load Tryz.isAgg3 rfl (hcc 0 _ rfl) rfl (WL.want rfl rfl rfl (?_)))
              refine WL.quok rfl rfl (by decide) rfl ?_
              refine WL.want rfl rfl rfl (WL.move rfl rfl (WL.want rfl rfl rfl (?_)))
              refine WL.addk rfl rfl rfl ?_
              refine WL.want rfl rfl rfl (?_)
              refine WL.remk rfl rfl (by decide) rfl ?_
              refine WL.want rfl rfl rfl (?_)
              refine WL.neq? rfl rfl rfl (fun h79 => ?_) (fun h79 => ?_)
              ·
                refine WL.pickF rfl rfl rfl (WL.nil (WX.then_normal (WC.cond_true rfl (WC.region (WL.move rfl rfl (WL.move rfl rfl (WL.move rfl rfl (?_))))))))
                refine WL.move rfl rfl (?_)
                refine WL.mul64 rfl rfl (by constructor <;> omega) rfl ?_
                refine WL.move rfl rfl (?_)
                refine WL.add64 rfl rfl (by constructor <;> omega) rfl ?_
                have zc := hw.size
                have z5n := h.aR
                refine WL.call eg_28 rfl rfl (Rot_calls h (d : Int) (q : Int) ((q : Int) * 131 + (i : Int)) (by omega)) ?_
                rintro v w7 ⟨rfl, h7, k7⟩
                have z7 := k7.size
                have hF7 := hF2.rotI (List.mem_cons_self ..) (q : Int) ((q : Int) * 131 + (i : Int))
                replace hf := hf.chg k7 (fun y _ h1 h2 => h2.elim (fun h4 => (hS y h1).2 h4) (fun h4 => by have := (hS y h1).1; omega))
                replace hh := hh.chg k7 (fun y _ h1 h2 => h2.elim (fun h4 => (hS y h1).2 h4) (fun h4 => by have := (hS y h1).1; omega))
                replace hbk := hbk.chg k7 (fun h2 => h2.elim (fun h4 => by have := hA _ h4; omega) (fun h4 => by omega))
                replace hm8 := hm8.chg k7 (fun y _ h1 h2 => by have h3 : y = go := h1; exact h2.elim (fun h4 => by have := hA _ h4; omega) (fun h4 => by omega))
                replace hw := hw.chg k7 (fun y h1 h2 => h2.elim id (fun h4 => by omega))
                replace h7 := h7.mono (A' := fun y => A y ∨ n1 ≤ y) (fun y hy => hy.elim id (fun h => .inr (by omega)))
                refine WL.nil (WX.block_normal (WX.then_normal (WC.region (WL.move rfl rfl (WL.add64 rfl rfl (by omega) rfl (WL.assign rfl rfl (WL.nil (?_))))))))
                exact WX.loop_next (q + 1) ⟨rfl, rfl, rfl, rfl, rfl, rfl, trivial⟩ ⟨by omega, hf, hh, hbk, hm8, hw, by omega, _, hF7, h7⟩ (by omega)
              ·
                refine WL.pickF rfl rfl rfl (WL.nil (WX.then_normal (WC.cond_false rfl (WC.skip (WX.block_normal (WX.then_normal (WC.region (?_))))))))
                refine WL.move rfl rfl (WL.add64 rfl rfl (by omega) rfl (WL.assign rfl rfl (WL.nil (?_))))
                exact WX.loop_next (q + 1) ⟨rfl, rfl, rfl, rfl, rfl, rfl, trivial⟩ ⟨by omega, hf, hh, hbk, hm8, hw, by omega, s, hF2, h⟩ (by omega)
          ·
            refine WL.nil (WX.then_normal (WC.cond_false rfl (WC.exit (WX.then_exit (WX.then_exit (WX.block_here (WX.block_normal (?_))))))))
            refine WX.then_normal (WC.region (WL.move rfl rfl (WL.add64 rfl rfl (by omega) rfl (WL.assign rfl rfl (WL.nil (?_))))))
            exact WX.loop_next (i + 1, (d : Int) :: L) ⟨rfl, rfl, rfl, rfl, trivial⟩ ⟨by show i + 1 ≤ 3; omega, by show L.length + 1 ≤ i + 1; omega, hf, hh, hbk, hm8, hw, by omega, s, hF2, h⟩ (by show 3 - (i + 1) < 3 - i; omega)
    ·
      refine WL.pickT rfl rfl rfl (WL.nil (WX.then_normal (WC.cond_false rfl (WC.exit (WX.then_exit (WX.then_exit (WX.block_here (?_))))))))
      refine WX.then_normal (WC.seq (WC.region (WL.move rfl rfl (WL.assign rfl rfl (WL.nil (WX.then_normal (WC.ret (?_))))))))
      refine WX.ret1 (.inl rfl) Tryz.results27 rfl ?_
      exact ⟨_, rfl, ⟨go, L, s, rfl, hm.mono (fun y hy => by have h3 : y = go := hy; omega), by omega, hF, h.mono (fun y hy => hy.imp id (fun h => by omega))⟩, hw⟩
  ·
    refine WL.move rfl rfl (WL.pass rfl rfl rfl rfl (WL.pass rfl rfl rfl rfl (WL.pickF rfl rfl rfl (WL.nil (WX.then_normal (WC.cond_false rfl (WC.exit (?_))))))))
    refine WX.then_exit (WX.then_exit (WX.block_here (WX.then_normal (WC.seq (WC.region (WL.move rfl rfl (WL.assign rfl rfl (?_))))))))
    refine WL.nil (WX.then_normal (WC.ret (?_)))
    refine WX.ret1 (.inl rfl) Tryz.results27 rfl ?_
    exact ⟨_, rfl, ⟨go, L, s, rfl, hm.mono (fun y hy => by have h3 : y = go := hy; omega), by omega, hF, h.mono (fun y hy => hy.imp id (fun h => by omega))⟩, hw⟩
end Go.Proofs.YtggecdldnpildaaGreat
namespace Go.Proofs.YtggecdldnpildaaGreat
open Go.RowKit Go.HL
set_option maxRecDepth 100000

/-! a block stands three failed drives: the law -/
theorem bad_in {s : RA} {f addr size : Nat} {sum : ByteArray} {t : List Int} (h5 : 5 ≤ s.dn) (hg : (bgon s addr size).length ≤ 3) (h : rdA s f addr size sum = some t) : ∀ d ∈ srt (bgon s addr size ++ t), isS s d := fun d hd => by
  rw [srt_mem, List.mem_append] at hd
  rcases hd with hd | hd
  · exact bdrv_in h5 d (List.mem_filter.1 hd).1
  · exact bdrv_in h5 d (List.mem_filter.1 ((rdA_bad hg h).2.2.subset hd)).1
set_option maxHeartbeats 8000000 in
theorem arrayStands_calls {w : World} (x : BkV) (hx : BkS w x) :
    Calls Tryz.prog 7 [bkval x].toArray w (Ret fun v w' => v = .bool true ∧ Chg Nob w w') := by
  have hw := Chg.refl Nob w
  obtain ⟨hf, hh, -, hhb⟩ := hx
  refine Calls.of_WC Tryz.func7 rfl Tryz.ntmps7 (by simp) ?_
  refine WC.seq (WC.region (?_))
  refine WL.box rfl rfl ?_
  intro gb wb hge hlt hbb kb
  have zs_kb := kb.size
  replace hf := hf.pure kb
  replace hh := hh.pure kb
  replace hw := hw.pure kb
  have hbk : Blk _ gb 47 (bkcells x) := hbb
  refine WL.assign rfl rfl (WL.nil (WX.then_normal (WC.seq (WC.seq (WC.region (?_))))))
  refine WL.call eg_20 rfl rfl (known6_calls _) ?_
  rintro v w1 ⟨rfl, k1⟩
  have zs_k1 := k1.size
  replace hf := hf.pure k1
  replace hh := hh.pure k1
  replace hw := hw.pure k1
  replace hbk := hbk.pure k1
  refine WL.not rfl rfl (WL.nil (WX.then_normal (WC.cond_false rfl (WC.skip (WX.then_normal (WC.seq (WC.region (?_))))))))
  refine WL.loadsB Tryz.isAgg47 Tryz.sizeOf47 hbk rfl (by rfl) rfl (?_)
  have lgb := hbk.lt
  have zw0 := hw.size
  refine WL.call eg_22 rfl rfl (lay_calls _ x) ?_
  rintro v w2 ⟨⟨R, a, addr, n, s, rfl, hL, hBa, hR, hage⟩, k2⟩
  have zs_k2 := k2.size
  replace hf := hf.pure k2
  replace hh := hh.pure k2
  replace hw := hw.pure k2
  replace hbk := hbk.pure k2
  replace hR := hR.old
  refine WL.move rfl rfl (WL.extract rfl rfl rfl (WL.extract rfl rfl rfl (WL.extract rfl rfl rfl (WL.extract rfl rfl rfl (WL.extract rfl rfl rfl (WL.assign rfl rfl (WL.assign rfl rfl (?_))))))))
  refine WL.assign rfl rfl (WL.assign rfl rfl (WL.assign rfl rfl (WL.nil (WX.then_normal (WC.seq (WC.seq (WC.region (?_))))))))
  refine WL.move rfl rfl (?_)
  refine WL.not rfl rfl ?_
  refine WL.nil (WX.then_normal (WC.cond_false rfl (WC.skip (WX.then_normal (WC.seq (WC.region (WL.move rfl rfl (?_))))))))
  refine WL.loadsB Tryz.isAgg47 Tryz.sizeOf47 hbk rfl (by rfl) rfl (?_)
  obtain ⟨dat, hdat⟩ : ∃ dat, dat = datL x.da := ⟨_, rfl⟩
  rw [← hdat] at hL ⊢
  obtain ⟨b, hb⟩ : ∃ b, b = dat.data.toList := ⟨_, rfl⟩
  have hbl : b.length = dat.size := by rw [hb, Array.length_toList]; rfl
  rw [← hb] at hL
  obtain ⟨l1, l2, l3, l4, l5, l6, l7, l8, l9⟩ := hL
  subst l1
  have la := hBa.lt
  have zw2 := k2.size
  refine WL.call eg_27 rfl rfl (fail_calls hR (fun y hy => hy.2) l4 (by omega) x hf hh (fun y hy => ⟨by have h3 : y < w.heap.size := hy; omega, fun h => by have h3 : y < w.heap.size := hy; have := h.1.1; omega⟩) hhb) ?_
  rintro v w3 ⟨⟨go, L, s1, rfl, hgo, hL3, hF, hR3⟩, k3⟩
  have z3 := k3.size
  replace hBa := hBa.chg k3 (fun h => h.1.2 rfl)
  replace hw := hw.chg k3 (fun y h1 h2 => by have := h2.1.1; omega)
  have d1 := hF.dn
  have n1 := hF.sn.trans l2
  have u1 := hF.up
  have hI1 := hF.int 2 addr _ [] l9
  have hgn := fun (d : Int) (h0 : 0 ≤ d) (hg : goneS s1 d = true) => (hF.gn d h0 hg).resolve_left (fun h => by rw [l5] at h; cases h)
  have hflt : ((bdrv s1 addr b.length).filter fun d => decide (d ∈ L ++ [])).length ≤ 3 := by
    refine Nat.le_trans (nodup_le _ L (List.Pairwise.filter _ drvA_nodup) (fun d hd => ?_)) hL3
    have h9 := of_decide_eq_true (List.mem_filter.1 hd).2
    rwa [List.append_nil] at h9
  rw [← d1] at hI1
  obtain ⟨hg3, t, hr⟩ := intact_read hR3.ok (by omega) hI1 hflt
  rw [hbl] at hr hg3
  clear hF hflt hI1
  refine WL.assign rfl rfl (WL.nil (WX.then_normal (WC.seq (WC.region (WL.move rfl rfl (WL.move rfl rfl (WL.move rfl rfl (?_))))))))
  refine WL.lens Tryz.underlying9 rfl rfl (WL.move rfl rfl (?_))
  refine WL.call eg_24 rfl rfl (sum6_calls _ dat (by omega)) ?_
  rintro v w7 ⟨rfl, k7⟩
  rw [← hb]
  have zs_k7 := k7.size
  replace hw := hw.pure k7
  replace hBa := hBa.pure k7
  replace hR3 := hR3.pure k7
  replace hgo := hgo.pure k7
  have hBs : AB w7 a R s1.dn 2 := by rw [d1]; exact hBa
  have hfit : addr + costA s1.dn (secsA dat.size) ≤ s1.dn * (s1.sn - 2) := by rw [d1, n1, ← hbl]; exact l8
  rw [hbl] at l7
  refine WL.call eg_19 rfl rfl (aread_good hBs hR3 u1 (by omega) (by omega) addr dat.size l7 hfit _ (sum32 b) hg3) ?_
  rintro v w8 ⟨-, hsome, k8⟩
  obtain ⟨fa, fc, ba, bc, rfl, hB1, hb1, hB1l⟩ := hsome t hr
  have hin := bad_in (f := 2) (by omega) hg3 hr
  obtain ⟨hb3, hfi, -⟩ := rdA_bad hg3 hr
  have hfi2 := of_decide_eq_true hfi
  obtain ⟨D, hDD⟩ : ∃ D, D = srt (bgon s1 addr dat.size ++ t) := ⟨_, rfl⟩
  rw [← hDD] at hB1 hB1l hfi2 hin hb1 hb3 ⊢
  obtain ⟨B, hBB⟩ : ∃ B, B = bytA s1 2 addr dat.size D := ⟨_, rfl⟩
  rw [← hBB] at hB1 hB1l hfi2 ⊢
  have zs_k8 := k8.size
  replace hw := hw.pure k8
  replace hBa := hBa.pure k8
  replace hR3 := hR3.pure k8
  replace hgo := hgo.pure k8
  refine WL.move rfl rfl (WL.extract rfl rfl rfl (WL.extract rfl rfl rfl (WL.extract rfl rfl rfl (WL.assign rfl rfl (WL.assign rfl rfl (WL.assign rfl rfl (WL.nil (?_))))))))
  refine WX.then_normal (WC.seq (WC.seq (WC.region (WL.move rfl rfl (?_)))))
  refine WL.neqF rfl rfl rfl (by rfl) ?_
  refine WL.move rfl rfl (WL.want rfl rfl rfl (WL.move rfl rfl (WL.want rfl rfl rfl (?_))))
  refine WL.toStr Tryz.underlying26 Tryz.underlying5 Tryz.underlying9 hB1.rsl rfl rfl ?_
  refine WL.want rfl rfl rfl (WL.move rfl rfl (WL.want rfl rfl rfl (?_)))
  by_cases hBd : (⟨B.toArray⟩ : ByteArray) = dat
  ·
    refine WL.sneqF rfl rfl rfl (hBd) ?_
    refine WL.pickF rfl rfl rfl (WL.nil (WX.then_normal (WC.cond_false rfl (WC.skip (WX.then_normal (WC.seq (WC.seq (?_))))))))
    refine WC.region (WL.assign rfl rfl (WL.nil (WX.then_normal (WC.block (?_)))))
    have zw9 := hw.size
    refine WC.loop (σ := Nat) (fun i => [(3, ptr R), (8, .slice (some ⟨go, 0, none⟩) (outL s.dn L).length s.dn), (10, .slice ba D.length bc), (12, vi (i : Int))]) (fun i w' => i ≤ D.length ∧ RK (fun y => ((w1.heap.size ≤ y ∧ y ≠ a) ∧ y < w2.heap.size) ∨ w2.heap.size ≤ y) w' R s1 ∧ Row (fun y => w2.heap.size ≤ y) w' 4 ebool (some ⟨go, 0, none⟩) s.dn (outL s.dn L) ∧ Row (fun y => w7.heap.size ≤ y) w' 3 ei ba bc D ∧ Chg Nob w w') (fun i => D.length - i) 0 ⟨rfl, rfl, rfl, rfl, trivial⟩ ⟨Nat.zero_le _, hR3, hgo, hb1, hw⟩ ?_
    clear hR3 hgo hb1 hw hB1 hBs hBa
    rintro i w9 ⟨hi, hR3, hgo, hb1, hw⟩
    refine WC.seq (WC.seq (WC.region (WL.move rfl rfl (WL.move rfl rfl (WL.len Tryz.underlying39 rfl rfl (?_))))))
    refine WL.lss? rfl rfl rfl (fun h66 => ?_) (fun h66 => ?_)
    ·
      refine WL.nil (WX.then_normal (WC.cond_true rfl (WC.skip (WX.then_normal (WC.seq (WC.block (WC.seq (?_))))))))
      refine WC.region (WL.move rfl rfl (WL.move rfl rfl (WL.move rfl rfl (?_))))
      obtain ⟨d, hd⟩ : ∃ d, D[i]? = some d := ⟨_, List.getElem?_eq_getElem (by omega)⟩
      have hds := hin d (List.mem_of_getElem? hd)
      obtain ⟨k, rfl⟩ : ∃ k : Nat, d = (k : Int) := ⟨d.toNat, by have := hds.1; omega⟩
      have hkd : k < s.dn := by have h3 : (k : Int) < (s1.dn : Int) := hds.2; omega
      refine WL.indexT Tryz.underlying39 Tryz.sizeOf3 hb1.rsl rfl rfl ⟨hd, rfl⟩ rfl ?_
      intro b_1 o_1 hc_1
      refine WL.load Tryz.isAgg3 rfl (hc_1 0 _ rfl) rfl (?_)
      refine WL.call eg_26 rfl rfl (Gone_calls hR3 (k : Int)) ?_
      rintro v w10 ⟨rfl, k10⟩
      rw [decide_eq_true hds, Bool.true_and]
      have zs_k10 := k10.size
      replace hR3 := hR3.pure k10
      replace hgo := hgo.pure k10
      replace hb1 := hb1.pure k10
      replace hw := hw.pure k10
      rcases hg : goneS s1 (k : Int) with _ | _
      ·
        refine WL.move rfl rfl (WL.pass rfl rfl rfl rfl (WL.pass rfl rfl rfl rfl (WL.pass rfl rfl rfl rfl (WL.pass rfl rfl rfl rfl (WL.pass rfl rfl rfl rfl (WL.pass rfl rfl rfl rfl (WL.pass rfl rfl rfl rfl (?_))))))))
        refine WL.pass rfl rfl rfl rfl (WL.pickF rfl rfl rfl (WL.nil (WX.then_normal (WC.cond_false rfl (WC.skip (WX.block_normal (WX.then_normal (?_))))))))
        refine WC.region (WL.move rfl rfl (WL.add64 rfl rfl (by omega) rfl (WL.assign rfl rfl (WL.nil (?_)))))
        exact WX.loop_next (i + 1) ⟨rfl, rfl, rfl, rfl, trivial⟩ ⟨by omega, hR3, hgo, hb1, hw⟩ (by omega)
      ·
        have hkL := hgn (k : Int) (by omega) hg
        refine WL.move rfl rfl (WL.want rfl rfl rfl (WL.move rfl rfl (WL.want rfl rfl rfl (WL.move rfl rfl (WL.want rfl rfl rfl (WL.move rfl rfl (WL.want rfl rfl rfl (?_))))))))
        refine WL.indexT Tryz.underlying39 Tryz.sizeOf3 hb1.rsl rfl rfl ⟨hd, rfl⟩ rfl ?_
        intro b_2 o_2 hc_2
        refine WL.want rfl rfl rfl (WL.load Tryz.isAgg3 rfl (hc_2 0 _ rfl) rfl (WL.want rfl rfl rfl (?_)))
        refine WL.indexT (e := ebool) Tryz.underlying55 Tryz.sizeOf4 hgo.rsl rfl rfl ⟨outL_at L hkd, rfl⟩ rfl ?_
        intro bb oo hcc
        refine WL.want rfl rfl rfl (?_)
        refine WL.load Tryz.isAgg4 rfl (hcc 0 _ rfl) rfl ?_
        rw [decide_eq_true hkL]
        refine WL.want rfl rfl rfl (WL.not rfl rfl (WL.pickT rfl rfl rfl (WL.nil (WX.then_normal (WC.cond_false rfl (WC.skip (WX.block_normal (?_))))))))
        refine WX.then_normal (WC.region (WL.move rfl rfl (WL.add64 rfl rfl (by omega) rfl (WL.assign rfl rfl (WL.nil (?_))))))
        exact WX.loop_next (i + 1) ⟨rfl, rfl, rfl, rfl, trivial⟩ ⟨by omega, hR3, hgo, hb1, hw⟩ (by omega)
    ·
      refine WL.nil (WX.then_normal (WC.cond_false rfl (WC.exit (WX.then_exit (WX.then_exit (WX.block_here (WX.then_normal (?_))))))))
      refine WC.seq (WC.region (WL.move rfl rfl (WL.len Tryz.underlying39 rfl rfl (?_))))
      refine WL.leqT rfl rfl rfl ((by omega)) ?_
      refine WL.assign rfl rfl (WL.nil (WX.then_normal (WC.ret (?_))))
      refine WX.ret1 (.inl rfl) Tryz.results7 rfl ?_
      exact ⟨_, rfl, rfl, hw⟩
  ·
    refine WL.sneqT rfl rfl rfl (hBd) ?_
    refine WL.pickF rfl rfl rfl (WL.nil (WX.then_normal (WC.cond_true rfl (WC.seq (WC.region (WL.move rfl rfl (?_)))))))
    refine WL.toStr Tryz.underlying26 Tryz.underlying5 Tryz.underlying9 hB1.rsl rfl rfl ?_
    refine WL.move rfl rfl (?_)
    refine WL.sneqT rfl rfl rfl (hBd) ?_
    refine WL.move rfl rfl (WL.want rfl rfl rfl (WL.move rfl rfl (WL.want rfl rfl rfl (?_))))
    refine WL.eqlT rfl rfl rfl (by rfl) ?_
    refine WL.pickT rfl rfl rfl (WL.move rfl rfl (WL.want rfl rfl rfl (WL.move rfl rfl (WL.want rfl rfl rfl (?_)))))
    refine WL.toStr Tryz.underlying26 Tryz.underlying5 Tryz.underlying9 hB1.rsl rfl rfl ?_
    refine WL.want rfl rfl rfl (?_)
    refine WL.call eg_24 rfl rfl (sum6_calls _ (⟨B.toArray⟩ : ByteArray) (by show B.toArray.size ≤ 4000; rw [List.size_toArray, hB1l]; omega)) ?_
    rintro v w9 ⟨rfl, k9⟩
    rw [show (⟨B.toArray⟩ : ByteArray).data.toList = B from rfl]
    have zs_k9 := k9.size
    replace hw := hw.pure k9
    replace hBa := hBa.pure k9
    replace hR3 := hR3.pure k9
    replace hgo := hgo.pure k9
    replace hB1 := hB1.pure k9
    replace hb1 := hb1.pure k9
    refine WL.want rfl rfl rfl (WL.move rfl rfl (WL.want rfl rfl rfl (?_)))
    refine WL.call eg_24 rfl rfl (sum6_calls _ dat (by omega)) ?_
    rintro v w10 ⟨rfl, k10⟩
    rw [← hb]
    have zs_k10 := k10.size
    replace hw := hw.pure k10
    replace hBa := hBa.pure k10
    replace hR3 := hR3.pure k10
    replace hgo := hgo.pure k10
    replace hB1 := hB1.pure k10
    replace hb1 := hb1.pure k10
    refine WL.want rfl rfl rfl (?_)
    refine WL.seqlT rfl rfl rfl (hfi2) ?_
    refine WL.pickT rfl rfl rfl (WL.assign rfl rfl (WL.nil (WX.then_normal (WC.ret (WX.then_ret (?_))))))
    refine WX.ret1 (.inl rfl) Tryz.results7 rfl ?_
    exact ⟨_, rfl, rfl, hw⟩
end Go.Proofs.YtggecdldnpildaaGreat
