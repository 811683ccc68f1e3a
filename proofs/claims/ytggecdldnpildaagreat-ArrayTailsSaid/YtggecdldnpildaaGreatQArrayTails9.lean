import Derived.Test.YtggecdldnpildaaGreatQArrayTails8
namespace Go.Proofs.YtggecdldnpildaaGreat
open Go.RowKit Go.HL
set_option maxRecDepth 100000

def V8.add (s v : V8) : V8 := ⟨s.a + v.a, s.b + v.b, s.c + v.c, s.d + v.d, s.e + v.e, s.f + v.f, s.g + v.g, s.h + v.h⟩
def V8.list (v : V8) : List UInt32 := [v.a, v.b, v.c, v.d, v.e, v.f, v.g, v.h]
theorem V8.cells_eq (v : V8) : v.cells = v.list.map v32 := rfl
theorem mix_eq (s : V8) (b : List UInt8) : mix s b = s.add (roundsN (sch b 64) s 64) := rfl
/-- the first i parts are added -/
def addTo (s v : V8) (i : Nat) : List UInt32 := (s.add v).list.take i ++ s.list.drop i
theorem addTo_len (s v : V8) (i : Nat) (h : i ≤ 8) : (addTo s v i).length = 8 := by
  simp [addTo, V8.list]
  omega
theorem addTo_at {s v : V8} {i : Nat} (h : i < 8) : (addTo s v i)[i]? = some (s.list.getD i 0) ∧ v.list[i]? = some (v.list.getD i 0) ∧ (addTo s v i).set i (s.list.getD i 0 + v.list.getD i 0) = addTo s v (i + 1) := by
  have h8 : i = 0 ∨ i = 1 ∨ i = 2 ∨ i = 3 ∨ i = 4 ∨ i = 5 ∨ i = 6 ∨ i = 7 := by omega
  rcases h8 with rfl | rfl | rfl | rfl | rfl | rfl | rfl | rfl <;> exact ⟨rfl, rfl, rfl⟩
theorem getD_at {xs : List UInt32} {i : Nat} (h : i < xs.length) : xs[i]? = some (xs.getD i 0) := by
  rw [List.getD_eq_getElem?_getD, List.getElem?_eq_getElem h]
  rfl
set_option maxHeartbeats 1000000 in
theorem mix_calls {S : Nat → Prop} {w : World} {gs gk : Nat} {s : V8} {ao : Option Addr} {c : Nat} {b : List UInt8} (hs : Blk w gs 68 s.cells) (hk : Blk w gk 70 (K256.map v32)) (hr : RSl S w eb ao c b) (hl : b.length = 64) (hsk : gs ≠ gk) :
    Calls Tryz.prog 37 [.pointer (some ⟨gs, 0, none⟩), .slice ao b.length c, .pointer (some ⟨gk, 0, none⟩)].toArray w (Ret fun v w' => v = .tuple #[] ∧ Blk w' gs 68 (mix s b).cells ∧ Chg (fun x => x = gs) w w') := by
  have hw := Chg.refl Nob w
  replace hs : Blk w gs 68 [v32 s.a, v32 s.b, v32 s.c, v32 s.d, v32 s.e, v32 s.f, v32 s.g, v32 s.h] := hs
  have ls := hs.lt
  have lk := hk.lt
  refine Calls.of_WC Tryz.func37 rfl Tryz.ntmps37 (by simp) ?_
  refine WC.seq (WC.region (WL.move rfl rfl (?_)))
  refine WL.call eg_64 rfl rfl (schedule_calls hr hl) ?_
  rintro v w1 ⟨rfl, k⟩
  obtain ⟨ws, hws⟩ : ∃ ws, ws = sch b 64 := ⟨_, rfl⟩
  have hsl : ws.length = 64 := by rw [hws]; exact sch_len b 64
  rw [← hws]
  have zs_k := k.size
  replace hs := hs.pure k
  replace hk := hk.pure k
  replace hw := hw.pure k
  refine WL.alloc Tryz.zeroValue70 rfl ?_
  intro g_1 w_1 hge_1 hlt_1 hb_1 k_1
  have zs_k_1 := k_1.size
  replace hs := hs.pure k_1
  replace hk := hk.pure k_1
  replace hw := hw.pure k_1
  refine WL.stores Tryz.sizeOf70 hb_1 rfl rfl (by simp; omega) (by intro u hu; obtain ⟨x, _, rfl⟩ := List.mem_map.1 hu; rfl) (by simp [Value.cells]; omega) rfl ?_
  intro w_2 hs_2 hn_2 k_2
  have zs_k_2 := k_2.size
  replace hs := hs.chg k_2 (by intro h1; have h2 : _ = _ := h1; exfalso; omega)
  replace hk := hk.chg k_2 (by intro h1; have h2 : _ = _ := h1; exfalso; omega)
  replace hw := hw.chg k_2 (by intro x h1 h2; have h3 : _ = _ := h2; exfalso; omega)
  replace hb_1 := hn_2
  refine WL.nil (WX.then_normal (WC.seq (WC.region (WL.move rfl rfl (WL.nilCheck rfl rfl (WL.loadsB Tryz.isAgg68 Tryz.sizeOf68 hs rfl (by simp; done) rfl (?_)))))))
  refine WL.alloc Tryz.zeroValue68 rfl ?_
  intro g_3 w_3 hge_3 hlt_3 hb_3 k_3
  have zs_k_3 := k_3.size
  replace hs := hs.pure k_3
  replace hk := hk.pure k_3
  replace hw := hw.pure k_3
  replace hb_1 := hb_1.pure k_3
  refine WL.stores Tryz.sizeOf68 hb_3 rfl rfl (by simp; done) (by simp [Value.oneCell']; done) (by simp [Value.cells]; done) rfl ?_
  intro w_4 hs_4 hn_4 k_4
  have zs_k_4 := k_4.size
  replace hs := hs.chg k_4 (by intro h1; have h2 : _ = _ := h1; exfalso; omega)
  replace hk := hk.chg k_4 (by intro h1; have h2 : _ = _ := h1; exfalso; omega)
  replace hw := hw.chg k_4 (by intro x h1 h2; have h3 : _ = _ := h2; exfalso; omega)
  replace hb_1 := hb_1.chg k_4 (by intro h1; have h2 : _ = _ := h1; exfalso; omega)
  replace hb_3 := hn_4
  refine WL.nil (WX.then_normal (WC.seq (WC.seq (WC.region (WL.move rfl rfl (WL.nil (WX.then_normal (?_))))))))
  refine WC.block (?_)
  have e6 : ∀ zs : List Value, zs.length = 64 → List.take 0 zs ++ List.map v32 ws ++ List.drop (0 + (List.map v32 ws).length) zs = List.map v32 ws := by
    intro zs hz
    rw [List.drop_eq_nil_of_le (by simp; omega)]
    simp
  rw [e6 _ rfl] at hb_1
  refine WC.loop (σ := Nat) (fun t => [(0, .pointer (some ⟨gs, 0, none⟩)), (2, .pointer (some ⟨gk, 0, none⟩)), (6, .pointer (some ⟨g_1, 0, none⟩)), (7, .pointer (some ⟨g_3, 0, none⟩)), (19, vi t)])
    (fun t w' => t ≤ 64 ∧ Blk w' gs 68 [v32 s.a, v32 s.b, v32 s.c, v32 s.d, v32 s.e, v32 s.f, v32 s.g, v32 s.h] ∧ Blk w' gk 70 (K256.map v32) ∧ Blk w' g_1 70 (ws.map v32) ∧ Blk w' g_3 68 (roundsN ws s t).cells ∧ Chg Nob w w') (fun t => 64 - t) 0 ⟨rfl, rfl, rfl, rfl, rfl, trivial⟩ ⟨by omega, hs, hk, ?_, hb_3, hw⟩ ?_
  ·
    exact hb_1
  clear hs hk hb_1 hb_3 hw
  rintro t w9 ⟨ht, hs, hk, h6, h7, hw⟩
  obtain ⟨V, hV⟩ : ∃ V, V = roundsN ws s t := ⟨_, rfl⟩
  rw [← hV] at h7
  replace h7 : Blk w9 g_3 68 [v32 V.a, v32 V.b, v32 V.c, v32 V.d, v32 V.e, v32 V.f, v32 V.g, v32 V.h] := h7
  refine WC.seq (WC.region (?_))
  refine WL.lss? rfl rfl rfl (fun h20 => ?_) (fun h20 => ?_)
  ·
    refine WL.nil (WX.then_normal (WC.seq (WC.cond_true rfl (WC.skip (WX.then_normal (WC.seq (WC.block (?_))))))))
    refine WC.seq (WC.region (WL.move rfl rfl (WL.assign rfl rfl (WL.nil (WX.then_normal (WC.seq (?_)))))))
    refine WC.draw (Nob) [0, 1, 2, 3, 4, 5] [] mixed rfl rfl (fun wd_5 kd_5 zd_5 => ?_)
    have zs_kd_5 := kd_5.size
    replace hs := hs.pure kd_5
    replace hk := hk.pure kd_5
    replace h6 := h6.pure kd_5
    replace h7 := h7.pure kd_5
    replace hw := hw.pure kd_5
    apply DQ.step (E' := [(7, _)])
    case ho => rfl
    case hs => exact ⟨rfl, trivial⟩
    case hk => rfl
    case h1 =>
      intro wq_6 kq_6
      have zs_kq_6 := kq_6.size
      replace hs := hs.pure kq_6
      replace hk := hk.pure kq_6
      replace h6 := h6.pure kq_6
      replace h7 := h7.pure kq_6
      replace hw := hw.pure kq_6
      refine WL.indexArr 4 Tryz.underlying68 Tryz.sizeOf66 rfl rfl ⟨rfl, by decide⟩ rfl (?_)
      refine WL.nil ?_
      exact WX.one ⟨rfl, by exact Chg.refl _ _⟩
    apply DQ.step (E' := [(22, _)])
    case ho => rfl
    case hs => exact ⟨rfl, trivial⟩
    case hk => rfl
    case h1 =>
      intro wq_7 kq_7
      have zs_kq_7 := kq_7.size
      replace hs := hs.pure kq_7
      replace hk := hk.pure kq_7
      replace h6 := h6.pure kq_7
      replace h7 := h7.pure kq_7
      replace hw := hw.pure kq_7
      refine WL.loadB Tryz.isAgg66 h7 rfl rfl rfl (?_)
      refine WL.nil ?_
      exact WX.one ⟨rfl, by exact Chg.refl _ _⟩
    apply DQ.step (E' := [(7, _)])
    case ho => rfl
    case hs => exact ⟨rfl, trivial⟩
    case hk => rfl
    case h1 =>
      intro wq_8 kq_8
      have zs_kq_8 := kq_8.size
      replace hs := hs.pure kq_8
      replace hk := hk.pure kq_8
      replace h6 := h6.pure kq_8
      replace h7 := h7.pure kq_8
      replace hw := hw.pure kq_8
      refine WL.indexArr 0 Tryz.underlying68 Tryz.sizeOf66 rfl rfl ⟨rfl, by decide⟩ rfl (?_)
      refine WL.nil ?_
      exact WX.one ⟨rfl, by exact Chg.refl _ _⟩
    apply DQ.step (E' := [(24, _)])
    case ho => rfl
    case hs => exact ⟨rfl, trivial⟩
    case hk => rfl
    case h1 =>
      intro wq_9 kq_9
      have zs_kq_9 := kq_9.size
      replace hs := hs.pure kq_9
      replace hk := hk.pure kq_9
      replace h6 := h6.pure kq_9
      replace h7 := h7.pure kq_9
      replace hw := hw.pure kq_9
      refine WL.loadB Tryz.isAgg66 h7 rfl rfl rfl (?_)
      refine WL.nil ?_
      exact WX.one ⟨rfl, by exact Chg.refl _ _⟩
    apply DQ.step (E' := [(23, _)])
    case ho => rfl
    case hs => exact ⟨rfl, trivial⟩
    case hk => rfl
    case h1 =>
      intro wq_10 kq_10
      refine WL.assign rfl rfl (?_)
      refine WL.nil ?_
      exact WX.one ⟨rfl, by exact Chg.refl _ _⟩
    apply DQ.step (E' := [(25, _)])
    case ho => rfl
    case hs => exact ⟨rfl, trivial⟩
    case hk => rfl
    case h1 =>
      intro wq_11 kq_11
      refine WL.assign rfl rfl (?_)
      refine WL.nil ?_
      exact WX.one ⟨rfl, by exact Chg.refl _ _⟩
    refine DQ.done (fun _ => ?_)
    refine DL.done (fun we_12 ke_12 => ?_)
    have zs_ke_12 := ke_12.size
    replace hs := hs.pure ke_12
    replace hk := hk.pure ke_12
    replace h6 := h6.pure ke_12
    replace h7 := h7.pure ke_12
    replace hw := hw.pure ke_12
    refine WX.then_normal (WC.seq (?_))
    have fk := getD_at (xs := K256) (i := t) (by show t < 64; omega)
    have fw := getD_at (xs := ws) (i := t) (by omega)
    refine WC.draw (Nob) [0, 1, 2, 3, 4, 5, 6, 7, 8, 9, 10, 11, 12, 13, 14, 15, 16, 17, 18, 19, 20, 21, 22, 23, 24, 25, 26, 27, 28, 29, 30, 31, 32] [] mixed rfl rfl (fun wd_13 kd_13 zd_13 => ?_)
    have zs_kd_13 := kd_13.size
    replace hs := hs.pure kd_13
    replace hk := hk.pure kd_13
    replace h6 := h6.pure kd_13
    replace h7 := h7.pure kd_13
    replace hw := hw.pure kd_13
    apply DQ.step (E' := [(7, _)])
    case ho => rfl
    case hs => exact ⟨rfl, trivial⟩
    case hk => rfl
    case h1 =>
      intro wq_14 kq_14
      have zs_kq_14 := kq_14.size
      replace hs := hs.pure kq_14
      replace hk := hk.pure kq_14
      replace h6 := h6.pure kq_14
      replace h7 := h7.pure kq_14
      replace hw := hw.pure kq_14
      refine WL.indexArr 7 Tryz.underlying68 Tryz.sizeOf66 rfl rfl ⟨rfl, by decide⟩ rfl (?_)
      refine WL.nil ?_
      exact WX.one ⟨rfl, by exact Chg.refl _ _⟩
    apply DQ.step (E' := [(26, _)])
    case ho => rfl
    case hs => exact ⟨rfl, trivial⟩
    case hk => rfl
    case h1 =>
      intro wq_15 kq_15
      have zs_kq_15 := kq_15.size
      replace hs := hs.pure kq_15
      replace hk := hk.pure kq_15
      replace h6 := h6.pure kq_15
      replace h7 := h7.pure kq_15
      replace hw := hw.pure kq_15
      refine WL.loadB Tryz.isAgg66 h7 rfl rfl rfl (?_)
      refine WL.nil ?_
      exact WX.one ⟨rfl, by exact Chg.refl _ _⟩
    apply DQ.step (E' := [(9, _)])
    case ho => rfl
    case hs => exact ⟨rfl, trivial⟩
    case hk => rfl
    case h1 =>
      intro wq_16 kq_16
      refine WL.move rfl rfl (?_)
      refine WL.nil ?_
      exact WX.one ⟨rfl, by exact Chg.refl _ _⟩
    apply DQ.step (E' := [(28, _)])
    case ho => rfl
    case hs => exact ⟨rfl, trivial⟩
    case hk => rfl
    case h1 =>
      intro wq_17 kq_17
      have zs_kq_17 := kq_17.size
      replace hs := hs.pure kq_17
      replace hk := hk.pure kq_17
      replace h6 := h6.pure kq_17
      replace h7 := h7.pure kq_17
      replace hw := hw.pure kq_17
      refine WL.call eg_65 rfl rfl (ror_calls V.e 6 _ (by decide)) ?_
      rintro v w4 ⟨rfl, k4⟩
      have zs_k4 := k4.size
      replace hs := hs.pure k4
      replace hk := hk.pure k4
      replace h6 := h6.pure k4
      replace h7 := h7.pure k4
      replace hw := hw.pure k4
      refine WL.nil ?_
      exact WX.one ⟨rfl, by assumption⟩
    apply DQ.step (E' := [(9, _)])
    case ho => rfl
    case hs => exact ⟨rfl, trivial⟩
    case hk => rfl
    case h1 =>
      intro wq_18 kq_18
      refine WL.move rfl rfl (?_)
      refine WL.nil ?_
      exact WX.one ⟨rfl, by exact Chg.refl _ _⟩
    apply DQ.step (E' := [(30, _)])
    case ho => rfl
    case hs => exact ⟨rfl, trivial⟩
    case hk => rfl
    case h1 =>
      intro wq_19 kq_19
      have zs_kq_19 := kq_19.size
      replace hs := hs.pure kq_19
      replace hk := hk.pure kq_19
      replace h6 := h6.pure kq_19
      replace h7 := h7.pure kq_19
      replace hw := hw.pure kq_19
      refine WL.call eg_65 rfl rfl (ror_calls V.e 11 _ (by decide)) ?_
      rintro v w4 ⟨rfl, k4⟩
      have zs_k4 := k4.size
      replace hs := hs.pure k4
      replace hk := hk.pure k4
      replace h6 := h6.pure k4
      replace h7 := h7.pure k4
      replace hw := hw.pure k4
      refine WL.nil ?_
      exact WX.one ⟨rfl, by assumption⟩
    apply DQ.step (E' := [(29, _), (31, _)])
    case ho => rfl
    case hs => exact ⟨rfl, rfl, trivial⟩
    case hk => rfl
    case h1 =>
      intro wq_20 kq_20
      refine WL.num rfl rfl (n_xor32 _ _ _ _) rfl (?_)
      refine WL.nil ?_
      exact WX.one ⟨rfl, by exact Chg.refl _ _⟩
    apply DQ.step (E' := [(9, _)])
    case ho => rfl
    case hs => exact ⟨rfl, trivial⟩
    case hk => rfl
    case h1 =>
      intro wq_21 kq_21
      refine WL.move rfl rfl (?_)
      refine WL.nil ?_
      exact WX.one ⟨rfl, by exact Chg.refl _ _⟩
    apply DQ.step (E' := [(33, _)])
    case ho => rfl
    case hs => exact ⟨rfl, trivial⟩
    case hk => rfl
    case h1 =>
      intro wq_22 kq_22
      have zs_kq_22 := kq_22.size
      replace hs := hs.pure kq_22
      replace hk := hk.pure kq_22
      replace h6 := h6.pure kq_22
      replace h7 := h7.pure kq_22
      replace hw := hw.pure kq_22
      refine WL.call eg_65 rfl rfl (ror_calls V.e 25 _ (by decide)) ?_
      rintro v w4 ⟨rfl, k4⟩
      have zs_k4 := k4.size
      replace hs := hs.pure k4
      replace hk := hk.pure k4
      replace h6 := h6.pure k4
      replace h7 := h7.pure k4
      replace hw := hw.pure k4
      refine WL.nil ?_
      exact WX.one ⟨rfl, by assumption⟩
    apply DQ.step (E' := [(32, _), (34, _)])
    case ho => rfl
    case hs => exact ⟨rfl, rfl, trivial⟩
    case hk => rfl
    case h1 =>
      intro wq_23 kq_23
      refine WL.num rfl rfl (n_xor32 _ _ _ _) rfl (?_)
      refine WL.nil ?_
      exact WX.one ⟨rfl, by exact Chg.refl _ _⟩
    apply DQ.step (E' := [(27, _), (35, _)])
    case ho => rfl
    case hs => exact ⟨rfl, rfl, trivial⟩
    case hk => rfl
    case h1 =>
      intro wq_24 kq_24
      refine WL.num rfl rfl (n_add32 _ _ _ _) rfl (?_)
      refine WL.nil ?_
      exact WX.one ⟨rfl, by exact Chg.refl _ _⟩
    apply DQ.step (E' := [(9, _)])
    case ho => rfl
    case hs => exact ⟨rfl, trivial⟩
    case hk => rfl
    case h1 =>
      intro wq_25 kq_25
      refine WL.move rfl rfl (?_)
      refine WL.nil ?_
      exact WX.one ⟨rfl, by exact Chg.refl _ _⟩
    apply DQ.step (E' := [(7, _)])
    case ho => rfl
    case hs => exact ⟨rfl, trivial⟩
    case hk => rfl
    case h1 =>
      intro wq_26 kq_26
      have zs_kq_26 := kq_26.size
      replace hs := hs.pure kq_26
      replace hk := hk.pure kq_26
      replace h6 := h6.pure kq_26
      replace h7 := h7.pure kq_26
      replace hw := hw.pure kq_26
      refine WL.indexArr 5 Tryz.underlying68 Tryz.sizeOf66 rfl rfl ⟨rfl, by decide⟩ rfl (?_)
      refine WL.nil ?_
      exact WX.one ⟨rfl, by exact Chg.refl _ _⟩
    apply DQ.step (E' := [(38, _)])
    case ho => rfl
    case hs => exact ⟨rfl, trivial⟩
    case hk => rfl
    case h1 =>
      intro wq_27 kq_27
      have zs_kq_27 := kq_27.size
      replace hs := hs.pure kq_27
      replace hk := hk.pure kq_27
      replace h6 := h6.pure kq_27
      replace h7 := h7.pure kq_27
      replace hw := hw.pure kq_27
      refine WL.loadB Tryz.isAgg66 h7 rfl rfl rfl (?_)
      refine WL.nil ?_
      exact WX.one ⟨rfl, by exact Chg.refl _ _⟩
    apply DQ.step (E' := [(37, _), (39, _)])
    case ho => rfl
    case hs => exact ⟨rfl, rfl, trivial⟩
    case hk => rfl
    case h1 =>
      intro wq_28 kq_28
      refine WL.num rfl rfl (n_and32 _ _ _ _) rfl (?_)
      refine WL.nil ?_
      exact WX.one ⟨rfl, by exact Chg.refl _ _⟩
    apply DQ.step (E' := [(9, _)])
    case ho => rfl
    case hs => exact ⟨rfl, trivial⟩
    case hk => rfl
    case h1 =>
      intro wq_29 kq_29
      refine WL.move rfl rfl (?_)
      refine WL.nil ?_
      exact WX.one ⟨rfl, by exact Chg.refl _ _⟩
    apply DQ.step (E' := [(41, _)])
    case ho => rfl
    case hs => exact ⟨rfl, trivial⟩
    case hk => rfl
    case h1 =>
      intro wq_30 kq_30
      refine WL.not32 rfl rfl (?_)
      refine WL.nil ?_
      exact WX.one ⟨rfl, by exact Chg.refl _ _⟩
    apply DQ.step (E' := [(7, _)])
    case ho => rfl
    case hs => exact ⟨rfl, trivial⟩
    case hk => rfl
    case h1 =>
      intro wq_31 kq_31
      have zs_kq_31 := kq_31.size
      replace hs := hs.pure kq_31
      replace hk := hk.pure kq_31
      replace h6 := h6.pure kq_31
      replace h7 := h7.pure kq_31
      replace hw := hw.pure kq_31
      refine WL.indexArr 6 Tryz.underlying68 Tryz.sizeOf66 rfl rfl ⟨rfl, by decide⟩ rfl (?_)
      refine WL.nil ?_
      exact WX.one ⟨rfl, by exact Chg.refl _ _⟩
    apply DQ.step (E' := [(43, _)])
    case ho => rfl
    case hs => exact ⟨rfl, trivial⟩
    case hk => rfl
    case h1 =>
      intro wq_32 kq_32
      have zs_kq_32 := kq_32.size
      replace hs := hs.pure kq_32
      replace hk := hk.pure kq_32
      replace h6 := h6.pure kq_32
      replace h7 := h7.pure kq_32
      replace hw := hw.pure kq_32
      refine WL.loadB Tryz.isAgg66 h7 rfl rfl rfl (?_)
      refine WL.nil ?_
      exact WX.one ⟨rfl, by exact Chg.refl _ _⟩
    apply DQ.step (E' := [(42, _), (44, _)])
    case ho => rfl
    case hs => exact ⟨rfl, rfl, trivial⟩
    case hk => rfl
    case h1 =>
      intro wq_33 kq_33
      refine WL.num rfl rfl (n_and32 _ _ _ _) rfl (?_)
      refine WL.nil ?_
      exact WX.one ⟨rfl, by exact Chg.refl _ _⟩
    apply DQ.step (E' := [(40, _), (45, _)])
    case ho => rfl
    case hs => exact ⟨rfl, rfl, trivial⟩
    case hk => rfl
    case h1 =>
      intro wq_34 kq_34
      refine WL.num rfl rfl (n_xor32 _ _ _ _) rfl (?_)
      refine WL.nil ?_
      exact WX.one ⟨rfl, by exact Chg.refl _ _⟩
    apply DQ.step (E' := [(36, _), (46, _)])
    case ho => rfl
    case hs => exact ⟨rfl, rfl, trivial⟩
    case hk => rfl
    case h1 =>
      intro wq_35 kq_35
      refine WL.num rfl rfl (n_add32 _ _ _ _) rfl (?_)
      refine WL.nil ?_
      exact WX.one ⟨rfl, by exact Chg.refl _ _⟩
    apply DQ.step (E' := [(2, _)])
    case ho => rfl
    case hs => exact ⟨rfl, trivial⟩
    case hk => rfl
    case h1 =>
      intro wq_36 kq_36
      refine WL.move rfl rfl (?_)
      refine WL.nil ?_
      exact WX.one ⟨rfl, by exact Chg.refl _ _⟩
    apply DQ.step (E' := [(8, _)])
    case ho => rfl
    case hs => exact ⟨rfl, trivial⟩
    case hk => rfl
    case h1 =>
      intro wq_37 kq_37
      refine WL.move rfl rfl (?_)
      refine WL.nil ?_
      exact WX.one ⟨rfl, by exact Chg.refl _ _⟩
    apply DQ.step (E' := [(48, _)])
    case ho => rfl
    case hs => exact ⟨rfl, trivial⟩
    case hk => rfl
    case h1 =>
      intro wq_38 kq_38
      refine WL.nilCheck rfl rfl (?_)
      refine WL.nil ?_
      exact WX.one ⟨rfl, by exact Chg.refl _ _⟩
    apply DQ.step (E' := [(50, _), (49, _)])
    case ho => rfl
    case hs => exact ⟨rfl, rfl, trivial⟩
    case hk => rfl
    case h1 =>
      intro wq_39 kq_39
      have zs_kq_39 := kq_39.size
      replace hs := hs.pure kq_39
      replace hk := hk.pure kq_39
      replace h6 := h6.pure kq_39
      replace h7 := h7.pure kq_39
      replace hw := hw.pure kq_39
      refine WL.indexArr (t) Tryz.underlying70 Tryz.sizeOf66 rfl rfl ⟨by omega, by omega⟩ rfl ?_
      refine WL.nil ?_
      exact WX.one ⟨rfl, by exact Chg.refl _ _⟩
    apply DQ.step (E' := [(51, _)])
    case ho => rfl
    case hs => exact ⟨rfl, trivial⟩
    case hk => rfl
    case h1 =>
      intro wq_40 kq_40
      have zs_kq_40 := kq_40.size
      replace hs := hs.pure kq_40
      replace hk := hk.pure kq_40
      replace h6 := h6.pure kq_40
      replace h7 := h7.pure kq_40
      replace hw := hw.pure kq_40
      refine WL.loadB Tryz.isAgg66 hk rfl (map_at _ fk) rfl (?_)
      refine WL.nil ?_
      exact WX.one ⟨rfl, by exact Chg.refl _ _⟩
    apply DQ.step (E' := [(47, _), (52, _)])
    case ho => rfl
    case hs => exact ⟨rfl, rfl, trivial⟩
    case hk => rfl
    case h1 =>
      intro wq_41 kq_41
      refine WL.num rfl rfl (n_add32 _ _ _ _) rfl (?_)
      refine WL.nil ?_
      exact WX.one ⟨rfl, by exact Chg.refl _ _⟩
    apply DQ.step (E' := [(8, _)])
    case ho => rfl
    case hs => exact ⟨rfl, trivial⟩
    case hk => rfl
    case h1 =>
      intro wq_42 kq_42
      refine WL.move rfl rfl (?_)
      refine WL.nil ?_
      exact WX.one ⟨rfl, by exact Chg.refl _ _⟩
    apply DQ.step (E' := [(6, _), (54, _)])
    case ho => rfl
    case hs => exact ⟨rfl, rfl, trivial⟩
    case hk => rfl
    case h1 =>
      intro wq_43 kq_43
      have zs_kq_43 := kq_43.size
      replace hs := hs.pure kq_43
      replace hk := hk.pure kq_43
      replace h6 := h6.pure kq_43
      replace h7 := h7.pure kq_43
      replace hw := hw.pure kq_43
      refine WL.indexArr (t) Tryz.underlying70 Tryz.sizeOf66 rfl rfl ⟨by omega, by omega⟩ rfl ?_
      refine WL.nil ?_
      exact WX.one ⟨rfl, by exact Chg.refl _ _⟩
    apply DQ.step (E' := [(55, _)])
    case ho => rfl
    case hs => exact ⟨rfl, trivial⟩
    case hk => rfl
    case h1 =>
      intro wq_44 kq_44
      have zs_kq_44 := kq_44.size
      replace hs := hs.pure kq_44
      replace hk := hk.pure kq_44
      replace h6 := h6.pure kq_44
      replace h7 := h7.pure kq_44
      replace hw := hw.pure kq_44
      refine WL.loadB Tryz.isAgg66 h6 rfl (map_at _ fw) rfl (?_)
      refine WL.nil ?_
      exact WX.one ⟨rfl, by exact Chg.refl _ _⟩
    apply DQ.step (E' := [(53, _), (56, _)])
    case ho => rfl
    case hs => exact ⟨rfl, rfl, trivial⟩
    case hk => rfl
    case h1 =>
      intro wq_45 kq_45
      refine WL.num rfl rfl (n_add32 _ _ _ _) rfl (?_)
      refine WL.nil ?_
      exact WX.one ⟨rfl, by exact Chg.refl _ _⟩
    apply DQ.step (E' := [(57, _)])
    case ho => rfl
    case hs => exact ⟨rfl, trivial⟩
    case hk => rfl
    case h1 =>
      intro wq_46 kq_46
      refine WL.assign rfl rfl (?_)
      refine WL.nil ?_
      exact WX.one ⟨rfl, by exact Chg.refl _ _⟩
    refine DQ.done (fun _ => ?_)
    refine DL.done (fun we_47 ke_47 => ?_)
    have zs_ke_47 := ke_47.size
    replace hs := hs.pure ke_47
    replace hk := hk.pure ke_47
    replace h6 := h6.pure ke_47
    replace h7 := h7.pure ke_47
    replace hw := hw.pure ke_47
    refine WX.then_normal (WC.seq (?_))
    refine WC.draw (Nob) [0, 1, 2, 3, 4, 5, 6, 7, 8, 9, 10, 11, 12, 13, 14, 15, 16, 17, 18, 19, 20, 21, 22, 23, 24] [] mixed rfl rfl (fun wd_48 kd_48 zd_48 => ?_)
    have zs_kd_48 := kd_48.size
    replace hs := hs.pure kd_48
    replace hk := hk.pure kd_48
    replace h6 := h6.pure kd_48
    replace h7 := h7.pure kd_48
    replace hw := hw.pure kd_48
    apply DQ.step (E' := [(10, _)])
    case ho => rfl
    case hs => exact ⟨rfl, trivial⟩
    case hk => rfl
    case h1 =>
      intro wq_49 kq_49
      refine WL.move rfl rfl (?_)
      refine WL.nil ?_
      exact WX.one ⟨rfl, by exact Chg.refl _ _⟩
    apply DQ.step (E' := [(58, _)])
    case ho => rfl
    case hs => exact ⟨rfl, trivial⟩
    case hk => rfl
    case h1 =>
      intro wq_50 kq_50
      have zs_kq_50 := kq_50.size
      replace hs := hs.pure kq_50
      replace hk := hk.pure kq_50
      replace h6 := h6.pure kq_50
      replace h7 := h7.pure kq_50
      replace hw := hw.pure kq_50
      refine WL.call eg_65 rfl rfl (ror_calls V.a 2 _ (by decide)) ?_
      rintro v w4 ⟨rfl, k4⟩
      have zs_k4 := k4.size
      replace hs := hs.pure k4
      replace hk := hk.pure k4
      replace h6 := h6.pure k4
      replace h7 := h7.pure k4
      replace hw := hw.pure k4
      refine WL.nil ?_
      exact WX.one ⟨rfl, by assumption⟩
    apply DQ.step (E' := [(10, _)])
    case ho => rfl
    case hs => exact ⟨rfl, trivial⟩
    case hk => rfl
    case h1 =>
      intro wq_51 kq_51
      refine WL.move rfl rfl (?_)
      refine WL.nil ?_
      exact WX.one ⟨rfl, by exact Chg.refl _ _⟩
    apply DQ.step (E' := [(60, _)])
    case ho => rfl
    case hs => exact ⟨rfl, trivial⟩
    case hk => rfl
    case h1 =>
      intro wq_52 kq_52
      have zs_kq_52 := kq_52.size
      replace hs := hs.pure kq_52
      replace hk := hk.pure kq_52
      replace h6 := h6.pure kq_52
      replace h7 := h7.pure kq_52
      replace hw := hw.pure kq_52
      refine WL.call eg_65 rfl rfl (ror_calls V.a 13 _ (by decide)) ?_
      rintro v w4 ⟨rfl, k4⟩
      have zs_k4 := k4.size
      replace hs := hs.pure k4
      replace hk := hk.pure k4
      replace h6 := h6.pure k4
      replace h7 := h7.pure k4
      replace hw := hw.pure k4
      refine WL.nil ?_
      exact WX.one ⟨rfl, by assumption⟩
    apply DQ.step (E' := [(59, _), (61, _)])
    case ho => rfl
    case hs => exact ⟨rfl, rfl, trivial⟩
    case hk => rfl
    case h1 =>
      intro wq_53 kq_53
      refine WL.num rfl rfl (n_xor32 _ _ _ _) rfl (?_)
      refine WL.nil ?_
      exact WX.one ⟨rfl, by exact Chg.refl _ _⟩
    apply DQ.step (E' := [(10, _)])
    case ho => rfl
    case hs => exact ⟨rfl, trivial⟩
    case hk => rfl
    case h1 =>
      intro wq_54 kq_54
      refine WL.move rfl rfl (?_)
      refine WL.nil ?_
      exact WX.one ⟨rfl, by exact Chg.refl _ _⟩
    apply DQ.step (E' := [(63, _)])
    case ho => rfl
    case hs => exact ⟨rfl, trivial⟩
    case hk => rfl
    case h1 =>
      intro wq_55 kq_55
      have zs_kq_55 := kq_55.size
      replace hs := hs.pure kq_55
      replace hk := hk.pure kq_55
      replace h6 := h6.pure kq_55
      replace h7 := h7.pure kq_55
      replace hw := hw.pure kq_55
      refine WL.call eg_65 rfl rfl (ror_calls V.a 22 _ (by decide)) ?_
      rintro v w4 ⟨rfl, k4⟩
      have zs_k4 := k4.size
      replace hs := hs.pure k4
      replace hk := hk.pure k4
      replace h6 := h6.pure k4
      replace h7 := h7.pure k4
      replace hw := hw.pure k4
      refine WL.nil ?_
      exact WX.one ⟨rfl, by assumption⟩
    apply DQ.step (E' := [(62, _), (64, _)])
    case ho => rfl
    case hs => exact ⟨rfl, rfl, trivial⟩
    case hk => rfl
    case h1 =>
      intro wq_56 kq_56
      refine WL.num rfl rfl (n_xor32 _ _ _ _) rfl (?_)
      refine WL.nil ?_
      exact WX.one ⟨rfl, by exact Chg.refl _ _⟩
    apply DQ.step (E' := [(10, _)])
    case ho => rfl
    case hs => exact ⟨rfl, trivial⟩
    case hk => rfl
    case h1 =>
      intro wq_57 kq_57
      refine WL.move rfl rfl (?_)
      refine WL.nil ?_
      exact WX.one ⟨rfl, by exact Chg.refl _ _⟩
    apply DQ.step (E' := [(7, _)])
    case ho => rfl
    case hs => exact ⟨rfl, trivial⟩
    case hk => rfl
    case h1 =>
      intro wq_58 kq_58
      have zs_kq_58 := kq_58.size
      replace hs := hs.pure kq_58
      replace hk := hk.pure kq_58
      replace h6 := h6.pure kq_58
      replace h7 := h7.pure kq_58
      replace hw := hw.pure kq_58
      refine WL.indexArr 1 Tryz.underlying68 Tryz.sizeOf66 rfl rfl ⟨rfl, by decide⟩ rfl (?_)
      refine WL.nil ?_
      exact WX.one ⟨rfl, by exact Chg.refl _ _⟩
    apply DQ.step (E' := [(67, _)])
    case ho => rfl
    case hs => exact ⟨rfl, trivial⟩
    case hk => rfl
    case h1 =>
      intro wq_59 kq_59
      have zs_kq_59 := kq_59.size
      replace hs := hs.pure kq_59
      replace hk := hk.pure kq_59
      replace h6 := h6.pure kq_59
      replace h7 := h7.pure kq_59
      replace hw := hw.pure kq_59
      refine WL.loadB Tryz.isAgg66 h7 rfl rfl rfl (?_)
      refine WL.nil ?_
      exact WX.one ⟨rfl, by exact Chg.refl _ _⟩
    apply DQ.step (E' := [(66, _), (68, _)])
    case ho => rfl
    case hs => exact ⟨rfl, rfl, trivial⟩
    case hk => rfl
    case h1 =>
      intro wq_60 kq_60
      refine WL.num rfl rfl (n_and32 _ _ _ _) rfl (?_)
      refine WL.nil ?_
      exact WX.one ⟨rfl, by exact Chg.refl _ _⟩
    apply DQ.step (E' := [(10, _)])
    case ho => rfl
    case hs => exact ⟨rfl, trivial⟩
    case hk => rfl
    case h1 =>
      intro wq_61 kq_61
      refine WL.move rfl rfl (?_)
      refine WL.nil ?_
      exact WX.one ⟨rfl, by exact Chg.refl _ _⟩
    apply DQ.step (E' := [(7, _)])
    case ho => rfl
    case hs => exact ⟨rfl, trivial⟩
    case hk => rfl
    case h1 =>
      intro wq_62 kq_62
      have zs_kq_62 := kq_62.size
      replace hs := hs.pure kq_62
      replace hk := hk.pure kq_62
      replace h6 := h6.pure kq_62
      replace h7 := h7.pure kq_62
      replace hw := hw.pure kq_62
      refine WL.indexArr 2 Tryz.underlying68 Tryz.sizeOf66 rfl rfl ⟨rfl, by decide⟩ rfl (?_)
      refine WL.nil ?_
      exact WX.one ⟨rfl, by exact Chg.refl _ _⟩
    apply DQ.step (E' := [(71, _)])
    case ho => rfl
    case hs => exact ⟨rfl, trivial⟩
    case hk => rfl
    case h1 =>
      intro wq_63 kq_63
      have zs_kq_63 := kq_63.size
      replace hs := hs.pure kq_63
      replace hk := hk.pure kq_63
      replace h6 := h6.pure kq_63
      replace h7 := h7.pure kq_63
      replace hw := hw.pure kq_63
      refine WL.loadB Tryz.isAgg66 h7 rfl rfl rfl (?_)
      refine WL.nil ?_
      exact WX.one ⟨rfl, by exact Chg.refl _ _⟩
    apply DQ.step (E' := [(70, _), (72, _)])
    case ho => rfl
    case hs => exact ⟨rfl, rfl, trivial⟩
    case hk => rfl
    case h1 =>
      intro wq_64 kq_64
      refine WL.num rfl rfl (n_and32 _ _ _ _) rfl (?_)
      refine WL.nil ?_
      exact WX.one ⟨rfl, by exact Chg.refl _ _⟩
    apply DQ.step (E' := [(69, _), (73, _)])
    case ho => rfl
    case hs => exact ⟨rfl, rfl, trivial⟩
    case hk => rfl
    case h1 =>
      intro wq_65 kq_65
      refine WL.num rfl rfl (n_xor32 _ _ _ _) rfl (?_)
      refine WL.nil ?_
      exact WX.one ⟨rfl, by exact Chg.refl _ _⟩
    apply DQ.step (E' := [(7, _)])
    case ho => rfl
    case hs => exact ⟨rfl, trivial⟩
    case hk => rfl
    case h1 =>
      intro wq_66 kq_66
      have zs_kq_66 := kq_66.size
      replace hs := hs.pure kq_66
      replace hk := hk.pure kq_66
      replace h6 := h6.pure kq_66
      replace h7 := h7.pure kq_66
      replace hw := hw.pure kq_66
      refine WL.indexArr 1 Tryz.underlying68 Tryz.sizeOf66 rfl rfl ⟨rfl, by decide⟩ rfl (?_)
      refine WL.nil ?_
      exact WX.one ⟨rfl, by exact Chg.refl _ _⟩
    apply DQ.step (E' := [(75, _)])
    case ho => rfl
    case hs => exact ⟨rfl, trivial⟩
    case hk => rfl
    case h1 =>
      intro wq_67 kq_67
      have zs_kq_67 := kq_67.size
      replace hs := hs.pure kq_67
      replace hk := hk.pure kq_67
      replace h6 := h6.pure kq_67
      replace h7 := h7.pure kq_67
      replace hw := hw.pure kq_67
      refine WL.loadB Tryz.isAgg66 h7 rfl rfl rfl (?_)
      refine WL.nil ?_
      exact WX.one ⟨rfl, by exact Chg.refl _ _⟩
    apply DQ.step (E' := [(7, _)])
    case ho => rfl
    case hs => exact ⟨rfl, trivial⟩
    case hk => rfl
    case h1 =>
      intro wq_68 kq_68
      have zs_kq_68 := kq_68.size
      replace hs := hs.pure kq_68
      replace hk := hk.pure kq_68
      replace h6 := h6.pure kq_68
      replace h7 := h7.pure kq_68
      replace hw := hw.pure kq_68
      refine WL.indexArr 2 Tryz.underlying68 Tryz.sizeOf66 rfl rfl ⟨rfl, by decide⟩ rfl (?_)
      refine WL.nil ?_
      exact WX.one ⟨rfl, by exact Chg.refl _ _⟩
    apply DQ.step (E' := [(77, _)])
    case ho => rfl
    case hs => exact ⟨rfl, trivial⟩
    case hk => rfl
    case h1 =>
      intro wq_69 kq_69
      have zs_kq_69 := kq_69.size
      replace hs := hs.pure kq_69
      replace hk := hk.pure kq_69
      replace h6 := h6.pure kq_69
      replace h7 := h7.pure kq_69
      replace hw := hw.pure kq_69
      refine WL.loadB Tryz.isAgg66 h7 rfl rfl rfl (?_)
      refine WL.nil ?_
      exact WX.one ⟨rfl, by exact Chg.refl _ _⟩
    apply DQ.step (E' := [(76, _), (78, _)])
    case ho => rfl
    case hs => exact ⟨rfl, rfl, trivial⟩
    case hk => rfl
    case h1 =>
      intro wq_70 kq_70
      refine WL.num rfl rfl (n_and32 _ _ _ _) rfl (?_)
      refine WL.nil ?_
      exact WX.one ⟨rfl, by exact Chg.refl _ _⟩
    apply DQ.step (E' := [(74, _), (79, _)])
    case ho => rfl
    case hs => exact ⟨rfl, rfl, trivial⟩
    case hk => rfl
    case h1 =>
      intro wq_71 kq_71
      refine WL.num rfl rfl (n_xor32 _ _ _ _) rfl (?_)
      refine WL.nil ?_
      exact WX.one ⟨rfl, by exact Chg.refl _ _⟩
    apply DQ.step (E' := [(65, _), (80, _)])
    case ho => rfl
    case hs => exact ⟨rfl, rfl, trivial⟩
    case hk => rfl
    case h1 =>
      intro wq_72 kq_72
      refine WL.num rfl rfl (n_add32 _ _ _ _) rfl (?_)
      refine WL.nil ?_
      exact WX.one ⟨rfl, by exact Chg.refl _ _⟩
    apply DQ.step (E' := [(81, _)])
    case ho => rfl
    case hs => exact ⟨rfl, trivial⟩
    case hk => rfl
    case h1 =>
      intro wq_73 kq_73
      refine WL.assign rfl rfl (?_)
      refine WL.nil ?_
      exact WX.one ⟨rfl, by exact Chg.refl _ _⟩
    refine DQ.done (fun _ => ?_)
    refine DL.done (fun we_74 ke_74 => ?_)
    have zs_ke_74 := ke_74.size
    replace hs := hs.pure ke_74
    replace hk := hk.pure ke_74
    replace h6 := h6.pure ke_74
    replace h7 := h7.pure ke_74
    replace hw := hw.pure ke_74
    refine WX.then_normal (WC.region (WL.move rfl rfl (WL.move rfl rfl (WL.num rfl rfl (n_add32 _ _ _ _) rfl (WL.indexArr 0 Tryz.underlying68 Tryz.sizeOf66 rfl rfl ⟨rfl, by decide⟩ rfl (WL.loadB Tryz.isAgg66 h7 rfl rfl rfl (WL.indexArr 1 Tryz.underlying68 Tryz.sizeOf66 rfl rfl ⟨rfl, by decide⟩ rfl (?_))))))))
    refine WL.loadB Tryz.isAgg66 h7 rfl rfl rfl (WL.indexArr 2 Tryz.underlying68 Tryz.sizeOf66 rfl rfl ⟨rfl, by decide⟩ rfl (WL.loadB Tryz.isAgg66 h7 rfl rfl rfl (WL.indexArr 3 Tryz.underlying68 Tryz.sizeOf66 rfl rfl ⟨rfl, by decide⟩ rfl (WL.loadB Tryz.isAgg66 h7 rfl rfl rfl (WL.move rfl rfl (WL.num rfl rfl (n_add32 _ _ _ _) rfl (WL.indexArr 4 Tryz.underlying68 Tryz.sizeOf66 rfl rfl ⟨rfl, by decide⟩ rfl (?_))))))))
    refine WL.loadB Tryz.isAgg66 h7 rfl rfl rfl (WL.indexArr 5 Tryz.underlying68 Tryz.sizeOf66 rfl rfl ⟨rfl, by decide⟩ rfl (WL.loadB Tryz.isAgg66 h7 rfl rfl rfl (WL.indexArr 6 Tryz.underlying68 Tryz.sizeOf66 rfl rfl ⟨rfl, by decide⟩ rfl (WL.loadB Tryz.isAgg66 h7 rfl rfl rfl (WL.bld rfl (bld_68_0_1_2_3_4_5_6_7 _ _ _ _ _ _ _ _) rfl (?_))))))
    refine WL.stores Tryz.sizeOf68 h7 rfl rfl (by simp; done) (by simp [Value.oneCell']; done) (by simp; done) rfl ?_
    intro w_75 hs_75 hn_75 k_75
    have zs_k_75 := k_75.size
    replace hs := hs.chg k_75 (by intro h1; have h2 : _ = _ := h1; exfalso; omega)
    replace hk := hk.chg k_75 (by intro h1; have h2 : _ = _ := h1; exfalso; omega)
    replace h6 := h6.chg k_75 (by intro h1; have h2 : _ = _ := h1; exfalso; omega)
    replace hw := hw.chg k_75 (by intro x h1 h2; have h3 : _ = _ := h2; exfalso; omega)
    replace h7 := hn_75
    refine WL.nil (WX.block_normal (WX.then_normal (WC.region (WL.add64 rfl rfl (by omega) rfl (WL.move rfl rfl (WL.nil (?_)))))))
    refine WX.loop_next (t + 1) ⟨rfl, rfl, rfl, rfl, rfl, trivial⟩ ⟨by omega, hs, hk, h6, ?_, hw⟩ (by show _ - _ < _ - _; omega)
    rw [roundsN, ← hV]
    exact h7
  ·
    refine WL.nil (WX.then_normal (WC.seq (WC.cond_false rfl (WC.exit (WX.then_exit (WX.then_exit (WX.block_here (?_))))))))
    refine WX.then_normal (WC.seq (WC.region (WL.move rfl rfl (WL.nil (WX.then_normal (WC.block (?_)))))))
    have ht64 : t = 64 := by omega
    rw [ht64] at hV
    refine WC.loop (σ := Nat) (fun i => [(0, .pointer (some ⟨gs, 0, none⟩)), (7, .pointer (some ⟨g_3, 0, none⟩)), (103, vi i)])
      (fun i w' => i ≤ 8 ∧ Blk w' gs 68 ((addTo s V i).map v32) ∧ Blk w' g_3 68 (V.list.map v32) ∧ Chg (fun x => x = gs) w w') (fun i => 8 - i) 0 ⟨rfl, rfl, rfl, trivial⟩ ⟨by omega, hs, h7, hw.mono (fun _ _ h => h.elim)⟩ ?_
    clear hs hk h6 h7 hw
    rintro i w9 ⟨hi, hs, h7, hw⟩
    refine WC.seq (WC.region (?_))
    refine WL.lss? rfl rfl rfl (fun h104 => ?_) (fun h104 => ?_)
    ·
      refine WL.nil (WX.then_normal (WC.seq (WC.cond_true rfl (WC.skip (WX.then_normal (WC.seq (WC.block (?_))))))))
      refine WC.seq (WC.region (WL.move rfl rfl (WL.assign rfl rfl (WL.nil (WX.then_normal (?_))))))
      obtain ⟨f1, f2, f3⟩ := addTo_at (s := s) (v := V) (i := i) (by omega)
      have hal := addTo_len s V i (by omega)
      refine WC.draw (fun x => x = gs) [0, 1, 2, 3, 5, 6, 7, 9, 10] [4, 8, 11] mixed rfl rfl (fun wd_5 kd_5 zd_5 => ?_)
      have zs_kd_5 := kd_5.size
      replace hs := hs.pure kd_5
      replace h7 := h7.pure kd_5
      replace hw := hw.pure kd_5
      apply DQ.step (E' := [(0, _)])
      case ho => rfl
      case hs => exact ⟨rfl, trivial⟩
      case hk => rfl
      case h1 =>
        intro wq_7 kq_7
        refine WL.move rfl rfl (?_)
        refine WL.nil ?_
        exact WX.one ⟨rfl, by exact Chg.refl _ _⟩
      apply DQ.step (E' := [(13, _)])
      case ho => rfl
      case hs => exact ⟨rfl, trivial⟩
      case hk => rfl
      case h1 =>
        intro wq_8 kq_8
        refine WL.move rfl rfl (?_)
        refine WL.nil ?_
        exact WX.one ⟨rfl, by exact Chg.refl _ _⟩
      apply DQ.step (E' := [(106, _)])
      case ho => rfl
      case hs => exact ⟨rfl, trivial⟩
      case hk => rfl
      case h1 =>
        intro wq_9 kq_9
        refine WL.nilCheck rfl rfl (?_)
        refine WL.nil ?_
        exact WX.one ⟨rfl, by exact Chg.refl _ _⟩
      apply DQ.step (E' := [(108, _), (107, _)])
      case ho => rfl
      case hs => exact ⟨rfl, rfl, trivial⟩
      case hk => rfl
      case h1 =>
        intro wq_10 kq_10
        have zs_kq_10 := kq_10.size
        replace h7 := h7.chg kq_10 (by intro h1; have h2 : _ = _ := h1; exfalso; omega)
        refine WL.indexArr (i) Tryz.underlying68 Tryz.sizeOf66 rfl rfl ⟨by omega, by omega⟩ rfl ?_
        refine WL.nil ?_
        exact WX.one ⟨rfl, by exact Chg.refl _ _⟩
      apply DQ.step (E' := [(13, _)])
      case ho => rfl
      case hs => exact ⟨rfl, trivial⟩
      case hk => rfl
      case h1 =>
        intro wq_11 kq_11
        refine WL.move rfl rfl (?_)
        refine WL.nil ?_
        exact WX.one ⟨rfl, by exact Chg.refl _ _⟩
      apply DQ.step (E' := [(7, _), (111, _)])
      case ho => rfl
      case hs => exact ⟨rfl, rfl, trivial⟩
      case hk => rfl
      case h1 =>
        intro wq_12 kq_12
        have zs_kq_12 := kq_12.size
        replace h7 := h7.chg kq_12 (by intro h1; have h2 : _ = _ := h1; exfalso; omega)
        refine WL.indexArr (i) Tryz.underlying68 Tryz.sizeOf66 rfl rfl ⟨by omega, by omega⟩ rfl ?_
        refine WL.nil ?_
        exact WX.one ⟨rfl, by exact Chg.refl _ _⟩
      apply DQ.step (E' := [(112, _)])
      case ho => rfl
      case hs => exact ⟨rfl, trivial⟩
      case hk => rfl
      case h1 =>
        intro wq_13 kq_13
        have zs_kq_13 := kq_13.size
        replace h7 := h7.chg kq_13 (by intro h1; have h2 : _ = _ := h1; exfalso; omega)
        refine WL.loadB Tryz.isAgg66 h7 rfl (map_at _ f2) rfl (?_)
        refine WL.nil ?_
        exact WX.one ⟨rfl, by exact Chg.refl _ _⟩
      apply DQ.step (E' := [(106, _)])
      case ho => rfl
      case hs => exact ⟨rfl, trivial⟩
      case hk => rfl
      case h1 =>
        intro wq_14 kq_14
        refine WL.nilCheck rfl rfl (?_)
        refine WL.nil ?_
        exact WX.one ⟨rfl, by exact Chg.refl _ _⟩
      apply DQ.step (E' := [(115, _), (107, _)])
      case ho => rfl
      case hs => exact ⟨rfl, rfl, trivial⟩
      case hk => rfl
      case h1 =>
        intro wq_15 kq_15
        have zs_kq_15 := kq_15.size
        replace h7 := h7.chg kq_15 (by intro h1; have h2 : _ = _ := h1; exfalso; omega)
        refine WL.indexArr (i) Tryz.underlying68 Tryz.sizeOf66 rfl rfl ⟨by omega, by omega⟩ rfl ?_
        refine WL.nil ?_
        exact WX.one ⟨rfl, by exact Chg.refl _ _⟩
      refine DQ.done (fun hd_6 => ?_)
      refine DL.step [(109, _)] rfl ⟨rfl, trivial⟩ rfl (fun wq_16 kq_16 => ?_)
      have zs_kq_16 := kq_16.size
      replace hs := hs.pure kq_16
      replace h7 := h7.pure kq_16
      replace hw := hw.pure kq_16
      replace hd_6 := hd_6.pure kq_16
      refine WL.loadB Tryz.isAgg66 hs rfl (map_at _ f1) rfl (?_)
      refine WL.nil ?_
      refine WX.one ⟨hd_6, ?_⟩
      refine DL.step [(110, _), (113, _)] rfl ⟨rfl, rfl, trivial⟩ rfl (fun wq_17 kq_17 => ?_)
      have zs_kq_17 := kq_17.size
      replace hs := hs.pure kq_17
      replace h7 := h7.pure kq_17
      replace hw := hw.pure kq_17
      replace hd_6 := hd_6.pure kq_17
      refine WL.num rfl rfl (n_add32 _ _ _ _) rfl (?_)
      refine WL.nil ?_
      refine WX.one ⟨hd_6, ?_⟩
      refine DL.step [(116, _), (114, _)] rfl ⟨rfl, rfl, trivial⟩ rfl (fun wq_18 kq_18 => ?_)
      have zs_kq_18 := kq_18.size
      replace hs := hs.pure kq_18
      replace h7 := h7.pure kq_18
      replace hw := hw.pure kq_18
      replace hd_6 := hd_6.pure kq_18
      refine WL.store Tryz.sizeOf66 hs rfl rfl rfl (by simp; omega) ?_
      intro w_19 hs_19 hn_19 k_19
      have zs_k_19 := k_19.size
      replace h7 := h7.chg k_19 (by intro h1; have h2 : _ = _ := h1; exfalso; omega)
      replace hw := hw.chg k_19 (by intro x h1 h2; exact h2)
      replace hd_6 := hd_6.chg k_19 (by intro x h1 h2; exact h2)
      replace hs := hn_19
      refine WL.nil ?_
      refine WX.one0 (v := undef) ⟨hd_6, ?_⟩
      refine DL.done (fun we_20 ke_20 => ?_)
      have zs_ke_20 := ke_20.size
      replace hs := hs.pure ke_20
      replace h7 := h7.pure ke_20
      replace hw := hw.pure ke_20
      replace hd_6 := hd_6.pure ke_20
      refine WX.block_normal (WX.then_normal (WC.region (WL.add64 rfl rfl (by omega) rfl (WL.move rfl rfl (WL.nil (?_))))))
      refine WX.loop_next (i + 1) ⟨rfl, rfl, rfl, trivial⟩ ⟨by omega, ?_, h7, hw⟩ (by show _ - _ < _ - _; omega)
      rw [← f3, List.map_set]
      exact hs
    ·
      refine WL.nil (WX.then_normal (WC.seq (WC.cond_false rfl (WC.exit (WX.then_exit (WX.then_exit (WX.block_here (?_))))))))
      refine WX.ret0 (.inr rfl) Tryz.results37 ?_
      have hi8 : i = 8 := by omega
      subst hi8
      refine ⟨_, rfl, rfl, ?_, hw⟩
      rw [mix_eq, ← hws, ← hV]
      exact hs
end Go.Proofs.YtggecdldnpildaaGreat
namespace Go.Proofs.YtggecdldnpildaaGreat
open Go.RowKit Go.HL
set_option maxRecDepth 100000

/-- block after block -/
def comp (s : V8) (ms : List UInt8) : V8 := if 64 ≤ ms.length then comp (mix s (ms.take 64)) (ms.drop 64) else s
termination_by ms.length
decreasing_by simp; omega
theorem comp_more {s : V8} {ms : List UInt8} (h : 64 ≤ ms.length) : comp s ms = comp (mix s (ms.take 64)) (ms.drop 64) := by rw [comp, if_pos h]
theorem comp_end {s : V8} {ms : List UInt8} (h : ms.length < 64) : comp s ms = s := by rw [comp, if_neg (by omega)]
def bytes4 (x : UInt32) : List UInt8 := [(x >>> UInt32.ofNat 24).toUInt8, (x >>> UInt32.ofNat 16).toUInt8, (x >>> UInt32.ofNat 8).toUInt8, x.toUInt8]
def sumB (b : List UInt8) : List UInt8 := (comp st0 (padded b)).list.flatMap bytes4
theorem sumB_len (b : List UInt8) : (sumB b).length = 32 := by simp [sumB, V8.list, bytes4]
theorem padded_len (b : List UInt8) : (padded b).length % 64 = 0 := by
  simp [padded, be8]
  omega
set_option maxHeartbeats 1000000 in
theorem sum_calls {S : Nat → Prop} {w : World} {ao : Option Addr} {c : Nat} {b : List UInt8} (hr : RSl S w eb ao c b) (hl : b.length ≤ 140737488351232) :
    Calls Tryz.prog 12 [.slice ao b.length c].toArray w (Ret fun v w' => v = .string ⟨(sumB b).toArray⟩ ∧ Chg Nob w w') := by
  replace hr := hr.old
  have hw := Chg.refl Nob w
  refine Calls.of_WC Tryz.func12 rfl Tryz.ntmps12 (by simp) ?_
  refine WC.seq (WC.region (WL.assign rfl rfl (WL.nil (WX.then_normal (WC.seq (WC.region (?_)))))))
  refine WL.call eg_34 rfl rfl (begin_calls _) ?_
  rintro v w1 ⟨rfl, k⟩
  rw [V8.cells_eq]
  have zs_k := k.size
  replace hr := hr.pure k
  replace hw := hw.pure k
  refine WL.call eg_35 rfl rfl (rounds_calls _) ?_
  rintro v w1 ⟨rfl, k⟩
  have zs_k := k.size
  replace hr := hr.pure k
  replace hw := hw.pure k
  refine WL.alloc Tryz.zeroValue68 rfl ?_
  intro g_1 w_1 hge_1 hlt_1 hb_1 k_1
  have zs_k_1 := k_1.size
  replace hr := hr.pure k_1
  replace hw := hw.pure k_1
  refine WL.alloc Tryz.zeroValue70 rfl ?_
  intro g_2 w_2 hge_2 hlt_2 hb_2 k_2
  have zs_k_2 := k_2.size
  replace hr := hr.pure k_2
  replace hw := hw.pure k_2
  replace hb_1 := hb_1.pure k_2
  refine WL.stores Tryz.sizeOf68 hb_1 rfl rfl (by rfl) (by intro u hu; obtain ⟨x, _, rfl⟩ := List.mem_map.1 hu; rfl) (by exact Nat.le_of_ble_eq_true rfl) rfl ?_
  intro w_3 hs_3 hn_3 k_3
  have zs_k_3 := k_3.size
  replace hr := hr.chg k_3 (by intro b h1 h2 h3; have h4 : _ = _ := h3; (try dsimp only at h2); exfalso; omega)
  replace hw := hw.chg k_3 (by intro x h1 h2; have h3 : _ = _ := h2; exfalso; omega)
  replace hb_2 := hb_2.chg k_3 (by intro h1; have h2 : _ = _ := h1; exfalso; omega)
  replace hb_1 := hn_3
  refine WL.stores Tryz.sizeOf70 hb_2 rfl rfl (by rfl) (by intro u hu; obtain ⟨x, _, rfl⟩ := List.mem_map.1 hu; rfl) (by exact Nat.le_of_ble_eq_true rfl) rfl ?_
  intro w_4 hs_4 hn_4 k_4
  have zs_k_4 := k_4.size
  replace hr := hr.chg k_4 (by intro b h1 h2 h3; have h4 : _ = _ := h3; (try dsimp only at h2); exfalso; omega)
  replace hw := hw.chg k_4 (by intro x h1 h2; have h3 : _ = _ := h2; exfalso; omega)
  replace hb_1 := hb_1.chg k_4 (by intro h1; have h2 : _ = _ := h1; exfalso; omega)
  replace hb_2 := hn_4
  refine WL.nil (WX.then_normal (WC.seq (WC.seq (WC.region (WL.move rfl rfl (?_))))))
  have hr2 := hr.old
  refine WL.call eg_36 rfl rfl (pad_calls hr2 hl) ?_
  rintro v w1 ⟨⟨a1, c1, rfl, hq⟩, k⟩
  have zs_k := k.size
  replace hw := hw.pure k
  replace hb_1 := hb_1.pure k
  replace hb_2 := hb_2.pure k
  refine WL.assign rfl rfl (WL.nil (WX.then_normal (WC.block (?_))))
  have e6 : ∀ zs : List Value, zs.length = 64 → List.take 0 zs ++ List.map v32 K256 ++ List.drop (0 + (List.map v32 K256).length) zs = List.map v32 K256 := by
    intro zs hz
    rw [List.drop_eq_nil_of_le (by simp [K256]; omega)]
    simp
  rw [e6 _ rfl] at hb_2
  have hm : RSl (fun x => g_1 < x ∧ g_2 < x) _ eb a1 c1 (padded b) := hq.rsl.mono (fun x h => by constructor <;> omega)
  refine WC.loop (σ := V8 × List UInt8 × Option Addr × Nat) (fun q => [(3, .pointer (some ⟨g_1, 0, none⟩)), (4, .pointer (some ⟨g_2, 0, none⟩)), (5, .slice q.2.2.1 q.2.1.length q.2.2.2)])
    (fun q w' => comp q.1 q.2.1 = comp st0 (padded b) ∧ q.2.1.length % 64 = 0 ∧ q.2.1.length ≤ 140737488355328 ∧ Blk w' g_1 68 q.1.cells ∧ Blk w' g_2 70 (K256.map v32) ∧ RSl (fun x => g_1 < x ∧ g_2 < x) w' eb q.2.2.1 q.2.2.2 q.2.1 ∧ Chg Nob w w') (fun q => q.2.1.length) (st0, padded b, a1, c1) ⟨rfl, rfl, rfl, trivial⟩ ⟨rfl, padded_len b, by simp [padded, be8]; omega, hb_1, hb_2, hm, hw⟩ ?_
  clear hr hw hq hm hb_1 hb_2
  rintro ⟨s, ms, am, cm⟩ w9 ⟨hcm, hm64, hmle, hb1, hb2, hm, hw⟩
  dsimp only at hcm hm64 hmle hb1 hb2 hm hw ⊢
  refine WC.seq (WC.seq (WC.region (WL.move rfl rfl (WL.len Tryz.underlying26 rfl rfl (?_)))))
  refine WL.gtr? rfl rfl rfl (fun h15 => ?_) (fun h15 => ?_)
  ·
    refine WL.nil (WX.then_normal (WC.cond_true rfl (WC.skip (WX.then_normal (WC.seq (WC.block (WC.region (?_))))))))
    refine WL.move rfl rfl (?_)
    refine WL.slice (l := 0) (h := 64) (k := .i64) Tryz.underlying26 Tryz.sizeOf5 hm rfl (.inr ⟨rfl, rfl⟩) (.inl rfl) (by constructor <;> omega) rfl ?_
    intro a_hc c_hc hc n_hc
    rw [List.drop_zero] at hc ⊢
    refine WL.call eg_37 rfl rfl (mix_calls hb1 hb2 hc (by simp; omega) (by omega)) ?_
    rintro v w1 ⟨rfl, hb1', k⟩
    have zs_k := k.size
    replace hb2 := hb2.chg k (by intro h1; have h2 : _ = _ := h1; exfalso; omega)
    replace hm := hm.chg k (by intro b h1 h2 h3; have h4 : _ = _ := h3; (try dsimp only at h2); exfalso; omega)
    replace hw := hw.chg k (by intro x h1 h2; have h3 : _ = _ := h2; exfalso; omega)
    replace hb1 := hb1'
    refine WL.nil (WX.block_normal (WX.then_normal (WC.region (WL.move rfl rfl (?_)))))
    refine WL.slice (l := 64) (h := ms.length) (j := .i64) Tryz.underlying26 Tryz.sizeOf5 hm rfl (.inl rfl) (.inr ⟨rfl, rfl⟩) (by constructor <;> omega) rfl ?_
    intro a_hm2 c_hm2 hm2 n_hm2
    refine WL.assign rfl rfl (WL.nil (?_))
    rw [List.take_length] at hm2 ⊢
    have hml : 64 ≤ ms.length := by omega
    refine WX.loop_next (mix s (ms.take 64), ms.drop 64, a_hm2, c_hm2) ⟨rfl, rfl, rfl, trivial⟩ ⟨by rw [← hcm, comp_more hml], by simp; omega, by simp; omega, hb1, hb2, hm2, hw⟩ (by show (ms.drop 64).length < ms.length; simp; omega)
  ·
    refine WL.nil (WX.then_normal (WC.cond_false rfl (WC.exit (WX.then_exit (WX.then_exit (WX.block_here (WX.then_normal (?_))))))))
    refine WC.seq (WC.region (?_))
    have zw9 := hw.size
    refine WL.make (e := eb) (0 : UInt8) 0 32 Tryz.underlying26 info_5 rfl rfl rfl ⟨rfl, rfl, by decide⟩ (by decide) rfl ?_
    intro gq wq hq kq zq eq_
    rw [show List.replicate 0 (0 : UInt8) = [] from rfl] at hq ⊢
    have zs_kq := kq.size
    replace hb1 := hb1.pure kq
    replace hb2 := hb2.pure kq
    replace hm := hm.pure kq
    replace hw := hw.pure kq
    refine WL.assign rfl rfl (WL.nil (WX.then_normal (WC.seq (WC.seq (WC.region (WL.loadsB Tryz.isAgg68 Tryz.sizeOf68 hb1 rfl (by rfl) rfl (WL.move rfl rfl (?_))))))))
    refine WL.nil (WX.then_normal (WC.block (?_)))
    have hs0 : s = comp st0 (padded b) := by rw [← hcm, comp_end (by omega)]
    have hq0 : Row (w.heap.size ≤ ·) wq 5 eb (some ⟨gq, 0, none⟩) 32 ([] : List UInt8) := hq.mono (fun b h => by omega)
    refine WC.loop (σ := Nat × Option Addr × Nat) (fun q => [(22, .agg s.cells.toArray), (23, vi q.1), (6, .slice q.2.1 ((s.list.take q.1).flatMap bytes4).length q.2.2)])
      (fun q w' => q.1 ≤ 8 ∧ Row (w.heap.size ≤ ·) w' 5 eb q.2.1 q.2.2 ((s.list.take q.1).flatMap bytes4) ∧ Chg Nob w w') (fun q => 8 - q.1) (0, some ⟨gq, 0, none⟩, 32) ⟨rfl, rfl, rfl, trivial⟩ ⟨by simp, by simpa using hq0, hw⟩ ?_
    clear hm hb1 hb2 hq hw hq0
    rintro ⟨i, ai, ci⟩ w8 ⟨hi, hq, hw⟩
    dsimp only at hi hq hw ⊢
    have zw := hw.size
    have hlen : ((s.list.take i).flatMap bytes4).length = 4 * i := by
      have h9 : i = 0 ∨ i = 1 ∨ i = 2 ∨ i = 3 ∨ i = 4 ∨ i = 5 ∨ i = 6 ∨ i = 7 ∨ i = 8 := by omega
      rcases h9 with rfl | rfl | rfl | rfl | rfl | rfl | rfl | rfl | rfl <;> rfl
    refine WC.seq (WC.region (?_))
    refine WL.lss? rfl rfl rfl (fun h24 => ?_) (fun h24 => ?_)
    ·
      refine WL.nil (WX.then_normal (WC.seq (WC.cond_true rfl (WC.skip (WX.then_normal (WC.seq (WC.block (?_))))))))
      refine WC.seq (WC.region (?_))
      have fv := getD_at (xs := s.list) (i := i) (by show i < 8; omega)
      refine WL.indexV i Tryz.underlying68 Tryz.sizeOf66 Tryz.isAgg66 rfl rfl ⟨rfl, by omega⟩ (map_at v32 fv) rfl ?_
      refine WL.assign rfl rfl (WL.nil (WX.then_normal (WC.region (WL.move rfl rfl (WL.move rfl rfl (WL.num rfl rfl (n_shr32 _ _ _ _ 24 (by decide)) rfl (WL.c_u32_u8 Tryz.underlying66 Tryz.underlying5 rfl rfl (?_))))))))
      refine WL.move rfl rfl (WL.num rfl rfl (n_shr32 _ _ _ _ 16 (by decide)) rfl (WL.c_u32_u8 Tryz.underlying66 Tryz.underlying5 rfl rfl (WL.move rfl rfl (WL.num rfl rfl (n_shr32 _ _ _ _ 8 (by decide)) rfl (WL.c_u32_u8 Tryz.underlying66 Tryz.underlying5 rfl rfl (WL.move rfl rfl (WL.c_u32_u8 Tryz.underlying66 Tryz.underlying5 rfl rfl (?_))))))))
      refine WL.build (e := eb) (bytes4 (s.list.getD i 0)) Tryz.underlying26 Tryz.sizeOf5 Tryz.zeroValue5 rfl rfl rfl (by simp [Value.cells] <;> rfl) (by decide) rfl ?_
      intro a_hn w_hn hn l_hn z_hn k_hn
      have zs_k_hn := k_hn.size
      replace hq := hq.pure k_hn
      replace hw := hw.pure k_hn
      refine WL.append (e := eb) info_5 rfl Tryz.underlying26 rfl rfl hq (hn.rsl.src Tryz.underlying26) (by (try simp only [List.length_append, List.length_cons, List.length_nil] at *); omega) (by intro b hb; first | (apply hS; omega) | ((try dsimp only); omega)) rfl ?_
      intro a_hq2 c_hq2 w_hq2 hq2 g_hq2 n_hq2
      have z_hq2 := g_hq2.chg.size
      have zs_g_hq2_chg := g_hq2.chg.size
      replace hw := hw.chg g_hq2.chg (by intros; exfalso; (try dsimp only at *); omega)
      refine WL.assign rfl rfl (WL.nil (WX.block_normal (WX.then_normal (WC.region (WL.add64 rfl rfl (by omega) rfl (WL.move rfl rfl (WL.nil (?_))))))))
      have e1 : (s.list.take (i + 1)).flatMap bytes4 = (s.list.take i).flatMap bytes4 ++ bytes4 (s.list.getD i 0) := by
        rw [List.take_add_one, fv, List.flatMap_append]
        simp
      refine WX.loop_next (i + 1, a_hq2, c_hq2) ⟨rfl, rfl, ?_, trivial⟩ ⟨by dsimp only; omega, ?_, hw⟩ (by show _ - _ < _ - _; omega)
      ·
        dsimp only; rw [e1]; rfl
      ·
        dsimp only; rw [e1]; exact hq2
    ·
      refine WL.nil (WX.then_normal (WC.seq (WC.cond_false rfl (WC.exit (WX.then_exit (WX.then_exit (WX.block_here (?_))))))))
      refine WX.then_normal (WC.seq (WC.region (WL.move rfl rfl (WL.toStr Tryz.underlying26 Tryz.underlying5 Tryz.underlying9 hq.rsl rfl rfl (WL.assign rfl rfl (WL.nil (WX.then_normal (?_))))))))
      refine WC.ret (?_)
      refine WX.ret1 (.inl rfl) Tryz.results12 rfl ?_
      have h8 : i = 8 := by omega
      subst h8
      rw [hs0]
      exact ⟨_, rfl, rfl, hw⟩
end Go.Proofs.YtggecdldnpildaaGreat
/-! plain: what is read of a block -/
namespace Go.HL
theorem find_append {α : Type} (p : α → Bool) (a b : List α) : (a ++ b).find? p = match a.find? p with | some x => some x | none => b.find? p := by
  rw [List.find?_append]
  cases a.find? p <;> rfl
theorem combos_drop {p : List Int → Bool} {rest set : List Int} {n i : Nat} {d : Int} (hd : rest[i]? = some d) (h : (combos (rest.drop (i + 1)) n (set ++ [d])).find? p = none) : (combos (rest.drop i) (n + 1) set).find? p = (combos (rest.drop (i + 1)) (n + 1) set).find? p := by
  obtain ⟨hi, rfl⟩ := List.getElem?_eq_some_iff.1 hd
  rw [List.drop_eq_getElem_cons hi, combos, find_append, h]
theorem combos_hit {p : List Int → Bool} {rest set out : List Int} {n i : Nat} {d : Int} (hd : rest[i]? = some d) (h : (combos (rest.drop (i + 1)) n (set ++ [d])).find? p = some out) : (combos (rest.drop i) (n + 1) set).find? p = some out := by
  obtain ⟨hi, rfl⟩ := List.getElem?_eq_some_iff.1 hd
  rw [List.drop_eq_getElem_cons hi, combos, find_append, h]
def setsA (rest : List Int) (m : Nat) : List (List Int) := (List.range m).flatMap fun n => combos rest n []
theorem setsA_succ (rest : List Int) (m : Nat) : setsA rest (m + 1) = setsA rest m ++ combos rest m [] := by
  rw [setsA, List.range_succ, List.flatMap_append]
  simp [setsA]
/-- nothing is tried ahead of the empty set -/
theorem setsA_first {p : List Int → Bool} {rest : List Int} {m : Nat} (hm : 0 < m) (h : p [] = true) : (setsA rest m).find? p = some [] := by
  induction m with
  | zero => omega
  | succ m ih =>
    rw [setsA_succ, find_append]
    rcases Nat.eq_zero_or_pos m with rfl | h1
    · simp [setsA, combos_zero, h]
    · rw [ih h1]
theorem setsA_up {p : List Int → Bool} {rest : List Int} {m n : Nat} {t : List Int} (h : (setsA rest m).find? p = some t) (hn : m ≤ n) : (setsA rest n).find? p = some t := by
  induction n with
  | zero =>
    have : m = 0 := by omega
    subst this
    exact h
  | succ n ih =>
    rcases Nat.lt_or_ge n m with h1 | h1
    · have : m = n + 1 := by omega
      subst this
      exact h
    · rw [setsA_succ, find_append, ih h1]
end Go.HL
namespace Go.Proofs.YtggecdldnpildaaGreat
open Go.RowKit Go.HL
set_option maxRecDepth 100000

/-- what a block is read as, without some drives -/
noncomputable def bytA (s : RA) (f a size : Nat) (bad : List Int) : List UInt8 := (datA (strA s f a size) bad).take size
noncomputable def fitA (s : RA) (f a size : Nat) (sum : ByteArray) (bad : List Int) : Bool := decide ((⟨(sumB (bytA s f a size bad)).toArray⟩ : ByteArray) = sum)
abbrev bdrv (s : RA) (a size : Nat) : List Int := drvA s.dn a (costA s.dn (secsA size))
abbrev bgon (s : RA) (a size : Nat) : List Int := gonA s (bdrv s a size)
abbrev brst (s : RA) (a size : Nat) : List Int := (bdrv s a size).filter fun d => !decide (d ∈ bgon s a size)
noncomputable def rdA (s : RA) (f a size : Nat) (sum : ByteArray) : Option (List Int) := (setsA (brst s a size) (4 - (bgon s a size).length)).find? fun t => fitA s f a size sum (srt (bgon s a size ++ t))
theorem layA_len (n : Nat) (b : List UInt8) (_hn : 4 ≤ n) : (layA n b).length = costA n (secsA b.length) := by rw [layA, layR_len]; rfl
/-- where all that has failed is gone, just that is left out -/
theorem intact_gone {s : RA} (h : s.ok) (h5 : 5 ≤ s.dn) {f a : Nat} {b : List UInt8} (hI : Intact s f a (layA s.dn b) (bgon s a b.length)) (h3 : (bgon s a b.length).length ≤ 3) :
    rdA s f a b.length ⟨(sumB b).toArray⟩ = some [] ∧ srt (bgon s a b.length ++ []) = bgon s a b.length ∧ bytA s f a b.length (bgon s a b.length) = b := by
  have hs : srt (bgon s a b.length ++ []) = bgon s a b.length := by rw [List.append_nil, bgon, bdrv, gonA_sorted]
  have hb : bytA s f a b.length (bgon s a b.length) = b := datA_is h (by omega) h3 hI
  refine ⟨setsA_first (by omega) ?_, hs, hb⟩
  show fitA s f a b.length _ (srt (bgon s a b.length ++ [])) = true
  rw [hs, fitA, hb, decide_eq_true rfl]
/-! what befalls a rack -/
theorem lose_held2 (s : RA) {d : Int} {b : Bool} {q : Pl} (hq : q.1 ≠ d) : heldS (loseS s d b) q = heldS s q := by
  have key : ∀ (n : Nat) (ws : List (Pl × List UInt8)), ws.length = n → newV (stay d ws) q = newV ws q := by
    intro n
    induction n with
    | zero =>
      intro ws h
      have : ws = [] := List.eq_nil_of_length_eq_zero h
      subst this
      rfl
    | succ n ih =>
      intro ws h
      obtain ⟨ws', x, rfl⟩ : ∃ ws' x, ws = ws' ++ [x] := ⟨ws.dropLast, ws.getLast (by intro e; subst e; cases h), (List.dropLast_concat_getLast _).symm⟩
      have ih := ih ws' (by simpa using h)
      have e1 : stay d (ws' ++ [x]) = if x.1.1 = d then stay d ws' else stay d ws' ++ [x] := by
        unfold stay
        rw [List.filter_append]
        by_cases hx : x.1.1 = d <;> simp [hx]
      rw [e1, newV_snoc (b := x.2)]
      split
      · rename_i hx
        rw [ih, if_neg (fun e => hq (by rw [e, hx]))]
      · rw [newV_snoc (b := x.2), ih]
  rw [heldS_eq, heldS_eq, show (loseS s d b).waits = stay d s.waits from rfl, key _ _ rfl]
  rfl
theorem Intact.mono {s : RA} {f a : Nat} {cells : List (List UInt8)} {bad bad' : List Int} (h : Intact s f a cells bad) (k : ∀ d ∈ bad, d ∈ bad') : Intact s f a cells bad' := fun j c hc hn => h j c hc (fun hm => hn (k _ hm))
theorem lose_intact {s : RA} (h : s.ok) {f a : Nat} {cells : List (List UInt8)} {bad : List Int} (hI : Intact s f a cells bad) {d : Int} (hd : isS s d) (hm : d ∈ bad) : Intact (loseS s d true) f a cells bad := fun j c hc hn => by
  have hn' : (((a + j) % s.dn : Nat) : Int) ∉ bad := hn
  obtain ⟨h1, h2⟩ := hI j c hc hn'
  have hne : (((a + j) % s.dn : Nat) : Int) ≠ d := fun e => hn' (e ▸ hm)
  exact ⟨by show goneS (loseS s d true) (((a + j) % s.dn : Nat) : Int) = false; rw [loseS_gone h hd true (by omega), if_neg hne, h1], by show heldS (loseS s d true) (plN s.dn f (a + j)) = c; rw [lose_held2 s (q := plN s.dn f (a + j)) hne, h2]⟩
theorem all_intact {s : RA} {f a : Nat} {cells : List (List UInt8)} {bad : List Int} (hI : Intact s f a cells bad) : Intact (allS s) f a cells bad := fun j c hc hn => by
  have hn' : (((a + j) % s.dn : Nat) : Int) ∉ bad := hn
  obtain ⟨h1, h2⟩ := hI j c hc hn'
  exact ⟨h1, by show heldS (allS s) (plN s.dn f (a + j)) = c; rw [allS_held, h2]⟩
end Go.Proofs.YtggecdldnpildaaGreat
namespace Go.Proofs.YtggecdldnpildaaGreat
open Go.RowKit Go.HL
set_option maxRecDepth 100000

/-! what a block costs; its drives; which are gone; a cell's place -/
theorem cost_good {w : World} {a R n f : Nat} (hB : AB w a R n f) (hn : 5 ≤ n ∧ n ≤ 16) (size : Nat) (hs : 1 ≤ size ∧ size ≤ 1024) :
    Calls Tryz.prog 15 [ptr a, vi size].toArray w (Ret fun v w' => v = .tuple #[vi (costA n (secsA size)), vi 0] ∧ Chg Nob w w') := by
  have hw := Chg.refl Nob w
  have la := hB.lt
  have h8 := secsA_le hs.2
  have h20 := (costA_is hn h8).2
  refine Calls.of_WC Tryz.func15 rfl Tryz.ntmps15 (by simp) ?_
  refine WC.seq (WC.region (WL.assign rfl rfl (WL.assign rfl rfl (WL.nil (WX.then_normal (WC.seq (WC.seq (?_))))))))
  refine WC.region (WL.move rfl rfl (?_))
  refine WL.ptrNil Tryz.underlying31 rfl rfl rfl ?_
  refine WL.move rfl rfl (WL.want rfl rfl rfl (WL.move rfl rfl (WL.want rfl rfl rfl (?_))))
  refine WL.lssF rfl rfl rfl (by omega) ?_
  refine WL.pickF rfl rfl rfl (WL.move rfl rfl (WL.want rfl rfl rfl (WL.move rfl rfl (WL.want rfl rfl rfl (?_)))))
  refine WL.gtrF rfl rfl rfl (by omega) ?_
  refine WL.pickF rfl rfl rfl (WL.nil (WX.then_normal (WC.cond_false rfl (WC.skip (WX.then_normal (WC.seq (WC.region (?_))))))))
  refine WL.assign rfl rfl (WL.nil (WX.then_normal (WC.seq (WC.seq (WC.region (WL.move rfl rfl (WL.move rfl rfl (?_))))))))
  refine WL.call eg_39 rfl rfl (rows_calls hB hn 0 size (by omega) hs.2) ?_
  rintro v w1 ⟨⟨ao, c, rfl, hr⟩, k1⟩
  have zs_k1 := k1.size
  replace hB := hB.pure k1
  replace hw := hw.pure k1
  refine WL.len Tryz.underlying82 rfl rfl (WL.move rfl rfl (WL.nil (WX.then_normal (WC.block (?_)))))
  obtain ⟨rs, hrs⟩ : ∃ rs, rs = rowsA n 0 (secsA size) := ⟨_, rfl⟩
  have hsum : sumR rs = costA n (secsA size) := by rw [hrs]; rfl
  have hrl : rs.length ≤ 8 := by rw [hrs]; exact Nat.le_trans (rowsA_len (by omega) _ _) h8
  rw [← hrs] at hr ⊢
  rw [← hsum]
  refine WC.loop (σ := Nat) (fun i => [(6, vi (sumR (rs.take i) : Nat)), (21, .slice ao rs.length c), (22, vi rs.length), (23, vi (i : Int))]) (fun i w' => i ≤ rs.length ∧ Row (w.heap.size ≤ ·) w' 85 er2 ao c rs ∧ Chg Nob w w') (fun i => rs.length - i) 0 ⟨rfl, rfl, rfl, rfl, trivial⟩ ⟨Nat.zero_le _, hr, hw⟩ ?_
  clear hr hw hB
  rintro i w2 ⟨hi, hr, hw⟩
  replace hr := hr.lt
  have zw2 := hw.size
  refine WC.seq (WC.region (?_))
  refine WL.lss? rfl rfl rfl (fun h24 => ?_) (fun h24 => ?_)
  ·
    refine WL.nil (WX.then_normal (WC.seq (WC.cond_true rfl (WC.skip (WX.then_normal (WC.seq (WC.block (?_))))))))
    refine WC.seq (WC.region (?_))
    obtain ⟨x, hx⟩ : ∃ x, rs[i]? = some x := ⟨_, List.getElem?_eq_getElem (by omega)⟩
    have hxm := rowsA_mem (n := n) (by omega) _ _ _ (hrs ▸ List.mem_of_getElem? hx)
    have htk : sumR (rs.take (i + 1)) = sumR (rs.take i) + (x.2 + 3) := by rw [List.take_add_one, hx, Option.toList_some, sumR_snoc]
    have hle := sumR_take rs (i + 1)
    refine WL.indexT Tryz.underlying82 Tryz.sizeOf85 hr.rsl rfl rfl ⟨hx, rfl⟩ rfl ?_
    intro b_1 o_1 hc_1
    refine WL.loads _ Tryz.isAgg85 Tryz.sizeOf85 rfl hc_1 rfl rfl (?_)
    refine WL.alloc Tryz.zeroValue85 rfl ?_
    intro g_2 w_2 hge_2 hlt_2 hb_2 k_2
    have zs_k_2 := k_2.size
    replace hr := hr.pure k_2
    replace hw := hw.pure k_2
    refine WL.stores Tryz.sizeOf85 hb_2 rfl rfl (by rfl) (by exact Enc.one _ _) (by exact Nat.le_of_ble_eq_true rfl) rfl ?_
    intro w_3 hs_3 hn_3 k_3
    have zs_k_3 := k_3.size
    replace hr := hr.chg k_3 (by intro b h1 h2 h3; have h4 : _ = _ := h3; (try dsimp only at h2); exfalso; omega)
    replace hw := hw.chg k_3 (by intro x h1 h2; have h3 : _ = _ := h2; exfalso; omega)
    replace hb_2 := hn_3
    refine WL.nil (WX.then_normal (WC.region (WL.move rfl rfl (WL.fieldAddr (fld_85_1) rfl rfl (WL.loadB Tryz.isAgg3 hb_2 rfl rfl rfl (?_))))))
    refine WL.add64 rfl rfl (by constructor <;> omega) rfl ?_
    refine WL.add64 rfl rfl (by constructor <;> omega) rfl ?_
    refine WL.assign rfl rfl (WL.nil (WX.block_normal (WX.then_normal (WC.region (WL.add64 rfl rfl (by omega) rfl (WL.move rfl rfl (WL.nil (?_))))))))
    exact WX.loop_next (i + 1) ⟨by show some (vi ((sumR (rs.take i) : Int) + ((x.2 : Int) + 3))) = some (vi ((sumR (rs.take (i + 1)) : Nat) : Int)); congr 2; omega, rfl, rfl, rfl, trivial⟩ ⟨by omega, hr.mono (fun x hx => hx.1), hw⟩ (by omega)
  ·
    refine WL.nil (WX.then_normal (WC.seq (WC.cond_false rfl (WC.exit (WX.then_exit (WX.then_exit (WX.block_here (?_))))))))
    refine WX.then_normal (WC.seq (WC.region (WL.move rfl rfl (WL.assign rfl rfl (WL.assign rfl rfl (WL.nil (WX.then_normal (?_))))))))
    refine WC.ret (?_)
    refine WX.ret2 (.inl rfl) Tryz.results15 rfl rfl ?_
    have hil : i = rs.length := by omega
    subst hil
    rw [List.take_length]
    exact ⟨_, rfl, rfl, hw⟩
theorem gone_calls {A S : Nat → Prop} {w : World} {a R f : Nat} {s : RA} (hB : AB w a R s.dn f) (h : RK A w R s) {ao : Option Addr} {c : Nat} {ds : List Int} (hd : RSl S w ei ao c ds) (hin : ∀ d ∈ ds, isS s d) (hl : ds.length ≤ 100) :
    Calls Tryz.prog 40 [ptr a, .slice ao ds.length c].toArray w (Ret fun v w' => ((gonA s ds).length ≤ 3 → ∃ a2 c2, v = .tuple #[.slice a2 (gonA s ds).length c2, vi 0] ∧ Row (w.heap.size ≤ ·) w' 3 ei a2 c2 (gonA s ds)) ∧ (3 < (gonA s ds).length → v = .tuple #[.slice none 0 0, vi 4]) ∧ Chg Nob w w') := by
  have hw := Chg.refl Nob w
  have la := hB.lt
  replace hd := hd.old
  replace h := h.old
  have hgs : ∀ (i : Nat) (d : Int), ds[i]? = some d → gonA s (ds.take (i + 1)) = if goneS s d = true then gonA s (ds.take i) ++ [d] else gonA s (ds.take i) := fun i d hx => by
    rw [gonA, gonA, List.take_add_one, hx, Option.toList_some, List.filter_append]
    by_cases hg : goneS s d = true <;> simp [hg]
  have hgl : ∀ i, (gonA s (ds.take i)).length ≤ 100 := fun i => Nat.le_trans (List.length_filter_le _ _) (by rw [List.length_take]; omega)
  refine Calls.of_WC Tryz.func40 rfl Tryz.ntmps40 (by simp) ?_
  refine WC.seq (WC.region (WL.assign rfl rfl (WL.assign rfl rfl (WL.nil (WX.then_normal (WC.seq (WC.region (?_))))))))
  refine WL.assign rfl rfl (WL.nil (WX.then_normal (WC.seq (WC.seq (WC.region (WL.move rfl rfl (WL.len Tryz.underlying39 rfl rfl (?_))))))))
  refine WL.move rfl rfl (WL.nil (WX.then_normal (WC.block (?_))))
  refine WC.loop (σ := (Option Addr × Nat) × Nat) (fun q => [(0, ptr a), (6, .slice q.1.1 (gonA s (ds.take q.2)).length q.1.2), (9, .slice ao ds.length c), (10, vi ds.length), (11, vi (q.2 : Int))]) (fun q w' => q.2 ≤ ds.length ∧ AB w' a R s.dn f ∧ RK (fun x => A x ∧ x < w.heap.size) w' R s ∧ RSl (· < w.heap.size) w' ei ao c ds ∧ Row (w.heap.size ≤ ·) w' 3 ei q.1.1 q.1.2 (gonA s (ds.take q.2)) ∧ Chg Nob w w') (fun q => ds.length - q.2) ((none, 0), 0) ⟨rfl, rfl, rfl, rfl, rfl, trivial⟩ ⟨Nat.zero_le _, hB, h, hd, Row.nil _ _ _ _, hw⟩ ?_
  clear hB hw h hd
  rintro ⟨⟨a1, c1⟩, i⟩ w2 ⟨hi, hB, h, hd, hO, hw⟩
  simp only at hi hO
  dsimp only
  have zw1 := hw.size
  refine WC.seq (WC.region (?_))
  refine WL.lss? rfl rfl rfl (fun h12 => ?_) (fun h12 => ?_)
  ·
    refine WL.nil (WX.then_normal (WC.seq (WC.cond_true rfl (WC.skip (WX.then_normal (WC.seq (WC.block (?_))))))))
    refine WC.seq (WC.region (?_))
    obtain ⟨x, hx⟩ : ∃ x, ds[i]? = some x := ⟨_, List.getElem?_eq_getElem (by omega)⟩
    have hxi := hin x (List.mem_of_getElem? hx)
    have hnx := hgs i x hx
    have hgi := hgl i
    refine WL.indexT Tryz.underlying39 Tryz.sizeOf3 hd rfl rfl ⟨hx, rfl⟩ rfl ?_
    intro b_1 o_1 hc_1
    refine WL.load Tryz.isAgg3 rfl (hc_1 0 _ rfl) rfl (WL.assign rfl rfl (WL.nil (WX.then_normal (WC.seq (WC.region (WL.move rfl rfl (WL.nilCheck rfl rfl (?_))))))))
    refine WL.fieldAddr (fld_81_0) rfl rfl (WL.loadB Tryz.isAgg27 hB rfl rfl rfl (WL.move rfl rfl (?_)))
    refine WL.call eg_26 rfl rfl (Gone_calls h x) ?_
    rintro v w3 ⟨rfl, k3⟩
    rw [decide_eq_true hxi, Bool.true_and]
    have zs_k3 := k3.size
    replace hB := hB.pure k3
    replace h := h.pure k3
    replace hd := hd.pure k3
    replace hO := hO.pure k3
    replace hw := hw.pure k3
    rcases hg : goneS s x with _ | _
    ·
      refine WL.nil (WX.then_normal (WC.cond_false rfl (WC.skip (WX.block_normal (WX.then_normal (WC.region (WL.add64 rfl rfl (by omega) rfl (?_))))))))
      refine WL.move rfl rfl (WL.nil (?_))
      rw [hg, if_neg (by decide)] at hnx
      rw [← hnx] at hO
      exact WX.loop_next ((a1, c1), i + 1) ⟨rfl, by show some (Value.slice a1 (gonA s (ds.take i)).length c1) = some (Value.slice a1 (gonA s (ds.take (i + 1))).length c1); rw [hnx], rfl, rfl, rfl, trivial⟩ ⟨by show i + 1 ≤ ds.length; omega, hB, h, hd, hO, hw⟩ (by show ds.length - (i + 1) < ds.length - i; omega)
    ·
      refine WL.nil (WX.then_normal (WC.cond_true rfl (WC.region (WL.move rfl rfl (WL.move rfl rfl (?_))))))
      refine WL.build (e := ei) [x] Tryz.underlying39 Tryz.sizeOf3 Tryz.zeroValue3 rfl rfl rfl (by simp [Value.cells] <;> rfl) (by decide) rfl ?_
      intro a_q23 w_q23 q23 l_q23 z_q23 k_q23
      have zs_k_q23 := k_q23.size
      replace hB := hB.pure k_q23
      replace h := h.pure k_q23
      replace hd := hd.pure k_q23
      replace hO := hO.pure k_q23
      replace hw := hw.pure k_q23
      refine WL.append (e := ei) info_3 rfl Tryz.underlying39 rfl rfl hO (q23.rsl.src Tryz.underlying39) (by (try simp only [List.length_append, List.length_cons, List.length_nil] at *); omega) (by intro b hb; first | (apply hS; omega) | ((try dsimp only); omega)) rfl ?_
      intro a_q24 c_q24 w_q24 q24 g_q24 n_q24
      have z_q24 := g_q24.chg.size
      have zs_g_q24_chg := g_q24.chg.size
      replace hB := hB.chg g_q24.chg (by intro h1; exfalso; have h4 := h1.2; (try dsimp only at *); omega)
      replace h := h.chg g_q24.chg (by intros; exfalso; (try dsimp only at *); omega)
      replace hd := hd.chg g_q24.chg (by intros; exfalso; (try dsimp only at *); omega)
      replace hw := hw.chg g_q24.chg (by intros; exfalso; (try dsimp only at *); omega)
      refine WL.assign rfl rfl (WL.nil (WX.block_normal (WX.then_normal (WC.region (WL.add64 rfl rfl (by omega) rfl (WL.move rfl rfl (WL.nil (?_))))))))
      rw [hg, if_pos rfl] at hnx
      rw [← hnx] at q24
      exact WX.loop_next ((a_q24, c_q24), i + 1) ⟨rfl, by show some (Value.slice a_q24 (gonA s (ds.take i) ++ [x]).length c_q24) = some (Value.slice a_q24 (gonA s (ds.take (i + 1))).length c_q24); rw [hnx], rfl, rfl, rfl, trivial⟩ ⟨by show i + 1 ≤ ds.length; omega, hB, h, hd, q24, hw⟩ (by show ds.length - (i + 1) < ds.length - i; omega)
  ·
    refine WL.nil (WX.then_normal (WC.seq (WC.cond_false rfl (WC.exit (WX.then_exit (WX.then_exit (WX.block_here (?_))))))))
    refine WX.then_normal (WC.seq (WC.seq (WC.region (WL.move rfl rfl (WL.len Tryz.underlying39 rfl rfl (?_))))))
    refine WL.gtr? rfl rfl rfl (fun h28 => ?_) (fun h28 => ?_)
    ·
      refine WL.nil (WX.then_normal (WC.cond_true rfl (WC.seq (WC.region (WL.assign rfl rfl (WL.assign rfl rfl (WL.nil (?_))))))))
      refine WX.then_normal (WC.ret (WX.then_ret (?_)))
      refine WX.ret2 (.inl rfl) Tryz.results40 rfl rfl ?_
      have hil : i = ds.length := by omega
      subst hil
      rw [List.take_length] at *
      have hh : 3 < ((gonA s ds).length : Int) := h28
      exact ⟨_, rfl, fun h3 => by omega, fun _ => rfl, hw⟩
    ·
      refine WL.nil (WX.then_normal (WC.cond_false rfl (WC.skip (WX.then_normal (WC.seq (WC.region (WL.move rfl rfl (?_))))))))
      refine WL.assign rfl rfl (WL.assign rfl rfl (WL.nil (WX.then_normal (WC.ret (?_)))))
      refine WX.ret2 (.inl rfl) Tryz.results40 rfl rfl ?_
      have hil : i = ds.length := by omega
      subst hil
      rw [List.take_length] at *
      have hh : ((gonA s ds).length : Int) ≤ 3 := h28
      exact ⟨_, rfl, fun _ => ⟨a1, c1, rfl, hO⟩, fun h3 => by omega, hw⟩
end Go.Proofs.YtggecdldnpildaaGreat
namespace Go.Proofs.YtggecdldnpildaaGreat
open Go.RowKit Go.HL
set_option maxRecDepth 100000

/-! a cell's place; a cell is written -/
theorem place_calls {w : World} {a R n f : Nat} (hB : AB w a R n f) (hn : 5 ≤ n ∧ n ≤ 16) (hf : f ≤ 2000) (cell : Nat) (hc : cell ≤ 1000000) :
    Calls Tryz.prog 60 [ptr a, vi cell].toArray w (Ret fun v w' => v = .tuple #[vi ((cell % n : Nat) : Int), vi ((f + cell / n : Nat) : Int)] ∧ Chg Nob w w') := by
  have hw := Chg.refl Nob w
  obtain ⟨q, hq⟩ : ∃ q, q = cell / n := ⟨_, rfl⟩
  have hq1 : q ≤ 1000000 := hq ▸ Nat.le_trans (Nat.div_le_self _ _) hc
  rw [← hq]
  refine Calls.of_WC Tryz.func60 rfl Tryz.ntmps60 (by simp) ?_
  refine WC.seq (WC.region (WL.assign rfl rfl (WL.assign rfl rfl (WL.nil (WX.then_normal (WC.seq (?_)))))))
  refine WC.draw (Nob) [0, 1, 2, 3, 4, 5, 6, 7, 8, 9, 10, 11, 12, 13, 14, 15, 16, 17, 18] [] mixed rfl rfl (fun wd_1 kd_1 zd_1 => ?_)
  have zs_kd_1 := kd_1.size
  replace hB := hB.pure kd_1
  replace hw := hw.pure kd_1
  apply DQ.step (E' := [(1, _)])
  case ho => rfl
  case hs => exact ⟨rfl, trivial⟩
  case hk => rfl
  case h1 =>
    intro wq_2 kq_2
    refine WL.move rfl rfl (?_)
    refine WL.nil ?_
    exact WX.one ⟨rfl, by exact Chg.refl _ _⟩
  apply DQ.step (E' := [(0, _)])
  case ho => rfl
  case hs => exact ⟨rfl, trivial⟩
  case hk => rfl
  case h1 =>
    intro wq_3 kq_3
    refine WL.move rfl rfl (?_)
    refine WL.nil ?_
    exact WX.one ⟨rfl, by exact Chg.refl _ _⟩
  apply DQ.step (E' := [(7, _)])
  case ho => rfl
  case hs => exact ⟨rfl, trivial⟩
  case hk => rfl
  case h1 =>
    intro wq_4 kq_4
    refine WL.nilCheck rfl rfl (?_)
    refine WL.nil ?_
    exact WX.one ⟨rfl, by exact Chg.refl _ _⟩
  apply DQ.step (E' := [(8, _)])
  case ho => rfl
  case hs => exact ⟨rfl, trivial⟩
  case hk => rfl
  case h1 =>
    intro wq_5 kq_5
    refine WL.fieldAddr (fld_81_1) rfl rfl (?_)
    refine WL.nil ?_
    exact WX.one ⟨rfl, by exact Chg.refl _ _⟩
  apply DQ.step (E' := [(9, _)])
  case ho => rfl
  case hs => exact ⟨rfl, trivial⟩
  case hk => rfl
  case h1 =>
    intro wq_6 kq_6
    have zs_kq_6 := kq_6.size
    replace hB := hB.pure kq_6
    replace hw := hw.pure kq_6
    refine WL.loadB Tryz.isAgg3 hB rfl rfl rfl (?_)
    refine WL.nil ?_
    exact WX.one ⟨rfl, by exact Chg.refl _ _⟩
  apply DQ.step (E' := [(6, _), (10, _)])
  case ho => rfl
  case hs => exact ⟨rfl, rfl, trivial⟩
  case hk => rfl
  case h1 =>
    intro wq_7 kq_7
    refine WL.rem64i rfl rfl (by constructor <;> omega) rfl ?_
    rw [show (cell : Int) % (n : Int) = ((cell % n : Nat) : Int) from by omega]
    refine WL.nil ?_
    exact WX.one ⟨rfl, by exact Chg.refl _ _⟩
  apply DQ.step (E' := [(0, _)])
  case ho => rfl
  case hs => exact ⟨rfl, trivial⟩
  case hk => rfl
  case h1 =>
    intro wq_8 kq_8
    refine WL.move rfl rfl (?_)
    refine WL.nil ?_
    exact WX.one ⟨rfl, by exact Chg.refl _ _⟩
  apply DQ.step (E' := [(12, _)])
  case ho => rfl
  case hs => exact ⟨rfl, trivial⟩
  case hk => rfl
  case h1 =>
    intro wq_9 kq_9
    refine WL.nilCheck rfl rfl (?_)
    refine WL.nil ?_
    exact WX.one ⟨rfl, by exact Chg.refl _ _⟩
  apply DQ.step (E' := [(13, _)])
  case ho => rfl
  case hs => exact ⟨rfl, trivial⟩
  case hk => rfl
  case h1 =>
    intro wq_10 kq_10
    refine WL.fieldAddr (fld_81_2) rfl rfl (?_)
    refine WL.nil ?_
    exact WX.one ⟨rfl, by exact Chg.refl _ _⟩
  apply DQ.step (E' := [(14, _)])
  case ho => rfl
  case hs => exact ⟨rfl, trivial⟩
  case hk => rfl
  case h1 =>
    intro wq_11 kq_11
    have zs_kq_11 := kq_11.size
    replace hB := hB.pure kq_11
    replace hw := hw.pure kq_11
    refine WL.loadB Tryz.isAgg3 hB rfl rfl rfl (?_)
    refine WL.nil ?_
    exact WX.one ⟨rfl, by exact Chg.refl _ _⟩
  apply DQ.step (E' := [(1, _)])
  case ho => rfl
  case hs => exact ⟨rfl, trivial⟩
  case hk => rfl
  case h1 =>
    intro wq_12 kq_12
    refine WL.move rfl rfl (?_)
    refine WL.nil ?_
    exact WX.one ⟨rfl, by exact Chg.refl _ _⟩
  apply DQ.step (E' := [(0, _)])
  case ho => rfl
  case hs => exact ⟨rfl, trivial⟩
  case hk => rfl
  case h1 =>
    intro wq_13 kq_13
    refine WL.move rfl rfl (?_)
    refine WL.nil ?_
    exact WX.one ⟨rfl, by exact Chg.refl _ _⟩
  apply DQ.step (E' := [(17, _)])
  case ho => rfl
  case hs => exact ⟨rfl, trivial⟩
  case hk => rfl
  case h1 =>
    intro wq_14 kq_14
    refine WL.nilCheck rfl rfl (?_)
    refine WL.nil ?_
    exact WX.one ⟨rfl, by exact Chg.refl _ _⟩
  apply DQ.step (E' := [(18, _)])
  case ho => rfl
  case hs => exact ⟨rfl, trivial⟩
  case hk => rfl
  case h1 =>
    intro wq_15 kq_15
    refine WL.fieldAddr (fld_81_1) rfl rfl (?_)
    refine WL.nil ?_
    exact WX.one ⟨rfl, by exact Chg.refl _ _⟩
  apply DQ.step (E' := [(19, _)])
  case ho => rfl
  case hs => exact ⟨rfl, trivial⟩
  case hk => rfl
  case h1 =>
    intro wq_16 kq_16
    have zs_kq_16 := kq_16.size
    replace hB := hB.pure kq_16
    replace hw := hw.pure kq_16
    refine WL.loadB Tryz.isAgg3 hB rfl rfl rfl (?_)
    refine WL.nil ?_
    exact WX.one ⟨rfl, by exact Chg.refl _ _⟩
  apply DQ.step (E' := [(16, _), (20, _)])
  case ho => rfl
  case hs => exact ⟨rfl, rfl, trivial⟩
  case hk => rfl
  case h1 =>
    intro wq_17 kq_17
    refine WL.quo64i rfl rfl (by constructor <;> omega) rfl ?_
    rw [show (cell : Int) / (n : Int) = (q : Int) from by rw [hq]; omega]
    refine WL.nil ?_
    exact WX.one ⟨rfl, by exact Chg.refl _ _⟩
  apply DQ.step (E' := [(15, _), (21, _)])
  case ho => rfl
  case hs => exact ⟨rfl, rfl, trivial⟩
  case hk => rfl
  case h1 =>
    intro wq_18 kq_18
    refine WL.add64 rfl rfl (by constructor <;> omega) rfl ?_
    refine WL.nil ?_
    exact WX.one ⟨rfl, by exact Chg.refl _ _⟩
  apply DQ.step (E' := [(11, _)])
  case ho => rfl
  case hs => exact ⟨rfl, trivial⟩
  case hk => rfl
  case h1 =>
    intro wq_19 kq_19
    refine WL.assign rfl rfl (?_)
    refine WL.nil ?_
    exact WX.one ⟨rfl, by exact Chg.refl _ _⟩
  apply DQ.step (E' := [(22, _)])
  case ho => rfl
  case hs => exact ⟨rfl, trivial⟩
  case hk => rfl
  case h1 =>
    intro wq_20 kq_20
    refine WL.assign rfl rfl (?_)
    refine WL.nil ?_
    exact WX.one ⟨rfl, by exact Chg.refl _ _⟩
  refine DQ.done (fun _ => ?_)
  refine DL.done (fun we_21 ke_21 => ?_)
  have zs_ke_21 := ke_21.size
  replace hB := hB.pure ke_21
  replace hw := hw.pure ke_21
  refine WX.then_normal (WC.ret (?_))
  refine WX.ret2 (.inl rfl) Tryz.results60 rfl rfl ?_
  exact ⟨_, rfl, rfl, hw⟩
theorem writeU {A S : Nat → Prop} {w : World} {R : Nat} {s : RA} (h : RK A w R s) (hu : Up s) {d a : Int} (hi : inS s d a) (hg : goneS s d = false) {ao : Option Addr} {c : Nat} {b : List UInt8} (hb : RSl S w eb ao c b) (hS : ∀ x, S x → x = R → False) (hl : b.length = 128) (hn : s.waits.length ≤ 100000) :
    Calls Tryz.prog 31 [ptr R, vi d, vi a, .slice ao b.length c].toArray w (Ret fun v w' => v = vi 0 ∧ RK (fun x => A x ∨ w.heap.size ≤ x) w' R (addS s (d, a) b) ∧ Chg A w w') := by
  have h0 := hu.write hi hg hl
  refine (Write_calls h d a hb hS hn).mono ?_
  rintro e w' ⟨v, rfl, rfl, hR, k⟩
  rw [h0.2] at hR
  exact ⟨_, rfl, by rw [h0.1], hR, k⟩
theorem plN_in {s : RA} {f cell : Nat} (h5 : 5 ≤ s.dn) (hc : cell < s.dn * (s.sn - f)) : inS s ((cell % s.dn : Nat) : Int) ((f + cell / s.dn : Nat) : Int) ∧ isS s ((cell % s.dn : Nat) : Int) := by
  have h1 : cell % s.dn < s.dn := Nat.mod_lt _ (by omega)
  have h2 : cell / s.dn < s.sn - f := Nat.div_lt_of_lt_mul hc
  generalize cell % s.dn = r at *
  generalize cell / s.dn = q at *
  exact ⟨⟨by omega, by omega, by omega, by omega⟩, by omega, by omega⟩
theorem put_calls {A S : Nat → Prop} {w : World} {a R f : Nat} {s : RA} (hB : AB w a R s.dn f) (h : RK A w R s) (hu : Up s) (h5 : 5 ≤ s.dn) (hf : f < s.sn) (cell : Nat) (hc : cell < s.dn * (s.sn - f)) {ao : Option Addr} {c : Nat} {b : List UInt8} (hb : RSl S w eb ao c b) (hS : ∀ x, S x → x = R → False) (hl : b.length = 128) (hn : s.waits.length ≤ 100000) :
    Calls Tryz.prog 42 [ptr a, vi cell, .slice ao b.length c].toArray w (Ret fun v w' => v = vi 0 ∧ RK (fun x => A x ∨ w.heap.size ≤ x) w' R (putS s f cell b) ∧ Chg A w w') := by
  have hw := Chg.refl Nob w
  have hdn := h.ok.dn
  have hsn := h.ok.sn
  have hm : s.dn * (s.sn - f) ≤ 16 * 2000 := Nat.mul_le_mul (by omega) (by omega)
  obtain ⟨hi, his⟩ := plN_in h5 hc
  refine Calls.of_WC Tryz.func42 rfl Tryz.ntmps42 (by simp) ?_
  refine WC.seq (WC.region (WL.assign rfl rfl (WL.nil (WX.then_normal (WC.seq (WC.region (WL.move rfl rfl (?_))))))))
  refine WL.move rfl rfl (?_)
  refine WL.call eg_60 rfl rfl (place_calls hB ⟨h5, hdn.2⟩ (by omega) cell (by omega)) ?_
  rintro v w1 ⟨rfl, k1⟩
  have zs_k1 := k1.size
  replace hB := hB.pure k1
  replace h := h.pure k1
  replace hb := hb.pure k1
  replace hw := hw.pure k1
  refine WL.move rfl rfl (WL.extract rfl rfl rfl (WL.extract rfl rfl rfl (WL.assign rfl rfl (WL.assign rfl rfl (WL.nil (WX.then_normal (WC.seq (?_))))))))
  refine WC.seq (WC.region (WL.move rfl rfl (WL.nilCheck rfl rfl (WL.fieldAddr (fld_81_0) rfl rfl (WL.loadB Tryz.isAgg27 hB rfl rfl rfl (WL.move rfl rfl (?_)))))))
  refine WL.call eg_26 rfl rfl (Gone_calls h ((cell % s.dn : Nat) : Int)) ?_
  rintro v w3 ⟨rfl, k3⟩
  rw [decide_eq_true his, Bool.true_and]
  have zs_k3 := k3.size
  replace hB := hB.pure k3
  replace h := h.pure k3
  replace hb := hb.pure k3
  replace hw := hw.pure k3
  rcases hg : goneS s ((cell % s.dn : Nat) : Int) with _ | _
  ·
    refine WL.nil (WX.then_normal (WC.cond_false rfl (WC.skip (WX.then_normal (WC.seq (WC.region (WL.move rfl rfl (?_))))))))
    refine WL.nilCheck rfl rfl (WL.fieldAddr (fld_81_0) rfl rfl (WL.loadB Tryz.isAgg27 hB rfl rfl rfl (WL.move rfl rfl (WL.move rfl rfl (WL.move rfl rfl (?_))))))
    have zw := hw.size
    refine WL.call eg_31 rfl rfl (writeU h hu hi hg hb hS hl hn) ?_
    rintro v w4 ⟨rfl, h4, k4⟩
    refine WL.assign rfl rfl (WL.nil (WX.then_normal (WC.ret (?_))))
    refine WX.ret1 (.inl rfl) Tryz.results42 rfl ?_
    refine ⟨_, rfl, rfl, ?_, (hw.mono (fun x _ h => h.elim)).trans k4 (fun x _ h => h)⟩
    rw [putS, if_neg (by rw [hg]; decide)]
    exact h4.mono (fun x hx => hx.imp id (fun h => by omega))
  ·
    refine WL.nil (WX.then_normal (WC.cond_true rfl (WC.seq (WC.region (WL.assign rfl rfl (WL.nil (WX.then_normal (?_))))))))
    refine WC.ret (WX.then_ret (?_))
    refine WX.ret1 (.inl rfl) Tryz.results42 rfl ?_
    refine ⟨_, rfl, rfl, ?_, hw.mono (fun x _ h => h.elim)⟩
    rw [putS, if_pos hg]
    exact h.mono (fun x hx => .inl hx)
end Go.Proofs.YtggecdldnpildaaGreat
namespace Go.HL
open Go.RowKit
/-! regions that draw their order: as in the tree, but for operations that come behind all quiet ones that read (late ones): they may turn what those read -/
def lateOk (ops : Array Oper) (C C2 L : List Nat) : Bool := L.all fun r => decide (r < ops.size) && !C.contains r && C.all fun j => C2.contains j || before? ops j r
theorem lateOk_spec {ops : Array Oper} {C C2 L : List Nat} (h : lateOk ops C C2 L = true) : ∀ r ∈ L, r < ops.size ∧ r ∉ C ∧ ∀ j ∈ C, C2.contains j = false → before? ops j r = true := fun r hr => by
  have h1 := List.all_eq_true.1 h r hr
  simp only [Bool.and_eq_true, decide_eq_true_eq] at h1
  obtain ⟨⟨h2, h3⟩, h4⟩ := h1
  refine ⟨h2, by simpa using h3, fun j hj hc => ?_⟩
  have h5 := List.all_eq_true.1 h4 j hj
  rw [hc, Bool.false_or] at h5
  exact h5
section
variable (P : Program) (ops : Array Oper) (Q : Exit → Act → World → Prop) (N : Nat) (K : World → Prop) (w0 : World) (C2 L : List Nat)
def DU : Nat → List Nat → Env → World → Prop
  | 0, _, E, w => ∀ w', Chg Nob w w' → WX Q .normal N E w'
  | n + 1, rs, E, w => AllB rs (preds ops rs) fun i => ∀ w', Chg Nob w w' → ∀ o, ops[i]? = some o → WL P ops (One o.dst fun v w'' => (L.all (rs.erase i).contains = true → K w'') ∧ DU n (rs.erase i) (putE E o.dst v) w'') N [o] (restr ops i E) w'
def DQU (R : List Nat) : List Nat → Env → Prop
  | [], E => DU P ops Q N K L R.length R E w0
  | i :: is, E => ∃ v, (∀ o, ops[i]? = some o → ∀ w', (C2.contains i = false → K w') → WL P ops (One o.dst fun u w'' => u = v ∧ Chg Nob w' w'') N [o] (restr ops i E) w') ∧ DQU R is (putE E (dstOf ops i) v)
end
section
variable {P : Program} {ops : Array Oper} {Q : Exit → Act → World → Prop} {N : Nat} {K : World → Prop} {w0 : World} {E0 : Env} {C2 L : List Nat}
theorem DQU_spec {R : List Nat} : ∀ {is : List Nat} {E : Env}, is.Nodup → DQU P ops Q N K w0 C2 L R is E → ∃ c : Nat → Value, DU P ops Q N K L R.length R (envAfter ops c is E) w0 ∧
    ∀ pre i post, is = pre ++ i :: post → ∀ o, ops[i]? = some o → ∀ w', (C2.contains i = false → K w') → WL P ops (One o.dst fun u w'' => u = c i ∧ Chg Nob w' w'') N [o] (restr ops i (envAfter ops c pre E)) w'
  | [], E, _, h => ⟨fun _ => undef, h, fun pre i post hx => by cases pre <;> cases hx⟩
  | i :: is, E, hn, h => by
    obtain ⟨v, h1, h2⟩ := h
    obtain ⟨c, h3, h4⟩ := DQU_spec (List.nodup_cons.1 hn).2 h2
    have hi := (List.nodup_cons.1 hn).1
    let c' : Nat → Value := fun j => if j = i then v else c j
    have hc : ∀ j, j ∈ is → c j = c' j := fun j hj => by
      have : j ≠ i := fun e => hi (e ▸ hj)
      simp [c', this]
    have hci : c' i = v := by simp [c']
    refine ⟨c', ?_, ?_⟩
    · show DU P ops Q N K L R.length R (envAfter ops c' is (putE E (dstOf ops i) (c' i))) w0
      rw [hci, ← envAfter_congr ops c c' is _ hc]
      exact h3
    · intro pre j post hx o ho w' hw
      cases pre with
      | nil =>
        injection hx with hx1 hx2
        subst hx1
        rw [hci]
        exact h1 o ho w' hw
      | cons p pre =>
        injection hx with hx1 hx2
        subst hx1
        have := h4 pre j post hx2 o ho w' hw
        have hj : j ∈ is := by rw [hx2]; simp
        rw [hc j hj, envAfter_congr ops c c' pre _ (fun k hk => hc k (by rw [hx2]; simp [hk]))] at this
        show WL P ops _ N [o] (restr ops j (envAfter ops c' pre (putE E (dstOf ops i) (c' i)))) w'
        rw [hci]
        exact this

theorem WC.drawU {id : Nat} (K : World → World → Prop) (C R C2 L : List Nat) (hlo : lateOk ops C C2 L = true) (hm : P.follows .mixedOrders = true) (hok : drawOkT ops C R = true) (hN : ((List.range ops.size).all fun i => (dstOf ops i).all fun t => Nat.blt t N) = true) {w : World} (hK0 : K w.drew w.drew) (hKp : ∀ wd a b, K wd a → Chg Nob a b → K wd b)
    (h0 : ∀ wd, Chg Nob w wd → wd.heap.size = w.heap.size → DQU P ops Q N (K wd) wd C2 L R C E0) : WC P (.region id ops true) Q N E0 w := fun a0 ha0 => by
  have h := h0 w.drew (Chg.drew w) rfl
  simp only [drawOkT, Bool.and_eq_true, decide_eq_true_eq] at hok
  obtain ⟨⟨⟨⟨⟨⟨hpart, hlt0⟩, hdst0⟩, hback0⟩, hsrc⟩, hsrcT⟩, hnd⟩ := hok
  replace hnd := nodupB_spec hnd
  have hlt : ∀ k ∈ C ++ R, k < ops.size := fun k hk => by simpa using List.all_eq_true.1 hlt0 k hk
  have hdst : ∀ i j, i < ops.size → j < ops.size → i ≠ j → ∀ t, dstOf ops i = some t → dstOf ops j ≠ some t := by
    intro i j hi hj hne t h1 h2
    have := List.all_eq_true.1 (List.all_eq_true.1 hdst0 i (by simpa using hi)) j (by simpa using hj)
    simp [h1, h2, hne] at this
  have hback : ∀ i, i < ops.size → ∀ o, ops[i]? = some o → ∀ e ∈ o.after, Region.binds .any e = true → e.on < i := by
    intro i hi o ho e he hb
    have := List.all_eq_true.1 hback0 i (by simpa using hi)
    simp only [ho, Option.map_some, Option.getD_some] at this
    rw [List.all_eq_true] at this
    have := this e (by simpa using he)
    simpa [hb] using this
  have hNt : ∀ i, i < ops.size → ∀ t, dstOf ops i = some t → t < N := by
    intro i hi t ht
    have := List.all_eq_true.1 hN i (by simpa using hi)
    simpa [ht] using this
  have hin : ∀ i, i < ops.size → i ∈ C ∨ i ∈ R := fun i hi => by simpa using List.all_eq_true.1 hpart i (by simpa using hi)
  have hCn : C.Nodup := (List.nodup_append.1 hnd).1
  obtain ⟨c, hDL, hq⟩ := DQU_spec hCn h
  have hgs : ∀ (listed : Array Bool) (i j : Nat), i < listed.size → (listed.setIfInBounds i true).getD j false = if j = i then true else listed.getD j false := by
    intro listed i j hil
    simp only [Array.getD_eq_getD_getElem?, Array.getElem?_setIfInBounds]
    by_cases e : j = i
    · subst e; simp [hil]
    · have : ¬ i = j := fun x => e x.symm
      simp [this, e]
  have henv : ∀ (vals : Nat → Value) (rd : List Nat), (∀ i ∈ C, vals i = c i) → envAfter ops vals rd (envAfter ops c C E0) = envAfter ops vals (C ++ rd) E0 := by
    intro vals rd hC
    rw [envAfter_append, envAfter_congr ops vals c C E0 hC]
  have fin : ∀ (listed : Array Bool) (a : Act) (w1 wp : World) (vals : Nat → Value) (rd rs : List Nat), (∀ i, i < ops.size → i ∈ C ∨ i ∈ rd ∨ i ∈ rs) → (∀ i ∈ rd ++ rs, i < ops.size) → Mid ops N E0 listed a vals → (∀ i ∈ C, vals i = c i) → (∀ i ∈ rs, listed.getD i false = false) →
      Chg Nob wp w1 → DU P ops Q N (K w.drew) L rs.length rs (envAfter ops vals rd (envAfter ops c C E0)) wp → (∀ i, i < ops.size → listed.getD i false = true) → Q .normal a w1 := by
    intro listed a w1 wp vals rd rs hpt hrl m hC hrs hpw hdl hall
    cases rs with
    | cons r rs =>
      have h1 := hall r (hrl r (by simp))
      have h2 := hrs r (by simp)
      rw [h1] at h2; cases h2
    | nil =>
      refine hdl w1 hpw a ⟨m.tsz, m.dfs, fun t v ht => ?_⟩
      rw [henv vals rd hC] at ht
      rcases (Rep.start ops E0 vals).after (C ++ rd) t v ht with ⟨j, hj, hd, rfl⟩ | ⟨h1, h2⟩
      · have hjl : j < ops.size := by
          rcases List.mem_append.1 (by simpa using hj : j ∈ C ++ rd) with h | h
          · exact hlt j (by simp [h])
          · exact hrl j (by simp [h])
        exact m.done j hjl (hall j hjl) t hd
      · refine m.old t v h2 fun j hj _ => h1 j ?_
        rcases hpt j hj with h | h | h
        · simp [h]
        · simp [h]
        · cases h
  have key : ∀ (fuel : Nat) (listed : Array Bool) (a : Act) (w1 wp : World) (vals : Nat → Value) (rd rs : List Nat), (∀ i, i < ops.size → i ∈ C ∨ i ∈ rd ∨ i ∈ rs) → (∀ i ∈ rd ++ rs, i < ops.size ∧ i ∉ C) → rs.Nodup → (∀ i ∈ rd, i ∉ rs) → Mid ops N E0 listed a vals → (∀ i ∈ C, vals i = c i) → (∀ i ∈ rd, listed.getD i false = true) → (∀ i ∈ rs, listed.getD i false = false) →
      (L.all rs.contains = true → K w.drew w1) → Chg Nob wp w1 → DU P ops Q N (K w.drew) L rs.length rs (envAfter ops vals rd (envAfter ops c C E0)) wp → ((List.range ops.size).filter fun i => !listed.getD i false).length ≤ fuel → wpAny P .any ops Q fuel listed a w1 := by
    intro fuel
    induction fuel with
    | zero =>
      intro listed a w1 wp vals rd rs hpt hrl hrn hdj m hC hrd hrs hM hpw hdl hf
      have hall : ∀ i, i < ops.size → listed.getD i false = true := by
        intro i hi
        have h0 := List.length_eq_zero_iff.1 (Nat.le_zero.1 hf)
        have : i ∉ (List.range ops.size).filter fun i => !listed.getD i false := by rw [h0]; simp
        simpa [hi] using this
      refine ⟨?_, fin listed a w1 wp vals rd rs hpt (fun i hi => (hrl i hi).1) m hC hrs hpw hdl hall⟩
      refine List.eq_nil_iff_forall_not_mem.2 fun i hi => ?_
      obtain ⟨h1, h2, _⟩ := mem_ready hi
      have h3 := hall i h1
      have : i < listed.size := by rw [m.sz]; exact h1
      simp [Array.getD_eq_getD_getElem?, this] at h2 h3
      rw [h2] at h3; cases h3
    | succ fuel ih =>
      intro listed a w1 wp vals rd rs hpt hrl hrn hdj m hC hrd hrs hM hpw hdl hf
      refine ⟨fun hnil => fin listed a w1 wp vals rd rs hpt (fun i hi => (hrl i hi).1) m hC hrs hpw hdl (ready_nil m.sz hback hnil), fun i hi => ?_⟩
      obtain ⟨hilt, hno, hpre⟩ := mem_ready hi
      have hil : i < listed.size := by rw [m.sz]; exact hilt
      have hno' : listed.getD i false = false := by
        simp [Array.getD_eq_getD_getElem?, hil] at hno ⊢; exact hno
      have ho : ops[i]? = some ops[i] := Array.getElem?_eq_getElem hilt
      have hdo := dstOf_eq ho
      have hf' : ((List.range ops.size).filter fun j => !(listed.setIfInBounds i true).getD j false).length ≤ fuel := by
        have e1 : ((List.range ops.size).filter fun j => !(listed.setIfInBounds i true).getD j false) = ((List.range ops.size).filter fun j => !listed.getD j false).filter fun j => j != i := by
          rw [List.filter_filter]
          congr 1
          funext j
          rw [hgs listed i j hil]
          by_cases e : j = i <;> simp [e]
        rw [e1]
        have : (((List.range ops.size).filter fun j => !listed.getD j false).filter fun j => j != i).length < ((List.range ops.size).filter fun j => !listed.getD j false).length := by
          rw [List.length_filter_lt_length_iff_exists]
          exact ⟨i, List.mem_filter.2 ⟨by simpa using hilt, by rw [hno']; rfl⟩, by simp⟩
        omega
      by_cases hiC : i ∈ C
      · obtain ⟨pre, post, hsp⟩ := List.append_of_mem hiC
        have hKi : C2.contains i = false → K w.drew w1 := fun h2 => hM (by
          rw [List.all_eq_true]
          intro r hr
          obtain ⟨l1, l2, l3⟩ := lateOk_spec hlo r hr
          rcases hpt r l1 with h | h | h
          · exact absurd h l2
          · exfalso
            have h4 := l3 i hiC h2
            have h5 := m.clo r l1 (hrd r h) i h4
            rw [hno'] at h5
            cases h5
          · simpa using h)
        have h1 := hq pre i post hsp _ ho w1 hKi
        have hpc : ∀ k ∈ pre, vals k = c k := fun k hk => hC k (by rw [hsp]; simp [hk])
        have hrep : Rep ops E0 vals pre (envAfter ops c pre E0) := by
          have := (Rep.start ops E0 vals).after pre
          rw [envAfter_congr ops vals c pre E0 hpc] at this
          simpa using this
        have hh := m.holds hsrc (pre := pre) (post := post ++ R) (i := i) (by rw [hsp]; simp) hlt hrep hpre hno
        refine wpOp_mono ?_ (wpOp_of_WL ho hh (fun t ht => hNt i hilt t (by rw [hdo]; exact ht)) h1)
        rintro a' w' ⟨v, rfl, rfl, k⟩
        rw [← hdo]
        have hv : ∀ j, (if j = i then c i else vals j) = vals j := fun j => by
          by_cases e : j = i
          · subst e; simp [hC j hiC]
          · simp [e]
        have hm' := m.put hilt hdst (hNt i hilt) hpre hno (c i)
        simp only [hv] at hm'
        refine ih _ _ w' wp vals rd rs hpt hrl hrn hdj hm' hC (fun j hj => ?_) (fun j hj => ?_) (fun h => hKp _ _ _ (hM h) k) (hpw.pure k) hdl hf'
        · rw [hgs listed i j hil]; split
          · rfl
          · exact hrd j hj
        · have : j ≠ i := by rintro rfl; exact (hrl j (by simp [hj])).2 hiC
          rw [hgs listed i j hil, if_neg this]; exact hrs j hj
      · have hird : i ∉ rd := fun hx => by have := hrd i hx; rw [hno'] at this; cases this
        have hirs : i ∈ rs := (hpt i hilt).elim (fun h => absurd h hiC) (fun h => h.elim (fun h => absurd h hird) (fun h => h))
        have hpr : preds ops rs i = false := by
          rw [preds, List.any_eq_false]
          intro p hp hb
          have h1 := hpre p hb
          have h2 := hrs p hp
          rw [h1] at h2; cases h2
        obtain ⟨n, hn⟩ : ∃ n, rs.length = n + 1 := ⟨rs.length - 1, by have := List.length_pos_of_mem hirs; omega⟩
        rw [hn] at hdl
        have h1 := AllB_mem hdl i hirs hpr w1 hpw _ ho
        rw [henv vals rd hC] at h1
        have hrep : Rep ops E0 vals (C ++ rd) (envAfter ops vals (C ++ rd) E0) := by simpa using (Rep.start ops E0 vals).after (C ++ rd)
        have hh : Holds N (restr ops i (envAfter ops vals (C ++ rd) E0)) a := by
          have hsT : ∀ t ∈ looks ops i, ∀ j, j < ops.size → dstOf ops j = some t → (j ∈ C → before? ops j i = true) ∧ (before? ops j i = true ∨ before? ops i j = true) := by
            intro t ht j hj hd
            have q1 := List.all_eq_true.1 hsrcT i (by rcases hin i hilt with h | h; exact absurd h hiC; exact h)
            have q2 := List.all_eq_true.1 (List.all_eq_true.1 q1 j (by simpa using hj)) t ht
            simp only [hd, bne_self_eq_false, Bool.false_or] at q2
            by_cases hjC : C.contains j = true
            · rw [hjC] at q2
              simp at q2
              exact ⟨fun _ => q2, .inl q2⟩
            · simp only [Bool.not_eq_true] at hjC
              rw [hjC] at q2
              simp at q2
              exact ⟨fun h => by simp [h] at hjC, q2⟩
          refine ⟨m.tsz, m.dfs, fun t v ht => ?_⟩
          obtain ⟨g1, g2⟩ := restr_lookup ht
          rcases hrep t v g2 with ⟨j, hj, hd, rfl⟩ | ⟨g3, g4⟩
          · have hjl : j < ops.size := by
              rcases List.mem_append.1 (by simpa using hj : j ∈ C ++ rd) with h | h
              · exact hlt j (by simp [h])
              · exact (hrl j (by simp [h])).1
            have hb : before? ops j i = true := by
              rcases List.mem_append.1 (by simpa using hj : j ∈ C ++ rd) with h | h
              · exact (hsT t g1 j hjl hd).1 h
              · rcases (hsT t g1 j hjl hd).2 with h5 | h5
                · exact h5
                · have h6 := m.clo j hjl (hrd j h) i h5
                  rw [hno'] at h6; cases h6
            exact m.done j hjl (hpre j hb) t hd
          · refine m.old t v g4 fun j hj hl hd => ?_
            rcases hpt j hj with h | h | h
            · exact g3 j (by simp [h]) hd
            · exact g3 j (by simp [h]) hd
            · rw [hrs j h] at hl; cases hl
        refine wpOp_mono ?_ (wpOp_of_WL ho hh (fun t ht => hNt i hilt t (by rw [hdo]; exact ht)) h1)
        rintro a' w' ⟨v, rfl, hM', hdl'⟩
        have hm' := m.put hilt hdst (hNt i hilt) hpre hno v
        rw [← hdo]
        have hC' : ∀ j ∈ C, (if j = i then v else vals j) = c j := fun j hj => by
          have : j ≠ i := by rintro rfl; exact hiC hj
          rw [if_neg this]; exact hC j hj
        have hcr : ∀ j ∈ C ++ rd, vals j = (if j = i then v else vals j) := fun j hj => by
          have : j ≠ i := by rintro rfl; exact (List.mem_append.1 hj).elim hiC hird
          rw [if_neg this]
        have her : ∀ j, j ∈ rs.erase i ↔ j ≠ i ∧ j ∈ rs := fun j => List.Nodup.mem_erase_iff hrn
        refine ih _ _ w' w' (fun j => if j = i then v else vals j) (rd ++ [i]) (rs.erase i) (fun j hj => ?_) (fun j hj => ?_) (hrn.erase i) (fun j hj => ?_) hm' hC' (fun j hj => ?_) (fun j hj => ?_) hM' (Chg.refl _ _) ?_ hf'
        · rcases hpt j hj with h | h | h
          · exact .inl h
          · exact .inr (.inl (by simp [h]))
          · by_cases e : j = i
            · exact .inr (.inl (by simp [e]))
            · exact .inr (.inr ((her j).2 ⟨e, h⟩))
        · rcases List.mem_append.1 hj with h | h
          · rcases List.mem_append.1 h with h | h
            · exact hrl j (by simp [h])
            · have : j = i := by simpa using h
              subst this
              exact hrl j (by simp [hirs])
          · exact hrl j (by simp [((her j).1 h).2])
        · intro h
          have h5 := (her j).1 h
          rcases List.mem_append.1 hj with h6 | h6
          · exact hdj j h6 h5.2
          · exact h5.1 (by simpa using h6)
        · rw [hgs listed i j hil]; split
          · rfl
          · rename_i hne
            rcases List.mem_append.1 hj with hj | hj
            · exact hrd j hj
            · exact absurd (by simpa using hj) hne
        · have h5 := (her j).1 hj
          rw [hgs listed i j hil, if_neg h5.1]; exact hrs j h5.2
        · rw [henv _ (rd ++ [i]) hC', ← List.append_assoc, envAfter_append, ← envAfter_congr ops vals _ (C ++ rd) E0 hcr]
          simp only [envAfter, if_true]
          rw [hdo, List.length_erase_of_mem hirs, hn]
          exact hdl'
  refine wp_region_any hm ?_
  refine key ops.size _ a0 w.drew w.drew c [] R (fun i hi => (hin i hi).elim .inl (fun h => .inr (.inr h))) (fun i hi => ⟨hlt i (by simpa using Or.inr (by simpa using hi)), fun h => (List.nodup_append.1 hnd).2.2 i h i (by simpa using hi) rfl⟩) (List.nodup_append.1 hnd).2.1 (fun i h => by cases h) ?_ (fun _ _ => rfl) (fun _ h => by cases h) (fun i hi => ?_) (fun _ => hK0) (Chg.refl _ _) hDL ?_
  · refine ⟨by simp, ha0.size, ha0.defs, fun i hi hl => ?_, fun t v ht _ => ha0.env t v ht, fun i hi hl => ?_⟩
    · simp [Array.getD_eq_getD_getElem?, hi] at hl
    · simp [Array.getD_eq_getD_getElem?, hi] at hl
  · have hi' := hlt i (by simp [hi])
    simp [Array.getD_eq_getD_getElem?, hi']
  · refine Nat.le_trans (List.length_filter_le _ _) (by simp)
theorem WC.drawL {id : Nat} (M : Nat → Prop) (C R C2 L : List Nat) (hlo : lateOk ops C C2 L = true) (hm : P.follows .mixedOrders = true) (hok : drawOkT ops C R = true) (hN : ((List.range ops.size).all fun i => (dstOf ops i).all fun t => Nat.blt t N) = true) {w : World}
    (h0 : ∀ wd, Chg Nob w wd → wd.heap.size = w.heap.size → DQU P ops Q N (Chg M wd) wd C2 L R C E0) : WC P (.region id ops true) Q N E0 w :=
  WC.drawU (fun wd => Chg M wd) C R C2 L hlo hm hok hN (Chg.refl _ _) (fun _ _ _ h k => h.pure k) h0
end
section
variable {P : Program} {ops : Array Oper} {Q : Exit → Act → World → Prop} {N : Nat} {M : Nat → Prop} {K : World → Prop} {w0 w : World} {E E' : Env} {R is C2 L : List Nat} {i : Nat} {o : Oper}
theorem DQU.step {v : Value} (E' : Env) (ho : ops[i]? = some o) (hs : Sub E' E) (hk : (E'.all fun p => (looks ops i).contains p.1) = true)
    (h1 : ∀ w', (C2.contains i = false → K w') → WL P ops (One o.dst fun u w'' => u = v ∧ Chg Nob w' w'') N [o] E' w') (h2 : DQU P ops Q N K w0 C2 L R is (putE E o.dst v)) : DQU P ops Q N K w0 C2 L R (i :: is) E :=
  ⟨v, fun o' ho' w' hw => by rw [ho] at ho'; injection ho' with ho'; subst ho'; exact (h1 w' hw).sub (sub_restr hs hk), by rw [dstOf_eq ho]; exact h2⟩
theorem DQU.split {b : Bool} (E' : Env) (ho : ops[i]? = some o) (hs : Sub E' E) (hk : (E'.all fun p => (looks ops i).contains p.1) = true)
    (h1 : ∀ w', (C2.contains i = false → K w') → WL P ops (One o.dst fun u w'' => u = .bool b ∧ Chg Nob w' w'') N [o] E' w') (ht : b = true → DQU P ops Q N K w0 C2 L R is (putE E o.dst (.bool true))) (hf : b = false → DQU P ops Q N K w0 C2 L R is (putE E o.dst (.bool false))) : DQU P ops Q N K w0 C2 L R (i :: is) E :=
  DQU.step E' ho hs hk h1 (by
    cases b
    · exact hf rfl
    · exact ht rfl)
theorem DQU.done (h : Chg M w0 w0 → DU P ops Q N (Chg M w0) L R.length R E w0) : DQU P ops Q N (Chg M w0) w0 C2 L R [] E := h (Chg.refl _ _)
theorem DU.step {T : Env → World → Prop} {F : Prop} (E' : Env) (ho : ops[i]? = some o) (hs : Sub E' E) (hk : (E'.all fun p => (looks ops i).contains p.1) = true)
    (h1 : ∀ w', Chg Nob w w' → WL P ops (One o.dst fun v w'' => (F → K w'') ∧ T (putE E o.dst v) w'') N [o] E' w') :
    ∀ w', Chg Nob w w' → ∀ o', ops[i]? = some o' → WL P ops (One o'.dst fun v w'' => (F → K w'') ∧ T (putE E o'.dst v) w'') N [o'] (restr ops i E) w' :=
  fun w' hw o' ho' => by rw [ho] at ho'; injection ho' with ho'; subst ho'; exact (h1 w' hw).sub (sub_restr hs hk)
theorem DU.done (h : ∀ w', Chg Nob w w' → WX Q .normal N E w') (rs : List Nat) : DU P ops Q N K L 0 rs E w := h
end
end Go.HL
