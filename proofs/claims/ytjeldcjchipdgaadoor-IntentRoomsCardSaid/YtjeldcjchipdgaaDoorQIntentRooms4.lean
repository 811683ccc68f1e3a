import Derived.Test.YtjeldcjchipdgaaDoorQIntentRooms3
namespace Go.Proofs.YtjeldcjchipdgaaDoor
open Go.RowKit Go.HL
set_option maxRecDepth 100000

def V8.add (s v : V8) : V8 := ⟨s.a + v.a, s.b + v.b, s.c + v.c, s.d + v.d, s.e + v.e, s.f + v.f, s.g + v.g, s.h + v.h⟩
def V8.list (v : V8) : List UInt32 := [v.a, v.b, v.c, v.d, v.e, v.f, v.g, v.h]
theorem V8.cells_eq (v : V8) : v.cells = v.list.map v32 := rfl
theorem mix_eq (s : V8) (b : List UInt8) : mix s b = s.add (roundsN (sch b 64) s 64) := rfl
/-- the first i parts are added -/
def addTo (s v : V8) (i : Nat) : List UInt32 := (s.add v).list.take i ++ s.list.drop i
theorem addTo_len (s v : V8) (i : Nat) (h : i ≤ 8) : (addTo s v i).length = 8 := by
  simp [addTo, V8.list]
  omega
theorem addTo_at {s v : V8} {i : Nat} (h : i < 8) : (addTo s v i)[i]? = some (s.list.getD i 0) ∧ v.list[i]? = some (v.list.getD i 0) ∧ (addTo s v i).set i (s.list.getD i 0 + v.list.getD i 0) = addTo s v (i + 1) := by
  have h8 : i = 0 ∨ i = 1 ∨ i = 2 ∨ i = 3 ∨ i = 4 ∨ i = 5 ∨ i = 6 ∨ i = 7 := by omega
  rcases h8 with rfl | rfl | rfl | rfl | rfl | rfl | rfl | rfl <;> exact ⟨rfl, rfl, rfl⟩
theorem getD_at {xs : List UInt32} {i : Nat} (h : i < xs.length) : xs[i]? = some (xs.getD i 0) := by
  rw [List.getD_eq_getElem?_getD, List.getElem?_eq_getElem h]
  rfl
set_option maxHeartbeats 1000000 in
theorem mix_calls {S : Nat → Prop} {w : World} {gs gk : Nat} {s : V8} {ao : Option Addr} {c : Nat} {b : List UInt8} (hs : Blk w gs 161 s.cells) (hk : Blk w gk 163 (K256.map v32)) (hr : RSl S w eb ao c b) (hl : b.length = 64) (hsk : gs ≠ gk) :
    Calls Tryd.prog 106 [.pointer (some ⟨gs, 0, none⟩), .slice ao b.length c, .pointer (some ⟨gk, 0, none⟩)].toArray w (Ret fun v w' => v = .tuple #[] ∧ Blk w' gs 161 (mix s b).cells ∧ Chg (fun x => x = gs) w w') := by
  have hw := Chg.refl Nob w
  replace hs : Blk w gs 161 [v32 s.a, v32 s.b, v32 s.c, v32 s.d, v32 s.e, v32 s.f, v32 s.g, v32 s.h] := hs
  have ls := hs.lt
  have lk := hk.lt
  refine Calls.of_WC Tryd.func106 rfl Tryd.ntmps106 (by simp) ?_
  refine WC.seq (WC.region (WL.move rfl rfl (?_)))
  refine WL.call eg_113 rfl rfl (schedule_calls hr hl) ?_
  rintro v w1 ⟨rfl, k⟩
  obtain ⟨ws, hws⟩ : ∃ ws, ws = sch b 64 := ⟨_, rfl⟩
  have hsl : ws.length = 64 := by rw [hws]; exact sch_len b 64
  rw [← hws]
  have zs_k := k.size
  replace hs := hs.pure k
  replace hk := hk.pure k
  replace hw := hw.pure k
  refine WL.alloc Tryd.zeroValue163 rfl ?_
  intro g_1 w_1 hge_1 hlt_1 hb_1 k_1
  have zs_k_1 := k_1.size
  replace hs := hs.pure k_1
  replace hk := hk.pure k_1
  replace hw := hw.pure k_1
  refine WL.stores Tryd.sizeOf163 hb_1 rfl rfl (by simp; omega) (by intro u hu; obtain ⟨x, _, rfl⟩ := List.mem_map.1 hu; rfl) (by simp [Value.cells]; omega) rfl ?_
  intro w_2 hs_2 hn_2 k_2
  have zs_k_2 := k_2.size
  replace hs := hs.chg k_2 (by intro h1; have h2 : _ = _ := h1; exfalso; omega)
  replace hk := hk.chg k_2 (by intro h1; have h2 : _ = _ := h1; exfalso; omega)
  replace hw := hw.chg k_2 (by intro x h1 h2; have h3 : _ = _ := h2; exfalso; omega)
  replace hb_1 := hn_2
  refine WL.nil (WX.then_normal (WC.seq (WC.region (WL.move rfl rfl (WL.nilCheck rfl rfl (WL.loadsB Tryd.isAgg161 Tryd.sizeOf161 hs rfl (by simp; done) rfl (?_)))))))
  refine WL.alloc Tryd.zeroValue161 rfl ?_
  intro g_3 w_3 hge_3 hlt_3 hb_3 k_3
  have zs_k_3 := k_3.size
  replace hs := hs.pure k_3
  replace hk := hk.pure k_3
  replace hw := hw.pure k_3
  replace hb_1 := hb_1.pure k_3
  refine WL.stores Tryd.sizeOf161 hb_3 rfl rfl (by simp; done) (by simp [Value.oneCell']; done) (by simp [Value.cells]; done) rfl ?_
  intro w_4 hs_4 hn_4 k_4
  have zs_k_4 := k_4.size
  replace hs := hs.chg k_4 (by intro h1; have h2 : _ = _ := h1; exfalso; omega)
  replace hk := hk.chg k_4 (by intro h1; have h2 : _ = _ := h1; exfalso; omega)
  replace hw := hw.chg k_4 (by intro x h1 h2; have h3 : _ = _ := h2; exfalso; omega)
  replace hb_1 := hb_1.chg k_4 (by intro h1; have h2 : _ = _ := h1; exfalso; omega)
  replace hb_3 := hn_4
  refine WL.nil (WX.then_normal (WC.seq (WC.seq (WC.region (WL.move rfl rfl (WL.nil (WX.then_normal (?_))))))))
  refine WC.block (?_)
  have e6 : ∀ zs : List Value, zs.length = 64 → List.take 0 zs ++ List.map v32 ws ++ List.drop (0 + (List.map v32 ws).length) zs = List.map v32 ws := by
    intro zs hz
    rw [List.drop_eq_nil_of_le (by simp; omega)]
    simp
  rw [e6 _ rfl] at hb_1
  refine WC.loop (σ := Nat) (fun t => [(0, .pointer (some ⟨gs, 0, none⟩)), (2, .pointer (some ⟨gk, 0, none⟩)), (6, .pointer (some ⟨g_1, 0, none⟩)), (7, .pointer (some ⟨g_3, 0, none⟩)), (19, vi t)])
    (fun t w' => t ≤ 64 ∧ Blk w' gs 161 [v32 s.a, v32 s.b, v32 s.c, v32 s.d, v32 s.e, v32 s.f, v32 s.g, v32 s.h] ∧ Blk w' gk 163 (K256.map v32) ∧ Blk w' g_1 163 (ws.map v32) ∧ Blk w' g_3 161 (roundsN ws s t).cells ∧ Chg Nob w w') (fun t => 64 - t) 0 ⟨rfl, rfl, rfl, rfl, rfl, trivial⟩ ⟨by omega, hs, hk, ?_, hb_3, hw⟩ ?_
  ·
    exact hb_1
  clear hs hk hb_1 hb_3 hw
  rintro t w9 ⟨ht, hs, hk, h6, h7, hw⟩
  obtain ⟨V, hV⟩ : ∃ V, V = roundsN ws s t := ⟨_, rfl⟩
  rw [← hV] at h7
  replace h7 : Blk w9 g_3 161 [v32 V.a, v32 V.b, v32 V.c, v32 V.d, v32 V.e, v32 V.f, v32 V.g, v32 V.h] := h7
  refine WC.seq (WC.region (?_))
  refine WL.lss? rfl rfl rfl (fun h20 => ?_) (fun h20 => ?_)
  ·
    refine WL.nil (WX.then_normal (WC.seq (WC.cond_true rfl (WC.skip (WX.then_normal (WC.seq (WC.block (?_))))))))
    refine WC.seq (WC.region (WL.move rfl rfl (WL.assign rfl rfl (WL.nil (WX.then_normal (WC.seq (?_)))))))
    refine WC.draw (Nob) [0, 1, 2, 3, 4, 5] [] mixed rfl rfl (fun wd_5 kd_5 zd_5 => ?_)
    have zs_kd_5 := kd_5.size
    replace hs := hs.pure kd_5
    replace hk := hk.pure kd_5
    replace h6 := h6.pure kd_5
    replace h7 := h7.pure kd_5
    replace hw := hw.pure kd_5
    apply DQ.step (E' := [(7, _)])
    case ho => rfl
    case hs => exact ⟨rfl, trivial⟩
    case hk => rfl
    case h1 =>
      intro wq_6 kq_6
      have zs_kq_6 := kq_6.size
      replace hs := hs.pure kq_6
      replace hk := hk.pure kq_6
      replace h6 := h6.pure kq_6
      replace h7 := h7.pure kq_6
      replace hw := hw.pure kq_6
      refine WL.indexArr 4 Tryd.underlying161 Tryd.sizeOf159 rfl rfl ⟨rfl, by decide⟩ rfl (?_)
      refine WL.nil ?_
      exact WX.one ⟨rfl, by exact Chg.refl _ _⟩
    apply DQ.step (E' := [(22, _)])
    case ho => rfl
    case hs => exact ⟨rfl, trivial⟩
    case hk => rfl
    case h1 =>
      intro wq_7 kq_7
      have zs_kq_7 := kq_7.size
      replace hs := hs.pure kq_7
      replace hk := hk.pure kq_7
      replace h6 := h6.pure kq_7
      replace h7 := h7.pure kq_7
      replace hw := hw.pure kq_7
      refine WL.loadB Tryd.isAgg159 h7 rfl rfl rfl (?_)
      refine WL.nil ?_
      exact WX.one ⟨rfl, by exact Chg.refl _ _⟩
    apply DQ.step (E' := [(7, _)])
    case ho => rfl
    case hs => exact ⟨rfl, trivial⟩
    case hk => rfl
    case h1 =>
      intro wq_8 kq_8
      have zs_kq_8 := kq_8.size
      replace hs := hs.pure kq_8
      replace hk := hk.pure kq_8
      replace h6 := h6.pure kq_8
      replace h7 := h7.pure kq_8
      replace hw := hw.pure kq_8
      refine WL.indexArr 0 Tryd.underlying161 Tryd.sizeOf159 rfl rfl ⟨rfl, by decide⟩ rfl (?_)
      refine WL.nil ?_
      exact WX.one ⟨rfl, by exact Chg.refl _ _⟩
    apply DQ.step (E' := [(24, _)])
    case ho => rfl
    case hs => exact ⟨rfl, trivial⟩
    case hk => rfl
    case h1 =>
      intro wq_9 kq_9
      have zs_kq_9 := kq_9.size
      replace hs := hs.pure kq_9
      replace hk := hk.pure kq_9
      replace h6 := h6.pure kq_9
      replace h7 := h7.pure kq_9
      replace hw := hw.pure kq_9
      refine WL.loadB Tryd.isAgg159 h7 rfl rfl rfl (?_)
      refine WL.nil ?_
      exact WX.one ⟨rfl, by exact Chg.refl _ _⟩
    apply DQ.step (E' := [(23, _)])
    case ho => rfl
    case hs => exact ⟨rfl, trivial⟩
    case hk => rfl
    case h1 =>
      intro wq_10 kq_10
      refine WL.assign rfl rfl (?_)
      refine WL.nil ?_
      exact WX.one ⟨rfl, by exact Chg.refl _ _⟩
    apply DQ.step (E' := [(25, _)])
    case ho => rfl
    case hs => exact ⟨rfl, trivial⟩
    case hk => rfl
    case h1 =>
      intro wq_11 kq_11
      refine WL.assign rfl rfl (?_)
      refine WL.nil ?_
      exact WX.one ⟨rfl, by exact Chg.refl _ _⟩
    refine DQ.done (fun _ => ?_)
    refine DL.done (fun we_12 ke_12 => ?_)
    have zs_ke_12 := ke_12.size
    replace hs := hs.pure ke_12
    replace hk := hk.pure ke_12
    replace h6 := h6.pure ke_12
    replace h7 := h7.pure ke_12
    replace hw := hw.pure ke_12
    refine WX.then_normal (WC.seq (?_))
    have fk := getD_at (xs := K256) (i := t) (by show t < 64; omega)
    have fw := getD_at (xs := ws) (i := t) (by omega)
    refine WC.draw (Nob) [0, 1, 2, 3, 4, 5, 6, 7, 8, 9, 10, 11, 12, 13, 14, 15, 16, 17, 18, 19, 20, 21, 22, 23, 24, 25, 26, 27, 28, 29, 30, 31, 32] [] mixed rfl rfl (fun wd_13 kd_13 zd_13 => ?_)
    have zs_kd_13 := kd_13.size
    replace hs := hs.pure kd_13
    replace hk := hk.pure kd_13
    replace h6 := h6.pure kd_13
    replace h7 := h7.pure kd_13
    replace hw := hw.pure kd_13
    apply DQ.step (E' := [(7, _)])
    case ho => rfl
    case hs => exact ⟨rfl, trivial⟩
    case hk => rfl
    case h1 =>
      intro wq_14 kq_14
      have zs_kq_14 := kq_14.size
      replace hs := hs.pure kq_14
      replace hk := hk.pure kq_14
      replace h6 := h6.pure kq_14
      replace h7 := h7.pure kq_14
      replace hw := hw.pure kq_14
      refine WL.indexArr 7 Tryd.underlying161 Tryd.sizeOf159 rfl rfl ⟨rfl, by decide⟩ rfl (?_)
      refine WL.nil ?_
      exact WX.one ⟨rfl, by exact Chg.refl _ _⟩
    apply DQ.step (E' := [(26, _)])
    case ho => rfl
    case hs => exact ⟨rfl, trivial⟩
    case hk => rfl
    case h1 =>
      intro wq_15 kq_15
      have zs_kq_15 := kq_15.size
      replace hs := hs.pure kq_15
      replace hk := hk.pure kq_15
      replace h6 := h6.pure kq_15
      replace h7 := h7.pure kq_15
      replace hw := hw.pure kq_15
      refine WL.loadB Tryd.isAgg159 h7 rfl rfl rfl (?_)
      refine WL.nil ?_
      exact WX.one ⟨rfl, by exact Chg.refl _ _⟩
    apply DQ.step (E' := [(9, _)])
    case ho => rfl
    case hs => exact ⟨rfl, trivial⟩
    case hk => rfl
    case h1 =>
      intro wq_16 kq_16
      refine WL.move rfl rfl (?_)
      refine WL.nil ?_
      exact WX.one ⟨rfl, by exact Chg.refl _ _⟩
    apply DQ.step (E' := [(28, _)])
    case ho => rfl
    case hs => exact ⟨rfl, trivial⟩
    case hk => rfl
    case h1 =>
      intro wq_17 kq_17
      have zs_kq_17 := kq_17.size
      replace hs := hs.pure kq_17
      replace hk := hk.pure kq_17
      replace h6 := h6.pure kq_17
      replace h7 := h7.pure kq_17
      replace hw := hw.pure kq_17
      refine WL.call eg_114 rfl rfl (ror_calls V.e 6 _ (by decide)) ?_
      rintro v w4 ⟨rfl, k4⟩
      have zs_k4 := k4.size
      replace hs := hs.pure k4
      replace hk := hk.pure k4
      replace h6 := h6.pure k4
      replace h7 := h7.pure k4
      replace hw := hw.pure k4
      refine WL.nil ?_
      exact WX.one ⟨rfl, by assumption⟩
    apply DQ.step (E' := [(9, _)])
    case ho => rfl
    case hs => exact ⟨rfl, trivial⟩
    case hk => rfl
    case h1 =>
      intro wq_18 kq_18
      refine WL.move rfl rfl (?_)
      refine WL.nil ?_
      exact WX.one ⟨rfl, by exact Chg.refl _ _⟩
    apply DQ.step (E' := [(30, _)])
    case ho => rfl
    case hs => exact ⟨rfl, trivial⟩
    case hk => rfl
    case h1 =>
      intro wq_19 kq_19
      have zs_kq_19 := kq_19.size
      replace hs := hs.pure kq_19
      replace hk := hk.pure kq_19
      replace h6 := h6.pure kq_19
      replace h7 := h7.pure kq_19
      replace hw := hw.pure kq_19
      refine WL.call eg_114 rfl rfl (ror_calls V.e 11 _ (by decide)) ?_
      rintro v w4 ⟨rfl, k4⟩
      have zs_k4 := k4.size
      replace hs := hs.pure k4
      replace hk := hk.pure k4
      replace h6 := h6.pure k4
      replace h7 := h7.pure k4
      replace hw := hw.pure k4
      refine WL.nil ?_
      exact WX.one ⟨rfl, by assumption⟩
    apply DQ.step (E' := [(29, _), (31, _)])
    case ho => rfl
    case hs => exact ⟨rfl, rfl, trivial⟩
    case hk => rfl
    case h1 =>
      intro wq_20 kq_20
      refine WL.num rfl rfl (n_xor32 _ _ _ _) rfl (?_)
      refine WL.nil ?_
      exact WX.one ⟨rfl, by exact Chg.refl _ _⟩
    apply DQ.step (E' := [(9, _)])
    case ho => rfl
    case hs => exact ⟨rfl, trivial⟩
    case hk => rfl
    case h1 =>
      intro wq_21 kq_21
      refine WL.move rfl rfl (?_)
      refine WL.nil ?_
      exact WX.one ⟨rfl, by exact Chg.refl _ _⟩
    apply DQ.step (E' := [(33, _)])
    case ho => rfl
    case hs => exact ⟨rfl, trivial⟩
    case hk => rfl
    case h1 =>
      intro wq_22 kq_22
      have zs_kq_22 := kq_22.size
      replace hs := hs.pure kq_22
      replace hk := hk.pure kq_22
      replace h6 := h6.pure kq_22
      replace h7 := h7.pure kq_22
      replace hw := hw.pure kq_22
      refine WL.call eg_114 rfl rfl (ror_calls V.e 25 _ (by decide)) ?_
      rintro v w4 ⟨rfl, k4⟩
      have zs_k4 := k4.size
      replace hs := hs.pure k4
      replace hk := hk.pure k4
      replace h6 := h6.pure k4
      replace h7 := h7.pure k4
      replace hw := hw.pure k4
      refine WL.nil ?_
      exact WX.one ⟨rfl, by assumption⟩
    apply DQ.step (E' := [(32, _), (34, _)])
    case ho => rfl
    case hs => exact ⟨rfl, rfl, trivial⟩
    case hk => rfl
    case h1 =>
      intro wq_23 kq_23
      refine WL.num rfl rfl (n_xor32 _ _ _ _) rfl (?_)
      refine WL.nil ?_
      exact WX.one ⟨rfl, by exact Chg.refl _ _⟩
    apply DQ.step (E' := [(27, _), (35, _)])
    case ho => rfl
    case hs => exact ⟨rfl, rfl, trivial⟩
    case hk => rfl
    case h1 =>
      intro wq_24 kq_24
      refine WL.num rfl rfl (n_add32 _ _ _ _) rfl (?_)
      refine WL.nil ?_
      exact WX.one ⟨rfl, by exact Chg.refl _ _⟩
    apply DQ.step (E' := [(9, _)])
    case ho => rfl
    case hs => exact ⟨rfl, trivial⟩
    case hk => rfl
    case h1 =>
      intro wq_25 kq_25
      refine WL.move rfl rfl (?_)
      refine WL.nil ?_
      exact WX.one ⟨rfl, by exact Chg.refl _ _⟩
    apply DQ.step (E' := [(7, _)])
    case ho => rfl
    case hs => exact ⟨rfl, trivial⟩
    case hk => rfl
    case h1 =>
      intro wq_26 kq_26
      have zs_kq_26 := kq_26.size
      replace hs := hs.pure kq_26
      replace hk := hk.pure kq_26
      replace h6 := h6.pure kq_26
      replace h7 := h7.pure kq_26
      replace hw := hw.pure kq_26
      refine WL.indexArr 5 Tryd.underlying161 Tryd.sizeOf159 rfl rfl ⟨rfl, by decide⟩ rfl (?_)
      refine WL.nil ?_
      exact WX.one ⟨rfl, by exact Chg.refl _ _⟩
    apply DQ.step (E' := [(38, _)])
    case ho => rfl
    case hs => exact ⟨rfl, trivial⟩
    case hk => rfl
    case h1 =>
      intro wq_27 kq_27
      have zs_kq_27 := kq_27.size
      replace hs := hs.pure kq_27
      replace hk := hk.pure kq_27
      replace h6 := h6.pure kq_27
      replace h7 := h7.pure kq_27
      replace hw := hw.pure kq_27
      refine WL.loadB Tryd.isAgg159 h7 rfl rfl rfl (?_)
      refine WL.nil ?_
      exact WX.one ⟨rfl, by exact Chg.refl _ _⟩
    apply DQ.step (E' := [(37, _), (39, _)])
    case ho => rfl
    case hs => exact ⟨rfl, rfl, trivial⟩
    case hk => rfl
    case h1 =>
      intro wq_28 kq_28
      refine WL.num rfl rfl (n_and32 _ _ _ _) rfl (?_)
      refine WL.nil ?_
      exact WX.one ⟨rfl, by exact Chg.refl _ _⟩
    apply DQ.step (E' := [(9, _)])
    case ho => rfl
    case hs => exact ⟨rfl, trivial⟩
    case hk => rfl
    case h1 =>
      intro wq_29 kq_29
      refine WL.move rfl rfl (?_)
      refine WL.nil ?_
      exact WX.one ⟨rfl, by exact Chg.refl _ _⟩
    apply DQ.step (E' := [(41, _)])
    case ho => rfl
    case hs => exact ⟨rfl, trivial⟩
    case hk => rfl
    case h1 =>
      intro wq_30 kq_30
      refine WL.not32 rfl rfl (?_)
      refine WL.nil ?_
      exact WX.one ⟨rfl, by exact Chg.refl _ _⟩
    apply DQ.step (E' := [(7, _)])
    case ho => rfl
    case hs => exact ⟨rfl, trivial⟩
    case hk => rfl
    case h1 =>
      intro wq_31 kq_31
      have zs_kq_31 := kq_31.size
      replace hs := hs.pure kq_31
      replace hk := hk.pure kq_31
      replace h6 := h6.pure kq_31
      replace h7 := h7.pure kq_31
      replace hw := hw.pure kq_31
      refine WL.indexArr 6 Tryd.underlying161 Tryd.sizeOf159 rfl rfl ⟨rfl, by decide⟩ rfl (?_)
      refine WL.nil ?_
      exact WX.one ⟨rfl, by exact Chg.refl _ _⟩
    apply DQ.step (E' := [(43, _)])
    case ho => rfl
    case hs => exact ⟨rfl, trivial⟩
    case hk => rfl
    case h1 =>
      intro wq_32 kq_32
      have zs_kq_32 := kq_32.size
      replace hs := hs.pure kq_32
      replace hk := hk.pure kq_32
      replace h6 := h6.pure kq_32
      replace h7 := h7.pure kq_32
      replace hw := hw.pure kq_32
      refine WL.loadB Tryd.isAgg159 h7 rfl rfl rfl (?_)
      refine WL.nil ?_
      exact WX.one ⟨rfl, by exact Chg.refl _ _⟩
    apply DQ.step (E' := [(42, _), (44, _)])
    case ho => rfl
    case hs => exact ⟨rfl, rfl, trivial⟩
    case hk => rfl
    case h1 =>
      intro wq_33 kq_33
      refine WL.num rfl rfl (n_and32 _ _ _ _) rfl (?_)
      refine WL.nil ?_
      exact WX.one ⟨rfl, by exact Chg.refl _ _⟩
    apply DQ.step (E' := [(40, _), (45, _)])
    case ho => rfl
    case hs => exact ⟨rfl, rfl, trivial⟩
    case hk => rfl
    case h1 =>
      intro wq_34 kq_34
      refine WL.num rfl rfl (n_xor32 _ _ _ _) rfl (?_)
      refine WL.nil ?_
      exact WX.one ⟨rfl, by exact Chg.refl _ _⟩
    apply DQ.step (E' := [(36, _), (46, _)])
    case ho => rfl
    case hs => exact ⟨rfl, rfl, trivial⟩
    case hk => rfl
    case h1 =>
      intro wq_35 kq_35
      refine WL.num rfl rfl (n_add32 _ _ _ _) rfl (?_)
      refine WL.nil ?_
      exact WX.one ⟨rfl, by exact Chg.refl _ _⟩
    apply DQ.step (E' := [(2, _)])
    case ho => rfl
    case hs => exact ⟨rfl, trivial⟩
    case hk => rfl
    case h1 =>
      intro wq_36 kq_36
      refine WL.move rfl rfl (?_)
      refine WL.nil ?_
      exact WX.one ⟨rfl, by exact Chg.refl _ _⟩
    apply DQ.step (E' := [(8, _)])
    case ho => rfl
    case hs => exact ⟨rfl, trivial⟩
    case hk => rfl
    case h1 =>
      intro wq_37 kq_37
      refine WL.move rfl rfl (?_)
      refine WL.nil ?_
      exact WX.one ⟨rfl, by exact Chg.refl _ _⟩
    apply DQ.step (E' := [(48, _)])
    case ho => rfl
    case hs => exact ⟨rfl, trivial⟩
    case hk => rfl
    case h1 =>
      intro wq_38 kq_38
      refine WL.nilCheck rfl rfl (?_)
      refine WL.nil ?_
      exact WX.one ⟨rfl, by exact Chg.refl _ _⟩
    apply DQ.step (E' := [(50, _), (49, _)])
    case ho => rfl
    case hs => exact ⟨rfl, rfl, trivial⟩
    case hk => rfl
    case h1 =>
      intro wq_39 kq_39
      have zs_kq_39 := kq_39.size
      replace hs := hs.pure kq_39
      replace hk := hk.pure kq_39
      replace h6 := h6.pure kq_39
      replace h7 := h7.pure kq_39
      replace hw := hw.pure kq_39
      refine WL.indexArr (t) Tryd.underlying163 Tryd.sizeOf159 rfl rfl ⟨by omega, by omega⟩ rfl ?_
      refine WL.nil ?_
      exact WX.one ⟨rfl, by exact Chg.refl _ _⟩
    apply DQ.step (E' := [(51, _)])
    case ho => rfl
    case hs => exact ⟨rfl, trivial⟩
    case hk => rfl
    case h1 =>
      intro wq_40 kq_40
      have zs_kq_40 := kq_40.size
      replace hs := hs.pure kq_40
      replace hk := hk.pure kq_40
      replace h6 := h6.pure kq_40
      replace h7 := h7.pure kq_40
      replace hw := hw.pure kq_40
      refine WL.loadB Tryd.isAgg159 hk rfl (map_at _ fk) rfl (?_)
      refine WL.nil ?_
      exact WX.one ⟨rfl, by exact Chg.refl _ _⟩
    apply DQ.step (E' := [(47, _), (52, _)])
    case ho => rfl
    case hs => exact ⟨rfl, rfl, trivial⟩
    case hk => rfl
    case h1 =>
      intro wq_41 kq_41
      refine WL.num rfl rfl (n_add32 _ _ _ _) rfl (?_)
      refine WL.nil ?_
      exact WX.one ⟨rfl, by exact Chg.refl _ _⟩
    apply DQ.step (E' := [(8, _)])
    case ho => rfl
    case hs => exact ⟨rfl, trivial⟩
    case hk => rfl
    case h1 =>
      intro wq_42 kq_42
      refine WL.move rfl rfl (?_)
      refine WL.nil ?_
      exact WX.one ⟨rfl, by exact Chg.refl _ _⟩
    apply DQ.step (E' := [(6, _), (54, _)])
    case ho => rfl
    case hs => exact ⟨rfl, rfl, trivial⟩
    case hk => rfl
    case h1 =>
      intro wq_43 kq_43
      have zs_kq_43 := kq_43.size
      replace hs := hs.pure kq_43
      replace hk := hk.pure kq_43
      replace h6 := h6.pure kq_43
      replace h7 := h7.pure kq_43
      replace hw := hw.pure kq_43
      refine WL.indexArr (t) Tryd.underlying163 Tryd.sizeOf159 rfl rfl ⟨by omega, by omega⟩ rfl ?_
      refine WL.nil ?_
      exact WX.one ⟨rfl, by exact Chg.refl _ _⟩
    apply DQ.step (E' := [(55, _)])
    case ho => rfl
    case hs => exact ⟨rfl, trivial⟩
    case hk => rfl
    case h1 =>
      intro wq_44 kq_44
      have zs_kq_44 := kq_44.size
      replace hs := hs.pure kq_44
      replace hk := hk.pure kq_44
      replace h6 := h6.pure kq_44
      replace h7 := h7.pure kq_44
      replace hw := hw.pure kq_44
      refine WL.loadB Tryd.isAgg159 h6 rfl (map_at _ fw) rfl (?_)
      refine WL.nil ?_
      exact WX.one ⟨rfl, by exact Chg.refl _ _⟩
    apply DQ.step (E' := [(53, _), (56, _)])
    case ho => rfl
    case hs => exact ⟨rfl, rfl, trivial⟩
    case hk => rfl
    case h1 =>
      intro wq_45 kq_45
      refine WL.num rfl rfl (n_add32 _ _ _ _) rfl (?_)
      refine WL.nil ?_
      exact WX.one ⟨rfl, by exact Chg.refl _ _⟩
    apply DQ.step (E' := [(57, _)])
    case ho => rfl
    case hs => exact ⟨rfl, trivial⟩
    case hk => rfl
    case h1 =>
      intro wq_46 kq_46
      refine WL.assign rfl rfl (?_)
      refine WL.nil ?_
      exact WX.one ⟨rfl, by exact Chg.refl _ _⟩
    refine DQ.done (fun _ => ?_)
    refine DL.done (fun we_47 ke_47 => ?_)
    have zs_ke_47 := ke_47.size
    replace hs := hs.pure ke_47
    replace hk := hk.pure ke_47
    replace h6 := h6.pure ke_47
    replace h7 := h7.pure ke_47
    replace hw := hw.pure ke_47
    refine WX.then_normal (WC.seq (?_))
    refine WC.draw (Nob) [0, 1, 2, 3, 4, 5, 6, 7, 8, 9, 10, 11, 12, 13, 14, 15, 16, 17, 18, 19, 20, 21, 22, 23, 24] [] mixed rfl rfl (fun wd_48 kd_48 zd_48 => ?_)
    have zs_kd_48 := kd_48.size
    replace hs := hs.pure kd_48
    replace hk := hk.pure kd_48
    replace h6 := h6.pure kd_48
    replace h7 := h7.pure kd_48
    replace hw := hw.pure kd_48
    apply DQ.step (E' := [(10, _)])
    case ho => rfl
    case hs => exact ⟨rfl, trivial⟩
    case hk => rfl
    case h1 =>
      intro wq_49 kq_49
      refine WL.move rfl rfl (?_)
      refine WL.nil ?_
      exact WX.one ⟨rfl, by exact Chg.refl _ _⟩
    apply DQ.step (E' := [(58, _)])
    case ho => rfl
    case hs => exact ⟨rfl, trivial⟩
    case hk => rfl
    case h1 =>
      intro wq_50 kq_50
      have zs_kq_50 := kq_50.size
      replace hs := hs.pure kq_50
      replace hk := hk.pure kq_50
      replace h6 := h6.pure kq_50
      replace h7 := h7.pure kq_50
      replace hw := hw.pure kq_50
      refine WL.call eg_114 rfl rfl (ror_calls V.a 2 _ (by decide)) ?_
      rintro v w4 ⟨rfl, k4⟩
      have zs_k4 := k4.size
      replace hs := hs.pure k4
      replace hk := hk.pure k4
      replace h6 := h6.pure k4
      replace h7 := h7.pure k4
      replace hw := hw.pure k4
      refine WL.nil ?_
      exact WX.one ⟨rfl, by assumption⟩
    apply DQ.step (E' := [(10, _)])
    case ho => rfl
    case hs => exact ⟨rfl, trivial⟩
    case hk => rfl
    case h1 =>
      intro wq_51 kq_51
      refine WL.move rfl rfl (?_)
      refine WL.nil ?_
      exact WX.one ⟨rfl, by exact Chg.refl _ _⟩
    apply DQ.step (E' := [(60, _)])
    case ho => rfl
    case hs => exact ⟨rfl, trivial⟩
    case hk => rfl
    case h1 =>
      intro wq_52 kq_52
      have zs_kq_52 := kq_52.size
      replace hs := hs.pure kq_52
      replace hk := hk.pure kq_52
      replace h6 := h6.pure kq_52
      replace h7 := h7.pure kq_52
      replace hw := hw.pure kq_52
      refine WL.call eg_114 rfl rfl (ror_calls V.a 13 _ (by decide)) ?_
      rintro v w4 ⟨rfl, k4⟩
      have zs_k4 := k4.size
      replace hs := hs.pure k4
      replace hk := hk.pure k4
      replace h6 := h6.pure k4
      replace h7 := h7.pure k4
      replace hw := hw.pure k4
      refine WL.nil ?_
      exact WX.one ⟨rfl, by assumption⟩
    apply DQ.step (E' := [(59, _), (61, _)])
    case ho => rfl
    case hs => exact ⟨rfl, rfl, trivial⟩
    case hk => rfl
    case h1 =>
      intro wq_53 kq_53
      refine WL.num rfl rfl (n_xor32 _ _ _ _) rfl (?_)
      refine WL.nil ?_
      exact WX.one ⟨rfl, by exact Chg.refl _ _⟩
    apply DQ.step (E' := [(10, _)])
    case ho => rfl
    case hs => exact ⟨rfl, trivial⟩
    case hk => rfl
    case h1 =>
      intro wq_54 kq_54
      refine WL.move rfl rfl (?_)
      refine WL.nil ?_
      exact WX.one ⟨rfl, by exact Chg.refl _ _⟩
    apply DQ.step (E' := [(63, _)])
    case ho => rfl
    case hs => exact ⟨rfl, trivial⟩
    case hk => rfl
    case h1 =>
      intro wq_55 kq_55
      have zs_kq_55 := kq_55.size
      replace hs := hs.pure kq_55
      replace hk := hk.pure kq_55
      replace h6 := h6.pure kq_55
      replace h7 := h7.pure kq_55
      replace hw := hw.pure kq_55
      refine WL.call eg_114 rfl rfl (ror_calls V.a 22 _ (by decide)) ?_
      rintro v w4 ⟨rfl, k4⟩
      have zs_k4 := k4.size
      replace hs := hs.pure k4
      replace hk := hk.pure k4
      replace h6 := h6.pure k4
      replace h7 := h7.pure k4
      replace hw := hw.pure k4
      refine WL.nil ?_
      exact WX.one ⟨rfl, by assumption⟩
    apply DQ.step (E' := [(62, _), (64, _)])
    case ho => rfl
    case hs => exact ⟨rfl, rfl, trivial⟩
    case hk => rfl
    case h1 =>
      intro wq_56 kq_56
      refine WL.num rfl rfl (n_xor32 _ _ _ _) rfl (?_)
      refine WL.nil ?_
      exact WX.one ⟨rfl, by exact Chg.refl _ _⟩
    apply DQ.step (E' := [(10, _)])
    case ho => rfl
    case hs => exact ⟨rfl, trivial⟩
    case hk => rfl
    case h1 =>
      intro wq_57 kq_57
      refine WL.move rfl rfl (?_)
      refine WL.nil ?_
      exact WX.one ⟨rfl, by exact Chg.refl _ _⟩
    apply DQ.step (E' := [(7, _)])
    case ho => rfl
    case hs => exact ⟨rfl, trivial⟩
    case hk => rfl
    case h1 =>
      intro wq_58 kq_58
      have zs_kq_58 := kq_58.size
      replace hs := hs.pure kq_58
      replace hk := hk.pure kq_58
      replace h6 := h6.pure kq_58
      replace h7 := h7.pure kq_58
      replace hw := hw.pure kq_58
      refine WL.indexArr 1 Tryd.underlying161 Tryd.sizeOf159 rfl rfl ⟨rfl, by decide⟩ rfl (?_)
      refine WL.nil ?_
      exact WX.one ⟨rfl, by exact Chg.refl _ _⟩
    apply DQ.step (E' := [(67, _)])
    case ho => rfl
    case hs => exact ⟨rfl, trivial⟩
    case hk => rfl
    case h1 =>
      intro wq_59 kq_59
      have zs_kq_59 := kq_59.size
      replace hs := hs.pure kq_59
      replace hk := hk.pure kq_59
      replace h6 := h6.pure kq_59
      replace h7 := h7.pure kq_59
      replace hw := hw.pure kq_59
      refine WL.loadB Tryd.isAgg159 h7 rfl rfl rfl (?_)
      refine WL.nil ?_
      exact WX.one ⟨rfl, by exact Chg.refl _ _⟩
    apply DQ.step (E' := [(66, _), (68, _)])
    case ho => rfl
    case hs => exact ⟨rfl, rfl, trivial⟩
    case hk => rfl
    case h1 =>
      intro wq_60 kq_60
      refine WL.num rfl rfl (n_and32 _ _ _ _) rfl (?_)
      refine WL.nil ?_
      exact WX.one ⟨rfl, by exact Chg.refl _ _⟩
    apply DQ.step (E' := [(10, _)])
    case ho => rfl
    case hs => exact ⟨rfl, trivial⟩
    case hk => rfl
    case h1 =>
      intro wq_61 kq_61
      refine WL.move rfl rfl (?_)
      refine WL.nil ?_
      exact WX.one ⟨rfl, by exact Chg.refl _ _⟩
    apply DQ.step (E' := [(7, _)])
    case ho => rfl
    case hs => exact ⟨rfl, trivial⟩
    case hk => rfl
    case h1 =>
      intro wq_62 kq_62
      have zs_kq_62 := kq_62.size
      replace hs := hs.pure kq_62
      replace hk := hk.pure kq_62
      replace h6 := h6.pure kq_62
      replace h7 := h7.pure kq_62
      replace hw := hw.pure kq_62
      refine WL.indexArr 2 Tryd.underlying161 Tryd.sizeOf159 rfl rfl ⟨rfl, by decide⟩ rfl (?_)
      refine WL.nil ?_
      exact WX.one ⟨rfl, by exact Chg.refl _ _⟩
    apply DQ.step (E' := [(71, _)])
    case ho => rfl
    case hs => exact ⟨rfl, trivial⟩
    case hk => rfl
    case h1 =>
      intro wq_63 kq_63
      have zs_kq_63 := kq_63.size
      replace hs := hs.pure kq_63
      replace hk := hk.pure kq_63
      replace h6 := h6.pure kq_63
      replace h7 := h7.pure kq_63
      replace hw := hw.pure kq_63
      refine WL.loadB Tryd.isAgg159 h7 rfl rfl rfl (?_)
      refine WL.nil ?_
      exact WX.one ⟨rfl, by exact Chg.refl _ _⟩
    apply DQ.step (E' := [(70, _), (72, _)])
    case ho => rfl
    case hs => exact ⟨rfl, rfl, trivial⟩
    case hk => rfl
    case h1 =>
      intro wq_64 kq_64
      refine WL.num rfl rfl (n_and32 _ _ _ _) rfl (?_)
      refine WL.nil ?_
      exact WX.one ⟨rfl, by exact Chg.refl _ _⟩
    apply DQ.step (E' := [(69, _), (73, _)])
    case ho => rfl
    case hs => exact ⟨rfl, rfl, trivial⟩
    case hk => rfl
    case h1 =>
      intro wq_65 kq_65
      refine WL.num rfl rfl (n_xor32 _ _ _ _) rfl (?_)
      refine WL.nil ?_
      exact WX.one ⟨rfl, by exact Chg.refl _ _⟩
    apply DQ.step (E' := [(7, _)])
    case ho => rfl
    case hs => exact ⟨rfl, trivial⟩
    case hk => rfl
    case h1 =>
      intro wq_66 kq_66
      have zs_kq_66 := kq_66.size
      replace hs := hs.pure kq_66
      replace hk := hk.pure kq_66
      replace h6 := h6.pure kq_66
      replace h7 := h7.pure kq_66
      replace hw := hw.pure kq_66
      refine WL.indexArr 1 Tryd.underlying161 Tryd.sizeOf159 rfl rfl ⟨rfl, by decide⟩ rfl (?_)
      refine WL.nil ?_
      exact WX.one ⟨rfl, by exact Chg.refl _ _⟩
    apply DQ.step (E' := [(75, _)])
    case ho => rfl
    case hs => exact ⟨rfl, trivial⟩
    case hk => rfl
    case h1 =>
      intro wq_67 kq_67
      have zs_kq_67 := kq_67.size
      replace hs := hs.pure kq_67
      replace hk := hk.pure kq_67
      replace h6 := h6.pure kq_67
      replace h7 := h7.pure kq_67
      replace hw := hw.pure kq_67
      refine WL.loadB Tryd.isAgg159 h7 rfl rfl rfl (?_)
      refine WL.nil ?_
      exact WX.one ⟨rfl, by exact Chg.refl _ _⟩
    apply DQ.step (E' := [(7, _)])
    case ho => rfl
    case hs => exact ⟨rfl, trivial⟩
    case hk => rfl
    case h1 =>
      intro wq_68 kq_68
      have zs_kq_68 := kq_68.size
      replace hs := hs.pure kq_68
      replace hk := hk.pure kq_68
      replace h6 := h6.pure kq_68
      replace h7 := h7.pure kq_68
      replace hw := hw.pure kq_68
      refine WL.indexArr 2 Tryd.underlying161 Tryd.sizeOf159 rfl rfl ⟨rfl, by decide⟩ rfl (?_)
      refine WL.nil ?_
      exact WX.one ⟨rfl, by exact Chg.refl _ _⟩
    apply DQ.step (E' := [(77, _)])
    case ho => rfl
    case hs => exact ⟨rfl, trivial⟩
    case hk => rfl
    case h1 =>
      intro wq_69 kq_69
      have zs_kq_69 := kq_69.size
      replace hs := hs.pure kq_69
      replace hk := hk.pure kq_69
      replace h6 := h6.pure kq_69
      replace h7 := h7.pure kq_69
      replace hw := hw.pure kq_69
      refine WL.loadB Tryd.isAgg159 h7 rfl rfl rfl (?_)
      refine WL.nil ?_
      exact WX.one ⟨rfl, by exact Chg.refl _ _⟩
    apply DQ.step (E' := [(76, _), (78, _)])
    case ho => rfl
    case hs => exact ⟨rfl, rfl, trivial⟩
    case hk => rfl
    case h1 =>
      intro wq_70 kq_70
      refine WL.num rfl rfl (n_and32 _ _ _ _) rfl (?_)
      refine WL.nil ?_
      exact WX.one ⟨rfl, by exact Chg.refl _ _⟩
    apply DQ.step (E' := [(74, _), (79, _)])
    case ho => rfl
    case hs => exact ⟨rfl, rfl, trivial⟩
    case hk => rfl
    case h1 =>
      intro wq_71 kq_71
      refine WL.num rfl rfl (n_xor32 _ _ _ _) rfl (?_)
      refine WL.nil ?_
      exact WX.one ⟨rfl, by exact Chg.refl _ _⟩
    apply DQ.step (E' := [(65, _), (80, _)])
    case ho => rfl
    case hs => exact ⟨rfl, rfl, trivial⟩
    case hk => rfl
    case h1 =>
      intro wq_72 kq_72
      refine WL.num rfl rfl (n_add32 _ _ _ _) rfl (?_)
      refine WL.nil ?_
      exact WX.one ⟨rfl, by exact Chg.refl _ _⟩
    apply DQ.step (E' := [(81, _)])
    case ho => rfl
    case hs => exact ⟨rfl, trivial⟩
    case hk => rfl
    case h1 =>
      intro wq_73 kq_73
      refine WL.assign rfl rfl (?_)
      refine WL.nil ?_
      exact WX.one ⟨rfl, by exact Chg.refl _ _⟩
    refine DQ.done (fun _ => ?_)
    refine DL.done (fun we_74 ke_74 => ?_)
    have zs_ke_74 := ke_74.size
    replace hs := hs.pure ke_74
    replace hk := hk.pure ke_74
    replace h6 := h6.pure ke_74
    replace h7 := h7.pure ke_74
    replace hw := hw.pure ke_74
    refine WX.then_normal (WC.region (WL.move rfl rfl (WL.move rfl rfl (WL.num rfl rfl (n_add32 _ _ _ _) rfl (WL.indexArr 0 Tryd.underlying161 Tryd.sizeOf159 rfl rfl ⟨rfl, by decide⟩ rfl (WL.loadB Tryd.isAgg159 h7 rfl rfl rfl (WL.indexArr 1 Tryd.underlying161 Tryd.sizeOf159 rfl rfl ⟨rfl, by decide⟩ rfl (?_))))))))
    refine WL.loadB Tryd.isAgg159 h7 rfl rfl rfl (WL.indexArr 2 Tryd.underlying161 Tryd.sizeOf159 rfl rfl ⟨rfl, by decide⟩ rfl (WL.loadB Tryd.isAgg159 h7 rfl rfl rfl (WL.indexArr 3 Tryd.underlying161 Tryd.sizeOf159 rfl rfl ⟨rfl, by decide⟩ rfl (WL.loadB Tryd.isAgg159 h7 rfl rfl rfl (WL.move rfl rfl (WL.num rfl rfl (n_add32 _ _ _ _) rfl (WL.indexArr 4 Tryd.underlying161 Tryd.sizeOf159 rfl rfl ⟨rfl, by decide⟩ rfl (?_))))))))
    refine WL.loadB Tryd.isAgg159 h7 rfl rfl rfl (WL.indexArr 5 Tryd.underlying161 Tryd.sizeOf159 rfl rfl ⟨rfl, by decide⟩ rfl (WL.loadB Tryd.isAgg159 h7 rfl rfl rfl (WL.indexArr 6 Tryd.underlying161 Tryd.sizeOf159 rfl rfl ⟨rfl, by decide⟩ rfl (WL.loadB Tryd.isAgg159 h7 rfl rfl rfl (WL.bld rfl (bld_161_0_1_2_3_4_5_6_7 _ _ _ _ _ _ _ _) rfl (?_))))))
    refine WL.stores Tryd.sizeOf161 h7 rfl rfl (by simp; done) (by simp [Value.oneCell']; done) (by simp; done) rfl ?_
    intro w_75 hs_75 hn_75 k_75
    have zs_k_75 := k_75.size
    replace hs := hs.chg k_75 (by intro h1; have h2 : _ = _ := h1; exfalso; omega)
    replace hk := hk.chg k_75 (by intro h1; have h2 : _ = _ := h1; exfalso; omega)
    replace h6 := h6.chg k_75 (by intro h1; have h2 : _ = _ := h1; exfalso; omega)
    replace hw := hw.chg k_75 (by intro x h1 h2; have h3 : _ = _ := h2; exfalso; omega)
    replace h7 := hn_75
    refine WL.nil (WX.block_normal (WX.then_normal (WC.region (WL.add64 rfl rfl (by omega) rfl (WL.move rfl rfl (WL.nil (?_)))))))
    first
      | (refine WX.loop_next (t + 1) ⟨rfl, rfl, rfl, rfl, rfl, trivial⟩ ⟨by omega, hs, hk, h6, ?_, hw⟩ (by show _ - _ < _ - _; omega)
         rw [roundsN, ← hV]
         exact h7)
      | (refine WX.loop_next (i + 1) ⟨rfl, rfl, rfl, trivial⟩ ⟨by omega, ?_, h7, hw⟩ (by show _ - _ < _ - _; omega)
         rw [← f3, List.map_set]
         exact hs)
  ·
    refine WL.nil (WX.then_normal (WC.seq (WC.cond_false rfl (WC.exit (WX.then_exit (WX.then_exit (WX.block_here (?_))))))))
    refine WX.then_normal (WC.seq (WC.region (WL.move rfl rfl (WL.nil (WX.then_normal (WC.block (?_)))))))
    have ht64 : t = 64 := by omega
    rw [ht64] at hV
    refine WC.loop (σ := Nat) (fun i => [(0, .pointer (some ⟨gs, 0, none⟩)), (7, .pointer (some ⟨g_3, 0, none⟩)), (103, vi i)])
      (fun i w' => i ≤ 8 ∧ Blk w' gs 161 ((addTo s V i).map v32) ∧ Blk w' g_3 161 (V.list.map v32) ∧ Chg (fun x => x = gs) w w') (fun i => 8 - i) 0 ⟨rfl, rfl, rfl, trivial⟩ ⟨by omega, hs, h7, hw.mono (fun _ _ h => h.elim)⟩ ?_
    clear hs hk h6 h7 hw
    rintro i w9 ⟨hi, hs, h7, hw⟩
    refine WC.seq (WC.region (?_))
    refine WL.lss? rfl rfl rfl (fun h104 => ?_) (fun h104 => ?_)
    ·
      refine WL.nil (WX.then_normal (WC.seq (WC.cond_true rfl (WC.skip (WX.then_normal (WC.seq (WC.block (?_))))))))
      refine WC.seq (WC.region (WL.move rfl rfl (WL.assign rfl rfl (WL.nil (WX.then_normal (?_))))))
      obtain ⟨f1, f2, f3⟩ := addTo_at (s := s) (v := V) (i := i) (by omega)
      have hal := addTo_len s V i (by omega)
      refine WC.draw (fun x => x = gs) [0, 1, 2, 3, 5, 6, 7, 9, 10] [4, 8, 11] mixed rfl rfl (fun wd_5 kd_5 zd_5 => ?_)
      have zs_kd_5 := kd_5.size
      replace hs := hs.pure kd_5
      replace h7 := h7.pure kd_5
      replace hw := hw.pure kd_5
      apply DQ.step (E' := [(0, _)])
      case ho => rfl
      case hs => exact ⟨rfl, trivial⟩
      case hk => rfl
      case h1 =>
        intro wq_7 kq_7
        refine WL.move rfl rfl (?_)
        refine WL.nil ?_
        exact WX.one ⟨rfl, by exact Chg.refl _ _⟩
      apply DQ.step (E' := [(13, _)])
      case ho => rfl
      case hs => exact ⟨rfl, trivial⟩
      case hk => rfl
      case h1 =>
        intro wq_8 kq_8
        refine WL.move rfl rfl (?_)
        refine WL.nil ?_
        exact WX.one ⟨rfl, by exact Chg.refl _ _⟩
      apply DQ.step (E' := [(106, _)])
      case ho => rfl
      case hs => exact ⟨rfl, trivial⟩
      case hk => rfl
      case h1 =>
        intro wq_9 kq_9
        refine WL.nilCheck rfl rfl (?_)
        refine WL.nil ?_
        exact WX.one ⟨rfl, by exact Chg.refl _ _⟩
      apply DQ.step (E' := [(108, _), (107, _)])
      case ho => rfl
      case hs => exact ⟨rfl, rfl, trivial⟩
      case hk => rfl
      case h1 =>
        intro wq_10 kq_10
        have zs_kq_10 := kq_10.size
        replace h7 := h7.chg kq_10 (by intro h1; have h2 : _ = _ := h1; exfalso; omega)
        refine WL.indexArr (i) Tryd.underlying161 Tryd.sizeOf159 rfl rfl ⟨by omega, by omega⟩ rfl ?_
        refine WL.nil ?_
        exact WX.one ⟨rfl, by exact Chg.refl _ _⟩
      apply DQ.step (E' := [(13, _)])
      case ho => rfl
      case hs => exact ⟨rfl, trivial⟩
      case hk => rfl
      case h1 =>
        intro wq_11 kq_11
        refine WL.move rfl rfl (?_)
        refine WL.nil ?_
        exact WX.one ⟨rfl, by exact Chg.refl _ _⟩
      apply DQ.step (E' := [(7, _), (111, _)])
      case ho => rfl
      case hs => exact ⟨rfl, rfl, trivial⟩
      case hk => rfl
      case h1 =>
        intro wq_12 kq_12
        have zs_kq_12 := kq_12.size
        replace h7 := h7.chg kq_12 (by intro h1; have h2 : _ = _ := h1; exfalso; omega)
        refine WL.indexArr (i) Tryd.underlying161 Tryd.sizeOf159 rfl rfl ⟨by omega, by omega⟩ rfl ?_
        refine WL.nil ?_
        exact WX.one ⟨rfl, by exact Chg.refl _ _⟩
      apply DQ.step (E' := [(112, _)])
      case ho => rfl
      case hs => exact ⟨rfl, trivial⟩
      case hk => rfl
      case h1 =>
        intro wq_13 kq_13
        have zs_kq_13 := kq_13.size
        replace h7 := h7.chg kq_13 (by intro h1; have h2 : _ = _ := h1; exfalso; omega)
        refine WL.loadB Tryd.isAgg159 h7 rfl (map_at _ f2) rfl (?_)
        refine WL.nil ?_
        exact WX.one ⟨rfl, by exact Chg.refl _ _⟩
      apply DQ.step (E' := [(106, _)])
      case ho => rfl
      case hs => exact ⟨rfl, trivial⟩
      case hk => rfl
      case h1 =>
        intro wq_14 kq_14
        refine WL.nilCheck rfl rfl (?_)
        refine WL.nil ?_
        exact WX.one ⟨rfl, by exact Chg.refl _ _⟩
      apply DQ.step (E' := [(115, _), (107, _)])
      case ho => rfl
      case hs => exact ⟨rfl, rfl, trivial⟩
      case hk => rfl
      case h1 =>
        intro wq_15 kq_15
        have zs_kq_15 := kq_15.size
        replace h7 := h7.chg kq_15 (by intro h1; have h2 : _ = _ := h1; exfalso; omega)
        refine WL.indexArr (i) Tryd.underlying161 Tryd.sizeOf159 rfl rfl ⟨by omega, by omega⟩ rfl ?_
        refine WL.nil ?_
        exact WX.one ⟨rfl, by exact Chg.refl _ _⟩
      refine DQ.done (fun hd_6 => ?_)
      refine DL.step [(109, _)] rfl ⟨rfl, trivial⟩ rfl (fun wq_16 kq_16 => ?_)
      have zs_kq_16 := kq_16.size
      replace hs := hs.pure kq_16
      replace h7 := h7.pure kq_16
      replace hw := hw.pure kq_16
      replace hd_6 := hd_6.pure kq_16
      refine WL.loadB Tryd.isAgg159 hs rfl (map_at _ f1) rfl (?_)
      refine WL.nil ?_
      refine WX.one ⟨hd_6, ?_⟩
      refine DL.step [(110, _), (113, _)] rfl ⟨rfl, rfl, trivial⟩ rfl (fun wq_17 kq_17 => ?_)
      have zs_kq_17 := kq_17.size
      replace hs := hs.pure kq_17
      replace h7 := h7.pure kq_17
      replace hw := hw.pure kq_17
      replace hd_6 := hd_6.pure kq_17
      refine WL.num rfl rfl (n_add32 _ _ _ _) rfl (?_)
      refine WL.nil ?_
      refine WX.one ⟨hd_6, ?_⟩
      refine DL.step [(116, _), (114, _)] rfl ⟨rfl, rfl, trivial⟩ rfl (fun wq_18 kq_18 => ?_)
      have zs_kq_18 := kq_18.size
      replace hs := hs.pure kq_18
      replace h7 := h7.pure kq_18
      replace hw := hw.pure kq_18
      replace hd_6 := hd_6.pure kq_18
      refine WL.store Tryd.sizeOf159 hs rfl rfl rfl (by simp; omega) ?_
      intro w_19 hs_19 hn_19 k_19
      have zs_k_19 := k_19.size
      replace h7 := h7.chg k_19 (by intro h1; have h2 : _ = _ := h1; exfalso; omega)
      replace hw := hw.chg k_19 (by intro x h1 h2; exact h2)
      replace hd_6 := hd_6.chg k_19 (by intro x h1 h2; exact h2)
      replace hs := hn_19
      refine WL.nil ?_
      refine WX.one0 (v := undef) ⟨hd_6, ?_⟩
      refine DL.done (fun we_20 ke_20 => ?_)
      have zs_ke_20 := ke_20.size
      replace hs := hs.pure ke_20
      replace h7 := h7.pure ke_20
      replace hw := hw.pure ke_20
      replace hd_6 := hd_6.pure ke_20
      refine WX.block_normal (WX.then_normal (WC.region (WL.add64 rfl rfl (by omega) rfl (WL.move rfl rfl (WL.nil (?_))))))
      first
        | (refine WX.loop_next (t + 1) ⟨rfl, rfl, rfl, rfl, rfl, trivial⟩ ⟨by omega, hs, hk, h6, ?_, hw⟩ (by show _ - _ < _ - _; omega)
           rw [roundsN, ← hV]
           exact h7)
        | (refine WX.loop_next (i + 1) ⟨rfl, rfl, rfl, trivial⟩ ⟨by omega, ?_, h7, hw⟩ (by show _ - _ < _ - _; omega)
           rw [← f3, List.map_set]
           exact hs)
    ·
      refine WL.nil (WX.then_normal (WC.seq (WC.cond_false rfl (WC.exit (WX.then_exit (WX.then_exit (WX.block_here (?_))))))))
      refine WX.ret0 (.inr rfl) Tryd.results106 ?_
      have hi8 : i = 8 := by omega
      subst hi8
      refine ⟨_, rfl, rfl, ?_, hw⟩
      rw [mix_eq, ← hws, ← hV]
      exact hs
end Go.Proofs.YtjeldcjchipdgaaDoor
namespace Go.Proofs.YtjeldcjchipdgaaDoor
open Go.RowKit Go.HL
set_option maxRecDepth 100000

/-- block after block -/
def comp (s : V8) (ms : List UInt8) : V8 := if 64 ≤ ms.length then comp (mix s (ms.take 64)) (ms.drop 64) else s
termination_by ms.length
decreasing_by simp; omega
theorem comp_more {s : V8} {ms : List UInt8} (h : 64 ≤ ms.length) : comp s ms = comp (mix s (ms.take 64)) (ms.drop 64) := by rw [comp, if_pos h]
theorem comp_end {s : V8} {ms : List UInt8} (h : ms.length < 64) : comp s ms = s := by rw [comp, if_neg (by omega)]
def bytes4 (x : UInt32) : List UInt8 := [(x >>> UInt32.ofNat 24).toUInt8, (x >>> UInt32.ofNat 16).toUInt8, (x >>> UInt32.ofNat 8).toUInt8, x.toUInt8]
def sumB (b : List UInt8) : List UInt8 := (comp st0 (padded b)).list.flatMap bytes4
theorem sumB_len (b : List UInt8) : (sumB b).length = 32 := by simp [sumB, V8.list, bytes4]
theorem padded_len (b : List UInt8) : (padded b).length % 64 = 0 := by
  simp [padded, be8]
  omega
set_option maxHeartbeats 1000000 in
theorem sum_calls {S : Nat → Prop} {w : World} {ao : Option Addr} {c : Nat} {b : List UInt8} (hr : RSl S w eb ao c b) (hl : b.length ≤ 140737488351232) :
    Calls Tryd.prog 86 [.slice ao b.length c].toArray w (Ret fun v w' => v = .string ⟨(sumB b).toArray⟩ ∧ Chg Nob w w') := by
  replace hr := hr.old
  have hw := Chg.refl Nob w
  refine Calls.of_WC Tryd.func86 rfl Tryd.ntmps86 (by simp) ?_
  refine WC.seq (WC.region (WL.assign rfl rfl (WL.nil (WX.then_normal (WC.seq (WC.region (?_)))))))
  refine WL.call eg_103 rfl rfl (begin_calls _) ?_
  rintro v w1 ⟨rfl, k⟩
  rw [V8.cells_eq]
  have zs_k := k.size
  replace hr := hr.pure k
  replace hw := hw.pure k
  refine WL.call eg_104 rfl rfl (rounds_calls _) ?_
  rintro v w1 ⟨rfl, k⟩
  have zs_k := k.size
  replace hr := hr.pure k
  replace hw := hw.pure k
  refine WL.alloc Tryd.zeroValue161 rfl ?_
  intro g_1 w_1 hge_1 hlt_1 hb_1 k_1
  have zs_k_1 := k_1.size
  replace hr := hr.pure k_1
  replace hw := hw.pure k_1
  refine WL.alloc Tryd.zeroValue163 rfl ?_
  intro g_2 w_2 hge_2 hlt_2 hb_2 k_2
  have zs_k_2 := k_2.size
  replace hr := hr.pure k_2
  replace hw := hw.pure k_2
  replace hb_1 := hb_1.pure k_2
  refine WL.stores Tryd.sizeOf161 hb_1 rfl rfl (by rfl) (by intro u hu; obtain ⟨x, _, rfl⟩ := List.mem_map.1 hu; rfl) (by exact Nat.le_of_ble_eq_true rfl) rfl ?_
  intro w_3 hs_3 hn_3 k_3
  have zs_k_3 := k_3.size
  replace hr := hr.chg k_3 (by intro b h1 h2 h3; have h4 : _ = _ := h3; (try dsimp only at h2); exfalso; omega)
  replace hw := hw.chg k_3 (by intro x h1 h2; have h3 : _ = _ := h2; exfalso; omega)
  replace hb_2 := hb_2.chg k_3 (by intro h1; have h2 : _ = _ := h1; exfalso; omega)
  replace hb_1 := hn_3
  refine WL.stores Tryd.sizeOf163 hb_2 rfl rfl (by rfl) (by intro u hu; obtain ⟨x, _, rfl⟩ := List.mem_map.1 hu; rfl) (by exact Nat.le_of_ble_eq_true rfl) rfl ?_
  intro w_4 hs_4 hn_4 k_4
  have zs_k_4 := k_4.size
  replace hr := hr.chg k_4 (by intro b h1 h2 h3; have h4 : _ = _ := h3; (try dsimp only at h2); exfalso; omega)
  replace hw := hw.chg k_4 (by intro x h1 h2; have h3 : _ = _ := h2; exfalso; omega)
  replace hb_1 := hb_1.chg k_4 (by intro h1; have h2 : _ = _ := h1; exfalso; omega)
  replace hb_2 := hn_4
  refine WL.nil (WX.then_normal (WC.seq (WC.seq (WC.region (WL.move rfl rfl (?_))))))
  have hr2 := hr.old
  refine WL.call eg_105 rfl rfl (pad_calls hr2 hl) ?_
  rintro v w1 ⟨⟨a1, c1, rfl, hq⟩, k⟩
  have zs_k := k.size
  replace hw := hw.pure k
  replace hb_1 := hb_1.pure k
  replace hb_2 := hb_2.pure k
  refine WL.assign rfl rfl (WL.nil (WX.then_normal (WC.block (?_))))
  have e6 : ∀ zs : List Value, zs.length = 64 → List.take 0 zs ++ List.map v32 K256 ++ List.drop (0 + (List.map v32 K256).length) zs = List.map v32 K256 := by
    intro zs hz
    rw [List.drop_eq_nil_of_le (by simp [K256]; omega)]
    simp
  rw [e6 _ rfl] at hb_2
  have hm : RSl (fun x => g_1 < x ∧ g_2 < x) _ eb a1 c1 (padded b) := hq.rsl.mono (fun x h => by constructor <;> omega)
  refine WC.loop (σ := V8 × List UInt8 × Option Addr × Nat) (fun q => [(3, .pointer (some ⟨g_1, 0, none⟩)), (4, .pointer (some ⟨g_2, 0, none⟩)), (5, .slice q.2.2.1 q.2.1.length q.2.2.2)])
    (fun q w' => comp q.1 q.2.1 = comp st0 (padded b) ∧ q.2.1.length % 64 = 0 ∧ q.2.1.length ≤ 140737488355328 ∧ Blk w' g_1 161 q.1.cells ∧ Blk w' g_2 163 (K256.map v32) ∧ RSl (fun x => g_1 < x ∧ g_2 < x) w' eb q.2.2.1 q.2.2.2 q.2.1 ∧ Chg Nob w w') (fun q => q.2.1.length) (st0, padded b, a1, c1) ⟨rfl, rfl, rfl, trivial⟩ ⟨rfl, padded_len b, by simp [padded, be8]; omega, hb_1, hb_2, hm, hw⟩ ?_
  clear hr hw hq hm hb_1 hb_2
  rintro ⟨s, ms, am, cm⟩ w9 ⟨hcm, hm64, hmle, hb1, hb2, hm, hw⟩
  dsimp only at hcm hm64 hmle hb1 hb2 hm hw ⊢
  refine WC.seq (WC.seq (WC.region (WL.move rfl rfl (WL.len Tryd.underlying26 rfl rfl (?_)))))
  refine WL.gtr? rfl rfl rfl (fun h15 => ?_) (fun h15 => ?_)
  ·
    refine WL.nil (WX.then_normal (WC.cond_true rfl (WC.skip (WX.then_normal (WC.seq (WC.block (WC.region (?_))))))))
    refine WL.move rfl rfl (?_)
    refine WL.slice (l := 0) (h := 64) (k := .i64) Tryd.underlying26 Tryd.sizeOf5 hm rfl (.inr ⟨rfl, rfl⟩) (.inl rfl) (by constructor <;> omega) rfl ?_
    intro a_hc c_hc hc n_hc
    rw [List.drop_zero] at hc ⊢
    refine WL.call eg_106 rfl rfl (mix_calls hb1 hb2 hc (by simp; omega) (by omega)) ?_
    rintro v w1 ⟨rfl, hb1', k⟩
    have zs_k := k.size
    replace hb2 := hb2.chg k (by intro h1; have h2 : _ = _ := h1; exfalso; omega)
    replace hm := hm.chg k (by intro b h1 h2 h3; have h4 : _ = _ := h3; (try dsimp only at h2); exfalso; omega)
    replace hw := hw.chg k (by intro x h1 h2; have h3 : _ = _ := h2; exfalso; omega)
    replace hb1 := hb1'
    refine WL.nil (WX.block_normal (WX.then_normal (WC.region (WL.move rfl rfl (?_)))))
    refine WL.slice (l := 64) (h := ms.length) (j := .i64) Tryd.underlying26 Tryd.sizeOf5 hm rfl (.inl rfl) (.inr ⟨rfl, rfl⟩) (by constructor <;> omega) rfl ?_
    intro a_hm2 c_hm2 hm2 n_hm2
    refine WL.assign rfl rfl (WL.nil (?_))
    first
      | (rw [List.take_length] at hm2 ⊢
         have hml : 64 ≤ ms.length := by omega
         refine WX.loop_next (mix s (ms.take 64), ms.drop 64, a_hm2, c_hm2) ⟨rfl, rfl, rfl, trivial⟩ ⟨by rw [← hcm, comp_more hml], by simp; omega, by simp; omega, hb1, hb2, hm2, hw⟩ (by show (ms.drop 64).length < ms.length; simp; omega))
      | (have e1 : (s.list.take (i + 1)).flatMap bytes4 = (s.list.take i).flatMap bytes4 ++ bytes4 (s.list.getD i 0) := by
           rw [List.take_add_one, fv, List.flatMap_append]
           simp
         refine WX.loop_next (i + 1, a_hq2, c_hq2) ⟨rfl, rfl, ?_, trivial⟩ ⟨by dsimp only; omega, ?_, hw⟩ (by show _ - _ < _ - _; omega)
         ·
           dsimp only; rw [e1]; rfl
         ·
           dsimp only; rw [e1]; exact hq2)
  ·
    refine WL.nil (WX.then_normal (WC.cond_false rfl (WC.exit (WX.then_exit (WX.then_exit (WX.block_here (WX.then_normal (?_))))))))
    refine WC.seq (WC.region (?_))
    have zw9 := hw.size
    refine WL.make (e := eb) (0 : UInt8) 0 32 Tryd.underlying26 info_5 rfl rfl rfl ⟨rfl, rfl, by decide⟩ (by decide) rfl ?_
    intro gq wq hq kq zq eq_
    rw [show List.replicate 0 (0 : UInt8) = [] from rfl] at hq ⊢
    have zs_kq := kq.size
    replace hb1 := hb1.pure kq
    replace hb2 := hb2.pure kq
    replace hm := hm.pure kq
    replace hw := hw.pure kq
    refine WL.assign rfl rfl (WL.nil (WX.then_normal (WC.seq (WC.seq (WC.region (WL.loadsB Tryd.isAgg161 Tryd.sizeOf161 hb1 rfl (by rfl) rfl (WL.move rfl rfl (?_))))))))
    refine WL.nil (WX.then_normal (WC.block (?_)))
    have hs0 : s = comp st0 (padded b) := by rw [← hcm, comp_end (by omega)]
    have hq0 : Row (w.heap.size ≤ ·) wq 5 eb (some ⟨gq, 0, none⟩) 32 ([] : List UInt8) := hq.mono (fun b h => by omega)
    refine WC.loop (σ := Nat × Option Addr × Nat) (fun q => [(22, .agg s.cells.toArray), (23, vi q.1), (6, .slice q.2.1 ((s.list.take q.1).flatMap bytes4).length q.2.2)])
      (fun q w' => q.1 ≤ 8 ∧ Row (w.heap.size ≤ ·) w' 5 eb q.2.1 q.2.2 ((s.list.take q.1).flatMap bytes4) ∧ Chg Nob w w') (fun q => 8 - q.1) (0, some ⟨gq, 0, none⟩, 32) ⟨rfl, rfl, rfl, trivial⟩ ⟨by simp, by simpa using hq0, hw⟩ ?_
    clear hm hb1 hb2 hq hw hq0
    rintro ⟨i, ai, ci⟩ w8 ⟨hi, hq, hw⟩
    dsimp only at hi hq hw ⊢
    have zw := hw.size
    have hlen : ((s.list.take i).flatMap bytes4).length = 4 * i := by
      have h9 : i = 0 ∨ i = 1 ∨ i = 2 ∨ i = 3 ∨ i = 4 ∨ i = 5 ∨ i = 6 ∨ i = 7 ∨ i = 8 := by omega
      rcases h9 with rfl | rfl | rfl | rfl | rfl | rfl | rfl | rfl | rfl <;> rfl
    refine WC.seq (WC.region (?_))
    refine WL.lss? rfl rfl rfl (fun h24 => ?_) (fun h24 => ?_)
    ·
      refine WL.nil (WX.then_normal (WC.seq (WC.cond_true rfl (WC.skip (WX.then_normal (WC.seq (WC.block (?_))))))))
      refine WC.seq (WC.region (?_))
      have fv := getD_at (xs := s.list) (i := i) (by show i < 8; omega)
      refine WL.indexV i Tryd.underlying161 Tryd.sizeOf159 Tryd.isAgg159 rfl rfl ⟨rfl, by omega⟩ (map_at v32 fv) rfl ?_
      refine WL.assign rfl rfl (WL.nil (WX.then_normal (WC.region (WL.move rfl rfl (WL.move rfl rfl (WL.num rfl rfl (n_shr32 _ _ _ _ 24 (by decide)) rfl (WL.c_u32_u8 Tryd.underlying159 Tryd.underlying5 rfl rfl (?_))))))))
      refine WL.move rfl rfl (WL.num rfl rfl (n_shr32 _ _ _ _ 16 (by decide)) rfl (WL.c_u32_u8 Tryd.underlying159 Tryd.underlying5 rfl rfl (WL.move rfl rfl (WL.num rfl rfl (n_shr32 _ _ _ _ 8 (by decide)) rfl (WL.c_u32_u8 Tryd.underlying159 Tryd.underlying5 rfl rfl (WL.move rfl rfl (WL.c_u32_u8 Tryd.underlying159 Tryd.underlying5 rfl rfl (?_))))))))
      refine WL.build (e := eb) (bytes4 (s.list.getD i 0)) Tryd.underlying26 Tryd.sizeOf5 Tryd.zeroValue5 rfl rfl rfl (by simp [Value.cells] <;> rfl) (by decide) rfl ?_
      intro a_hn w_hn hn l_hn z_hn k_hn
      have zs_k_hn := k_hn.size
      replace hq := hq.pure k_hn
      replace hw := hw.pure k_hn
      refine WL.append (e := eb) info_5 rfl Tryd.underlying26 rfl rfl hq (hn.rsl.src Tryd.underlying26) (by (try simp only [List.length_append, List.length_cons, List.length_nil] at *); omega) (by intro b hb; first | (apply hS; omega) | ((try dsimp only); omega)) rfl ?_
      intro a_hq2 c_hq2 w_hq2 hq2 g_hq2 n_hq2
      have z_hq2 := g_hq2.chg.size
      have zs_g_hq2_chg := g_hq2.chg.size
      replace hw := hw.chg g_hq2.chg (by intros; exfalso; (try dsimp only at *); omega)
      refine WL.assign rfl rfl (WL.nil (WX.block_normal (WX.then_normal (WC.region (WL.add64 rfl rfl (by omega) rfl (WL.move rfl rfl (WL.nil (?_))))))))
      first
        | (rw [List.take_length] at hm2 ⊢
           have hml : 64 ≤ ms.length := by omega
           refine WX.loop_next (mix s (ms.take 64), ms.drop 64, a_hm2, c_hm2) ⟨rfl, rfl, rfl, trivial⟩ ⟨by rw [← hcm, comp_more hml], by simp; omega, by simp; omega, hb1, hb2, hm2, hw⟩ (by show (ms.drop 64).length < ms.length; simp; omega))
        | (have e1 : (s.list.take (i + 1)).flatMap bytes4 = (s.list.take i).flatMap bytes4 ++ bytes4 (s.list.getD i 0) := by
             rw [List.take_add_one, fv, List.flatMap_append]
             simp
           refine WX.loop_next (i + 1, a_hq2, c_hq2) ⟨rfl, rfl, ?_, trivial⟩ ⟨by dsimp only; omega, ?_, hw⟩ (by show _ - _ < _ - _; omega)
           ·
             dsimp only; rw [e1]; rfl
           ·
             dsimp only; rw [e1]; exact hq2)
    ·
      refine WL.nil (WX.then_normal (WC.seq (WC.cond_false rfl (WC.exit (WX.then_exit (WX.then_exit (WX.block_here (?_))))))))
      refine WX.then_normal (WC.seq (WC.region (WL.move rfl rfl (WL.toStr Tryd.underlying26 Tryd.underlying5 Tryd.underlying9 hq.rsl rfl rfl (WL.assign rfl rfl (WL.nil (WX.then_normal (?_))))))))
      refine WC.ret (?_)
      refine WX.ret1 (.inl rfl) Tryd.results86 rfl ?_
      have h8 : i = 8 := by omega
      subst h8
      rw [hs0]
      exact ⟨_, rfl, rfl, hw⟩
end Go.Proofs.YtjeldcjchipdgaaDoor
namespace Go.Proofs.YtjeldcjchipdgaaDoor
open Go.RowKit Go.HL
set_option maxRecDepth 100000

/-! digits -/
/-! sealed and opened -/
theorem sum_calls' {S : Nat → Prop} {w : World} {ao : Option Addr} {c : Nat} {b : List UInt8} (hr : RSl S w eb ao c b) (hl : b.length ≤ 4000) :
    Calls Tryd.prog 86 [.slice ao b.length c].toArray w (Ret fun v w' => v = .string ⟨(sumB b).toArray⟩ ∧ Chg Nob w w') := sum_calls hr (by omega)
theorem seal_calls {S : Nat → Prop} {w : World} {ao : Option Addr} {c : Nat} {b : List UInt8} (hr : RSl S w eb ao c b) (hl : b.length ≤ 4000) :
    Calls Tryd.prog 65 [.slice ao b.length c].toArray w (Ret fun v w' => (∃ (ao' : Option Addr) (c' : Nat), v = .slice ao' (b ++ sumB b).length c' ∧ Row (w.heap.size ≤ ·) w' 5 eb ao' c' (b ++ sumB b)) ∧ Chg Nob w w') := by
  replace hr := hr.old
  have hw := Chg.refl Nob w
  have hsl := sumB_len b
  refine Calls.of_WC Tryd.func65 rfl Tryd.ntmps65 (by simp) ?_
  refine WC.seq (WC.region (WL.assign rfl rfl (WL.nil (WX.then_normal (WC.seq (WC.region (WL.move rfl rfl (?_))))))))
  refine WL.call eg_85 rfl rfl (clone_calls hr (by omega)) ?_
  rintro v w1 ⟨⟨a1, c1, rfl, hq⟩, k⟩
  have zs_k := k.size
  replace hr := hr.pure k
  replace hw := hw.pure k
  refine WL.move rfl rfl (?_)
  have hr2 := hr.old
  refine WL.call eg_86 rfl rfl (sum_calls' hr2 hl) ?_
  rintro v w2 ⟨rfl, k⟩
  have zs_k := k.size
  replace hr := hr.pure k
  replace hw := hw.pure k
  replace hq := hq.pure k
  refine WL.append (e := eb) info_5 rfl Tryd.underlying26 rfl rfl hq (src_string _ Tryd.underlying9) (by (try simp only [List.length_append, List.length_cons, List.length_nil] at *); omega) (by intro b hb; first | (apply hS; omega) | ((try dsimp only); omega)) rfl ?_
  intro a_hq2 c_hq2 w_hq2 hq2 g_hq2 n_hq2
  have z_hq2 := g_hq2.chg.size
  have zs_g_hq2_chg := g_hq2.chg.size
  replace hr := hr.chg g_hq2.chg (by intros; exfalso; (try dsimp only at *); omega)
  replace hw := hw.chg g_hq2.chg (by intros; exfalso; (try dsimp only at *); omega)
  refine WL.assign rfl rfl (WL.nil (WX.then_normal (WC.ret (?_))))
  refine WX.ret1 (.inl rfl) Tryd.results65 rfl ?_
  exact ⟨_, rfl, ⟨_, _, rfl, hq2⟩, hw⟩
def openR (b : List UInt8) : List UInt8 × Int := if 32 ≤ b.length ∧ sumB (b.take (b.length - 32)) = b.drop (b.length - 32) then (b.take (b.length - 32), 0) else ([], 2)
theorem open_bad {S : Nat → Prop} {w : World} {ao : Option Addr} {c : Nat} {b : List UInt8} (hr : RSl S w eb ao c b) (hl : b.length < 32) :
    Calls Tryd.prog 69 [.slice ao b.length c].toArray w (Ret fun v w' => (∃ (ao' : Option Addr) (c' : Nat), v = .tuple #[.slice ao' (openR b).1.length c', vi (openR b).2] ∧ Row (w.heap.size ≤ ·) w' 5 eb ao' c' (openR b).1) ∧ Chg Nob w w') := by
  replace hr := hr.old
  have hw := Chg.refl Nob w
  refine Calls.of_WC Tryd.func69 rfl Tryd.ntmps69 (by simp) ?_
  refine WC.seq (WC.region (WL.assign rfl rfl (WL.assign rfl rfl (WL.nil (WX.then_normal (WC.seq (WC.region (?_))))))))
  refine WL.move rfl rfl (WL.len Tryd.underlying26 rfl rfl (WL.sub64 rfl rfl (by omega) rfl (WL.assign rfl rfl (WL.nil (WX.then_normal (WC.seq (WC.seq (?_))))))))
  refine WC.draw (Nob) [0, 1, 2, 3, 4, 5, 6, 7, 8, 9, 10, 11, 12] [] mixed rfl rfl (fun wd_1 kd_1 zd_1 => ?_)
  have zs_kd_1 := kd_1.size
  replace hr := hr.pure kd_1
  replace hw := hw.pure kd_1
  apply DQ.step (E' := [(4, _)])
  case ho => rfl
  case hs => exact ⟨rfl, trivial⟩
  case hk => rfl
  case h1 =>
    intro wq_2 kq_2
    refine WL.move rfl rfl (?_)
    refine WL.nil ?_
    exact WX.one ⟨rfl, by exact Chg.refl _ _⟩
  apply DQ.step (E' := [(8, _)])
  case ho => rfl
  case hs => exact ⟨rfl, trivial⟩
  case hk => rfl
  case h1 =>
    intro wq_3 kq_3
    refine WL.lss rfl rfl rfl ?_
    rw [show decide ((b.length : Int) - 32 < 0) = true from decide_eq_true (by omega)]
    refine WL.nil ?_
    exact WX.one ⟨rfl, by exact Chg.refl _ _⟩
  apply DQ.step (E' := [(9, _)])
  case ho => rfl
  case hs => exact ⟨rfl, trivial⟩
  case hk => rfl
  case h1 =>
    intro wq_4 kq_4
    refine WL.move rfl rfl (?_)
    refine WL.nil ?_
    exact WX.one ⟨rfl, by exact Chg.refl _ _⟩
  apply DQ.step (E' := [(0, _), (10, _)])
  case ho => rfl
  case hs => exact ⟨rfl, rfl, trivial⟩
  case hk => rfl
  case h1 =>
    intro wq_5 kq_5
    refine WL.pass rfl rfl rfl rfl (WL.nil (?_))
    exact WX.one ⟨rfl, by exact Chg.refl _ _⟩
  apply DQ.step (E' := [(4, _), (10, _)])
  case ho => rfl
  case hs => exact ⟨rfl, rfl, trivial⟩
  case hk => rfl
  case h1 =>
    intro wq_6 kq_6
    refine WL.pass rfl rfl rfl rfl (WL.nil (?_))
    exact WX.one ⟨rfl, by exact Chg.refl _ _⟩
  apply DQ.step (E' := [(11, _), (12, _), (10, _)])
  case ho => rfl
  case hs => exact ⟨rfl, rfl, rfl, trivial⟩
  case hk => rfl
  case h1 =>
    intro wq_7 kq_7
    have zs_kq_7 := kq_7.size
    replace hr := hr.pure kq_7
    replace hw := hw.pure kq_7
    refine WL.pass rfl rfl rfl rfl (WL.nil (?_))
    exact WX.one ⟨rfl, by exact Chg.refl _ _⟩
  apply DQ.step (E' := [(13, _), (10, _)])
  case ho => rfl
  case hs => exact ⟨rfl, rfl, trivial⟩
  case hk => rfl
  case h1 =>
    intro wq_8 kq_8
    have zs_kq_8 := kq_8.size
    replace hr := hr.pure kq_8
    replace hw := hw.pure kq_8
    refine WL.pass rfl rfl rfl rfl (WL.nil (?_))
    exact WX.one ⟨rfl, by exact Chg.refl _ _⟩
  apply DQ.step (E' := [(0, _), (10, _)])
  case ho => rfl
  case hs => exact ⟨rfl, rfl, trivial⟩
  case hk => rfl
  case h1 =>
    intro wq_9 kq_9
    refine WL.pass rfl rfl rfl rfl (WL.nil (?_))
    exact WX.one ⟨rfl, by exact Chg.refl _ _⟩
  apply DQ.step (E' := [(4, _), (10, _)])
  case ho => rfl
  case hs => exact ⟨rfl, rfl, trivial⟩
  case hk => rfl
  case h1 =>
    intro wq_10 kq_10
    refine WL.pass rfl rfl rfl rfl (WL.nil (?_))
    exact WX.one ⟨rfl, by exact Chg.refl _ _⟩
  apply DQ.step (E' := [(15, _), (16, _), (10, _)])
  case ho => rfl
  case hs => exact ⟨rfl, rfl, rfl, trivial⟩
  case hk => rfl
  case h1 =>
    intro wq_11 kq_11
    have zs_kq_11 := kq_11.size
    replace hr := hr.pure kq_11
    replace hw := hw.pure kq_11
    refine WL.pass rfl rfl rfl rfl (WL.nil (?_))
    exact WX.one ⟨rfl, by exact Chg.refl _ _⟩
  apply DQ.step (E' := [(17, _), (10, _)])
  case ho => rfl
  case hs => exact ⟨rfl, rfl, trivial⟩
  case hk => rfl
  case h1 =>
    intro wq_12 kq_12
    have zs_kq_12 := kq_12.size
    replace hr := hr.pure kq_12
    replace hw := hw.pure kq_12
    refine WL.pass rfl rfl rfl rfl (WL.nil (?_))
    exact WX.one ⟨rfl, by exact Chg.refl _ _⟩
  apply DQ.step (E' := [(14, _), (18, _), (10, _)])
  case ho => rfl
  case hs => exact ⟨rfl, rfl, rfl, trivial⟩
  case hk => rfl
  case h1 =>
    intro wq_13 kq_13
    refine WL.pass rfl rfl rfl rfl (WL.nil (?_))
    exact WX.one ⟨rfl, by exact Chg.refl _ _⟩
  apply DQ.step (E' := [(10, _), (19, _)])
  case ho => rfl
  case hs => exact ⟨rfl, rfl, trivial⟩
  case hk => rfl
  case h1 =>
    intro wq_14 kq_14
    refine WL.pickT rfl rfl rfl (?_)
    refine WL.nil ?_
    exact WX.one ⟨rfl, by exact Chg.refl _ _⟩
  refine DQ.done (fun _ => ?_)
  refine DL.done (fun we_15 ke_15 => ?_)
  have zs_ke_15 := ke_15.size
  replace hr := hr.pure ke_15
  replace hw := hw.pure ke_15
  refine WX.then_normal (WC.cond_true rfl (WC.seq (WC.region (WL.assign rfl rfl (WL.assign rfl rfl (WL.nil (WX.then_normal (?_))))))))
  refine WC.ret (WX.then_ret (?_))
  refine WX.ret2 (.inl rfl) Tryd.results69 rfl rfl ?_
  rw [openR, if_neg (by omega)]
  exact ⟨_, rfl, ⟨none, 0, rfl, Row.nil _ _ _ _⟩, hw⟩
theorem open_good {S : Nat → Prop} {w : World} {ao : Option Addr} {c : Nat} {b : List UInt8} (hr : RSl S w eb ao c b) (n : Nat) (hn : b.length = n + 32) (hl : b.length ≤ 4000) :
    Calls Tryd.prog 69 [.slice ao b.length c].toArray w (Ret fun v w' => (∃ (ao' : Option Addr) (c' : Nat), v = .tuple #[.slice ao' (openR b).1.length c', vi (openR b).2] ∧ Row (w.heap.size ≤ ·) w' 5 eb ao' c' (openR b).1) ∧ Chg Nob w w') := by
  replace hr := hr.old
  have hw := Chg.refl Nob w
  have hc1 := hr.cut 0 n ⟨by omega, by omega⟩
  have hc2 := hr.cut n b.length ⟨by omega, by omega⟩
  have e1 : (b.take n).drop 0 = b.take n := by simp
  have e2 : (b.take b.length).drop n = b.drop n := by simp
  have e3 : b.length - 32 = n := by omega
  refine Calls.of_WC Tryd.func69 rfl Tryd.ntmps69 (by simp) ?_
  refine WC.seq (WC.region (WL.assign rfl rfl (WL.assign rfl rfl (WL.nil (WX.then_normal (WC.seq (WC.region (?_))))))))
  refine WL.move rfl rfl (WL.len Tryd.underlying26 rfl rfl (?_))
  refine WL.sub64 rfl rfl (by constructor <;> omega) rfl ?_
  rw [show ((b.length : Int) - 32) = (n : Int) from by omega]
  refine WL.assign rfl rfl (WL.nil (WX.then_normal (WC.seq (WC.seq (?_)))))
  refine WC.draw (Nob) [0, 1, 2, 3, 4, 5, 6, 7, 8, 9, 10, 11, 12] [] mixed rfl rfl (fun wd_1 kd_1 zd_1 => ?_)
  have zs_kd_1 := kd_1.size
  replace hr := hr.pure kd_1
  replace hc1 := hc1.pure kd_1
  replace hc2 := hc2.pure kd_1
  replace hw := hw.pure kd_1
  apply DQ.step (E' := [(4, _)])
  case ho => rfl
  case hs => exact ⟨rfl, trivial⟩
  case hk => rfl
  case h1 =>
    intro wq_2 kq_2
    refine WL.move rfl rfl (?_)
    refine WL.nil ?_
    exact WX.one ⟨rfl, by exact Chg.refl _ _⟩
  apply DQ.step (E' := [(8, _)])
  case ho => rfl
  case hs => exact ⟨rfl, trivial⟩
  case hk => rfl
  case h1 =>
    intro wq_3 kq_3
    refine WL.lss rfl rfl rfl ?_
    rw [show decide ((n : Int) < 0) = false from decide_eq_false (by omega)]
    refine WL.nil ?_
    exact WX.one ⟨rfl, by exact Chg.refl _ _⟩
  apply DQ.step (E' := [(9, _)])
  case ho => rfl
  case hs => exact ⟨rfl, trivial⟩
  case hk => rfl
  case h1 =>
    intro wq_4 kq_4
    refine WL.move rfl rfl (?_)
    refine WL.nil ?_
    exact WX.one ⟨rfl, by exact Chg.refl _ _⟩
  apply DQ.step (E' := [(0, _), (10, _)])
  case ho => rfl
  case hs => exact ⟨rfl, rfl, trivial⟩
  case hk => rfl
  case h1 =>
    intro wq_5 kq_5
    refine WL.want rfl rfl rfl (WL.move rfl rfl (?_))
    refine WL.nil ?_
    exact WX.one ⟨rfl, by exact Chg.refl _ _⟩
  apply DQ.step (E' := [(4, _), (10, _)])
  case ho => rfl
  case hs => exact ⟨rfl, rfl, trivial⟩
  case hk => rfl
  case h1 =>
    intro wq_6 kq_6
    refine WL.want rfl rfl rfl (WL.move rfl rfl (?_))
    refine WL.nil ?_
    exact WX.one ⟨rfl, by exact Chg.refl _ _⟩
  apply DQ.step (E' := [(11, _), (12, _), (10, _)])
  case ho => rfl
  case hs => exact ⟨rfl, rfl, rfl, trivial⟩
  case hk => rfl
  case h1 =>
    intro wq_7 kq_7
    have zs_kq_7 := kq_7.size
    replace hr := hr.pure kq_7
    replace hc1 := hc1.pure kq_7
    replace hc2 := hc2.pure kq_7
    replace hw := hw.pure kq_7
    refine WL.want rfl rfl rfl (?_)
    refine WL.sliceC (l := 0) (h := n) (k := .i64) Tryd.underlying26 Tryd.sizeOf5 hr rfl (.inr ⟨rfl, rfl⟩) (.inl rfl) (by constructor <;> omega) rfl ?_
    refine WL.nil ?_
    exact WX.one ⟨rfl, by exact Chg.refl _ _⟩
  apply DQ.step (E' := [(13, _), (10, _)])
  case ho => rfl
  case hs => exact ⟨rfl, rfl, trivial⟩
  case hk => rfl
  case h1 =>
    intro wq_8 kq_8
    have zs_kq_8 := kq_8.size
    replace hr := hr.pure kq_8
    replace hc1 := hc1.pure kq_8
    replace hc2 := hc2.pure kq_8
    replace hw := hw.pure kq_8
    refine WL.want rfl rfl rfl (?_)
    have hc3 := hc1.old
    refine WL.call eg_86 rfl rfl (sum_calls' hc3 (by simp; omega)) ?_
    rintro v w2 ⟨rfl, k⟩
    have zs_k := k.size
    replace hr := hr.pure k
    replace hc1 := hc1.pure k
    replace hc2 := hc2.pure k
    replace hw := hw.pure k
    refine WL.nil ?_
    exact WX.one ⟨rfl, by assumption⟩
  apply DQ.step (E' := [(0, _), (10, _)])
  case ho => rfl
  case hs => exact ⟨rfl, rfl, trivial⟩
  case hk => rfl
  case h1 =>
    intro wq_9 kq_9
    refine WL.want rfl rfl rfl (WL.move rfl rfl (?_))
    refine WL.nil ?_
    exact WX.one ⟨rfl, by exact Chg.refl _ _⟩
  apply DQ.step (E' := [(4, _), (10, _)])
  case ho => rfl
  case hs => exact ⟨rfl, rfl, trivial⟩
  case hk => rfl
  case h1 =>
    intro wq_10 kq_10
    refine WL.want rfl rfl rfl (WL.move rfl rfl (?_))
    refine WL.nil ?_
    exact WX.one ⟨rfl, by exact Chg.refl _ _⟩
  apply DQ.step (E' := [(15, _), (16, _), (10, _)])
  case ho => rfl
  case hs => exact ⟨rfl, rfl, rfl, trivial⟩
  case hk => rfl
  case h1 =>
    intro wq_11 kq_11
    have zs_kq_11 := kq_11.size
    replace hr := hr.pure kq_11
    replace hc1 := hc1.pure kq_11
    replace hc2 := hc2.pure kq_11
    replace hw := hw.pure kq_11
    refine WL.want rfl rfl rfl (?_)
    refine WL.sliceC (l := n) (h := b.length) (j := .i64) Tryd.underlying26 Tryd.sizeOf5 hr rfl (.inl rfl) (.inr ⟨rfl, rfl⟩) (by constructor <;> omega) rfl ?_
    refine WL.nil ?_
    exact WX.one ⟨rfl, by exact Chg.refl _ _⟩
  apply DQ.step (E' := [(17, _), (10, _)])
  case ho => rfl
  case hs => exact ⟨rfl, rfl, trivial⟩
  case hk => rfl
  case h1 =>
    intro wq_12 kq_12
    have zs_kq_12 := kq_12.size
    replace hr := hr.pure kq_12
    replace hc1 := hc1.pure kq_12
    replace hc2 := hc2.pure kq_12
    replace hw := hw.pure kq_12
    refine WL.want rfl rfl rfl (?_)
    refine WL.toStr Tryd.underlying26 Tryd.underlying5 Tryd.underlying9 hc2 rfl rfl ?_
    refine WL.nil ?_
    exact WX.one ⟨rfl, by exact Chg.refl _ _⟩
  apply DQ.split (E' := [(14, _), (18, _), (10, _)])
  case ho => rfl
  case hs => exact ⟨rfl, rfl, rfl, trivial⟩
  case hk => rfl
  case h1 =>
    intro wq_13 kq_13
    refine WL.want rfl rfl rfl (?_)
    refine WL.sneq rfl rfl rfl ?_
    refine WL.nil ?_
    exact WX.one ⟨rfl, by exact Chg.refl _ _⟩
  case ht =>
    intro h19
    replace h19 := of_decide_eq_true h19
    apply DQ.step (E' := [(10, _), (19, _)])
    case ho => rfl
    case hs => exact ⟨rfl, rfl, trivial⟩
    case hk => rfl
    case h1 =>
      intro wq_14 kq_14
      refine WL.pickF rfl rfl rfl (?_)
      refine WL.nil ?_
      exact WX.one ⟨rfl, by exact Chg.refl _ _⟩
    refine DQ.done (fun _ => ?_)
    refine DL.done (fun we_15 ke_15 => ?_)
    have zs_ke_15 := ke_15.size
    replace hr := hr.pure ke_15
    replace hc1 := hc1.pure ke_15
    replace hc2 := hc2.pure ke_15
    replace hw := hw.pure ke_15
    refine WX.then_normal (WC.cond_true rfl (WC.seq (WC.region (WL.assign rfl rfl (WL.assign rfl rfl (WL.nil (WX.then_normal (?_))))))))
    refine WC.ret (WX.then_ret (?_))
    refine WX.ret2 (.inl rfl) Tryd.results69 rfl rfl ?_
    simp only [openR, e3]
    first
      | (have h2 : sumB (b.take n) = b.drop n := by
           have h3 := congrArg (fun s : ByteArray => s.data.toList) (Classical.not_not.1 h19)
           rw [e1, e2] at h3
           exact h3
         rw [e1] at hq
         rw [if_pos ⟨by omega, h2⟩]
         exact ⟨_, rfl, ⟨_, _, by rw [e1], hq.mono (fun x hx => by omega)⟩, hw⟩)
      | (have h2 : ¬ sumB (b.take n) = b.drop n := fun h => h19 (by rw [e1, e2, h])
         rw [if_neg (fun h => h2 h.2)]
         exact ⟨_, rfl, ⟨none, 0, rfl, Row.nil _ _ _ _⟩, hw⟩)
  case hf =>
    intro h19
    replace h19 := of_decide_eq_false h19
    apply DQ.step (E' := [(10, _), (19, _)])
    case ho => rfl
    case hs => exact ⟨rfl, rfl, trivial⟩
    case hk => rfl
    case h1 =>
      intro wq_14 kq_14
      refine WL.pickF rfl rfl rfl (?_)
      refine WL.nil ?_
      exact WX.one ⟨rfl, by exact Chg.refl _ _⟩
    refine DQ.done (fun _ => ?_)
    refine DL.done (fun we_15 ke_15 => ?_)
    have zs_ke_15 := ke_15.size
    replace hr := hr.pure ke_15
    replace hc1 := hc1.pure ke_15
    replace hc2 := hc2.pure ke_15
    replace hw := hw.pure ke_15
    refine WX.then_normal (WC.cond_false rfl (WC.skip (WX.then_normal (WC.seq (WC.region (WL.move rfl rfl (WL.move rfl rfl (?_))))))))
    refine WL.slice (l := 0) (h := n) (k := .i64) Tryd.underlying26 Tryd.sizeOf5 hr rfl (.inr ⟨rfl, rfl⟩) (.inl rfl) (by constructor <;> omega) rfl ?_
    intro a_hx c_hx hx n_hx
    have hx2 := hx.old
    refine WL.call eg_85 rfl rfl (clone_calls hx2 (by simp; omega)) ?_
    rintro v w1 ⟨⟨a1, c1, rfl, hq⟩, k⟩
    have zs_k := k.size
    replace hr := hr.pure k
    replace hc1 := hc1.pure k
    replace hc2 := hc2.pure k
    replace hw := hw.pure k
    replace hx := hx.pure k
    refine WL.assign rfl rfl (WL.assign rfl rfl (WL.nil (WX.then_normal (WC.ret (?_)))))
    refine WX.ret2 (.inl rfl) Tryd.results69 rfl rfl ?_
    simp only [openR, e3]
    first
      | (have h2 : sumB (b.take n) = b.drop n := by
           have h3 := congrArg (fun s : ByteArray => s.data.toList) (Classical.not_not.1 h19)
           rw [e1, e2] at h3
           exact h3
         rw [e1] at hq
         rw [if_pos ⟨by omega, h2⟩]
         exact ⟨_, rfl, ⟨_, _, by rw [e1], hq.mono (fun x hx => by omega)⟩, hw⟩)
      | (have h2 : ¬ sumB (b.take n) = b.drop n := fun h => h19 (by rw [e1, e2, h])
         rw [if_neg (fun h => h2 h.2)]
         exact ⟨_, rfl, ⟨none, 0, rfl, Row.nil _ _ _ _⟩, hw⟩)
theorem open_calls {S : Nat → Prop} {w : World} {ao : Option Addr} {c : Nat} {b : List UInt8} (hr : RSl S w eb ao c b) (hl : b.length ≤ 4000) :
    Calls Tryd.prog 69 [.slice ao b.length c].toArray w (Ret fun v w' => (∃ (ao' : Option Addr) (c' : Nat), v = .tuple #[.slice ao' (openR b).1.length c', vi (openR b).2] ∧ Row (w.heap.size ≤ ·) w' 5 eb ao' c' (openR b).1) ∧ Chg Nob w w') := by
  rcases Nat.lt_or_ge b.length 32 with h | h
  · exact open_bad hr h
  · exact open_good hr (b.length - 32) (by omega) hl
/-! the sum of three letters -/
end Go.Proofs.YtjeldcjchipdgaaDoor
namespace Go.Proofs.YtjeldcjchipdgaaDoor
open Go.RowKit Go.HL
set_option maxRecDepth 100000

/-! the document's words are those of 32 bits -/
def WU (b : List UInt8) (t : Nat) : List UInt64 := (sch b t).map UInt32.toUInt64
/-! two rows that grow by turns -/
section
variable {w w' : World} {T : TypeId} {n0 ca cb : Nat} {a b a2 : Option Addr} {xs ys : List UInt64}
end
end Go.Proofs.YtjeldcjchipdgaaDoor
namespace Go.Proofs.YtjeldcjchipdgaaDoor
open Go.RowKit Go.HL
set_option maxRecDepth 100000

def JW (n2 bw cw : Nat) (B : List UInt8) (t : Nat) (w' : World) : Prop := RSl (fun x => n2 ≤ x) w' e64 (some ⟨bw, 0, none⟩) cw (WU B t)
theorem JW.pure {n2 bw cw : Nat} {B : List UInt8} {t : Nat} (a b : World) (h : JW n2 bw cw B t a) (k : Chg Nob a b) : JW n2 bw cw B t b := RSl.pure h k
theorem JW.rsl {n2 bw cw : Nat} {B : List UInt8} {t : Nat} {a : World} (h : JW n2 bw cw B t a) : RSl (fun x => n2 ≤ x) a e64 (some ⟨bw, 0, none⟩) cw (WU B t) := h
end Go.Proofs.YtjeldcjchipdgaaDoor
namespace Go.Proofs.YtjeldcjchipdgaaDoor
open Go.RowKit Go.HL
set_option maxRecDepth 100000

/-! a sector -/
/-- c, sealed, in a sector -/
def sec (c : List UInt8) : List UInt8 := B8 ((c.length : Int) + 32) :: (c ++ sumB c) ++ List.replicate (95 - c.length) 0
def secE (l : List Item) : Int := if checkE l = 0 then (if 95 < (encAll l).length then 14 else 0) else checkE l
def secB (l : List Item) : List UInt8 := if secE l = 0 then sec (encAll l) else []
theorem sec_len {c : List UInt8} (h : c.length ≤ 95) : (sec c).length = 128 := by
  simp [sec, sumB_len]
  omega
theorem sec_made {B Z Y : List UInt8} (eZ : Z = List.replicate 128 (0 : UInt8)) (eY : Y = Z.set 0 (B8 ((B ++ sumB B).length : Int))) (hl : (B ++ sumB B).length = B.length + 32) (hb : B.length ≤ 95) : Y.take 1 ++ (B ++ sumB B) ++ Y.drop (1 + (B ++ sumB B).length) = sec B := by
  have e1 : List.replicate 128 (0 : UInt8) = 0 :: List.replicate 127 0 := rfl
  rw [eY, eZ, e1, List.set_cons_zero, hl, show 1 + (B.length + 32) = (B.length + 32) + 1 from by omega, List.drop_succ_cons, List.drop_replicate, sec]
  rw [show (((B.length + 32 : Nat)) : Int) = (B.length : Int) + 32 from by omega, show 127 - (B.length + 32) = 95 - B.length from by omega]
  rfl
theorem sector_calls {w : World} {ao : Option Addr} {c : Nat} {l : List Item} (hr : RSl (· < w.heap.size) w eit ao c l) (hl : l.length ≤ 9223372036854775807) :
    Calls Tryd.prog 37 [.slice ao l.length c].toArray w (Ret fun v w' => (∃ (ao' : Option Addr) (c' : Nat), v = .tuple #[.slice ao' (secB l).length c', vi (secE l)] ∧ Row (w.heap.size ≤ ·) w' 5 eb ao' c' (secB l)) ∧ Chg Nob w w') := by
  have kk := Chg.refl Nob w
  refine Calls.of_WC Tryd.func37 rfl Tryd.ntmps37 (by simp) ?_
  refine WC.seq (WC.region (WL.assign rfl rfl (WL.assign rfl rfl (WL.nil (WX.then_normal (WC.seq (WC.region (?_))))))))
  refine WL.move rfl rfl (?_)
  refine WL.call eg_64 rfl rfl (encode_calls hr hl) ?_
  rintro v w1 ⟨a1, c1, rfl, hq, k1⟩
  obtain ⟨B, eB⟩ : ∃ B, B = (if checkE l = 0 then encAll l else []) := ⟨_, rfl⟩
  rw [← eB] at hq ⊢
  have hBl : B.length ≤ 140737488351232 := by
    rw [eB]
    split
    ·
      rename_i h0
      obtain ⟨h1, h2⟩ := checkE_ok h0
      have := encAll_len h2
      omega
    ·
      simp
  have zs_k1 := k1.size
  replace hr := hr.pure k1
  replace kk := kk.pure k1
  replace hq := hq.lt
  refine WL.move rfl rfl (WL.extract rfl rfl rfl (WL.extract rfl rfl rfl (WL.assign rfl rfl (WL.assign rfl rfl (WL.nil (WX.then_normal (WC.seq (?_))))))))
  refine WC.seq (WC.region (WL.move rfl rfl (?_)))
  refine WL.neq? rfl rfl rfl (fun h13 => ?_) (fun h13 => ?_)
  ·
    refine WL.nil (WX.then_normal (WC.cond_true rfl (WC.seq (WC.region (WL.move rfl rfl (WL.assign rfl rfl (WL.assign rfl rfl (?_))))))))
    refine WL.nil (WX.then_normal (WC.ret (WX.then_ret (?_))))
    refine WX.ret2 (.inl rfl) Tryd.results37 rfl rfl ?_
    first
      | (have h1 : secE l = checkE l := by rw [secE, if_neg h13]
         refine ⟨_, rfl, ⟨none, 0, ?_, ?_⟩, kk⟩
         ·
           rw [secB, h1, if_neg h13]
           rfl
         ·
           rw [secB, h1, if_neg h13]
           exact Row.nil _ _ _ _)
      | (have hB : B = encAll l := by rw [eB, if_pos h13]
         have hB2 : 95 < (encAll l).length := by rw [← hB]; omega
         have h1 : secE l = 14 := by rw [secE, if_pos h13, if_pos hB2]
         refine ⟨_, rfl, ⟨none, 0, ?_, ?_⟩, kk⟩
         ·
           rw [secB, h1, if_neg (by decide)]
           rfl
         ·
           rw [secB, h1, if_neg (by decide)]
           exact Row.nil _ _ _ _)
      | (have hB : B = encAll l := by rw [eB, if_pos h13]
         have hB2 : ¬ 95 < (encAll l).length := by rw [← hB]; omega
         have h1 : secE l = 0 := by rw [secE, if_pos h13, if_neg hB2]
         have h2 : Y.take 1 ++ (B ++ sumB B) ++ Y.drop (1 + (B ++ sumB B).length) = secB l := by
           rw [secB, h1, if_pos rfl, ← hB]
           exact sec_made eZ eY hbl2 (by omega)
         rw [h2] at hO7
         refine ⟨_, rfl, ⟨some ⟨g5, 0, none⟩, 128, ?_, hO7.mono (fun x hx => by omega)⟩, kk⟩
         rw [h1, secB, h1, if_pos rfl, sec_len (by omega)])
  ·
    refine WL.nil (WX.then_normal (WC.cond_false rfl (WC.skip (WX.then_normal (WC.seq (WC.seq (WC.region (?_))))))))
    refine WL.move rfl rfl (WL.len Tryd.underlying26 rfl rfl (WL.add64 rfl rfl (by omega) rfl (WL.add64 rfl rfl (by omega) rfl (?_))))
    refine WL.gtr? rfl rfl rfl (fun h19 => ?_) (fun h19 => ?_)
    ·
      refine WL.nil (WX.then_normal (WC.cond_true rfl (WC.seq (WC.region (WL.assign rfl rfl (WL.assign rfl rfl (WL.nil (?_))))))))
      refine WX.then_normal (WC.ret (WX.then_ret (?_)))
      refine WX.ret2 (.inl rfl) Tryd.results37 rfl rfl ?_
      first
        | (have h1 : secE l = checkE l := by rw [secE, if_neg h13]
           refine ⟨_, rfl, ⟨none, 0, ?_, ?_⟩, kk⟩
           ·
             rw [secB, h1, if_neg h13]
             rfl
           ·
             rw [secB, h1, if_neg h13]
             exact Row.nil _ _ _ _)
        | (have hB : B = encAll l := by rw [eB, if_pos h13]
           have hB2 : 95 < (encAll l).length := by rw [← hB]; omega
           have h1 : secE l = 14 := by rw [secE, if_pos h13, if_pos hB2]
           refine ⟨_, rfl, ⟨none, 0, ?_, ?_⟩, kk⟩
           ·
             rw [secB, h1, if_neg (by decide)]
             rfl
           ·
             rw [secB, h1, if_neg (by decide)]
             exact Row.nil _ _ _ _)
        | (have hB : B = encAll l := by rw [eB, if_pos h13]
           have hB2 : ¬ 95 < (encAll l).length := by rw [← hB]; omega
           have h1 : secE l = 0 := by rw [secE, if_pos h13, if_neg hB2]
           have h2 : Y.take 1 ++ (B ++ sumB B) ++ Y.drop (1 + (B ++ sumB B).length) = secB l := by
             rw [secB, h1, if_pos rfl, ← hB]
             exact sec_made eZ eY hbl2 (by omega)
           rw [h2] at hO7
           refine ⟨_, rfl, ⟨some ⟨g5, 0, none⟩, 128, ?_, hO7.mono (fun x hx => by omega)⟩, kk⟩
           rw [h1, secB, h1, if_pos rfl, sec_len (by omega)])
    ·
      refine WL.nil (WX.then_normal (WC.cond_false rfl (WC.skip (WX.then_normal (WC.seq (WC.region (WL.move rfl rfl (?_))))))))
      have hq1 := hq.rsl
      refine WL.call eg_65 rfl rfl (seal_calls hq1 (by omega)) ?_
      rintro v w2 ⟨⟨a2, c2, rfl, hs⟩, k2⟩
      have zs_k2 := k2.size
      replace hr := hr.pure k2
      replace kk := kk.pure k2
      replace hq := hq.pure k2
      replace hs := hs.lt
      refine WL.assign rfl rfl (WL.nil (WX.then_normal (WC.seq (WC.region (?_)))))
      obtain ⟨Z, eZ⟩ : ∃ Z, Z = List.replicate 128 (0 : UInt8) := ⟨_, rfl⟩
      have hZl : Z.length = 128 := by rw [eZ, List.length_replicate]
      refine WL.make (e := eb) (0 : UInt8) 128 128 Tryd.underlying26 info_5 rfl rfl rfl ⟨rfl, rfl, Nat.le_refl _⟩ (by constructor <;> omega) rfl ?_
      intro g5 w5 hO k5 z5 e5
      rw [← eZ] at hO ⊢
      rw [hZl]
      have zs_k5 := k5.size
      replace hr := hr.pure k5
      replace kk := kk.pure k5
      replace hq := hq.pure k5
      replace hs := hs.pure k5
      refine WL.assign rfl rfl (WL.nil (WX.then_normal (WC.seq (WC.region (WL.move rfl rfl (WL.move rfl rfl (WL.len Tryd.underlying26 rfl rfl (?_))))))))
      refine WL.c_i64_u8 Tryd.underlying3 Tryd.underlying5 rfl rfl (?_)
      refine WL.index (j := 0) Tryd.underlying26 Tryd.sizeOf5 rfl rfl (by decide) (by omega) rfl ?_
      refine WL.storeRow (z := B8 ((B ++ sumB B).length : Int)) (0) Tryd.sizeOf5 hO rfl rfl rfl (by simp; done) (by omega) rfl ?_
      intro w_1 zs_1 nr_1 k_1
      have zs_k_1 := k_1.size
      replace hr := hr.chg k_1 (by intro b h1 h2 h3; have h4 : _ = _ := h3; (try dsimp only at h2); exfalso; omega)
      replace kk := kk.chg k_1 (by intro x h1 h2; have h3 : _ = _ := h2; exfalso; omega)
      replace hq := hq.chg k_1 (by intro b h1 h2 h3; have h4 : _ = _ := h3; (try dsimp only at h2); exfalso; omega)
      replace hs := hs.chg k_1 (by intro b h1 h2 h3; have h4 : _ = _ := h3; (try dsimp only at h2); exfalso; omega)
      replace hO := nr_1
      refine WL.nil (WX.then_normal (WC.seq (WC.region (WL.move rfl rfl (?_)))))
      obtain ⟨Y, eY⟩ : ∃ Y, Y = Z.set 0 (B8 ((B ++ sumB B).length : Int)) := ⟨_, rfl⟩
      rw [← eY] at hO
      have hYl : Y.length = 128 := by rw [eY, List.length_set, hZl]
      refine WL.sliceC (l := 1) (h := 128) (k := .i64) (j := .i64) Tryd.underlying26 Tryd.sizeOf5 hO.rsl (by rw [hYl]; rfl) (.inl rfl) (.inr ⟨rfl, hYl.symm⟩) ⟨by omega, by omega⟩ rfl ?_
      rw [show ((Y.take 128).drop 1).length = Y.length - 1 from by rw [List.length_drop, List.length_take]; omega]
      refine WL.move rfl rfl (?_)
      have hsl := sumB_len B
      have hbl2 : (B ++ sumB B).length = B.length + 32 := by rw [List.length_append, hsl]
      refine WL.copyRow (e := eb) (i := 1) Tryd.underlying26 (by kernel_rfl) rfl hO hs.rsl (by omega) (by omega) rfl rfl rfl ?_
      intro w7 z7 hO7 k7
      have zs_k7 := k7.size
      replace hr := hr.chg k7 (by intro b h1 h2 h3; have h4 : _ = _ := h3; (try dsimp only at h2); exfalso; omega)
      replace kk := kk.chg k7 (by intro x h1 h2; have h3 : _ = _ := h2; exfalso; omega)
      replace hq := hq.chg k7 (by intro b h1 h2 h3; have h4 : _ = _ := h3; (try dsimp only at h2); exfalso; omega)
      replace hs := hs.chg k7 (by intro b h1 h2 h3; have h4 : _ = _ := h3; (try dsimp only at h2); exfalso; omega)
      refine WL.nil (WX.then_normal (WC.seq (WC.region (WL.move rfl rfl (WL.assign rfl rfl (WL.assign rfl rfl (WL.nil (?_))))))))
      refine WX.then_normal (WC.ret (?_))
      refine WX.ret2 (.inl rfl) Tryd.results37 rfl rfl ?_
      first
        | (have h1 : secE l = checkE l := by rw [secE, if_neg h13]
           refine ⟨_, rfl, ⟨none, 0, ?_, ?_⟩, kk⟩
           ·
             rw [secB, h1, if_neg h13]
             rfl
           ·
             rw [secB, h1, if_neg h13]
             exact Row.nil _ _ _ _)
        | (have hB : B = encAll l := by rw [eB, if_pos h13]
           have hB2 : 95 < (encAll l).length := by rw [← hB]; omega
           have h1 : secE l = 14 := by rw [secE, if_pos h13, if_pos hB2]
           refine ⟨_, rfl, ⟨none, 0, ?_, ?_⟩, kk⟩
           ·
             rw [secB, h1, if_neg (by decide)]
             rfl
           ·
             rw [secB, h1, if_neg (by decide)]
             exact Row.nil _ _ _ _)
        | (have hB : B = encAll l := by rw [eB, if_pos h13]
           have hB2 : ¬ 95 < (encAll l).length := by rw [← hB]; omega
           have h1 : secE l = 0 := by rw [secE, if_pos h13, if_neg hB2]
           have h2 : Y.take 1 ++ (B ++ sumB B) ++ Y.drop (1 + (B ++ sumB B).length) = secB l := by
             rw [secB, h1, if_pos rfl, ← hB]
             exact sec_made eZ eY hbl2 (by omega)
           rw [h2] at hO7
           refine ⟨_, rfl, ⟨some ⟨g5, 0, none⟩, 128, ?_, hO7.mono (fun x hx => by omega)⟩, kk⟩
           rw [h1, secB, h1, if_pos rfl, sec_len (by omega)])
/-- what a sector holds -/
def unS (b : List UInt8) : Option (List Item) :=
  if b.length = 128 ∧ (b.getD 0 0).toNat < 128 ∧ (∀ x ∈ b.drop (1 + (b.getD 0 0).toNat), x = 0) ∧ (openR ((b.take (1 + (b.getD 0 0).toNat)).drop 1)).2 = 0 then dec 0 (openR ((b.take (1 + (b.getD 0 0).toNat)).drop 1)).1 else none
def unL (b : List UInt8) : List Item := (unS b).getD []
def unE (b : List UInt8) : Int := if (unS b).isSome then 0 else 2
theorem openR_len (b : List UInt8) : (openR b).1.length ≤ b.length := by
  unfold openR
  split
  · simp
  · simp
theorem openR_err (b : List UInt8) : (openR b).2 = 0 ∨ (openR b).2 = 2 := by
  unfold openR
  split
  · exact .inl rfl
  · exact .inr rfl
theorem un_none {b : List UInt8} (h : unS b = none) : unL b = [] ∧ unE b = 2 := by
  rw [unL, unE, h]
  exact ⟨rfl, rfl⟩
theorem un_no {b s r : List UInt8} {n : Nat} (hn : n = (b.getD 0 0).toNat) (hs : s = (b.take (1 + n)).drop 1) (hrs : r = b.drop (1 + n)) (h : ¬ (b.length = 128 ∧ n < 128 ∧ (∀ x ∈ r, x = 0) ∧ (openR s).2 = 0)) : unL b = [] ∧ unE b = 2 := by
  subst hn; subst hs; subst hrs
  exact un_none (by rw [unS, if_neg h])
theorem un_yes {b s r : List UInt8} {n : Nat} (hn : n = (b.getD 0 0).toNat) (hs : s = (b.take (1 + n)).drop 1) (hrs : r = b.drop (1 + n)) (h : b.length = 128 ∧ n < 128 ∧ (∀ x ∈ r, x = 0) ∧ (openR s).2 = 0) : unL b = decL (openR s).1 ∧ unE b = decE (openR s).1 := by
  subst hn; subst hs; subst hrs
  rw [unL, unE, unS, if_pos h]
  exact ⟨rfl, rfl⟩
theorem unsector_calls {w : World} {ao : Option Addr} {c : Nat} {b : List UInt8} (hr : RSl (· < w.heap.size) w eb ao c b) (hl : b.length ≤ 140737488351232) :
    Calls Tryd.prog 40 [.slice ao b.length c].toArray w (Ret fun v w' => (∃ (ao' : Option Addr) (c' : Nat), v = .tuple #[.slice ao' (unL b).length c', vi (unE b)] ∧ Row (w.heap.size ≤ ·) w' 75 eit ao' c' (unL b)) ∧ Chg Nob w w') := by
  have kk := Chg.refl Nob w
  obtain ⟨n, hn⟩ : ∃ n, n = (b.getD 0 0).toNat := ⟨_, rfl⟩
  obtain ⟨s, hs⟩ : ∃ s, s = (b.take (1 + n)).drop 1 := ⟨_, rfl⟩
  obtain ⟨r, hrs⟩ : ∃ r, r = b.drop (1 + n) := ⟨_, rfl⟩
  refine Calls.of_WC Tryd.func40 rfl Tryd.ntmps40 (by simp) ?_
  refine WC.seq (WC.region (WL.assign rfl rfl (WL.assign rfl rfl (WL.nil (WX.then_normal (WC.seq (WC.seq (?_))))))))
  refine WC.region (WL.move rfl rfl (WL.len Tryd.underlying26 rfl rfl (?_)))
  refine WL.neq? rfl rfl rfl (fun h10 => ?_) (fun h10 => ?_)
  ·
    refine WL.move rfl rfl (WL.pass rfl rfl rfl rfl (WL.pass rfl rfl rfl rfl (WL.pass rfl rfl rfl rfl (WL.pass rfl rfl rfl rfl (WL.pass rfl rfl rfl rfl (WL.pickT rfl rfl rfl (WL.nil (?_))))))))
    refine WX.then_normal (WC.cond_true rfl (WC.seq (WC.region (WL.assign rfl rfl (WL.assign rfl rfl (WL.nil (WX.then_normal (?_))))))))
    refine WC.ret (WX.then_ret (?_))
    refine WX.ret2 (.inl rfl) Tryd.results40 rfl rfl ?_
    by_cases hc : b.length = 128 ∧ n < 128 ∧ (∀ x ∈ r, x = 0) ∧ (openR s).2 = 0
    ·
      have hy := un_yes hn hs hrs hc
      obtain ⟨g1, g2, g3, g4⟩ := hc
      rw [hy.1, hy.2]
      first
        | (exact ⟨_, rfl, ⟨a3, c3, rfl, hq.mono (fun x hx => by omega)⟩, kk⟩)
        | (exfalso; have g5 := hm.2 g3; omega)
        | (exfalso; omega)
    ·
      have hy := un_no hn hs hrs hc
      have ho2 := openR_err s
      rw [hy.1, hy.2]
      first
        | (exact ⟨_, rfl, ⟨none, 0, rfl, Row.nil _ _ _ _⟩, kk⟩)
        | (have h9 : (openR s).2 = 2 := ho2.resolve_left (by assumption)
           refine ⟨_, rfl, ⟨none, 0, ?_, Row.nil _ _ _ _⟩, kk⟩
           rw [← h9]
           rfl)
        | (exfalso; exact hc ⟨by omega, by omega, hm.1 (by omega), by assumption⟩)
  ·
    refine WL.move rfl rfl (WL.want rfl rfl rfl (WL.move rfl rfl (WL.want rfl rfl rfl (?_))))
    obtain ⟨x, hx⟩ : ∃ x, b[0]? = some x := ⟨_, List.getElem?_eq_getElem (by omega)⟩
    have hxn : x.toNat = n := by rw [hn, List.getD_eq_getElem?_getD, hx]; rfl
    refine WL.indexT Tryd.underlying26 Tryd.sizeOf5 hr rfl rfl ⟨hx, rfl⟩ rfl ?_
    intro b_1 o_1 hc_1
    refine WL.want rfl rfl rfl (WL.load Tryd.isAgg5 rfl (hc_1 0 _ rfl) rfl (WL.want rfl rfl rfl (WL.c_u8_i64 Tryd.underlying5 Tryd.underlying3 rfl rfl (WL.want rfl rfl rfl (?_)))))
    refine WL.geq? rfl rfl rfl (fun h16 => ?_) (fun h16 => ?_)
    ·
      refine WL.pickF rfl rfl rfl (WL.nil (WX.then_normal (WC.cond_true rfl (WC.seq (WC.region (WL.assign rfl rfl (WL.assign rfl rfl (?_))))))))
      refine WL.nil (WX.then_normal (WC.ret (WX.then_ret (?_))))
      refine WX.ret2 (.inl rfl) Tryd.results40 rfl rfl ?_
      by_cases hc : b.length = 128 ∧ n < 128 ∧ (∀ x ∈ r, x = 0) ∧ (openR s).2 = 0
      ·
        have hy := un_yes hn hs hrs hc
        obtain ⟨g1, g2, g3, g4⟩ := hc
        rw [hy.1, hy.2]
        first
          | (exact ⟨_, rfl, ⟨a3, c3, rfl, hq.mono (fun x hx => by omega)⟩, kk⟩)
          | (exfalso; have g5 := hm.2 g3; omega)
          | (exfalso; omega)
      ·
        have hy := un_no hn hs hrs hc
        have ho2 := openR_err s
        rw [hy.1, hy.2]
        first
          | (exact ⟨_, rfl, ⟨none, 0, rfl, Row.nil _ _ _ _⟩, kk⟩)
          | (have h9 : (openR s).2 = 2 := ho2.resolve_left (by assumption)
             refine ⟨_, rfl, ⟨none, 0, ?_, Row.nil _ _ _ _⟩, kk⟩
             rw [← h9]
             rfl)
          | (exfalso; exact hc ⟨by omega, by omega, hm.1 (by omega), by assumption⟩)
    ·
      refine WL.pickF rfl rfl rfl (WL.nil (WX.then_normal (WC.cond_false rfl (WC.skip (WX.then_normal (WC.seq (?_)))))))
      have hb1 := hr.cut 1 (1 + n) ⟨by omega, by omega⟩
      have hb2 := hr.cut (1 + n) b.length ⟨by omega, by omega⟩
      obtain ⟨b0, o0, rfl⟩ := hr.place hx
      refine WC.draw (Nob) [0, 1, 2, 3, 4, 5, 6, 7, 8, 9, 10, 11, 12, 13, 14, 15] [] mixed rfl rfl (fun wd_2 kd_2 zd_2 => ?_)
      have zs_kd_2 := kd_2.size
      replace hr := hr.pure kd_2
      replace kk := kk.pure kd_2
      replace hb1 := hb1.pure kd_2
      replace hb2 := hb2.pure kd_2
      apply DQ.step (E' := [(0, _)])
      case ho => rfl
      case hs => exact ⟨rfl, trivial⟩
      case hk => rfl
      case h1 =>
        intro wq_3 kq_3
        refine WL.move rfl rfl (?_)
        refine WL.nil ?_
        exact WX.one ⟨rfl, by exact Chg.refl _ _⟩
      apply DQ.step (E' := [(0, _)])
      case ho => rfl
      case hs => exact ⟨rfl, trivial⟩
      case hk => rfl
      case h1 =>
        intro wq_4 kq_4
        refine WL.move rfl rfl (?_)
        refine WL.nil ?_
        exact WX.one ⟨rfl, by exact Chg.refl _ _⟩
      apply DQ.step (E' := [(19, _)])
      case ho => rfl
      case hs => exact ⟨rfl, trivial⟩
      case hk => rfl
      case h1 =>
        intro wq_5 kq_5
        have zs_kq_5 := kq_5.size
        replace hr := hr.pure kq_5
        replace kk := kk.pure kq_5
        replace hb1 := hb1.pure kq_5
        replace hb2 := hb2.pure kq_5
        refine WL.indexC hr Tryd.underlying26 Tryd.sizeOf5 rfl rfl ⟨hx, rfl⟩ rfl ?_
        refine WL.nil ?_
        exact WX.one ⟨rfl, by exact Chg.refl _ _⟩
      apply DQ.step (E' := [(20, _)])
      case ho => rfl
      case hs => exact ⟨rfl, trivial⟩
      case hk => rfl
      case h1 =>
        intro wq_6 kq_6
        have zs_kq_6 := kq_6.size
        replace hr := hr.pure kq_6
        replace kk := kk.pure kq_6
        replace hb1 := hb1.pure kq_6
        replace hb2 := hb2.pure kq_6
        refine WL.load Tryd.isAgg5 rfl ((hr.cellsAt hx) 0 _ rfl) rfl (?_)
        refine WL.nil ?_
        exact WX.one ⟨rfl, by exact Chg.refl _ _⟩
      apply DQ.step (E' := [(21, _)])
      case ho => rfl
      case hs => exact ⟨rfl, trivial⟩
      case hk => rfl
      case h1 =>
        intro wq_7 kq_7
        have zs_kq_7 := kq_7.size
        replace hr := hr.pure kq_7
        replace kk := kk.pure kq_7
        replace hb1 := hb1.pure kq_7
        replace hb2 := hb2.pure kq_7
        refine WL.c_u8_i64 Tryd.underlying5 Tryd.underlying3 rfl rfl (?_)
        refine WL.nil ?_
        exact WX.one ⟨rfl, by exact Chg.refl _ _⟩
      apply DQ.step (E' := [(22, _)])
      case ho => rfl
      case hs => exact ⟨rfl, trivial⟩
      case hk => rfl
      case h1 =>
        intro wq_8 kq_8
        refine WL.add64 rfl rfl (by constructor <;> omega) rfl ?_
        rw [show ((1 : Int) + x.toNat) = ((1 + n : Nat) : Int) from by omega]
        refine WL.nil ?_
        exact WX.one ⟨rfl, by exact Chg.refl _ _⟩
      apply DQ.step (E' := [(18, _), (23, _)])
      case ho => rfl
      case hs => exact ⟨rfl, rfl, trivial⟩
      case hk => rfl
      case h1 =>
        intro wq_9 kq_9
        have zs_kq_9 := kq_9.size
        replace hr := hr.pure kq_9
        replace kk := kk.pure kq_9
        replace hb1 := hb1.pure kq_9
        replace hb2 := hb2.pure kq_9
        refine WL.sliceC (l := 1) (h := 1 + n) Tryd.underlying26 Tryd.sizeOf5 hr rfl (.inl rfl) (.inl rfl) (by constructor <;> omega) rfl ?_
        refine WL.nil ?_
        exact WX.one ⟨rfl, by exact Chg.refl _ _⟩
      apply DQ.step (E' := [(0, _)])
      case ho => rfl
      case hs => exact ⟨rfl, trivial⟩
      case hk => rfl
      case h1 =>
        intro wq_10 kq_10
        refine WL.move rfl rfl (?_)
        refine WL.nil ?_
        exact WX.one ⟨rfl, by exact Chg.refl _ _⟩
      apply DQ.step (E' := [(0, _)])
      case ho => rfl
      case hs => exact ⟨rfl, trivial⟩
      case hk => rfl
      case h1 =>
        intro wq_11 kq_11
        refine WL.move rfl rfl (?_)
        refine WL.nil ?_
        exact WX.one ⟨rfl, by exact Chg.refl _ _⟩
      apply DQ.step (E' := [(26, _)])
      case ho => rfl
      case hs => exact ⟨rfl, trivial⟩
      case hk => rfl
      case h1 =>
        intro wq_12 kq_12
        have zs_kq_12 := kq_12.size
        replace hr := hr.pure kq_12
        replace kk := kk.pure kq_12
        replace hb1 := hb1.pure kq_12
        replace hb2 := hb2.pure kq_12
        refine WL.indexC hr Tryd.underlying26 Tryd.sizeOf5 rfl rfl ⟨hx, rfl⟩ rfl ?_
        refine WL.nil ?_
        exact WX.one ⟨rfl, by exact Chg.refl _ _⟩
      apply DQ.step (E' := [(27, _)])
      case ho => rfl
      case hs => exact ⟨rfl, trivial⟩
      case hk => rfl
      case h1 =>
        intro wq_13 kq_13
        have zs_kq_13 := kq_13.size
        replace hr := hr.pure kq_13
        replace kk := kk.pure kq_13
        replace hb1 := hb1.pure kq_13
        replace hb2 := hb2.pure kq_13
        refine WL.load Tryd.isAgg5 rfl ((hr.cellsAt hx) 0 _ rfl) rfl (?_)
        refine WL.nil ?_
        exact WX.one ⟨rfl, by exact Chg.refl _ _⟩
      apply DQ.step (E' := [(28, _)])
      case ho => rfl
      case hs => exact ⟨rfl, trivial⟩
      case hk => rfl
      case h1 =>
        intro wq_14 kq_14
        have zs_kq_14 := kq_14.size
        replace hr := hr.pure kq_14
        replace kk := kk.pure kq_14
        replace hb1 := hb1.pure kq_14
        replace hb2 := hb2.pure kq_14
        refine WL.c_u8_i64 Tryd.underlying5 Tryd.underlying3 rfl rfl (?_)
        refine WL.nil ?_
        exact WX.one ⟨rfl, by exact Chg.refl _ _⟩
      apply DQ.step (E' := [(29, _)])
      case ho => rfl
      case hs => exact ⟨rfl, trivial⟩
      case hk => rfl
      case h1 =>
        intro wq_15 kq_15
        refine WL.add64 rfl rfl (by constructor <;> omega) rfl ?_
        rw [show ((1 : Int) + x.toNat) = ((1 + n : Nat) : Int) from by omega]
        refine WL.nil ?_
        exact WX.one ⟨rfl, by exact Chg.refl _ _⟩
      apply DQ.step (E' := [(25, _), (30, _)])
      case ho => rfl
      case hs => exact ⟨rfl, rfl, trivial⟩
      case hk => rfl
      case h1 =>
        intro wq_16 kq_16
        have zs_kq_16 := kq_16.size
        replace hr := hr.pure kq_16
        replace kk := kk.pure kq_16
        replace hb1 := hb1.pure kq_16
        replace hb2 := hb2.pure kq_16
        refine WL.sliceC (l := 1 + n) (h := b.length) (j := .i64) Tryd.underlying26 Tryd.sizeOf5 hr rfl (.inl rfl) (.inr ⟨rfl, rfl⟩) (by constructor <;> omega) rfl ?_
        refine WL.nil ?_
        exact WX.one ⟨rfl, by exact Chg.refl _ _⟩
      apply DQ.step (E' := [(24, _)])
      case ho => rfl
      case hs => exact ⟨rfl, trivial⟩
      case hk => rfl
      case h1 =>
        intro wq_17 kq_17
        refine WL.assign rfl rfl (?_)
        refine WL.nil ?_
        exact WX.one ⟨rfl, by exact Chg.refl _ _⟩
      apply DQ.step (E' := [(31, _)])
      case ho => rfl
      case hs => exact ⟨rfl, trivial⟩
      case hk => rfl
      case h1 =>
        intro wq_18 kq_18
        refine WL.assign rfl rfl (?_)
        refine WL.nil ?_
        exact WX.one ⟨rfl, by exact Chg.refl _ _⟩
      refine DQ.done (fun _ => ?_)
      refine DL.done (fun we_19 ke_19 => ?_)
      have zs_ke_19 := ke_19.size
      replace hr := hr.pure ke_19
      replace kk := kk.pure ke_19
      replace hb1 := hb1.pure ke_19
      replace hb2 := hb2.pure ke_19
      refine WX.then_normal (WC.seq (WC.seq (WC.region (WL.move rfl rfl (?_)))))
      have e2 : (b.take b.length).drop (1 + n) = r := by rw [List.take_length, hrs]
      rw [e2] at hb2 ⊢
      rw [← hs] at hb1 ⊢
      have hb2' := hb2.old
      refine WL.call eg_68 rfl rfl (trim_calls hb2' (by rw [hrs, List.length_drop]; omega)) ?_
      rintro v w1 ⟨⟨m, a1, c1, rfl, hm⟩, k1⟩
      have zs_k1 := k1.size
      replace hr := hr.pure k1
      replace kk := kk.pure k1
      replace hb1 := hb1.pure k1
      replace hb2 := hb2.pure k1
      refine WL.len Tryd.underlying26 rfl rfl (?_)
      refine WL.gtr? rfl rfl rfl (fun h35 => ?_) (fun h35 => ?_)
      ·
        refine WL.nil (WX.then_normal (WC.cond_true rfl (WC.seq (WC.region (WL.assign rfl rfl (WL.assign rfl rfl (WL.nil (?_))))))))
        refine WX.then_normal (WC.ret (WX.then_ret (?_)))
        refine WX.ret2 (.inl rfl) Tryd.results40 rfl rfl ?_
        by_cases hc : b.length = 128 ∧ n < 128 ∧ (∀ x ∈ r, x = 0) ∧ (openR s).2 = 0
        ·
          have hy := un_yes hn hs hrs hc
          obtain ⟨g1, g2, g3, g4⟩ := hc
          rw [hy.1, hy.2]
          first
            | (exact ⟨_, rfl, ⟨a3, c3, rfl, hq.mono (fun x hx => by omega)⟩, kk⟩)
            | (exfalso; have g5 := hm.2 g3; omega)
            | (exfalso; omega)
        ·
          have hy := un_no hn hs hrs hc
          have ho2 := openR_err s
          rw [hy.1, hy.2]
          first
            | (exact ⟨_, rfl, ⟨none, 0, rfl, Row.nil _ _ _ _⟩, kk⟩)
            | (have h9 : (openR s).2 = 2 := ho2.resolve_left (by assumption)
               refine ⟨_, rfl, ⟨none, 0, ?_, Row.nil _ _ _ _⟩, kk⟩
               rw [← h9]
               rfl)
            | (exfalso; exact hc ⟨by omega, by omega, hm.1 (by omega), by assumption⟩)
      ·
        refine WL.nil (WX.then_normal (WC.cond_false rfl (WC.skip (WX.then_normal (WC.seq (WC.region (WL.move rfl rfl (?_))))))))
        have hb1' := hb1.old
        refine WL.call eg_69 rfl rfl (open_calls hb1' (by rw [hs, List.length_drop, List.length_take]; omega)) ?_
        rintro v w2 ⟨⟨a2, c2, rfl, ho⟩, k2⟩
        have zs_k2 := k2.size
        replace hr := hr.pure k2
        replace kk := kk.pure k2
        replace hb1 := hb1.pure k2
        replace hb2 := hb2.pure k2
        replace ho := ho.lt
        refine WL.move rfl rfl (WL.extract rfl rfl rfl (WL.extract rfl rfl rfl (WL.assign rfl rfl (WL.assign rfl rfl (WL.nil (WX.then_normal (WC.seq (?_))))))))
        refine WC.seq (WC.region (WL.move rfl rfl (?_)))
        refine WL.neq? rfl rfl rfl (fun h42 => ?_) (fun h42 => ?_)
        ·
          refine WL.nil (WX.then_normal (WC.cond_true rfl (WC.seq (WC.region (WL.move rfl rfl (WL.assign rfl rfl (WL.assign rfl rfl (?_))))))))
          refine WL.nil (WX.then_normal (WC.ret (WX.then_ret (?_))))
          refine WX.ret2 (.inl rfl) Tryd.results40 rfl rfl ?_
          by_cases hc : b.length = 128 ∧ n < 128 ∧ (∀ x ∈ r, x = 0) ∧ (openR s).2 = 0
          ·
            have hy := un_yes hn hs hrs hc
            obtain ⟨g1, g2, g3, g4⟩ := hc
            rw [hy.1, hy.2]
            first
              | (exact ⟨_, rfl, ⟨a3, c3, rfl, hq.mono (fun x hx => by omega)⟩, kk⟩)
              | (exfalso; have g5 := hm.2 g3; omega)
              | (exfalso; omega)
          ·
            have hy := un_no hn hs hrs hc
            have ho2 := openR_err s
            rw [hy.1, hy.2]
            first
              | (exact ⟨_, rfl, ⟨none, 0, rfl, Row.nil _ _ _ _⟩, kk⟩)
              | (have h9 : (openR s).2 = 2 := ho2.resolve_left (by assumption)
                 refine ⟨_, rfl, ⟨none, 0, ?_, Row.nil _ _ _ _⟩, kk⟩
                 rw [← h9]
                 rfl)
              | (exfalso; exact hc ⟨by omega, by omega, hm.1 (by omega), by assumption⟩)
        ·
          refine WL.nil (WX.then_normal (WC.cond_false rfl (WC.skip (WX.then_normal (WC.seq (WC.region (WL.move rfl rfl (?_))))))))
          have ho' := ho.rsl.old
          refine WL.call eg_70 rfl rfl (decode_calls' ho' (by have := openR_len s; rw [hs, List.length_drop, List.length_take] at this; rw [← hs] at this; omega)) ?_
          rintro v w3 ⟨⟨a3, c3, rfl, hq⟩, k3⟩
          have zs_k3 := k3.size
          replace hr := hr.pure k3
          replace kk := kk.pure k3
          replace hb1 := hb1.pure k3
          replace hb2 := hb2.pure k3
          replace ho := ho.pure k3
          replace hq := hq.lt
          refine WL.extract rfl rfl rfl (WL.extract rfl rfl rfl (WL.assign rfl rfl (WL.assign rfl rfl (WL.nil (WX.then_normal (WC.ret (?_)))))))
          refine WX.ret2 (.inl rfl) Tryd.results40 rfl rfl ?_
          by_cases hc : b.length = 128 ∧ n < 128 ∧ (∀ x ∈ r, x = 0) ∧ (openR s).2 = 0
          ·
            have hy := un_yes hn hs hrs hc
            obtain ⟨g1, g2, g3, g4⟩ := hc
            rw [hy.1, hy.2]
            first
              | (exact ⟨_, rfl, ⟨a3, c3, rfl, hq.mono (fun x hx => by omega)⟩, kk⟩)
              | (exfalso; have g5 := hm.2 g3; omega)
              | (exfalso; omega)
          ·
            have hy := un_no hn hs hrs hc
            have ho2 := openR_err s
            rw [hy.1, hy.2]
            first
              | (exact ⟨_, rfl, ⟨none, 0, rfl, Row.nil _ _ _ _⟩, kk⟩)
              | (have h9 : (openR s).2 = 2 := ho2.resolve_left (by assumption)
                 refine ⟨_, rfl, ⟨none, 0, ?_, Row.nil _ _ _ _⟩, kk⟩
                 rw [← h9]
                 rfl)
              | (exfalso; exact hc ⟨by omega, by omega, hm.1 (by omega), by assumption⟩)
end Go.Proofs.YtjeldcjchipdgaaDoor
namespace Go.Proofs.YtjeldcjchipdgaaDoor
open Go.RowKit Go.HL
set_option maxRecDepth 100000

theorem icheck_good {l : List Item} (hl : l.length ≤ 2000) (hg : ∀ i ∈ l, Good i) : checkE l = 0 := by
  unfold checkE
  have h1 : ¬ (2000 < l.length ∨ l.any longI = true) := by
    rintro (h | h)
    · omega
    · obtain ⟨i, hi, h2⟩ := List.any_eq_true.1 h
      rw [(hg i hi).1] at h2
      cases h2
  rw [if_neg h1, if_pos (List.all_eq_true.2 fun i hi => (hg i hi).2.1)]
end Go.Proofs.YtjeldcjchipdgaaDoor
namespace Go.Proofs.YtjeldcjchipdgaaDoor
open Go.RowKit Go.HL
set_option maxRecDepth 100000

/-! plain: what is in a sector -/
theorem sec_parts {c : List UInt8} (h : c.length ≤ 95) : ((sec c).getD 0 0).toNat = c.length + 32 ∧ ((sec c).take (1 + (c.length + 32))).drop 1 = c ++ sumB c ∧ (sec c).drop (1 + (c.length + 32)) = List.replicate (95 - c.length) 0 := by
  have hl : (c ++ sumB c).length = c.length + 32 := by rw [List.length_append, sumB_len]
  refine ⟨?_, ?_, ?_⟩
  · show (B8 ((c.length : Int) + 32)).toNat = _
    rw [B8]
    have e1 : ((c.length : Int) + 32) % 256 = (c.length : Int) + 32 := Int.emod_eq_of_lt (by omega) (by omega)
    rw [e1, UInt8.toNat_ofNat']
    omega
  · rw [sec, show 1 + (c.length + 32) = (c.length + 32) + 1 from by omega, List.cons_append, List.take_succ_cons, List.drop_succ_cons, List.drop_zero, List.take_append_of_le_length (by omega), ← hl, List.take_length]
  · rw [sec, show 1 + (c.length + 32) = (c.length + 32) + 1 from by omega, List.cons_append, List.drop_succ_cons, ← hl, List.drop_left]
theorem open_sealed (c : List UInt8) : openR (c ++ sumB c) = (c, 0) := by
  have hl : (c ++ sumB c).length = c.length + 32 := by rw [List.length_append, sumB_len]
  rw [openR, hl, show c.length + 32 - 32 = c.length from by omega, List.take_left, List.drop_left, if_pos ⟨by omega, rfl⟩]
theorem open_parts {s : List UInt8} (h : (openR s).2 = 0) : s = (openR s).1 ++ sumB (openR s).1 ∧ (openR s).1.length + 32 = s.length := by
  unfold openR at h ⊢
  split at h
  · rename_i h1
    rw [if_pos h1]
    dsimp only
    rw [h1.2, List.take_append_drop, List.length_take]
    exact ⟨rfl, by omega⟩
  · cases h
theorem un_sec {l : List Item} (h : secE l = 0) (hg : ∀ i ∈ l, RIt i) : unS (secB l) = some l := by
  have h0 : checkE l = 0 := by
    unfold secE at h
    split at h
    · assumption
    · rename_i h1; exact absurd h h1
  have h1 : (encAll l).length ≤ 95 := by
    rw [secE, if_pos h0] at h
    split at h
    · cases h
    · omega
  obtain ⟨c1, c2⟩ := checkE_ok h0
  obtain ⟨p1, p2, p3⟩ := sec_parts h1
  rw [secB, if_pos h, unS, p1, p2, p3, open_sealed, if_pos ⟨sec_len h1, by omega, fun x hx => (List.mem_replicate.1 hx).2, rfl⟩]
  exact enc_dec l 0 (by omega) (fun i hi => ⟨(c2 i hi).1, (c2 i hi).2, hg i hi⟩)
theorem un_parts {b : List UInt8} {l : List Item} (h : unS b = some l) : b.length = 128 ∧ (b.getD 0 0).toNat < 128 ∧ (openR ((b.take (1 + (b.getD 0 0).toNat)).drop 1)).2 = 0 ∧ dec 0 (openR ((b.take (1 + (b.getD 0 0).toNat)).drop 1)).1 = some l ∧ (∀ i ∈ l, Good i) ∧ secE l = 0 ∧ secB l = b := by
  unfold unS at h
  split at h
  · rename_i hc
    obtain ⟨g1, g2, g3, g4⟩ := hc
    obtain ⟨d1, d2, d3⟩ := dec_spec _ _ (Nat.le_refl _) 0 l (by omega) h
    obtain ⟨n, hn⟩ : ∃ n, n = (b.getD 0 0).toNat := ⟨_, rfl⟩
    rw [← hn] at g2 g3 g4 d3 h ⊢
    obtain ⟨s, hs⟩ : ∃ s, s = (b.take (1 + n)).drop 1 := ⟨_, rfl⟩
    rw [← hs] at g4 d3 h ⊢
    obtain ⟨o1, o2⟩ := open_parts g4
    have hsl : s.length = n := by rw [hs, List.length_drop, List.length_take]; omega
    have hE : secE l = 0 := by
      rw [secE, if_pos (icheck_good (by omega) d2), if_neg (by rw [d3]; omega)]
    refine ⟨g1, g2, g4, h, d2, hE, ?_⟩
    rw [secB, if_pos hE, d3, sec, ← o1]
    have e1 : B8 (((openR s).1.length : Int) + 32) = b.getD 0 0 := by
      apply UInt8.toNat_inj.1
      rw [← hn, B8]
      have e2 : (((openR s).1.length : Int) + 32) % 256 = ((openR s).1.length : Int) + 32 := Int.emod_eq_of_lt (by omega) (by omega)
      rw [e2, UInt8.toNat_ofNat']
      omega
    have e3 : List.replicate (95 - (openR s).1.length) 0 = b.drop (1 + n) := by
      refine (List.eq_replicate_iff.2 ⟨?_, g3⟩).symm
      rw [List.length_drop]
      omega
    rw [e1, e3, hs]
    cases b with
    | nil => simp at g1
    | cons x r =>
      simp only [List.getD_cons_zero, Nat.add_comm 1 n, List.take_succ_cons, List.drop_succ_cons, List.drop_zero, List.cons_append, List.take_append_drop]
  · cases h
theorem un_yes' {b : List UInt8} {l : List Item} (h : unS b = some l) : unL b = l ∧ unE b = 0 := by
  rw [unL, unE, h]
  exact ⟨rfl, rfl⟩

/-! the document's -/
end Go.Proofs.YtjeldcjchipdgaaDoor
namespace Go.Proofs.YtjeldcjchipdgaaDoor
open Go.RowKit Go.HL
set_option maxRecDepth 100000

theorem secB_128 {l : List Item} (h : secE l = 0) : (secB l).length = 128 := by
  have h1 : (encAll l).length ≤ 95 := by
    unfold secE at h
    split at h
    · split at h
      · cases h
      · omega
    · rename_i h1; exact absurd h h1
  rw [secB, if_pos h, sec_len h1]
end Go.Proofs.YtjeldcjchipdgaaDoor
namespace Go.Proofs.YtjeldcjchipdgaaDoor
open Go.RowKit Go.HL
set_option maxRecDepth 100000

/-! pointers -/
structure PtrV where
  a : Int
  z : Int
  b : Int
  s : ByteArray
theorem PtrV.eq_iff (p q : PtrV) : (p.a = q.a ∧ p.z = q.z ∧ p.b = q.b ∧ p.s = q.s) ↔ p = q := by
  obtain ⟨a, z, b, s⟩ := p
  obtain ⟨a2, z2, b2, s2⟩ := q
  simp
instance : DecidableEq PtrV := fun a b => decidable_of_iff _ (PtrV.eq_iff a b)
def rightP (p : PtrV) : Prop := 0 ≤ p.a ∧ 0 ≤ p.b ∧ 1 ≤ p.z ∧ p.z ≤ 1024 ∧ p.s.size = 32
instance (p : PtrV) : Decidable (rightP p) := by unfold rightP; infer_instance
end Go.Proofs.YtjeldcjchipdgaaDoor
namespace Go.Proofs.YtjeldcjchipdgaaDoor
open Go.RowKit Go.HL
set_option maxRecDepth 100000

theorem good1 {i : Item} (h : Good i) (k : i.kind = 1) : i = ⟨1, i.n, ⟨#[]⟩⟩ := by
  have h2 := h.2.1
  simp only [okI, decide_eq_true_eq] at h2
  obtain ⟨a, b, c⟩ := i
  simp only at k h2 ⊢
  subst k
  rcases h2 with ⟨_, rfl⟩ | ⟨h, _⟩
  · rfl
  · cases h
theorem good2 {i : Item} (h : Good i) (k : i.kind = 2) : i = ⟨2, 0, i.s⟩ := by
  have h2 := h.2.1
  simp only [okI, decide_eq_true_eq] at h2
  obtain ⟨a, b, c⟩ := i
  simp only at k h2 ⊢
  subst k
  rcases h2 with ⟨h, _⟩ | ⟨_, rfl⟩
  · cases h
  · rfl
end Go.Proofs.YtjeldcjchipdgaaDoor
namespace Go.Proofs.YtjeldcjchipdgaaDoor
open Go.RowKit Go.HL
set_option maxRecDepth 100000

/-! the records of a label -/
structure UbV where
  t : Int
  p : PtrV
theorem UbV.eq_iff (u v : UbV) : (u.t = v.t ∧ u.p = v.p) ↔ u = v := by
  obtain ⟨a, b⟩ := u
  obtain ⟨c, d⟩ := v
  simp
instance : DecidableEq UbV := fun a b => decidable_of_iff _ (UbV.eq_iff a b)
theorem un_good {b : List UInt8} : ∀ i ∈ unL b, Good i := by
  cases hu : unS b with
  | none => rw [(un_none hu).1]; intro i hi; cases hi
  | some l => rw [(un_yes' hu).1]; exact (un_parts hu).2.2.2.2.1
end Go.Proofs.YtjeldcjchipdgaaDoor
namespace Go.Proofs.YtjeldcjchipdgaaDoor
open Go.RowKit Go.HL
set_option maxRecDepth 100000

/-! what a rack holds -/
abbrev Pl := Int × Int
def kpl (p : Pl) : Value := .agg #[vi p.1, vi p.2]
def vsl (r : Rw) : Value := .slice r.ao r.xs.length r.cap
def ewr : Enc (Pl × Rw) := ⟨3, fun x => [vi x.1.1, vi x.1.2, .slice x.2.ao x.2.xs.length x.2.cap], fun _ => rfl, by simp [Value.oneCell'], by decide⟩
theorem eqg_pl : Tryd.prog.eqGuardType Tryd.prog.depth 90 = false := by kernel_rfl
theorem eq_pl (a b c d : Int) (w : World) : (Op.equalIn 10000 90 (.agg #[vi a, vi b]) (.agg #[vi c, vi d])).run Tryd.prog w = .ok (decide (a = c ∧ b = d)) w := by
  refine eqA_of (d := 9999) Tryd.underlying90 (by kernel_rfl) ?_
  have h3 : (decide (a = c) && (decide (b = d) && true)) = decide (a = c ∧ b = d) := by simp [Bool.decide_and]
  rw [← h3]
  refine eqf_cons rfl (part1 (cs := [vi a, vi b]) Tryd.sizeOf3 Tryd.isAgg3 rfl) (part1 (cs := [vi c, vi d]) Tryd.sizeOf3 Tryd.isAgg3 rfl) (run_equalIn_int w 9998 _ _ _ _ _ Tryd.underlying3) ?_
  refine eqf_cons rfl (part1 (cs := [vi a, vi b]) Tryd.sizeOf3 Tryd.isAgg3 rfl) (part1 (cs := [vi c, vi d]) Tryd.sizeOf3 Tryd.isAgg3 rfl) (run_equalIn_int w 9998 _ _ _ _ _ Tryd.underlying3) eqf_nil
theorem plOk : KeyOk Tryd.prog 90 kpl where
  chk em w k := by
    have h1 : ∀ a w, (Instr.checkKey em 9999 3 (vi a)).run Tryd.prog w = .ok () w := fun a w => by
      rw [Instr.checkKey]
      simp [run_underlying Tryd.underlying3]
    show (Instr.checkKey em (9999 + 1) 90 (.agg #[vi k.1, vi k.2])).run Tryd.prog w = .ok () w
    rw [Instr.checkKey]
    simp [run_underlying Tryd.underlying90, part, Tryd.sizeOf3, Tryd.isAgg3, h1]
  eq w k k' := by
    show (Op.equalIn 10000 90 (.agg #[vi k.1, vi k.2]) (.agg #[vi k'.1, vi k'.2])).run Tryd.prog w = .ok (decide (k = k')) w
    rw [eq_pl, decide_eq_decide.2 (Prod.ext_iff (x := k) (y := k')).symm]
  st := ⟨_, Tryd.underlying90⟩
  same k := by
    show Instr.sameBits (9999 + 1) (.agg #[vi k.1, vi k.2]) (.agg #[vi k.1, vi k.2]) = true
    rw [Instr.sameBits]
    simp [Instr.sameBits]
structure RA where
  dn : Nat
  sn : Nat
  last : List (Pl × List UInt8)
  gone : List Bool
  waits : List (Pl × List UInt8)
  off : Bool
  armed : Bool
  left : Int
def xsm (l : List (Pl × Rw)) : List (Pl × List UInt8) := l.map fun p => (p.1, p.2.xs)
structure RA.ok (s : RA) : Prop where
  dn : 1 ≤ s.dn ∧ s.dn ≤ 16
  sn : 1 ≤ s.sn ∧ s.sn ≤ 2000
  gl : s.gone.length = s.dn
  ll : ∀ p ∈ s.last, p.2.length = 128
  lw : ∀ p ∈ s.waits, p.2.length = 128
  lf : (s.armed = true → 0 ≤ s.left) ∧ -9223372036854775808 ≤ s.left ∧ s.left ≤ 9223372036854775807
  nd : (s.last.map (·.1)).Nodup
abbrev rcells (s : RA) (m : Nat) (ga : Option Addr) (gc : Nat) (wa : Option Addr) (wc n : Nat) : List Value := [vi s.dn, vi s.sn, .map (some m), .slice ga s.gone.length gc, .slice wa n wc, .bool s.off, .bool s.armed, vi s.left]
/-- all but the rack's own block -/
structure RI (S : Nat → Prop) (w : World) (m : Nat) (ga : Option Addr) (gc : Nat) (wa : Option Addr) (wc : Nat) (gl : List Bool) (ws ls : List (Pl × Rw)) : Prop where
  sm : S m
  map : Mp kpl vsl w m ls
  gone : Row S w 4 ebool ga gc gl
  waits : Row S w 92 ewr wa wc ws
  byl : ∀ p ∈ ls, Row S w 5 eb p.2.ao p.2.cap p.2.xs
  byw : ∀ p ∈ ws, Row S w 5 eb p.2.ao p.2.cap p.2.xs
section
variable {S M : Nat → Prop} {w w' : World} {m : Nat} {ga : Option Addr} {gc : Nat} {wa : Option Addr} {wc : Nat} {gl : List Bool} {ws ls : List (Pl × Rw)}
theorem RI.chg (h : RI S w m ga gc wa wc gl ws ls) (k : Chg M w w') (hd : ∀ b, b < w.heap.size → S b → M b → False) : RI S w' m ga gc wa wc gl ws ls :=
  ⟨h.sm, h.map.chg k (fun hm => hd m h.map.lt h.sm hm), h.gone.chg k hd, h.waits.chg k hd, fun p hp => (h.byl p hp).chg k hd, fun p hp => (h.byw p hp).chg k hd⟩
theorem RI.pure (h : RI S w m ga gc wa wc gl ws ls) (k : Chg Nob w w') : RI S w' m ga gc wa wc gl ws ls := h.chg k (fun _ _ _ x => x)
theorem RI.mono {S' : Nat → Prop} (h : RI S w m ga gc wa wc gl ws ls) (k : ∀ b, S b → S' b) : RI S' w m ga gc wa wc gl ws ls :=
  ⟨k _ h.sm, h.map, h.gone.mono k, h.waits.mono k, fun p hp => (h.byl p hp).mono k, fun p hp => (h.byw p hp).mono k⟩
/-- no part of it is the rack's own block -/
theorem RI.open {R : Nat} {cs : List Value} (h : RI S w m ga gc wa wc gl ws ls) (hB : Blk w R 86 cs) : RI (fun b => S b ∧ b ≠ R) w m ga gc wa wc gl ws ls := by
  have hk := hB.kb
  refine ⟨⟨h.sm, fun e => ?_⟩, h.map, h.gone.kb.mono ?_, h.waits.kb.mono ?_, fun p hp => (h.byl p hp).kb.mono ?_, fun p hp => (h.byw p hp).kb.mono ?_⟩
  · have := h.map.kb
    rw [e, hk] at this
    simp at this
  all_goals
    rintro b ⟨h1, h2⟩
    refine ⟨h1, fun e => ?_⟩
    rw [e, hk] at h2
    exact absurd h2 (by decide)
/-- the map alone has turned -/
theorem RI.putMap {ls2 : List (Pl × Rw)} (h : RI S w m ga gc wa wc gl ws ls) (hM : Mp kpl vsl w' m ls2) (k : Chg (· = m) w w') (hn : ∀ p ∈ ls2, (∃ q ∈ ls, q.2 = p.2) ∨ (∃ q ∈ ws, q.2 = p.2)) : RI S w' m ga gc wa wc gl ws ls2 := by
  have hk := h.map.kb
  have hd : ∀ T b, b < w.heap.size → b = m → kb w b ≠ some (some T) := by
    rintro T b _ rfl
    rw [hk]
    simp
  have hb : ∀ p ∈ ls2, Row S w 5 eb p.2.ao p.2.cap p.2.xs := fun p hp => by
    rcases hn p hp with ⟨q, hq, e⟩ | ⟨q, hq, e⟩
    · rw [← e]; exact h.byl q hq
    · rw [← e]; exact h.byw q hq
  exact ⟨h.sm, hM, h.gone.chgK k (hd _), h.waits.chgK k (hd _), fun p hp => (hb p hp).chgK k (hd _), fun p hp => (h.byw p hp).chgK k (hd _)⟩
/-- the row of the writes that wait alone has turned -/
theorem RI.setWaits {wa2 : Option Addr} {wc2 : Nat} {ws2 : List (Pl × Rw)} (h : RI S w m ga gc wa wc gl ws ls) (hW : Row S w' 92 ewr wa2 wc2 ws2) (k : Chg M w w') (hM : ∀ b, M b → Eqb wa b) (hn : ∀ p ∈ ws2, (∃ q ∈ ws, q.2 = p.2) ∨ Row S w 5 eb p.2.ao p.2.cap p.2.xs) : RI S w' m ga gc wa2 wc2 gl ws2 ls := by
  have hd : ∀ b, b < w.heap.size → M b → kb w b = some (some 92) := fun b _ hm => h.waits.kb.at_.eqb (hM b hm) |>.2
  have hb : ∀ p ∈ ws2, Row S w 5 eb p.2.ao p.2.cap p.2.xs := fun p hp => by
    rcases hn p hp with ⟨q, hq, e⟩ | h1
    · rw [← e]; exact h.byw q hq
    · exact h1
  refine ⟨h.sm, h.map.chg k (fun hm => ?_), h.gone.chgK k (fun b h1 h2 => ?_), hW, fun p hp => (h.byl p hp).chgK k (fun b h1 h2 => ?_), fun p hp => (hb p hp).chgK k (fun b h1 h2 => ?_)⟩
  · have h1 := hd m h.map.lt hm
    rw [h.map.kb] at h1
    simp at h1
  all_goals
    rw [hd b h1 h2]
    decide
end
/-- a rack -/
structure RK (A : Nat → Prop) (w : World) (R : Nat) (s : RA) : Prop where
  aR : A R
  ok : s.ok
  ex : ∃ (m : Nat) (ga : Option Addr) (gc : Nat) (wa : Option Addr) (wc : Nat) (ws ls : List (Pl × Rw)), Blk w R 86 (rcells s m ga gc wa wc ws.length) ∧ RI A w m ga gc wa wc s.gone ws ls ∧ s.last = xsm ls ∧ s.waits = xsm ws
theorem RK.chg {A M : Nat → Prop} {w w' : World} {R : Nat} {s : RA} (h : RK A w R s) (k : Chg M w w') (hd : ∀ b, b < w.heap.size → A b → M b → False) : RK A w' R s := by
  obtain ⟨m, ga, gc, wa, wc, ws, ls, hB, hI, hl⟩ := h.ex
  exact ⟨h.aR, h.ok, m, ga, gc, wa, wc, ws, ls, hB.chg k (fun hm => hd R hB.lt h.aR hm), hI.chg k hd, hl⟩
theorem RK.pure {A : Nat → Prop} {w w' : World} {R : Nat} {s : RA} (h : RK A w R s) (k : Chg Nob w w') : RK A w' R s := h.chg k (fun _ _ _ x => x)
theorem RK.mono {A A' : Nat → Prop} {w : World} {R : Nat} {s : RA} (h : RK A w R s) (k : ∀ b, A b → A' b) : RK A' w R s := by
  obtain ⟨m, ga, gc, wa, wc, ws, ls, hB, hI, hl⟩ := h.ex
  exact ⟨k _ h.aR, h.ok, m, ga, gc, wa, wc, ws, ls, hB, hI.mono k, hl⟩
abbrev ptr (g : Nat) : Value := .pointer (some ⟨g, 0, none⟩)
/-! asking for a drive, for a sector -/
theorem is_calls {A : Nat → Prop} {w : World} {R : Nat} {s : RA} (h : RK A w R s) (d : Int) : Calls Tryd.prog 51 [ptr R, vi d].toArray w (Ret fun v w' => v = .bool (decide (0 ≤ d ∧ d < s.dn)) ∧ Chg Nob w w') := by
  obtain ⟨m, ga, gc, wa, wc, ws, ls, hB, -⟩ := h.ex
  have hw := Chg.refl Nob w
  refine Calls.of_WC Tryd.func51 rfl Tryd.ntmps51 (by simp) ?_
  refine WC.seq (WC.region (WL.assign rfl rfl (WL.nil (WX.then_normal (WC.seq (WC.region (WL.move rfl rfl (?_))))))))
  refine WL.ptrSome Tryd.underlying41 rfl rfl rfl ?_
  refine WL.move rfl rfl (WL.want rfl rfl rfl (WL.move rfl rfl (WL.want rfl rfl rfl (?_))))
  refine WL.geq? rfl rfl rfl (fun h9 => ?_) (fun h9 => ?_)
  ·
    refine WL.pickT rfl rfl rfl (WL.move rfl rfl (WL.want rfl rfl rfl (WL.move rfl rfl (WL.want rfl rfl rfl (WL.move rfl rfl (WL.want rfl rfl rfl (WL.nilCheck rfl rfl (?_))))))))
    refine WL.want rfl rfl rfl (WL.fieldAddr (fld_86_0) rfl rfl (WL.want rfl rfl rfl (WL.loadB Tryd.isAgg3 hB rfl rfl rfl (WL.want rfl rfl rfl (WL.lss rfl rfl rfl (WL.pickT rfl rfl rfl (WL.assign rfl rfl (?_))))))))
    refine WL.nil (WX.then_normal (WC.ret (?_)))
    refine WX.ret1 (.inl rfl) Tryd.results51 rfl ?_
    refine ⟨_, rfl, ?_, hw⟩
    congr 1
    simp
    omega
  ·
    refine WL.pickT rfl rfl rfl (WL.move rfl rfl (WL.pass rfl rfl rfl rfl (WL.pass rfl rfl rfl rfl (WL.pass rfl rfl rfl rfl (WL.pass rfl rfl rfl rfl (WL.pass rfl rfl rfl rfl (WL.pass rfl rfl rfl rfl (?_))))))))
    refine WL.pickF rfl rfl rfl (WL.assign rfl rfl (WL.nil (WX.then_normal (WC.ret (?_)))))
    refine WX.ret1 (.inl rfl) Tryd.results51 rfl ?_
    refine ⟨_, rfl, ?_, hw⟩
    congr 1
    simp
    omega
theorem in_calls {A : Nat → Prop} {w : World} {R : Nat} {s : RA} (h : RK A w R s) (d a : Int) : Calls Tryd.prog 46 [ptr R, vi d, vi a].toArray w (Ret fun v w' => v = .bool (decide (0 ≤ d ∧ d < s.dn ∧ 0 ≤ a ∧ a < s.sn)) ∧ Chg Nob w w') := by
  have hw := Chg.refl Nob w
  refine Calls.of_WC Tryd.func46 rfl Tryd.ntmps46 (by simp) ?_
  refine WC.seq (WC.region (WL.assign rfl rfl (WL.nil (WX.then_normal (WC.seq (WC.region (WL.move rfl rfl (?_))))))))
  refine WL.move rfl rfl (?_)
  refine WL.call eg_51 rfl rfl (is_calls h d) ?_
  rintro v w1 ⟨rfl, k1⟩
  have zs_k1 := k1.size
  replace h := h.pure k1
  replace hw := hw.pure k1
  obtain ⟨m, ga, gc, wa, wc, ws, ls, hB, -⟩ := h.ex
  by_cases h9 : 0 ≤ d ∧ d < s.dn
  ·
    rw [decide_eq_true h9]
    refine WL.move rfl rfl (WL.want rfl rfl rfl (WL.move rfl rfl (WL.want rfl rfl rfl (?_))))
    refine WL.geq? rfl rfl rfl (fun h12 => ?_) (fun h12 => ?_)
    ·
      refine WL.pickT rfl rfl rfl (WL.move rfl rfl (WL.want rfl rfl rfl (WL.move rfl rfl (WL.want rfl rfl rfl (WL.move rfl rfl (WL.want rfl rfl rfl (WL.nilCheck rfl rfl (?_))))))))
      refine WL.want rfl rfl rfl (WL.fieldAddr (fld_86_1) rfl rfl (WL.want rfl rfl rfl (WL.loadB Tryd.isAgg3 hB rfl rfl rfl (WL.want rfl rfl rfl (WL.lss rfl rfl rfl (WL.pickT rfl rfl rfl (WL.assign rfl rfl (?_))))))))
      refine WL.nil (WX.then_normal (WC.ret (?_)))
      refine WX.ret1 (.inl rfl) Tryd.results46 rfl ?_
      refine ⟨_, rfl, ?_, hw⟩
      congr 1
      first
        | (simp [h9.1, h9.2, h12]; done)
        | (simp; omega)
    ·
      refine WL.pickT rfl rfl rfl (WL.move rfl rfl (WL.pass rfl rfl rfl rfl (WL.pass rfl rfl rfl rfl (WL.pass rfl rfl rfl rfl (WL.pass rfl rfl rfl rfl (WL.pass rfl rfl rfl rfl (WL.pass rfl rfl rfl rfl (?_))))))))
      refine WL.pickF rfl rfl rfl (WL.assign rfl rfl (WL.nil (WX.then_normal (WC.ret (?_)))))
      refine WX.ret1 (.inl rfl) Tryd.results46 rfl ?_
      refine ⟨_, rfl, ?_, hw⟩
      congr 1
      first
        | (simp [h9.1, h9.2, h12]; done)
        | (simp; omega)
  ·
    rw [decide_eq_false h9]
    refine WL.move rfl rfl (WL.pass rfl rfl rfl rfl (WL.pass rfl rfl rfl rfl (WL.pickF rfl rfl rfl (WL.move rfl rfl (WL.pass rfl rfl rfl rfl (WL.pass rfl rfl rfl rfl (WL.pass rfl rfl rfl rfl (?_))))))))
    refine WL.pass rfl rfl rfl rfl (WL.pass rfl rfl rfl rfl (WL.pass rfl rfl rfl rfl (WL.pickF rfl rfl rfl (WL.assign rfl rfl (WL.nil (WX.then_normal (WC.ret (?_))))))))
    refine WX.ret1 (.inl rfl) Tryd.results46 rfl ?_
    refine ⟨_, rfl, ?_, hw⟩
    congr 1
    first
      | (simp [h9.1, h9.2, h12]; done)
      | (simp; omega)
end Go.Proofs.YtjeldcjchipdgaaDoor
namespace Go.Proofs.YtjeldcjchipdgaaDoor
open Go.RowKit Go.HL
set_option maxRecDepth 100000

/-! the last write that waits for a sector -/
theorem newest_calls {S : Nat → Prop} {w : World} {R : Nat} {s : RA} {m : Nat} {ga : Option Addr} {gc : Nat} {wa : Option Addr} {wc : Nat} {ws : List (Pl × Rw)} (hB : Blk w R 86 (rcells s m ga gc wa wc ws.length)) (hW : Row S w 92 ewr wa wc ws) (p : Pl) :
    Calls Tryd.prog 49 [ptr R, kpl p].toArray w (Ret fun v w' => (∃ ao : Option Addr, v = .pointer ao ∧ ((ao = none ∧ ∀ x ∈ ws, x.1 ≠ p) ∨ (∃ j x g, ws[j]? = some x ∧ x.1 = p ∧ (∀ k y, j < k → ws[k]? = some y → y.1 ≠ p) ∧ wa = some ⟨g, 0, none⟩ ∧ ao = some ⟨g, 0 + j * 3, none⟩))) ∧ Chg Nob w w') := by
  replace hW := hW.lt
  have hw := Chg.refl Nob w
  have hcap := hW.own.cap
  have hws : ws.length ≤ 9223372036854775807 := by
    rcases hW.own.2.2 with ⟨_, h⟩ | ⟨_, _, _, _, _, _, h, _⟩
    · omega
    · simp only [maxLen] at h; omega
  obtain ⟨pd, pa⟩ := p
  refine Calls.of_WC Tryd.func49 rfl Tryd.ntmps49 (by simp) ?_
  refine WC.seq (WC.region (?_))
  refine WL.box rfl rfl ?_
  intro g1 w1 hge1 hlt1 hP k1
  replace hP : Blk w1 g1 90 [vi pd, vi pa] := hP
  have zs_k1 := k1.size
  replace hB := hB.pure k1
  replace hW := hW.pure k1
  replace hw := hw.pure k1
  refine WL.assign rfl rfl (WL.nil (WX.then_normal (WC.seq (WC.seq (WC.region (WL.move rfl rfl (WL.nilCheck rfl rfl (?_))))))))
  refine WL.fieldAddr (fld_86_4) rfl rfl (WL.loadB Tryd.isAgg84 hB rfl rfl rfl (WL.len Tryd.underlying84 rfl rfl (?_)))
  refine WL.sub64 rfl rfl (by constructor <;> omega) rfl ?_
  refine WL.assign rfl rfl (WL.nil (WX.then_normal (WC.block (?_))))
  refine WC.loop (σ := Nat) (fun i => [(0, ptr R), (3, ptr g1), (4, .pointer none), (5, vi ((i : Int) - 1))]) (fun i w' => i ≤ ws.length ∧ (∀ k x, i ≤ k → ws[k]? = some x → x.1 ≠ (pd, pa)) ∧ Blk w' R 86 (rcells s m ga gc wa wc ws.length) ∧ Row (fun b => S b ∧ b < w.heap.size) w' 92 ewr wa wc ws ∧ Blk w' g1 90 [vi pd, vi pa] ∧ Chg Nob w w') (fun i => i) ws.length ⟨rfl, rfl, rfl, rfl, trivial⟩ ⟨Nat.le_refl _, fun k x hk hx => by have := (List.getElem?_eq_some_iff.1 hx).1; omega, hB, hW, hP, hw⟩ ?_
  clear hB hW hP hw
  rintro i w1 ⟨hi, hno, hB, hW, hP, hw⟩
  refine WC.seq (WC.seq (WC.region (WL.move rfl rfl (?_))))
  refine WL.geq? rfl rfl rfl (fun h13 => ?_) (fun h13 => ?_)
  ·
    refine WL.nil (WX.then_normal (WC.cond_true rfl (WC.skip (WX.then_normal (WC.seq (WC.block (WC.seq (?_))))))))
    obtain ⟨j, rfl⟩ : ∃ j, i = j + 1 := ⟨i - 1, by omega⟩
    have hx : ws[j]? = some ws[j] := List.getElem?_eq_getElem (by omega)
    obtain ⟨x, ex⟩ : ∃ x, x = ws[j] := ⟨_, rfl⟩
    rw [← ex] at hx
    obtain ⟨g, rfl⟩ := hW.place0 (j := j) (by omega)
    refine WC.draw (Nob) [0, 1, 2, 3, 4, 5, 6, 7, 8, 9] [] mixed rfl rfl (fun wd_1 kd_1 zd_1 => ?_)
    have zs_kd_1 := kd_1.size
    replace hB := hB.pure kd_1
    replace hW := hW.pure kd_1
    replace hw := hw.pure kd_1
    replace hP := hP.pure kd_1
    apply DQ.step (E' := [(0, _)])
    case ho => rfl
    case hs => exact ⟨rfl, trivial⟩
    case hk => rfl
    case h1 =>
      intro wq_2 kq_2
      refine WL.move rfl rfl (?_)
      refine WL.nil ?_
      exact WX.one ⟨rfl, by exact Chg.refl _ _⟩
    apply DQ.step (E' := [(16, _)])
    case ho => rfl
    case hs => exact ⟨rfl, trivial⟩
    case hk => rfl
    case h1 =>
      intro wq_3 kq_3
      refine WL.nilCheck rfl rfl (?_)
      refine WL.nil ?_
      exact WX.one ⟨rfl, by exact Chg.refl _ _⟩
    apply DQ.step (E' := [(17, _)])
    case ho => rfl
    case hs => exact ⟨rfl, trivial⟩
    case hk => rfl
    case h1 =>
      intro wq_4 kq_4
      refine WL.fieldAddr (fld_86_4) rfl rfl (?_)
      refine WL.nil ?_
      exact WX.one ⟨rfl, by exact Chg.refl _ _⟩
    apply DQ.step (E' := [(18, _)])
    case ho => rfl
    case hs => exact ⟨rfl, trivial⟩
    case hk => rfl
    case h1 =>
      intro wq_5 kq_5
      have zs_kq_5 := kq_5.size
      replace hB := hB.pure kq_5
      replace hW := hW.pure kq_5
      replace hw := hw.pure kq_5
      replace hP := hP.pure kq_5
      refine WL.loadB Tryd.isAgg84 hB rfl rfl rfl (?_)
      refine WL.nil ?_
      exact WX.one ⟨rfl, by exact Chg.refl _ _⟩
    apply DQ.step (E' := [(5, _)])
    case ho => rfl
    case hs => exact ⟨rfl, trivial⟩
    case hk => rfl
    case h1 =>
      intro wq_6 kq_6
      refine WL.move rfl rfl (?_)
      refine WL.nil ?_
      exact WX.one ⟨rfl, by exact Chg.refl _ _⟩
    apply DQ.step (E' := [(19, _), (20, _)])
    case ho => rfl
    case hs => exact ⟨rfl, rfl, trivial⟩
    case hk => rfl
    case h1 =>
      intro wq_7 kq_7
      have zs_kq_7 := kq_7.size
      replace hB := hB.pure kq_7
      replace hW := hW.pure kq_7
      replace hw := hw.pure kq_7
      replace hP := hP.pure kq_7
      refine WL.indexC hW.rsl Tryd.underlying84 Tryd.sizeOf92 rfl rfl ⟨hx, (by omega)⟩ rfl ?_
      refine WL.nil ?_
      exact WX.one ⟨rfl, by exact Chg.refl _ _⟩
    apply DQ.step (E' := [(21, _)])
    case ho => rfl
    case hs => exact ⟨rfl, trivial⟩
    case hk => rfl
    case h1 =>
      intro wq_8 kq_8
      refine WL.fieldAddr (fld_92_0) rfl rfl (?_)
      refine WL.nil ?_
      exact WX.one ⟨rfl, by exact Chg.refl _ _⟩
    apply DQ.step (E' := [(22, _)])
    case ho => rfl
    case hs => exact ⟨rfl, trivial⟩
    case hk => rfl
    case h1 =>
      intro wq_9 kq_9
      have zs_kq_9 := kq_9.size
      replace hB := hB.pure kq_9
      replace hW := hW.pure kq_9
      replace hw := hw.pure kq_9
      replace hP := hP.pure kq_9
      refine WL.loads [vi x.1.1, vi x.1.2] Tryd.isAgg90 Tryd.sizeOf90 rfl (fun q v hv => ?_) rfl rfl ?_
      ·
        have h1 := hW.rsl.cellsAt hx q v
        refine h1 ?_
        obtain ⟨⟨x1, x2⟩, x3⟩ := x
        match q, hv with
        | 0, hv => exact hv
        | 1, hv => exact hv
      refine WL.nil ?_
      exact WX.one ⟨rfl, by exact Chg.refl _ _⟩
    apply DQ.step (E' := [(3, _)])
    case ho => rfl
    case hs => exact ⟨rfl, trivial⟩
    case hk => rfl
    case h1 =>
      intro wq_10 kq_10
      have zs_kq_10 := kq_10.size
      replace hB := hB.pure kq_10
      replace hW := hW.pure kq_10
      replace hw := hw.pure kq_10
      replace hP := hP.pure kq_10
      refine WL.loadsB Tryd.isAgg90 Tryd.sizeOf90 hP rfl (by simp; done) rfl (?_)
      refine WL.nil ?_
      exact WX.one ⟨rfl, by exact Chg.refl _ _⟩
    apply DQ.split (E' := [(23, _), (24, _)])
    case ho => rfl
    case hs => exact ⟨rfl, rfl, trivial⟩
    case hk => rfl
    case h1 =>
      intro wq_11 kq_11
      refine WL.aeql eqg_pl (eq_pl _ _ _ _) rfl rfl rfl ?_
      refine WL.nil ?_
      exact WX.one ⟨rfl, by exact Chg.refl _ _⟩
    case ht =>
      intro h25
      replace h25 := of_decide_eq_true h25
      refine DQ.done (fun _ => ?_)
      refine DL.done (fun we_12 ke_12 => ?_)
      have zs_ke_12 := ke_12.size
      replace hB := hB.pure ke_12
      replace hW := hW.pure ke_12
      replace hw := hw.pure ke_12
      replace hP := hP.pure ke_12
      refine WX.then_normal (WC.cond_true rfl (WC.seq (WC.region (WL.move rfl rfl (WL.nilCheck rfl rfl (WL.fieldAddr (fld_86_4) rfl rfl (WL.loadB Tryd.isAgg84 hB rfl rfl rfl (?_))))))))
      refine WL.move rfl rfl (?_)
      refine WL.indexC hW.rsl Tryd.underlying84 Tryd.sizeOf92 rfl rfl ⟨hx, by omega⟩ rfl ?_
      refine WL.assign rfl rfl (WL.nil (WX.then_normal (WC.ret (WX.block_ret (WX.then_ret (WX.then_ret (WX.block_ret (?_))))))))
      refine WX.then_ret (?_)
      refine WX.ret1 (.inl rfl) Tryd.results49 rfl ?_
      refine ⟨_, rfl, ?_, hw⟩
      first
        | exact ⟨_, rfl, .inr ⟨j, x, g, hx, Prod.ext h25.1 h25.2, fun k y hk hy => hno k y (by omega) hy, rfl, rfl⟩⟩
        | exact ⟨_, rfl, .inl ⟨rfl, fun x hx => by
            obtain ⟨k, hk, rfl⟩ := List.getElem_of_mem hx
            exact hno k _ (by omega) (List.getElem?_eq_getElem hk)⟩⟩
    case hf =>
      intro h25
      replace h25 := of_decide_eq_false h25
      refine DQ.done (fun _ => ?_)
      refine DL.done (fun we_12 ke_12 => ?_)
      have zs_ke_12 := ke_12.size
      replace hB := hB.pure ke_12
      replace hW := hW.pure ke_12
      replace hw := hw.pure ke_12
      replace hP := hP.pure ke_12
      refine WX.then_normal (WC.cond_false rfl (WC.skip (WX.block_normal (WX.then_normal (WC.region (WL.move rfl rfl (WL.sub64 rfl rfl (by omega) rfl (?_))))))))
      refine WL.assign rfl rfl (WL.nil (?_))
      refine WX.loop_next j ⟨rfl, rfl, rfl, by simp [List.lookup, ev]; try omega, trivial⟩ ⟨by omega, ?_, hB, hW, hP, hw⟩ (by omega)
      intro k y hk hy
      rcases Nat.lt_or_ge j k with h1 | h1
      ·
        exact hno k y (by omega) hy
      ·
        have : k = j := by omega
        subst this
        rw [hx] at hy
        injection hy with hy
        subst hy
        intro e
        rw [e] at h25
        exact h25 ⟨rfl, rfl⟩
  ·
    refine WL.nil (WX.then_normal (WC.cond_false rfl (WC.exit (WX.then_exit (WX.then_exit (WX.block_here (WX.then_normal (?_))))))))
    refine WC.seq (WC.region (WL.assign rfl rfl (WL.nil (WX.then_normal (WC.ret (?_))))))
    refine WX.ret1 (.inl rfl) Tryd.results49 rfl ?_
    refine ⟨_, rfl, ?_, hw⟩
    first
      | exact ⟨_, rfl, .inr ⟨j, x, g, hx, Prod.ext h25.1 h25.2, fun k y hk hy => hno k y (by omega) hy, rfl, rfl⟩⟩
      | exact ⟨_, rfl, .inl ⟨rfl, fun x hx => by
          obtain ⟨k, hk, rfl⟩ := List.getElem_of_mem hx
          exact hno k _ (by omega) (List.getElem?_eq_getElem hk)⟩⟩
end Go.Proofs.YtjeldcjchipdgaaDoor
namespace Go.Proofs.YtjeldcjchipdgaaDoor
open Go.RowKit Go.HL
set_option maxRecDepth 100000

/-! plain: the last of those with a place -/
section
variable {K V : Type} [DecidableEq K]
theorem mget_app (l1 l2 : List (K × V)) (k : K) : mget (l1 ++ l2) k = match mget l1 k with | some v => some v | none => mget l2 k := by
  induction l1 with
  | nil => rfl
  | cons p r ih =>
    obtain ⟨k', v⟩ := p
    simp only [List.cons_append, mget]
    by_cases h : k = k'
    · simp [h]
    · simp [h, ih]
theorem mget_no {l : List (K × V)} {k : K} (h : ∀ x ∈ l, x.1 ≠ k) : mget l k = none := by
  induction l with
  | nil => rfl
  | cons p r ih =>
    obtain ⟨k', v⟩ := p
    have h1 := h (k', v) (by simp)
    simp only [mget]
    rw [if_neg (fun e => h1 e.symm)]
    exact ih (fun x hx => h x (List.mem_cons_of_mem _ hx))
theorem mget_mem {l : List (K × V)} {k : K} {v : V} (h : mget l k = some v) : (k, v) ∈ l := by
  induction l with
  | nil => cases h
  | cons p r ih =>
    obtain ⟨k', u⟩ := p
    simp only [mget] at h
    by_cases e : k = k'
    · subst e
      simp at h
      simp [h]
    · rw [if_neg e] at h
      exact List.mem_cons_of_mem _ (ih h)
/-- of those with a place the last -/
def newV (ws : List (K × V)) (p : K) : Option V := mget ws.reverse p
theorem newV_none {ws : List (K × V)} {p : K} (h : ∀ x ∈ ws, x.1 ≠ p) : newV ws p = none := mget_no (fun x hx => h x (List.mem_reverse.1 hx))
omit [DecidableEq K] in
theorem split_at {ws : List (K × V)} {j : Nat} {x : K × V} (hx : ws[j]? = some x) : ws = ws.take j ++ [x] ++ ws.drop (j + 1) := by
  obtain ⟨hj, e⟩ := List.getElem?_eq_some_iff.1 hx
  rw [← e, List.append_assoc]
  simp
omit [DecidableEq K] in
theorem later_no {ws : List (K × V)} {p : K} {j : Nat} (h : ∀ k y, j < k → ws[k]? = some y → y.1 ≠ p) : ∀ x ∈ (ws.drop (j + 1)).reverse, x.1 ≠ p := by
  intro x hx
  obtain ⟨i, hi, rfl⟩ := List.getElem_of_mem (List.mem_reverse.1 hx)
  refine h (j + 1 + i) _ (by omega) ?_
  rw [← List.getElem?_drop]
  exact List.getElem?_eq_getElem hi
theorem newV_some {ws : List (K × V)} {p : K} {j : Nat} {x : K × V} (hx : ws[j]? = some x) (hp : x.1 = p) (h : ∀ k y, j < k → ws[k]? = some y → y.1 ≠ p) : newV ws p = some x.2 := by
  obtain ⟨x1, x2⟩ := x
  subst hp
  unfold newV
  rw [split_at hx, List.reverse_append, List.reverse_append, mget_app, mget_no (later_no h)]
  simp [mget]
theorem mput_fst {l : List (K × V)} {k : K} {v : V} : (mput l k v).map (·.1) = if k ∈ l.map (·.1) then l.map (·.1) else l.map (·.1) ++ [k] := by
  induction l with
  | nil => simp [mput]
  | cons p r ih =>
    obtain ⟨k', u⟩ := p
    simp only [mput]
    by_cases h : k = k'
    · simp [h]
    · rw [if_neg h]
      simp only [List.map_cons, ih, List.mem_cons, h, false_or]
      split <;> rfl
theorem mput_nodup {l : List (K × V)} {k : K} {v : V} (h : (l.map (·.1)).Nodup) : ((mput l k v).map (·.1)).Nodup := by
  rw [mput_fst]
  split
  · exact h
  · rename_i h1
    rw [List.nodup_append]
    refine ⟨h, by simp, ?_⟩
    intro a ha b hb e
    simp at hb
    subst hb; subst e
    exact h1 ha
theorem mput_mem {l : List (K × V)} {k : K} {v : V} {x : K × V} (h : x ∈ mput l k v) : x ∈ l ∨ x = (k, v) := by
  induction l with
  | nil => simp [mput] at h; exact .inr h
  | cons p r ih =>
    obtain ⟨k', u⟩ := p
    simp only [mput] at h
    split at h
    · rcases List.mem_cons.1 h with h1 | h1
      · exact .inr h1
      · exact .inl (List.mem_cons_of_mem _ h1)
    · rcases List.mem_cons.1 h with h1 | h1
      · exact .inl (by simp [h1])
      · rcases ih h1 with h2 | h2
        · exact .inl (List.mem_cons_of_mem _ h2)
        · exact .inr h2
end
theorem xsm_get (l : List (Pl × Rw)) (p : Pl) : mget (xsm l) p = (mget l p).map (·.xs) := by
  induction l with
  | nil => rfl
  | cons x r ih =>
    obtain ⟨k', v⟩ := x
    simp only [xsm, List.map_cons, mget] at ih ⊢
    by_cases h : p = k'
    · simp [h]
    · simp [h, ih]
theorem xsm_put (l : List (Pl × Rw)) (p : Pl) (v : Rw) : xsm (mput l p v) = mput (xsm l) p v.xs := by
  induction l with
  | nil => rfl
  | cons x r ih =>
    obtain ⟨k', u⟩ := x
    simp only [xsm, List.map_cons, mput] at ih ⊢
    by_cases h : p = k'
    · simp [h]
    · simp [h, ih]
theorem xsm_rev (l : List (Pl × Rw)) : xsm l.reverse = (xsm l).reverse := by simp [xsm]
theorem xsm_newV (l : List (Pl × Rw)) (p : Pl) : newV (xsm l) p = (newV l p).map (·.xs) := by
  unfold newV
  rw [← xsm_rev, xsm_get]
theorem xsm_len (l : List (Pl × Rw)) : (xsm l).length = l.length := by simp [xsm]
/-- what a sector holds -/
def heldS (s : RA) (p : Pl) : List UInt8 := match newV s.waits p with
  | some b => b
  | none => (mget s.last p).getD (List.replicate 128 0)
theorem heldS_len {s : RA} (h : s.ok) (p : Pl) : (heldS s p).length = 128 := by
  unfold heldS
  cases h1 : newV s.waits p with
  | some b => exact h.lw _ (List.mem_reverse.1 (mget_mem h1))
  | none =>
    cases h2 : mget s.last p with
    | some b => exact h.ll _ (mget_mem h2)
    | none => rfl
/-! what a sector holds -/
theorem held_calls {A : Nat → Prop} {w : World} {R : Nat} {s : RA} (h : RK A w R s) (p : Pl) :
    Calls Tryd.prog 48 [ptr R, kpl p].toArray w (Ret fun v w' => (∃ r, v = vsl r ∧ RSl (· < w'.heap.size) w' eb r.ao r.cap r.xs ∧ r.xs = heldS s p) ∧ Chg Nob w w') := by
  obtain ⟨m, ga, gc, wa, wc, ws, ls, hB, hI, hls, hws⟩ := h.ex
  have hw := Chg.refl Nob w
  obtain ⟨pd, pa⟩ := p
  refine Calls.of_WC Tryd.func48 rfl Tryd.ntmps48 (by simp) ?_
  refine WC.seq (WC.region (?_))
  refine WL.box rfl rfl ?_
  intro g1 w1 hge1 hlt1 hP k1
  replace hP : Blk w1 g1 90 [vi pd, vi pa] := hP
  have zs_k1 := k1.size
  replace hB := hB.pure k1
  replace hI := hI.pure k1
  replace hw := hw.pure k1
  refine WL.assign rfl rfl (WL.nil (WX.then_normal (WC.seq (WC.seq (WC.region (WL.move rfl rfl (WL.loadsB Tryd.isAgg90 Tryd.sizeOf90 hP rfl (by simp; done) rfl (?_))))))))
  refine WL.call eg_49 rfl rfl (newest_calls hB hI.waits (pd, pa)) ?_
  rintro v w2 ⟨⟨ao, rfl, hnew⟩, k2⟩
  have zs_k2 := k2.size
  replace hB := hB.pure k2
  replace hI := hI.pure k2
  replace hw := hw.pure k2
  replace hP := hP.pure k2
  refine WL.assign rfl rfl (WL.nil (WX.then_normal (WC.seq (WC.region (WL.move rfl rfl (?_))))))
  refine WL.ptrSome Tryd.underlying96 rfl rfl rfl ?_
  rcases hnew with ⟨rfl, hno⟩ | ⟨j, x, g, hx, hxp, hno, rfl, rfl⟩
  ·
    refine WL.nil (WX.then_normal (WC.cond_false rfl (WC.skip (WX.then_normal (WC.seq (WC.seq (?_)))))))
    refine WC.draw (Nob) [0, 1, 2, 3, 4, 5, 6, 7, 8, 9, 10] [] mixed rfl rfl (fun wd_1 kd_1 zd_1 => ?_)
    have zs_kd_1 := kd_1.size
    replace hB := hB.pure kd_1
    replace hI := hI.pure kd_1
    replace hw := hw.pure kd_1
    replace hP := hP.pure kd_1
    apply DQ.step (E' := [(0, _)])
    case ho => rfl
    case hs => exact ⟨rfl, trivial⟩
    case hk => rfl
    case h1 =>
      intro wq_2 kq_2
      refine WL.move rfl rfl (?_)
      refine WL.nil ?_
      exact WX.one ⟨rfl, by exact Chg.refl _ _⟩
    apply DQ.step (E' := [(18, _)])
    case ho => rfl
    case hs => exact ⟨rfl, trivial⟩
    case hk => rfl
    case h1 =>
      intro wq_3 kq_3
      refine WL.nilCheck rfl rfl (?_)
      refine WL.nil ?_
      exact WX.one ⟨rfl, by exact Chg.refl _ _⟩
    apply DQ.step (E' := [(19, _)])
    case ho => rfl
    case hs => exact ⟨rfl, trivial⟩
    case hk => rfl
    case h1 =>
      intro wq_4 kq_4
      refine WL.fieldAddr (fld_86_2) rfl rfl (?_)
      refine WL.nil ?_
      exact WX.one ⟨rfl, by exact Chg.refl _ _⟩
    apply DQ.step (E' := [(20, _)])
    case ho => rfl
    case hs => exact ⟨rfl, trivial⟩
    case hk => rfl
    case h1 =>
      intro wq_5 kq_5
      have zs_kq_5 := kq_5.size
      replace hB := hB.pure kq_5
      replace hI := hI.pure kq_5
      replace hw := hw.pure kq_5
      replace hP := hP.pure kq_5
      refine WL.loadB Tryd.isAgg83 hB rfl rfl rfl (?_)
      refine WL.nil ?_
      exact WX.one ⟨rfl, by exact Chg.refl _ _⟩
    apply DQ.step (E' := [(3, _)])
    case ho => rfl
    case hs => exact ⟨rfl, trivial⟩
    case hk => rfl
    case h1 =>
      intro wq_6 kq_6
      have zs_kq_6 := kq_6.size
      replace hB := hB.pure kq_6
      replace hI := hI.pure kq_6
      replace hw := hw.pure kq_6
      replace hP := hP.pure kq_6
      refine WL.loadsB Tryd.isAgg90 Tryd.sizeOf90 hP rfl (by simp; done) rfl (?_)
      refine WL.nil ?_
      exact WX.one ⟨rfl, by exact Chg.refl _ _⟩
    apply DQ.step (E' := [(21, _), (22, _)])
    case ho => rfl
    case hs => exact ⟨rfl, rfl, trivial⟩
    case hk => rfl
    case h1 =>
      intro wq_7 kq_7
      have zs_kq_7 := kq_7.size
      replace hB := hB.pure kq_7
      replace hI := hI.pure kq_7
      replace hw := hw.pure kq_7
      replace hP := hP.pure kq_7
      refine WL.mlookup plOk Tryd.underlying83 Tryd.zeroValue26 hI.map rfl (show _ = some (kpl (pd, pa)) from rfl) rfl ?_
      rw [show (mget ls (pd, pa)).isSome = decide ((mget ls (pd, pa)).isSome = true) from by simp]
      refine WL.nil ?_
      exact WX.one ⟨rfl, by exact Chg.refl _ _⟩
    apply DQ.step (E' := [(23, _)])
    case ho => rfl
    case hs => exact ⟨rfl, trivial⟩
    case hk => rfl
    case h1 =>
      intro wq_8 kq_8
      refine WL.move rfl rfl (?_)
      refine WL.nil ?_
      exact WX.one ⟨rfl, by exact Chg.refl _ _⟩
    apply DQ.step (E' := [(17, _)])
    case ho => rfl
    case hs => exact ⟨rfl, trivial⟩
    case hk => rfl
    case h1 =>
      intro wq_9 kq_9
      refine WL.extract rfl rfl rfl (?_)
      refine WL.nil ?_
      exact WX.one ⟨rfl, by exact Chg.refl _ _⟩
    apply DQ.step (E' := [(17, _)])
    case ho => rfl
    case hs => exact ⟨rfl, trivial⟩
    case hk => rfl
    case h1 =>
      intro wq_10 kq_10
      refine WL.extract rfl rfl rfl (?_)
      refine WL.nil ?_
      exact WX.one ⟨rfl, by exact Chg.refl _ _⟩
    apply DQ.step (E' := [(24, _)])
    case ho => rfl
    case hs => exact ⟨rfl, trivial⟩
    case hk => rfl
    case h1 =>
      intro wq_11 kq_11
      refine WL.assign rfl rfl (?_)
      refine WL.nil ?_
      exact WX.one ⟨rfl, by exact Chg.refl _ _⟩
    apply DQ.step (E' := [(25, _)])
    case ho => rfl
    case hs => exact ⟨rfl, trivial⟩
    case hk => rfl
    case h1 =>
      intro wq_12 kq_12
      refine WL.assign rfl rfl (?_)
      refine WL.nil ?_
      exact WX.one ⟨rfl, by exact Chg.refl _ _⟩
    refine DQ.done (fun _ => ?_)
    refine DL.done (fun we_13 ke_13 => ?_)
    have zs_ke_13 := ke_13.size
    replace hB := hB.pure ke_13
    replace hI := hI.pure ke_13
    replace hw := hw.pure ke_13
    replace hP := hP.pure ke_13
    refine WX.then_normal (WC.seq (WC.region (WL.move rfl rfl (WL.nil (WX.then_normal (?_))))))
    first | refine WC.cond_dec rfl (fun hc26 => ?_) (fun hc26 => ?_) | refine WC.cond_split rfl (fun hc26 => ?_) (fun hc26 => ?_)
    ·
      refine WC.seq (WC.region (WL.move rfl rfl (WL.assign rfl rfl (WL.nil (WX.then_normal (WC.ret (WX.then_ret (?_))))))))
      refine WX.ret1 (.inl rfl) Tryd.results48 rfl ?_
      first
        | exact ⟨_, rfl, ⟨x.2, rfl, (hI.byw x (List.mem_of_getElem? hx)).rsl.old, by rw [heldS, hws, xsm_newV, newV_some hx hxp hno]; rfl⟩, hw⟩
        | (obtain ⟨r, hr⟩ := Option.isSome_iff_exists.1 hc26
           simp only [hr]
           exact ⟨_, rfl, ⟨r, rfl, (hI.byl _ (mget_mem hr)).rsl.old, by rw [heldS, hws, xsm_newV, newV_none hno, hls, xsm_get, hr]; rfl⟩, hw⟩)
        | (have hr : mget ls (pd, pa) = none := by simpa using hc26
           exact ⟨_, rfl, ⟨⟨some ⟨g3, 0, none⟩, 128, List.replicate 128 0⟩, rfl, hm.rsl.old, by rw [heldS, hws, xsm_newV, newV_none hno, hls, xsm_get, hr]; rfl⟩, hw⟩)
    ·
      refine WC.skip (WX.then_normal (WC.seq (WC.region (?_))))
      refine WL.make (e := eb) (0 : UInt8) 128 128 Tryd.underlying26 info_5 rfl rfl rfl ⟨rfl, rfl, Nat.le_refl _⟩ (by decide) rfl ?_
      intro g3 w3 hm k3 z3 eg3
      have zs_k3 := k3.size
      replace hB := hB.pure k3
      replace hI := hI.pure k3
      replace hw := hw.pure k3
      replace hP := hP.pure k3
      refine WL.assign rfl rfl (WL.nil (WX.then_normal (WC.ret (?_))))
      refine WX.ret1 (.inl rfl) Tryd.results48 rfl ?_
      first
        | exact ⟨_, rfl, ⟨x.2, rfl, (hI.byw x (List.mem_of_getElem? hx)).rsl.old, by rw [heldS, hws, xsm_newV, newV_some hx hxp hno]; rfl⟩, hw⟩
        | (obtain ⟨r, hr⟩ := Option.isSome_iff_exists.1 hc26
           simp only [hr]
           exact ⟨_, rfl, ⟨r, rfl, (hI.byl _ (mget_mem hr)).rsl.old, by rw [heldS, hws, xsm_newV, newV_none hno, hls, xsm_get, hr]; rfl⟩, hw⟩)
        | (have hr : mget ls (pd, pa) = none := by simpa using hc26
           exact ⟨_, rfl, ⟨⟨some ⟨g3, 0, none⟩, 128, List.replicate 128 0⟩, rfl, hm.rsl.old, by rw [heldS, hws, xsm_newV, newV_none hno, hls, xsm_get, hr]; rfl⟩, hw⟩)
  ·
    refine WL.nil (WX.then_normal (WC.cond_true rfl (WC.seq (WC.region (WL.move rfl rfl (WL.nilCheck rfl rfl (WL.fieldAddr (fld_92_1) rfl rfl (?_))))))))
    refine WL.load Tryd.isAgg26 rfl (hI.waits.rsl.cellsAt hx 2 _ rfl) rfl ?_
    refine WL.assign rfl rfl (WL.nil (WX.then_normal (WC.ret (WX.then_ret (?_)))))
    refine WX.ret1 (.inl rfl) Tryd.results48 rfl ?_
    first
      | exact ⟨_, rfl, ⟨x.2, rfl, (hI.byw x (List.mem_of_getElem? hx)).rsl.old, by rw [heldS, hws, xsm_newV, newV_some hx hxp hno]; rfl⟩, hw⟩
      | (obtain ⟨r, hr⟩ := Option.isSome_iff_exists.1 hc26
         simp only [hr]
         exact ⟨_, rfl, ⟨r, rfl, (hI.byl _ (mget_mem hr)).rsl.old, by rw [heldS, hws, xsm_newV, newV_none hno, hls, xsm_get, hr]; rfl⟩, hw⟩)
      | (have hr : mget ls (pd, pa) = none := by simpa using hc26
         exact ⟨_, rfl, ⟨⟨some ⟨g3, 0, none⟩, 128, List.replicate 128 0⟩, rfl, hm.rsl.old, by rw [heldS, hws, xsm_newV, newV_none hno, hls, xsm_get, hr]; rfl⟩, hw⟩)
/-! bytes of one's own -/
theorem bclone_calls {S : Nat → Prop} {w : World} {ao : Option Addr} {c : Nat} {b : List UInt8} (hr : RSl S w eb ao c b) (hl : b.length = 128) :
    Calls Tryd.prog 47 [.slice ao b.length c].toArray w (Ret fun v w' => (∃ (g c' : Nat), v = .slice (some ⟨g, 0, none⟩) b.length c' ∧ Row (· = g) w' 5 eb (some ⟨g, 0, none⟩) c' b ∧ w.heap.size ≤ g ∧ g < w'.heap.size) ∧ Chg Nob w w') := by
  replace hr := hr.old
  have hw := Chg.refl Nob w
  have hlt := hr.lt
  refine Calls.of_WC Tryd.func47 rfl Tryd.ntmps47 (by simp) ?_
  refine WC.seq (WC.region (WL.assign rfl rfl (WL.nil (WX.then_normal (WC.seq (WC.seq (WC.region (?_))))))))
  refine WL.move rfl rfl (?_)
  refine WL.isNil? Tryd.underlying26 rfl rfl rfl (fun h4 => ?_) (fun h4 => ?_)
  ·
    subst h4
    have hn := hr.none_nil
    rw [hn] at hl
    cases hl
  ·
    refine WL.nil (WX.then_normal (WC.cond_false rfl (WC.skip (WX.then_normal (WC.seq (WC.region (?_)))))))
    refine WL.build (e := eb) [] Tryd.underlying26 Tryd.sizeOf5 Tryd.zeroValue5 rfl rfl rfl (by simp [Value.cells]; done) (by decide) rfl ?_
    intro a_hq w_hq hq l_hq z_hq k_hq
    have zs_k_hq := k_hq.size
    replace hr := hr.pure k_hq
    replace hw := hw.pure k_hq
    refine WL.move rfl rfl (?_)
    refine WL.append0 (e := eb) info_5 rfl Tryd.underlying26 rfl rfl hq (hr.src Tryd.underlying26) (by omega) (by constructor <;> omega) rfl ?_
    intro g2 c2 w2 hb2 k2 eg2 z2
    have zs_k2 := k2.size
    replace hr := hr.pure k2
    replace hw := hw.pure k2
    refine WL.assign rfl rfl (WL.nil (WX.then_normal (WC.ret (?_))))
    refine WX.ret1 (.inl rfl) Tryd.results47 rfl ?_
    exact ⟨_, rfl, ⟨g2, c2, rfl, hb2, by omega, by omega⟩, hw⟩
end Go.Proofs.YtjeldcjchipdgaaDoor
