import Derived.Test.YtjeldcjchipdgaaDoorQLabelRots3
namespace Go.Proofs.YtjeldcjchipdgaaDoor
open Go.RowKit Go.HL
set_option maxRecDepth 100000

def V8.add (s v : V8) : V8 := ⟨s.a + v.a, s.b + v.b, s.c + v.c, s.d + v.d, s.e + v.e, s.f + v.f, s.g + v.g, s.h + v.h⟩
def V8.list (v : V8) : List UInt32 := [v.a, v.b, v.c, v.d, v.e, v.f, v.g, v.h]
theorem V8.cells_eq (v : V8) : v.cells = v.list.map v32 := rfl
theorem mix_eq (s : V8) (b : List UInt8) : mix s b = s.add (roundsN (sch b 64) s 64) := rfl
/-- the first i parts are added -/
def addTo (s v : V8) (i : Nat) : List UInt32 := (s.add v).list.take i ++ s.list.drop i
theorem addTo_len (s v : V8) (i : Nat) (h : i ≤ 8) : (addTo s v i).length = 8 := by
  simp [addTo, V8.list]
  omega
theorem addTo_at {s v : V8} {i : Nat} (h : i < 8) : (addTo s v i)[i]? = some (s.list.getD i 0) ∧ v.list[i]? = some (v.list.getD i 0) ∧ (addTo s v i).set i (s.list.getD i 0 + v.list.getD i 0) = addTo s v (i + 1) := by
  have h8 : i = 0 ∨ i = 1 ∨ i = 2 ∨ i = 3 ∨ i = 4 ∨ i = 5 ∨ i = 6 ∨ i = 7 := by omega
  rcases h8 with rfl | rfl | rfl | rfl | rfl | rfl | rfl | rfl <;> exact ⟨rfl, rfl, rfl⟩
theorem getD_at {xs : List UInt32} {i : Nat} (h : i < xs.length) : xs[i]? = some (xs.getD i 0) := by
  rw [List.getD_eq_getElem?_getD, List.getElem?_eq_getElem h]
  rfl
set_option maxHeartbeats 1000000 in
theorem mix_calls {S : Nat → Prop} {w : World} {gs gk : Nat} {s : V8} {ao : Option Addr} {c : Nat} {b : List UInt8} (hs : Blk w gs 161 s.cells) (hk : Blk w gk 163 (K256.map v32)) (hr : RSl S w eb ao c b) (hl : b.length = 64) (hsk : gs ≠ gk) :
    Calls Tryd.prog 106 [.pointer (some ⟨gs, 0, none⟩), .slice ao b.length c, .pointer (some ⟨gk, 0, none⟩)].toArray w (Ret fun v w' => v = .tuple #[] ∧ Blk w' gs 161 (mix s b).cells ∧ Chg (fun x => x = gs) w w') := by
  have hw := Chg.refl Nob w
  replace hs : Blk w gs 161 [v32 s.a, v32 s.b, v32 s.c, v32 s.d, v32 s.e, v32 s.f, v32 s.g, v32 s.h] := hs
  have ls := hs.lt
  have lk := hk.lt
  refine Calls.of_WC Tryd.func106 rfl Tryd.ntmps106 (by simp) ?_
  refine WC.seq (WC.region (WL.move rfl rfl (?_)))
  refine WL.call eg_113 rfl rfl (schedule_calls hr hl) ?_
  rintro v w1 ⟨rfl, k⟩
  obtain ⟨ws, hws⟩ : ∃ ws, ws = sch b 64 := ⟨_, rfl⟩
  have hsl : ws.length = 64 := by rw [hws]; exact sch_len b 64
  rw [← hws]
  have zs_k := k.size
  replace hs := hs.pure k
  replace hk := hk.pure k
  replace hw := hw.pure k
  refine WL.alloc Tryd.zeroValue163 rfl ?_
  intro g_1 w_1 hge_1 hlt_1 hb_1 k_1
  have zs_k_1 := k_1.size
  replace hs := hs.pure k_1
  replace hk := hk.pure k_1
  replace hw := hw.pure k_1
  refine WL.stores Tryd.sizeOf163 hb_1 rfl rfl (by first | (simp; done) | (simp; omega) | rfl) (by first | exact Enc.one _ _ | (intro u hu; obtain ⟨x, _, rfl⟩ := List.mem_map.1 hu; rfl) | (simp [Value.oneCell']; done) | (simp [Value.oneCell', Value.cells]; done)) (by first | (simp; done) | (simp; omega) | (simp [Value.cells]; done) | (simp [Value.cells]; omega) | exact Nat.le_of_ble_eq_true rfl) rfl ?_
  intro w_2 hs_2 hn_2 k_2
  have zs_k_2 := k_2.size
  replace hs := hs.chg k_2 (by first | (intro x h1 h2; exact h2) | (intro x h0 h1 h2; exact hS x h1 h2) | (intro x h0 h1 h2; have h3 : _ = _ := h2; subst h3; exact hSR h1.1) | (intro x h1 h2; have h3 : _ = _ := h2; subst h3; assumption) | (intro x h1 h2; have h3 : _ = _ := h2; exfalso; omega) | (intro b h1 h2 h3; have h4 : _ = _ := h3; (try dsimp only at h2); exfalso; omega) | (intro h1; have h2 : _ = _ := h1; exfalso; omega) | (intro h1; have h2 : _ ≤ _ := h1; exfalso; omega) | (intros; exfalso; (try dsimp only at *); omega) | (intro b h1 h2 h3; exfalso; have h4 := h3.2; (try dsimp only at *); omega) | (intro h1; exfalso; have h4 := h1.2; (try dsimp only at *); omega) | (intro x h1 h2; exfalso; have h4 := h2.2; (try dsimp only at *); omega) | (intro x h1 h2; exact ⟨_, rfl, h2⟩) | (intro x h1 h2; have h4 := h2.1; have h5 := h2.2; exfalso; omega) | (intro x h1 h2; exact h2.1) | (intro x h1 h2; rcases h2.1 with h3 | h3; exact h3; exfalso; omega) | (intro x h1 h2; rcases h2 with h3 | h3; exact h3; exfalso; omega))
  replace hk := hk.chg k_2 (by first | (intro x h1 h2; exact h2) | (intro x h0 h1 h2; exact hS x h1 h2) | (intro x h0 h1 h2; have h3 : _ = _ := h2; subst h3; exact hSR h1.1) | (intro x h1 h2; have h3 : _ = _ := h2; subst h3; assumption) | (intro x h1 h2; have h3 : _ = _ := h2; exfalso; omega) | (intro b h1 h2 h3; have h4 : _ = _ := h3; (try dsimp only at h2); exfalso; omega) | (intro h1; have h2 : _ = _ := h1; exfalso; omega) | (intro h1; have h2 : _ ≤ _ := h1; exfalso; omega) | (intros; exfalso; (try dsimp only at *); omega) | (intro b h1 h2 h3; exfalso; have h4 := h3.2; (try dsimp only at *); omega) | (intro h1; exfalso; have h4 := h1.2; (try dsimp only at *); omega) | (intro x h1 h2; exfalso; have h4 := h2.2; (try dsimp only at *); omega) | (intro x h1 h2; exact ⟨_, rfl, h2⟩) | (intro x h1 h2; have h4 := h2.1; have h5 := h2.2; exfalso; omega) | (intro x h1 h2; exact h2.1) | (intro x h1 h2; rcases h2.1 with h3 | h3; exact h3; exfalso; omega) | (intro x h1 h2; rcases h2 with h3 | h3; exact h3; exfalso; omega))
  replace hw := hw.chg k_2 (by first | (intro x h1 h2; exact h2) | (intro x h0 h1 h2; exact hS x h1 h2) | (intro x h0 h1 h2; have h3 : _ = _ := h2; subst h3; exact hSR h1.1) | (intro x h1 h2; have h3 : _ = _ := h2; subst h3; assumption) | (intro x h1 h2; have h3 : _ = _ := h2; exfalso; omega) | (intro b h1 h2 h3; have h4 : _ = _ := h3; (try dsimp only at h2); exfalso; omega) | (intro h1; have h2 : _ = _ := h1; exfalso; omega) | (intro h1; have h2 : _ ≤ _ := h1; exfalso; omega) | (intros; exfalso; (try dsimp only at *); omega) | (intro b h1 h2 h3; exfalso; have h4 := h3.2; (try dsimp only at *); omega) | (intro h1; exfalso; have h4 := h1.2; (try dsimp only at *); omega) | (intro x h1 h2; exfalso; have h4 := h2.2; (try dsimp only at *); omega) | (intro x h1 h2; exact ⟨_, rfl, h2⟩) | (intro x h1 h2; have h4 := h2.1; have h5 := h2.2; exfalso; omega) | (intro x h1 h2; exact h2.1) | (intro x h1 h2; rcases h2.1 with h3 | h3; exact h3; exfalso; omega) | (intro x h1 h2; rcases h2 with h3 | h3; exact h3; exfalso; omega))
  replace hb_1 := hn_2
  refine WL.nil (WX.then_normal (WC.seq (WC.region (WL.move rfl rfl (WL.nilCheck rfl rfl (WL.loadsB Tryd.isAgg161 Tryd.sizeOf161 hs rfl (by first | (simp; done) | (simp; omega) | rfl) rfl (?_)))))))
  refine WL.alloc Tryd.zeroValue161 rfl ?_
  intro g_3 w_3 hge_3 hlt_3 hb_3 k_3
  have zs_k_3 := k_3.size
  replace hs := hs.pure k_3
  replace hk := hk.pure k_3
  replace hw := hw.pure k_3
  replace hb_1 := hb_1.pure k_3
  refine WL.stores Tryd.sizeOf161 hb_3 rfl rfl (by first | (simp; done) | (simp; omega) | rfl) (by first | exact Enc.one _ _ | (intro u hu; obtain ⟨x, _, rfl⟩ := List.mem_map.1 hu; rfl) | (simp [Value.oneCell']; done) | (simp [Value.oneCell', Value.cells]; done)) (by first | (simp; done) | (simp; omega) | (simp [Value.cells]; done) | (simp [Value.cells]; omega) | exact Nat.le_of_ble_eq_true rfl) rfl ?_
  intro w_4 hs_4 hn_4 k_4
  have zs_k_4 := k_4.size
  replace hs := hs.chg k_4 (by first | (intro x h1 h2; exact h2) | (intro x h0 h1 h2; exact hS x h1 h2) | (intro x h0 h1 h2; have h3 : _ = _ := h2; subst h3; exact hSR h1.1) | (intro x h1 h2; have h3 : _ = _ := h2; subst h3; assumption) | (intro x h1 h2; have h3 : _ = _ := h2; exfalso; omega) | (intro b h1 h2 h3; have h4 : _ = _ := h3; (try dsimp only at h2); exfalso; omega) | (intro h1; have h2 : _ = _ := h1; exfalso; omega) | (intro h1; have h2 : _ ≤ _ := h1; exfalso; omega) | (intros; exfalso; (try dsimp only at *); omega) | (intro b h1 h2 h3; exfalso; have h4 := h3.2; (try dsimp only at *); omega) | (intro h1; exfalso; have h4 := h1.2; (try dsimp only at *); omega) | (intro x h1 h2; exfalso; have h4 := h2.2; (try dsimp only at *); omega) | (intro x h1 h2; exact ⟨_, rfl, h2⟩) | (intro x h1 h2; have h4 := h2.1; have h5 := h2.2; exfalso; omega) | (intro x h1 h2; exact h2.1) | (intro x h1 h2; rcases h2.1 with h3 | h3; exact h3; exfalso; omega) | (intro x h1 h2; rcases h2 with h3 | h3; exact h3; exfalso; omega))
  replace hk := hk.chg k_4 (by first | (intro x h1 h2; exact h2) | (intro x h0 h1 h2; exact hS x h1 h2) | (intro x h0 h1 h2; have h3 : _ = _ := h2; subst h3; exact hSR h1.1) | (intro x h1 h2; have h3 : _ = _ := h2; subst h3; assumption) | (intro x h1 h2; have h3 : _ = _ := h2; exfalso; omega) | (intro b h1 h2 h3; have h4 : _ = _ := h3; (try dsimp only at h2); exfalso; omega) | (intro h1; have h2 : _ = _ := h1; exfalso; omega) | (intro h1; have h2 : _ ≤ _ := h1; exfalso; omega) | (intros; exfalso; (try dsimp only at *); omega) | (intro b h1 h2 h3; exfalso; have h4 := h3.2; (try dsimp only at *); omega) | (intro h1; exfalso; have h4 := h1.2; (try dsimp only at *); omega) | (intro x h1 h2; exfalso; have h4 := h2.2; (try dsimp only at *); omega) | (intro x h1 h2; exact ⟨_, rfl, h2⟩) | (intro x h1 h2; have h4 := h2.1; have h5 := h2.2; exfalso; omega) | (intro x h1 h2; exact h2.1) | (intro x h1 h2; rcases h2.1 with h3 | h3; exact h3; exfalso; omega) | (intro x h1 h2; rcases h2 with h3 | h3; exact h3; exfalso; omega))
  replace hw := hw.chg k_4 (by first | (intro x h1 h2; exact h2) | (intro x h0 h1 h2; exact hS x h1 h2) | (intro x h0 h1 h2; have h3 : _ = _ := h2; subst h3; exact hSR h1.1) | (intro x h1 h2; have h3 : _ = _ := h2; subst h3; assumption) | (intro x h1 h2; have h3 : _ = _ := h2; exfalso; omega) | (intro b h1 h2 h3; have h4 : _ = _ := h3; (try dsimp only at h2); exfalso; omega) | (intro h1; have h2 : _ = _ := h1; exfalso; omega) | (intro h1; have h2 : _ ≤ _ := h1; exfalso; omega) | (intros; exfalso; (try dsimp only at *); omega) | (intro b h1 h2 h3; exfalso; have h4 := h3.2; (try dsimp only at *); omega) | (intro h1; exfalso; have h4 := h1.2; (try dsimp only at *); omega) | (intro x h1 h2; exfalso; have h4 := h2.2; (try dsimp only at *); omega) | (intro x h1 h2; exact ⟨_, rfl, h2⟩) | (intro x h1 h2; have h4 := h2.1; have h5 := h2.2; exfalso; omega) | (intro x h1 h2; exact h2.1) | (intro x h1 h2; rcases h2.1 with h3 | h3; exact h3; exfalso; omega) | (intro x h1 h2; rcases h2 with h3 | h3; exact h3; exfalso; omega))
  replace hb_1 := hb_1.chg k_4 (by first | (intro x h1 h2; exact h2) | (intro x h0 h1 h2; exact hS x h1 h2) | (intro x h0 h1 h2; have h3 : _ = _ := h2; subst h3; exact hSR h1.1) | (intro x h1 h2; have h3 : _ = _ := h2; subst h3; assumption) | (intro x h1 h2; have h3 : _ = _ := h2; exfalso; omega) | (intro b h1 h2 h3; have h4 : _ = _ := h3; (try dsimp only at h2); exfalso; omega) | (intro h1; have h2 : _ = _ := h1; exfalso; omega) | (intro h1; have h2 : _ ≤ _ := h1; exfalso; omega) | (intros; exfalso; (try dsimp only at *); omega) | (intro b h1 h2 h3; exfalso; have h4 := h3.2; (try dsimp only at *); omega) | (intro h1; exfalso; have h4 := h1.2; (try dsimp only at *); omega) | (intro x h1 h2; exfalso; have h4 := h2.2; (try dsimp only at *); omega) | (intro x h1 h2; exact ⟨_, rfl, h2⟩) | (intro x h1 h2; have h4 := h2.1; have h5 := h2.2; exfalso; omega) | (intro x h1 h2; exact h2.1) | (intro x h1 h2; rcases h2.1 with h3 | h3; exact h3; exfalso; omega) | (intro x h1 h2; rcases h2 with h3 | h3; exact h3; exfalso; omega))
  replace hb_3 := hn_4
  refine WL.nil (WX.then_normal (WC.seq (WC.seq (WC.region (WL.move rfl rfl (WL.nil (WX.then_normal (?_))))))))
  refine WC.block (?_)
  have e6 : ∀ zs : List Value, zs.length = 64 → List.take 0 zs ++ List.map v32 ws ++ List.drop (0 + (List.map v32 ws).length) zs = List.map v32 ws := by
    intro zs hz
    rw [List.drop_eq_nil_of_le (by simp; omega)]
    simp
  rw [e6 _ rfl] at hb_1
  refine WC.loop (σ := Nat) (fun t => [(0, .pointer (some ⟨gs, 0, none⟩)), (2, .pointer (some ⟨gk, 0, none⟩)), (6, .pointer (some ⟨g_1, 0, none⟩)), (7, .pointer (some ⟨g_3, 0, none⟩)), (19, vi t)])
    (fun t w' => t ≤ 64 ∧ Blk w' gs 161 [v32 s.a, v32 s.b, v32 s.c, v32 s.d, v32 s.e, v32 s.f, v32 s.g, v32 s.h] ∧ Blk w' gk 163 (K256.map v32) ∧ Blk w' g_1 163 (ws.map v32) ∧ Blk w' g_3 161 (roundsN ws s t).cells ∧ Chg Nob w w') (fun t => 64 - t) 0 ⟨rfl, rfl, rfl, rfl, rfl, trivial⟩ ⟨by omega, hs, hk, ?_, hb_3, hw⟩ ?_
  ·
    exact hb_1
  clear hs hk hb_1 hb_3 hw
  rintro t w9 ⟨ht, hs, hk, h6, h7, hw⟩
  obtain ⟨V, hV⟩ : ∃ V, V = roundsN ws s t := ⟨_, rfl⟩
  rw [← hV] at h7
  replace h7 : Blk w9 g_3 161 [v32 V.a, v32 V.b, v32 V.c, v32 V.d, v32 V.e, v32 V.f, v32 V.g, v32 V.h] := h7
  refine WC.seq (WC.region (?_))
  refine WL.lss? rfl rfl rfl (fun h20 => ?_) (fun h20 => ?_)
  ·
    refine WL.nil (WX.then_normal (WC.seq (WC.cond_true rfl (WC.skip (WX.then_normal (WC.seq (WC.block (?_))))))))
    refine WC.seq (WC.region (WL.move rfl rfl (WL.assign rfl rfl (WL.nil (WX.then_normal (WC.seq (?_)))))))
    refine WC.draw (Nob) [0, 1, 2, 3, 4, 5] [] mixed rfl rfl (fun wd_5 kd_5 zd_5 => ?_)
    have zs_kd_5 := kd_5.size
    replace hs := hs.pure kd_5
    replace hk := hk.pure kd_5
    replace h6 := h6.pure kd_5
    replace h7 := h7.pure kd_5
    replace hw := hw.pure kd_5
    apply DQ.step (E' := [(7, _)])
    case ho => rfl
    case hs => exact ⟨rfl, trivial⟩
    case hk => rfl
    case h1 =>
      intro wq_6 kq_6
      have zs_kq_6 := kq_6.size
      replace hs := hs.pure kq_6
      replace hk := hk.pure kq_6
      replace h6 := h6.pure kq_6
      replace h7 := h7.pure kq_6
      replace hw := hw.pure kq_6
      refine WL.indexArr 4 Tryd.underlying161 Tryd.sizeOf159 rfl rfl ⟨rfl, by decide⟩ rfl (?_)
      refine WL.nil ?_
      exact WX.one ⟨rfl, by first | exact Chg.refl _ _ | assumption⟩
    apply DQ.step (E' := [(22, _)])
    case ho => rfl
    case hs => exact ⟨rfl, trivial⟩
    case hk => rfl
    case h1 =>
      intro wq_7 kq_7
      have zs_kq_7 := kq_7.size
      replace hs := hs.pure kq_7
      replace hk := hk.pure kq_7
      replace h6 := h6.pure kq_7
      replace h7 := h7.pure kq_7
      replace hw := hw.pure kq_7
      refine WL.loadB Tryd.isAgg159 h7 rfl rfl rfl (?_)
      refine WL.nil ?_
      exact WX.one ⟨rfl, by first | exact Chg.refl _ _ | assumption⟩
    apply DQ.step (E' := [(7, _)])
    case ho => rfl
    case hs => exact ⟨rfl, trivial⟩
    case hk => rfl
    case h1 =>
      intro wq_8 kq_8
      have zs_kq_8 := kq_8.size
      replace hs := hs.pure kq_8
      replace hk := hk.pure kq_8
      replace h6 := h6.pure kq_8
      replace h7 := h7.pure kq_8
      replace hw := hw.pure kq_8
      refine WL.indexArr 0 Tryd.underlying161 Tryd.sizeOf159 rfl rfl ⟨rfl, by decide⟩ rfl (?_)
      refine WL.nil ?_
      exact WX.one ⟨rfl, by first | exact Chg.refl _ _ | assumption⟩
    apply DQ.step (E' := [(24, _)])
    case ho => rfl
    case hs => exact ⟨rfl, trivial⟩
    case hk => rfl
    case h1 =>
      intro wq_9 kq_9
      have zs_kq_9 := kq_9.size
      replace hs := hs.pure kq_9
      replace hk := hk.pure kq_9
      replace h6 := h6.pure kq_9
      replace h7 := h7.pure kq_9
      replace hw := hw.pure kq_9
      refine WL.loadB Tryd.isAgg159 h7 rfl rfl rfl (?_)
      refine WL.nil ?_
      exact WX.one ⟨rfl, by first | exact Chg.refl _ _ | assumption⟩
    apply DQ.step (E' := [(23, _)])
    case ho => rfl
    case hs => exact ⟨rfl, trivial⟩
    case hk => rfl
    case h1 =>
      intro wq_10 kq_10
      refine WL.assign rfl rfl (?_)
      refine WL.nil ?_
      exact WX.one ⟨rfl, by first | exact Chg.refl _ _ | assumption⟩
    apply DQ.step (E' := [(25, _)])
    case ho => rfl
    case hs => exact ⟨rfl, trivial⟩
    case hk => rfl
    case h1 =>
      intro wq_11 kq_11
      refine WL.assign rfl rfl (?_)
      refine WL.nil ?_
      exact WX.one ⟨rfl, by first | exact Chg.refl _ _ | assumption⟩
    refine DQ.done (fun _ => ?_)
    refine DL.done (fun we_12 ke_12 => ?_)
    have zs_ke_12 := ke_12.size
    replace hs := hs.pure ke_12
    replace hk := hk.pure ke_12
    replace h6 := h6.pure ke_12
    replace h7 := h7.pure ke_12
    replace hw := hw.pure ke_12
    refine WX.then_normal (WC.seq (?_))
    have fk := getD_at (xs := K256) (i := t) (by show t < 64; omega)
    have fw := getD_at (xs := ws) (i := t) (by omega)
    refine WC.draw (Nob) [0, 1, 2, 3, 4, 5, 6, 7, 8, 9, 10, 11, 12, 13, 14, 15, 16, 17, 18, 19, 20, 21, 22, 23, 24, 25, 26, 27, 28, 29, 30, 31, 32] [] mixed rfl rfl (fun wd_13 kd_13 zd_13 => ?_)
    have zs_kd_13 := kd_13.size
    replace hs := hs.pure kd_13
    replace hk := hk.pure kd_13
    replace h6 := h6.pure kd_13
    replace h7 := h7.pure kd_13
    replace hw := hw.pure kd_13
    apply DQ.step (E' := [(7, _)])
    case ho => rfl
    case hs => exact ⟨rfl, trivial⟩
    case hk => rfl
    case h1 =>
      intro wq_14 kq_14
      have zs_kq_14 := kq_14.size
      replace hs := hs.pure kq_14
      replace hk := hk.pure kq_14
      replace h6 := h6.pure kq_14
      replace h7 := h7.pure kq_14
      replace hw := hw.pure kq_14
      refine WL.indexArr 7 Tryd.underlying161 Tryd.sizeOf159 rfl rfl ⟨rfl, by decide⟩ rfl (?_)
      refine WL.nil ?_
      exact WX.one ⟨rfl, by first | exact Chg.refl _ _ | assumption⟩
    apply DQ.step (E' := [(26, _)])
    case ho => rfl
    case hs => exact ⟨rfl, trivial⟩
    case hk => rfl
    case h1 =>
      intro wq_15 kq_15
      have zs_kq_15 := kq_15.size
      replace hs := hs.pure kq_15
      replace hk := hk.pure kq_15
      replace h6 := h6.pure kq_15
      replace h7 := h7.pure kq_15
      replace hw := hw.pure kq_15
      refine WL.loadB Tryd.isAgg159 h7 rfl rfl rfl (?_)
      refine WL.nil ?_
      exact WX.one ⟨rfl, by first | exact Chg.refl _ _ | assumption⟩
    apply DQ.step (E' := [(9, _)])
    case ho => rfl
    case hs => exact ⟨rfl, trivial⟩
    case hk => rfl
    case h1 =>
      intro wq_16 kq_16
      refine WL.move rfl rfl (?_)
      refine WL.nil ?_
      exact WX.one ⟨rfl, by first | exact Chg.refl _ _ | assumption⟩
    apply DQ.step (E' := [(28, _)])
    case ho => rfl
    case hs => exact ⟨rfl, trivial⟩
    case hk => rfl
    case h1 =>
      intro wq_17 kq_17
      have zs_kq_17 := kq_17.size
      replace hs := hs.pure kq_17
      replace hk := hk.pure kq_17
      replace h6 := h6.pure kq_17
      replace h7 := h7.pure kq_17
      replace hw := hw.pure kq_17
      refine WL.call eg_114 rfl rfl (ror_calls V.e 6 _ (by decide)) ?_
      rintro v w4 ⟨rfl, k4⟩
      have zs_k4 := k4.size
      replace hs := hs.pure k4
      replace hk := hk.pure k4
      replace h6 := h6.pure k4
      replace h7 := h7.pure k4
      replace hw := hw.pure k4
      refine WL.nil ?_
      exact WX.one ⟨rfl, by first | exact Chg.refl _ _ | assumption⟩
    apply DQ.step (E' := [(9, _)])
    case ho => rfl
    case hs => exact ⟨rfl, trivial⟩
    case hk => rfl
    case h1 =>
      intro wq_18 kq_18
      refine WL.move rfl rfl (?_)
      refine WL.nil ?_
      exact WX.one ⟨rfl, by first | exact Chg.refl _ _ | assumption⟩
    apply DQ.step (E' := [(30, _)])
    case ho => rfl
    case hs => exact ⟨rfl, trivial⟩
    case hk => rfl
    case h1 =>
      intro wq_19 kq_19
      have zs_kq_19 := kq_19.size
      replace hs := hs.pure kq_19
      replace hk := hk.pure kq_19
      replace h6 := h6.pure kq_19
      replace h7 := h7.pure kq_19
      replace hw := hw.pure kq_19
      refine WL.call eg_114 rfl rfl (ror_calls V.e 11 _ (by decide)) ?_
      rintro v w4 ⟨rfl, k4⟩
      have zs_k4 := k4.size
      replace hs := hs.pure k4
      replace hk := hk.pure k4
      replace h6 := h6.pure k4
      replace h7 := h7.pure k4
      replace hw := hw.pure k4
      refine WL.nil ?_
      exact WX.one ⟨rfl, by first | exact Chg.refl _ _ | assumption⟩
    apply DQ.step (E' := [(29, _), (31, _)])
    case ho => rfl
    case hs => exact ⟨rfl, rfl, trivial⟩
    case hk => rfl
    case h1 =>
      intro wq_20 kq_20
      refine WL.num rfl rfl (n_xor32 _ _ _ _) rfl (?_)
      refine WL.nil ?_
      exact WX.one ⟨rfl, by first | exact Chg.refl _ _ | assumption⟩
    apply DQ.step (E' := [(9, _)])
    case ho => rfl
    case hs => exact ⟨rfl, trivial⟩
    case hk => rfl
    case h1 =>
      intro wq_21 kq_21
      refine WL.move rfl rfl (?_)
      refine WL.nil ?_
      exact WX.one ⟨rfl, by first | exact Chg.refl _ _ | assumption⟩
    apply DQ.step (E' := [(33, _)])
    case ho => rfl
    case hs => exact ⟨rfl, trivial⟩
    case hk => rfl
    case h1 =>
      intro wq_22 kq_22
      have zs_kq_22 := kq_22.size
      replace hs := hs.pure kq_22
      replace hk := hk.pure kq_22
      replace h6 := h6.pure kq_22
      replace h7 := h7.pure kq_22
      replace hw := hw.pure kq_22
      refine WL.call eg_114 rfl rfl (ror_calls V.e 25 _ (by decide)) ?_
      rintro v w4 ⟨rfl, k4⟩
      have zs_k4 := k4.size
      replace hs := hs.pure k4
      replace hk := hk.pure k4
      replace h6 := h6.pure k4
      replace h7 := h7.pure k4
      replace hw := hw.pure k4
      refine WL.nil ?_
      exact WX.one ⟨rfl, by first | exact Chg.refl _ _ | assumption⟩
    apply DQ.step (E' := [(32, _), (34, _)])
    case ho => rfl
    case hs => exact ⟨rfl, rfl, trivial⟩
    case hk => rfl
    case h1 =>
      intro wq_23 kq_23
      refine WL.num rfl rfl (n_xor32 _ _ _ _) rfl (?_)
      refine WL.nil ?_
      exact WX.one ⟨rfl, by first | exact Chg.refl _ _ | assumption⟩
    apply DQ.step (E' := [(27, _), (35, _)])
    case ho => rfl
    case hs => exact ⟨rfl, rfl, trivial⟩
    case hk => rfl
    case h1 =>
      intro wq_24 kq_24
      refine WL.num rfl rfl (n_add32 _ _ _ _) rfl (?_)
      refine WL.nil ?_
      exact WX.one ⟨rfl, by first | exact Chg.refl _ _ | assumption⟩
    apply DQ.step (E' := [(9, _)])
    case ho => rfl
    case hs => exact ⟨rfl, trivial⟩
    case hk => rfl
    case h1 =>
      intro wq_25 kq_25
      refine WL.move rfl rfl (?_)
      refine WL.nil ?_
      exact WX.one ⟨rfl, by first | exact Chg.refl _ _ | assumption⟩
    apply DQ.step (E' := [(7, _)])
    case ho => rfl
    case hs => exact ⟨rfl, trivial⟩
    case hk => rfl
    case h1 =>
      intro wq_26 kq_26
      have zs_kq_26 := kq_26.size
      replace hs := hs.pure kq_26
      replace hk := hk.pure kq_26
      replace h6 := h6.pure kq_26
      replace h7 := h7.pure kq_26
      replace hw := hw.pure kq_26
      refine WL.indexArr 5 Tryd.underlying161 Tryd.sizeOf159 rfl rfl ⟨rfl, by decide⟩ rfl (?_)
      refine WL.nil ?_
      exact WX.one ⟨rfl, by first | exact Chg.refl _ _ | assumption⟩
    apply DQ.step (E' := [(38, _)])
    case ho => rfl
    case hs => exact ⟨rfl, trivial⟩
    case hk => rfl
    case h1 =>
      intro wq_27 kq_27
      have zs_kq_27 := kq_27.size
      replace hs := hs.pure kq_27
      replace hk := hk.pure kq_27
      replace h6 := h6.pure kq_27
      replace h7 := h7.pure kq_27
      replace hw := hw.pure kq_27
      refine WL.loadB Tryd.isAgg159 h7 rfl rfl rfl (?_)
      refine WL.nil ?_
      exact WX.one ⟨rfl, by first | exact Chg.refl _ _ | assumption⟩
    apply DQ.step (E' := [(37, _), (39, _)])
    case ho => rfl
    case hs => exact ⟨rfl, rfl, trivial⟩
    case hk => rfl
    case h1 =>
      intro wq_28 kq_28
      refine WL.num rfl rfl (n_and32 _ _ _ _) rfl (?_)
      refine WL.nil ?_
      exact WX.one ⟨rfl, by first | exact Chg.refl _ _ | assumption⟩
    apply DQ.step (E' := [(9, _)])
    case ho => rfl
    case hs => exact ⟨rfl, trivial⟩
    case hk => rfl
    case h1 =>
      intro wq_29 kq_29
      refine WL.move rfl rfl (?_)
      refine WL.nil ?_
      exact WX.one ⟨rfl, by first | exact Chg.refl _ _ | assumption⟩
    apply DQ.step (E' := [(41, _)])
    case ho => rfl
    case hs => exact ⟨rfl, trivial⟩
    case hk => rfl
    case h1 =>
      intro wq_30 kq_30
      refine WL.not32 rfl rfl (?_)
      refine WL.nil ?_
      exact WX.one ⟨rfl, by first | exact Chg.refl _ _ | assumption⟩
    apply DQ.step (E' := [(7, _)])
    case ho => rfl
    case hs => exact ⟨rfl, trivial⟩
    case hk => rfl
    case h1 =>
      intro wq_31 kq_31
      have zs_kq_31 := kq_31.size
      replace hs := hs.pure kq_31
      replace hk := hk.pure kq_31
      replace h6 := h6.pure kq_31
      replace h7 := h7.pure kq_31
      replace hw := hw.pure kq_31
      refine WL.indexArr 6 Tryd.underlying161 Tryd.sizeOf159 rfl rfl ⟨rfl, by decide⟩ rfl (?_)
      refine WL.nil ?_
      exact WX.one ⟨rfl, by first | exact Chg.refl _ _ | assumption⟩
    apply DQ.step (E' := [(43, _)])
    case ho => rfl
    case hs => exact ⟨rfl, trivial⟩
    case hk => rfl
    case h1 =>
      intro wq_32 kq_32
      have zs_kq_32 := kq_32.size
      replace hs := hs.pure kq_32
      replace hk := hk.pure kq_32
      replace h6 := h6.pure kq_32
      replace h7 := h7.pure kq_32
      replace hw := hw.pure kq_32
      refine WL.loadB Tryd.isAgg159 h7 rfl rfl rfl (?_)
      refine WL.nil ?_
      exact WX.one ⟨rfl, by first | exact Chg.refl _ _ | assumption⟩
    apply DQ.step (E' := [(42, _), (44, _)])
    case ho => rfl
    case hs => exact ⟨rfl, rfl, trivial⟩
    case hk => rfl
    case h1 =>
      intro wq_33 kq_33
      refine WL.num rfl rfl (n_and32 _ _ _ _) rfl (?_)
      refine WL.nil ?_
      exact WX.one ⟨rfl, by first | exact Chg.refl _ _ | assumption⟩
    apply DQ.step (E' := [(40, _), (45, _)])
    case ho => rfl
    case hs => exact ⟨rfl, rfl, trivial⟩
    case hk => rfl
    case h1 =>
      intro wq_34 kq_34
      refine WL.num rfl rfl (n_xor32 _ _ _ _) rfl (?_)
      refine WL.nil ?_
      exact WX.one ⟨rfl, by first | exact Chg.refl _ _ | assumption⟩
    apply DQ.step (E' := [(36, _), (46, _)])
    case ho => rfl
    case hs => exact ⟨rfl, rfl, trivial⟩
    case hk => rfl
    case h1 =>
      intro wq_35 kq_35
      refine WL.num rfl rfl (n_add32 _ _ _ _) rfl (?_)
      refine WL.nil ?_
      exact WX.one ⟨rfl, by first | exact Chg.refl _ _ | assumption⟩
    apply DQ.step (E' := [(2, _)])
    case ho => rfl
    case hs => exact ⟨rfl, trivial⟩
    case hk => rfl
    case h1 =>
      intro wq_36 kq_36
      refine WL.move rfl rfl (?_)
      refine WL.nil ?_
      exact WX.one ⟨rfl, by first | exact Chg.refl _ _ | assumption⟩
    apply DQ.step (E' := [(8, _)])
    case ho => rfl
    case hs => exact ⟨rfl, trivial⟩
    case hk => rfl
    case h1 =>
      intro wq_37 kq_37
      refine WL.move rfl rfl (?_)
      refine WL.nil ?_
      exact WX.one ⟨rfl, by first | exact Chg.refl _ _ | assumption⟩
    apply DQ.step (E' := [(48, _)])
    case ho => rfl
    case hs => exact ⟨rfl, trivial⟩
    case hk => rfl
    case h1 =>
      intro wq_38 kq_38
      refine WL.nilCheck rfl rfl (?_)
      refine WL.nil ?_
      exact WX.one ⟨rfl, by first | exact Chg.refl _ _ | assumption⟩
    apply DQ.step (E' := [(50, _), (49, _)])
    case ho => rfl
    case hs => exact ⟨rfl, rfl, trivial⟩
    case hk => rfl
    case h1 =>
      intro wq_39 kq_39
      have zs_kq_39 := kq_39.size
      replace hs := hs.pure kq_39
      replace hk := hk.pure kq_39
      replace h6 := h6.pure kq_39
      replace h7 := h7.pure kq_39
      replace hw := hw.pure kq_39
      refine WL.indexArr (t) Tryd.underlying163 Tryd.sizeOf159 rfl rfl ⟨by omega, by omega⟩ rfl ?_
      refine WL.nil ?_
      exact WX.one ⟨rfl, by first | exact Chg.refl _ _ | assumption⟩
    apply DQ.step (E' := [(51, _)])
    case ho => rfl
    case hs => exact ⟨rfl, trivial⟩
    case hk => rfl
    case h1 =>
      intro wq_40 kq_40
      have zs_kq_40 := kq_40.size
      replace hs := hs.pure kq_40
      replace hk := hk.pure kq_40
      replace h6 := h6.pure kq_40
      replace h7 := h7.pure kq_40
      replace hw := hw.pure kq_40
      refine WL.loadB Tryd.isAgg159 hk rfl (map_at _ fk) rfl (?_)
      refine WL.nil ?_
      exact WX.one ⟨rfl, by first | exact Chg.refl _ _ | assumption⟩
    apply DQ.step (E' := [(47, _), (52, _)])
    case ho => rfl
    case hs => exact ⟨rfl, rfl, trivial⟩
    case hk => rfl
    case h1 =>
      intro wq_41 kq_41
      refine WL.num rfl rfl (n_add32 _ _ _ _) rfl (?_)
      refine WL.nil ?_
      exact WX.one ⟨rfl, by first | exact Chg.refl _ _ | assumption⟩
    apply DQ.step (E' := [(8, _)])
    case ho => rfl
    case hs => exact ⟨rfl, trivial⟩
    case hk => rfl
    case h1 =>
      intro wq_42 kq_42
      refine WL.move rfl rfl (?_)
      refine WL.nil ?_
      exact WX.one ⟨rfl, by first | exact Chg.refl _ _ | assumption⟩
    apply DQ.step (E' := [(6, _), (54, _)])
    case ho => rfl
    case hs => exact ⟨rfl, rfl, trivial⟩
    case hk => rfl
    case h1 =>
      intro wq_43 kq_43
      have zs_kq_43 := kq_43.size
      replace hs := hs.pure kq_43
      replace hk := hk.pure kq_43
      replace h6 := h6.pure kq_43
      replace h7 := h7.pure kq_43
      replace hw := hw.pure kq_43
      refine WL.indexArr (t) Tryd.underlying163 Tryd.sizeOf159 rfl rfl ⟨by omega, by omega⟩ rfl ?_
      refine WL.nil ?_
      exact WX.one ⟨rfl, by first | exact Chg.refl _ _ | assumption⟩
    apply DQ.step (E' := [(55, _)])
    case ho => rfl
    case hs => exact ⟨rfl, trivial⟩
    case hk => rfl
    case h1 =>
      intro wq_44 kq_44
      have zs_kq_44 := kq_44.size
      replace hs := hs.pure kq_44
      replace hk := hk.pure kq_44
      replace h6 := h6.pure kq_44
      replace h7 := h7.pure kq_44
      replace hw := hw.pure kq_44
      refine WL.loadB Tryd.isAgg159 h6 rfl (map_at _ fw) rfl (?_)
      refine WL.nil ?_
      exact WX.one ⟨rfl, by first | exact Chg.refl _ _ | assumption⟩
    apply DQ.step (E' := [(53, _), (56, _)])
    case ho => rfl
    case hs => exact ⟨rfl, rfl, trivial⟩
    case hk => rfl
    case h1 =>
      intro wq_45 kq_45
      refine WL.num rfl rfl (n_add32 _ _ _ _) rfl (?_)
      refine WL.nil ?_
      exact WX.one ⟨rfl, by first | exact Chg.refl _ _ | assumption⟩
    apply DQ.step (E' := [(57, _)])
    case ho => rfl
    case hs => exact ⟨rfl, trivial⟩
    case hk => rfl
    case h1 =>
      intro wq_46 kq_46
      refine WL.assign rfl rfl (?_)
      refine WL.nil ?_
      exact WX.one ⟨rfl, by first | exact Chg.refl _ _ | assumption⟩
    refine DQ.done (fun _ => ?_)
    refine DL.done (fun we_47 ke_47 => ?_)
    have zs_ke_47 := ke_47.size
    replace hs := hs.pure ke_47
    replace hk := hk.pure ke_47
    replace h6 := h6.pure ke_47
    replace h7 := h7.pure ke_47
    replace hw := hw.pure ke_47
    refine WX.then_normal (WC.seq (?_))
    refine WC.draw (Nob) [0, 1, 2, 3, 4, 5, 6, 7, 8, 9, 10, 11, 12, 13, 14, 15, 16, 17, 18, 19, 20, 21, 22, 23, 24] [] mixed rfl rfl (fun wd_48 kd_48 zd_48 => ?_)
    have zs_kd_48 := kd_48.size
    replace hs := hs.pure kd_48
    replace hk := hk.pure kd_48
    replace h6 := h6.pure kd_48
    replace h7 := h7.pure kd_48
    replace hw := hw.pure kd_48
    apply DQ.step (E' := [(10, _)])
    case ho => rfl
    case hs => exact ⟨rfl, trivial⟩
    case hk => rfl
    case h1 =>
      intro wq_49 kq_49
      refine WL.move rfl rfl (?_)
      refine WL.nil ?_
      exact WX.one ⟨rfl, by first | exact Chg.refl _ _ | assumption⟩
    apply DQ.step (E' := [(58, _)])
    case ho => rfl
    case hs => exact ⟨rfl, trivial⟩
    case hk => rfl
    case h1 =>
      intro wq_50 kq_50
      have zs_kq_50 := kq_50.size
      replace hs := hs.pure kq_50
      replace hk := hk.pure kq_50
      replace h6 := h6.pure kq_50
      replace h7 := h7.pure kq_50
      replace hw := hw.pure kq_50
      refine WL.call eg_114 rfl rfl (ror_calls V.a 2 _ (by decide)) ?_
      rintro v w4 ⟨rfl, k4⟩
      have zs_k4 := k4.size
      replace hs := hs.pure k4
      replace hk := hk.pure k4
      replace h6 := h6.pure k4
      replace h7 := h7.pure k4
      replace hw := hw.pure k4
      refine WL.nil ?_
      exact WX.one ⟨rfl, by first | exact Chg.refl _ _ | assumption⟩
    apply DQ.step (E' := [(10, _)])
    case ho => rfl
    case hs => exact ⟨rfl, trivial⟩
    case hk => rfl
    case h1 =>
      intro wq_51 kq_51
      refine WL.move rfl rfl (?_)
      refine WL.nil ?_
      exact WX.one ⟨rfl, by first | exact Chg.refl _ _ | assumption⟩
    apply DQ.step (E' := [(60, _)])
    case ho => rfl
    case hs => exact ⟨rfl, trivial⟩
    case hk => rfl
    case h1 =>
      intro wq_52 kq_52
      have zs_kq_52 := kq_52.size
      replace hs := hs.pure kq_52
      replace hk := hk.pure kq_52
      replace h6 := h6.pure kq_52
      replace h7 := h7.pure kq_52
      replace hw := hw.pure kq_52
      refine WL.call eg_114 rfl rfl (ror_calls V.a 13 _ (by decide)) ?_
      rintro v w4 ⟨rfl, k4⟩
      have zs_k4 := k4.size
      replace hs := hs.pure k4
      replace hk := hk.pure k4
      replace h6 := h6.pure k4
      replace h7 := h7.pure k4
      replace hw := hw.pure k4
      refine WL.nil ?_
      exact WX.one ⟨rfl, by first | exact Chg.refl _ _ | assumption⟩
    apply DQ.step (E' := [(59, _), (61, _)])
    case ho => rfl
    case hs => exact ⟨rfl, rfl, trivial⟩
    case hk => rfl
    case h1 =>
      intro wq_53 kq_53
      refine WL.num rfl rfl (n_xor32 _ _ _ _) rfl (?_)
      refine WL.nil ?_
      exact WX.one ⟨rfl, by first | exact Chg.refl _ _ | assumption⟩
    apply DQ.step (E' := [(10, _)])
    case ho => rfl
    case hs => exact ⟨rfl, trivial⟩
    case hk => rfl
    case h1 =>
      intro wq_54 kq_54
      refine WL.move rfl rfl (?_)
      refine WL.nil ?_
      exact WX.one ⟨rfl, by first | exact Chg.refl _ _ | assumption⟩
    apply DQ.step (E' := [(63, _)])
    case ho => rfl
    case hs => exact ⟨rfl, trivial⟩
    case hk => rfl
    case h1 =>
      intro wq_55 kq_55
      have zs_kq_55 := kq_55.size
      replace hs := hs.pure kq_55
      replace hk := hk.pure kq_55
      replace h6 := h6.pure kq_55
      replace h7 := h7.pure kq_55
      replace hw := hw.pure kq_55
      refine WL.call eg_114 rfl rfl (ror_calls V.a 22 _ (by decide)) ?_
      rintro v w4 ⟨rfl, k4⟩
      have zs_k4 := k4.size
      replace hs := hs.pure k4
      replace hk := hk.pure k4
      replace h6 := h6.pure k4
      replace h7 := h7.pure k4
      replace hw := hw.pure k4
      refine WL.nil ?_
      exact WX.one ⟨rfl, by first | exact Chg.refl _ _ | assumption⟩
    apply DQ.step (E' := [(62, _), (64, _)])
    case ho => rfl
    case hs => exact ⟨rfl, rfl, trivial⟩
    case hk => rfl
    case h1 =>
      intro wq_56 kq_56
      refine WL.num rfl rfl (n_xor32 _ _ _ _) rfl (?_)
      refine WL.nil ?_
      exact WX.one ⟨rfl, by first | exact Chg.refl _ _ | assumption⟩
    apply DQ.step (E' := [(10, _)])
    case ho => rfl
    case hs => exact ⟨rfl, trivial⟩
    case hk => rfl
    case h1 =>
      intro wq_57 kq_57
      refine WL.move rfl rfl (?_)
      refine WL.nil ?_
      exact WX.one ⟨rfl, by first | exact Chg.refl _ _ | assumption⟩
    apply DQ.step (E' := [(7, _)])
    case ho => rfl
    case hs => exact ⟨rfl, trivial⟩
    case hk => rfl
    case h1 =>
      intro wq_58 kq_58
      have zs_kq_58 := kq_58.size
      replace hs := hs.pure kq_58
      replace hk := hk.pure kq_58
      replace h6 := h6.pure kq_58
      replace h7 := h7.pure kq_58
      replace hw := hw.pure kq_58
      refine WL.indexArr 1 Tryd.underlying161 Tryd.sizeOf159 rfl rfl ⟨rfl, by decide⟩ rfl (?_)
      refine WL.nil ?_
      exact WX.one ⟨rfl, by first | exact Chg.refl _ _ | assumption⟩
    apply DQ.step (E' := [(67, _)])
    case ho => rfl
    case hs => exact ⟨rfl, trivial⟩
    case hk => rfl
    case h1 =>
      intro wq_59 kq_59
      have zs_kq_59 := kq_59.size
      replace hs := hs.pure kq_59
      replace hk := hk.pure kq_59
      replace h6 := h6.pure kq_59
      replace h7 := h7.pure kq_59
      replace hw := hw.pure kq_59
      refine WL.loadB Tryd.isAgg159 h7 rfl rfl rfl (?_)
      refine WL.nil ?_
      exact WX.one ⟨rfl, by first | exact Chg.refl _ _ | assumption⟩
    apply DQ.step (E' := [(66, _), (68, _)])
    case ho => rfl
    case hs => exact ⟨rfl, rfl, trivial⟩
    case hk => rfl
    case h1 =>
      intro wq_60 kq_60
      refine WL.num rfl rfl (n_and32 _ _ _ _) rfl (?_)
      refine WL.nil ?_
      exact WX.one ⟨rfl, by first | exact Chg.refl _ _ | assumption⟩
    apply DQ.step (E' := [(10, _)])
    case ho => rfl
    case hs => exact ⟨rfl, trivial⟩
    case hk => rfl
    case h1 =>
      intro wq_61 kq_61
      refine WL.move rfl rfl (?_)
      refine WL.nil ?_
      exact WX.one ⟨rfl, by first | exact Chg.refl _ _ | assumption⟩
    apply DQ.step (E' := [(7, _)])
    case ho => rfl
    case hs => exact ⟨rfl, trivial⟩
    case hk => rfl
    case h1 =>
      intro wq_62 kq_62
      have zs_kq_62 := kq_62.size
      replace hs := hs.pure kq_62
      replace hk := hk.pure kq_62
      replace h6 := h6.pure kq_62
      replace h7 := h7.pure kq_62
      replace hw := hw.pure kq_62
      refine WL.indexArr 2 Tryd.underlying161 Tryd.sizeOf159 rfl rfl ⟨rfl, by decide⟩ rfl (?_)
      refine WL.nil ?_
      exact WX.one ⟨rfl, by first | exact Chg.refl _ _ | assumption⟩
    apply DQ.step (E' := [(71, _)])
    case ho => rfl
    case hs => exact ⟨rfl, trivial⟩
    case hk => rfl
    case h1 =>
      intro wq_63 kq_63
      have zs_kq_63 := kq_63.size
      replace hs := hs.pure kq_63
      replace hk := hk.pure kq_63
      replace h6 := h6.pure kq_63
      replace h7 := h7.pure kq_63
      replace hw := hw.pure kq_63
      refine WL.loadB Tryd.isAgg159 h7 rfl rfl rfl (?_)
      refine WL.nil ?_
      exact WX.one ⟨rfl, by first | exact Chg.refl _ _ | assumption⟩
    apply DQ.step (E' := [(70, _), (72, _)])
    case ho => rfl
    case hs => exact ⟨rfl, rfl, trivial⟩
    case hk => rfl
    case h1 =>
      intro wq_64 kq_64
      refine WL.num rfl rfl (n_and32 _ _ _ _) rfl (?_)
      refine WL.nil ?_
      exact WX.one ⟨rfl, by first | exact Chg.refl _ _ | assumption⟩
    apply DQ.step (E' := [(69, _), (73, _)])
    case ho => rfl
    case hs => exact ⟨rfl, rfl, trivial⟩
    case hk => rfl
    case h1 =>
      intro wq_65 kq_65
      refine WL.num rfl rfl (n_xor32 _ _ _ _) rfl (?_)
      refine WL.nil ?_
      exact WX.one ⟨rfl, by first | exact Chg.refl _ _ | assumption⟩
    apply DQ.step (E' := [(7, _)])
    case ho => rfl
    case hs => exact ⟨rfl, trivial⟩
    case hk => rfl
    case h1 =>
      intro wq_66 kq_66
      have zs_kq_66 := kq_66.size
      replace hs := hs.pure kq_66
      replace hk := hk.pure kq_66
      replace h6 := h6.pure kq_66
      replace h7 := h7.pure kq_66
      replace hw := hw.pure kq_66
      refine WL.indexArr 1 Tryd.underlying161 Tryd.sizeOf159 rfl rfl ⟨rfl, by decide⟩ rfl (?_)
      refine WL.nil ?_
      exact WX.one ⟨rfl, by first | exact Chg.refl _ _ | assumption⟩
    apply DQ.step (E' := [(75, _)])
    case ho => rfl
    case hs => exact ⟨rfl, trivial⟩
    case hk => rfl
    case h1 =>
      intro wq_67 kq_67
      have zs_kq_67 := kq_67.size
      replace hs := hs.pure kq_67
      replace hk := hk.pure kq_67
      replace h6 := h6.pure kq_67
      replace h7 := h7.pure kq_67
      replace hw := hw.pure kq_67
      refine WL.loadB Tryd.isAgg159 h7 rfl rfl rfl (?_)
      refine WL.nil ?_
      exact WX.one ⟨rfl, by first | exact Chg.refl _ _ | assumption⟩
    apply DQ.step (E' := [(7, _)])
    case ho => rfl
    case hs => exact ⟨rfl, trivial⟩
    case hk => rfl
    case h1 =>
      intro wq_68 kq_68
      have zs_kq_68 := kq_68.size
      replace hs := hs.pure kq_68
      replace hk := hk.pure kq_68
      replace h6 := h6.pure kq_68
      replace h7 := h7.pure kq_68
      replace hw := hw.pure kq_68
      refine WL.indexArr 2 Tryd.underlying161 Tryd.sizeOf159 rfl rfl ⟨rfl, by decide⟩ rfl (?_)
      refine WL.nil ?_
      exact WX.one ⟨rfl, by first | exact Chg.refl _ _ | assumption⟩
    apply DQ.step (E' := [(77, _)])
    case ho => rfl
    case hs => exact ⟨rfl, trivial⟩
    case hk => rfl
    case h1 =>
      intro wq_69 kq_69
      have zs_kq_69 := kq_69.size
      replace hs := hs.pure kq_69
      replace hk := hk.pure kq_69
      replace h6 := h6.pure kq_69
      replace h7 := h7.pure kq_69
      replace hw := hw.pure kq_69
      refine WL.loadB Tryd.isAgg159 h7 rfl rfl rfl (?_)
      refine WL.nil ?_
      exact WX.one ⟨rfl, by first | exact Chg.refl _ _ | assumption⟩
    apply DQ.step (E' := [(76, _), (78, _)])
    case ho => rfl
    case hs => exact ⟨rfl, rfl, trivial⟩
    case hk => rfl
    case h1 =>
      intro wq_70 kq_70
      refine WL.num rfl rfl (n_and32 _ _ _ _) rfl (?_)
      refine WL.nil ?_
      exact WX.one ⟨rfl, by first | exact Chg.refl _ _ | assumption⟩
    apply DQ.step (E' := [(74, _), (79, _)])
    case ho => rfl
    case hs => exact ⟨rfl, rfl, trivial⟩
    case hk => rfl
    case h1 =>
      intro wq_71 kq_71
      refine WL.num rfl rfl (n_xor32 _ _ _ _) rfl (?_)
      refine WL.nil ?_
      exact WX.one ⟨rfl, by first | exact Chg.refl _ _ | assumption⟩
    apply DQ.step (E' := [(65, _), (80, _)])
    case ho => rfl
    case hs => exact ⟨rfl, rfl, trivial⟩
    case hk => rfl
    case h1 =>
      intro wq_72 kq_72
      refine WL.num rfl rfl (n_add32 _ _ _ _) rfl (?_)
      refine WL.nil ?_
      exact WX.one ⟨rfl, by first | exact Chg.refl _ _ | assumption⟩
    apply DQ.step (E' := [(81, _)])
    case ho => rfl
    case hs => exact ⟨rfl, trivial⟩
    case hk => rfl
    case h1 =>
      intro wq_73 kq_73
      refine WL.assign rfl rfl (?_)
      refine WL.nil ?_
      exact WX.one ⟨rfl, by first | exact Chg.refl _ _ | assumption⟩
    refine DQ.done (fun _ => ?_)
    refine DL.done (fun we_74 ke_74 => ?_)
    have zs_ke_74 := ke_74.size
    replace hs := hs.pure ke_74
    replace hk := hk.pure ke_74
    replace h6 := h6.pure ke_74
    replace h7 := h7.pure ke_74
    replace hw := hw.pure ke_74
    refine WX.then_normal (WC.region (WL.move rfl rfl (WL.move rfl rfl (WL.num rfl rfl (n_add32 _ _ _ _) rfl (WL.indexArr 0 Tryd.underlying161 Tryd.sizeOf159 rfl rfl ⟨rfl, by decide⟩ rfl (WL.loadB Tryd.isAgg159 h7 rfl rfl rfl (WL.indexArr 1 Tryd.underlying161 Tryd.sizeOf159 rfl rfl ⟨rfl, by decide⟩ rfl (?_))))))))
    refine WL.loadB Tryd.isAgg159 h7 rfl rfl rfl (WL.indexArr 2 Tryd.underlying161 Tryd.sizeOf159 rfl rfl ⟨rfl, by decide⟩ rfl (WL.loadB Tryd.isAgg159 h7 rfl rfl rfl (WL.indexArr 3 Tryd.underlying161 Tryd.sizeOf159 rfl rfl ⟨rfl, by decide⟩ rfl (WL.loadB Tryd.isAgg159 h7 rfl rfl rfl (WL.move rfl rfl (WL.num rfl rfl (n_add32 _ _ _ _) rfl (WL.indexArr 4 Tryd.underlying161 Tryd.sizeOf159 rfl rfl ⟨rfl, by decide⟩ rfl (?_))))))))
    refine WL.loadB Tryd.isAgg159 h7 rfl rfl rfl (WL.indexArr 5 Tryd.underlying161 Tryd.sizeOf159 rfl rfl ⟨rfl, by decide⟩ rfl (WL.loadB Tryd.isAgg159 h7 rfl rfl rfl (WL.indexArr 6 Tryd.underlying161 Tryd.sizeOf159 rfl rfl ⟨rfl, by decide⟩ rfl (WL.loadB Tryd.isAgg159 h7 rfl rfl rfl (WL.bld rfl (bld_161_0_1_2_3_4_5_6_7 _ _ _ _ _ _ _ _) rfl (?_))))))
    refine WL.stores Tryd.sizeOf161 h7 rfl rfl (by first | (simp; done) | (simp; omega) | rfl) (by first | exact Enc.one _ _ | (intro u hu; obtain ⟨x, _, rfl⟩ := List.mem_map.1 hu; rfl) | (simp [Value.oneCell']; done) | (simp [Value.oneCell', Value.cells]; done)) (by first | (simp; done) | (simp; omega) | (simp [Value.cells]; done) | (simp [Value.cells]; omega) | exact Nat.le_of_ble_eq_true rfl) rfl ?_
    intro w_75 hs_75 hn_75 k_75
    have zs_k_75 := k_75.size
    replace hs := hs.chg k_75 (by first | (intro x h1 h2; exact h2) | (intro x h0 h1 h2; exact hS x h1 h2) | (intro x h0 h1 h2; have h3 : _ = _ := h2; subst h3; exact hSR h1.1) | (intro x h1 h2; have h3 : _ = _ := h2; subst h3; assumption) | (intro x h1 h2; have h3 : _ = _ := h2; exfalso; omega) | (intro b h1 h2 h3; have h4 : _ = _ := h3; (try dsimp only at h2); exfalso; omega) | (intro h1; have h2 : _ = _ := h1; exfalso; omega) | (intro h1; have h2 : _ ≤ _ := h1; exfalso; omega) | (intros; exfalso; (try dsimp only at *); omega) | (intro b h1 h2 h3; exfalso; have h4 := h3.2; (try dsimp only at *); omega) | (intro h1; exfalso; have h4 := h1.2; (try dsimp only at *); omega) | (intro x h1 h2; exfalso; have h4 := h2.2; (try dsimp only at *); omega) | (intro x h1 h2; exact ⟨_, rfl, h2⟩) | (intro x h1 h2; have h4 := h2.1; have h5 := h2.2; exfalso; omega) | (intro x h1 h2; exact h2.1) | (intro x h1 h2; rcases h2.1 with h3 | h3; exact h3; exfalso; omega) | (intro x h1 h2; rcases h2 with h3 | h3; exact h3; exfalso; omega))
    replace hk := hk.chg k_75 (by first | (intro x h1 h2; exact h2) | (intro x h0 h1 h2; exact hS x h1 h2) | (intro x h0 h1 h2; have h3 : _ = _ := h2; subst h3; exact hSR h1.1) | (intro x h1 h2; have h3 : _ = _ := h2; subst h3; assumption) | (intro x h1 h2; have h3 : _ = _ := h2; exfalso; omega) | (intro b h1 h2 h3; have h4 : _ = _ := h3; (try dsimp only at h2); exfalso; omega) | (intro h1; have h2 : _ = _ := h1; exfalso; omega) | (intro h1; have h2 : _ ≤ _ := h1; exfalso; omega) | (intros; exfalso; (try dsimp only at *); omega) | (intro b h1 h2 h3; exfalso; have h4 := h3.2; (try dsimp only at *); omega) | (intro h1; exfalso; have h4 := h1.2; (try dsimp only at *); omega) | (intro x h1 h2; exfalso; have h4 := h2.2; (try dsimp only at *); omega) | (intro x h1 h2; exact ⟨_, rfl, h2⟩) | (intro x h1 h2; have h4 := h2.1; have h5 := h2.2; exfalso; omega) | (intro x h1 h2; exact h2.1) | (intro x h1 h2; rcases h2.1 with h3 | h3; exact h3; exfalso; omega) | (intro x h1 h2; rcases h2 with h3 | h3; exact h3; exfalso; omega))
    replace h6 := h6.chg k_75 (by first | (intro x h1 h2; exact h2) | (intro x h0 h1 h2; exact hS x h1 h2) | (intro x h0 h1 h2; have h3 : _ = _ := h2; subst h3; exact hSR h1.1) | (intro x h1 h2; have h3 : _ = _ := h2; subst h3; assumption) | (intro x h1 h2; have h3 : _ = _ := h2; exfalso; omega) | (intro b h1 h2 h3; have h4 : _ = _ := h3; (try dsimp only at h2); exfalso; omega) | (intro h1; have h2 : _ = _ := h1; exfalso; omega) | (intro h1; have h2 : _ ≤ _ := h1; exfalso; omega) | (intros; exfalso; (try dsimp only at *); omega) | (intro b h1 h2 h3; exfalso; have h4 := h3.2; (try dsimp only at *); omega) | (intro h1; exfalso; have h4 := h1.2; (try dsimp only at *); omega) | (intro x h1 h2; exfalso; have h4 := h2.2; (try dsimp only at *); omega) | (intro x h1 h2; exact ⟨_, rfl, h2⟩) | (intro x h1 h2; have h4 := h2.1; have h5 := h2.2; exfalso; omega) | (intro x h1 h2; exact h2.1) | (intro x h1 h2; rcases h2.1 with h3 | h3; exact h3; exfalso; omega) | (intro x h1 h2; rcases h2 with h3 | h3; exact h3; exfalso; omega))
    replace hw := hw.chg k_75 (by first | (intro x h1 h2; exact h2) | (intro x h0 h1 h2; exact hS x h1 h2) | (intro x h0 h1 h2; have h3 : _ = _ := h2; subst h3; exact hSR h1.1) | (intro x h1 h2; have h3 : _ = _ := h2; subst h3; assumption) | (intro x h1 h2; have h3 : _ = _ := h2; exfalso; omega) | (intro b h1 h2 h3; have h4 : _ = _ := h3; (try dsimp only at h2); exfalso; omega) | (intro h1; have h2 : _ = _ := h1; exfalso; omega) | (intro h1; have h2 : _ ≤ _ := h1; exfalso; omega) | (intros; exfalso; (try dsimp only at *); omega) | (intro b h1 h2 h3; exfalso; have h4 := h3.2; (try dsimp only at *); omega) | (intro h1; exfalso; have h4 := h1.2; (try dsimp only at *); omega) | (intro x h1 h2; exfalso; have h4 := h2.2; (try dsimp only at *); omega) | (intro x h1 h2; exact ⟨_, rfl, h2⟩) | (intro x h1 h2; have h4 := h2.1; have h5 := h2.2; exfalso; omega) | (intro x h1 h2; exact h2.1) | (intro x h1 h2; rcases h2.1 with h3 | h3; exact h3; exfalso; omega) | (intro x h1 h2; rcases h2 with h3 | h3; exact h3; exfalso; omega))
    replace h7 := hn_75
    refine WL.nil (WX.block_normal (WX.then_normal (WC.region (WL.add64 rfl rfl (by first | omega | (constructor <;> omega)) rfl (WL.move rfl rfl (WL.nil (?_)))))))
    first
      | (refine WX.loop_next (t + 1) ⟨rfl, rfl, rfl, rfl, rfl, trivial⟩ ⟨by omega, hs, hk, h6, ?_, hw⟩ (by show _ - _ < _ - _; omega)
         rw [roundsN, ← hV]
         exact h7)
      | (refine WX.loop_next (i + 1) ⟨rfl, rfl, rfl, trivial⟩ ⟨by omega, ?_, h7, hw⟩ (by show _ - _ < _ - _; omega)
         rw [← f3, List.map_set]
         exact hs)
  ·
    refine WL.nil (WX.then_normal (WC.seq (WC.cond_false rfl (WC.exit (WX.then_exit (WX.then_exit (WX.block_here (?_))))))))
    refine WX.then_normal (WC.seq (WC.region (WL.move rfl rfl (WL.nil (WX.then_normal (WC.block (?_)))))))
    have ht64 : t = 64 := by omega
    rw [ht64] at hV
    refine WC.loop (σ := Nat) (fun i => [(0, .pointer (some ⟨gs, 0, none⟩)), (7, .pointer (some ⟨g_3, 0, none⟩)), (103, vi i)])
      (fun i w' => i ≤ 8 ∧ Blk w' gs 161 ((addTo s V i).map v32) ∧ Blk w' g_3 161 (V.list.map v32) ∧ Chg (fun x => x = gs) w w') (fun i => 8 - i) 0 ⟨rfl, rfl, rfl, trivial⟩ ⟨by omega, hs, h7, hw.mono (fun _ _ h => h.elim)⟩ ?_
    clear hs hk h6 h7 hw
    rintro i w9 ⟨hi, hs, h7, hw⟩
    refine WC.seq (WC.region (?_))
    refine WL.lss? rfl rfl rfl (fun h104 => ?_) (fun h104 => ?_)
    ·
      refine WL.nil (WX.then_normal (WC.seq (WC.cond_true rfl (WC.skip (WX.then_normal (WC.seq (WC.block (?_))))))))
      refine WC.seq (WC.region (WL.move rfl rfl (WL.assign rfl rfl (WL.nil (WX.then_normal (?_))))))
      obtain ⟨f1, f2, f3⟩ := addTo_at (s := s) (v := V) (i := i) (by omega)
      have hal := addTo_len s V i (by omega)
      refine WC.draw (fun x => x = gs) [0, 1, 2, 3, 5, 6, 7, 9, 10] [4, 8, 11] mixed rfl rfl (fun wd_5 kd_5 zd_5 => ?_)
      have zs_kd_5 := kd_5.size
      replace hs := hs.pure kd_5
      replace h7 := h7.pure kd_5
      replace hw := hw.pure kd_5
      apply DQ.step (E' := [(0, _)])
      case ho => rfl
      case hs => exact ⟨rfl, trivial⟩
      case hk => rfl
      case h1 =>
        intro wq_7 kq_7
        refine WL.move rfl rfl (?_)
        refine WL.nil ?_
        exact WX.one ⟨rfl, by first | exact Chg.refl _ _ | assumption⟩
      apply DQ.step (E' := [(13, _)])
      case ho => rfl
      case hs => exact ⟨rfl, trivial⟩
      case hk => rfl
      case h1 =>
        intro wq_8 kq_8
        refine WL.move rfl rfl (?_)
        refine WL.nil ?_
        exact WX.one ⟨rfl, by first | exact Chg.refl _ _ | assumption⟩
      apply DQ.step (E' := [(106, _)])
      case ho => rfl
      case hs => exact ⟨rfl, trivial⟩
      case hk => rfl
      case h1 =>
        intro wq_9 kq_9
        refine WL.nilCheck rfl rfl (?_)
        refine WL.nil ?_
        exact WX.one ⟨rfl, by first | exact Chg.refl _ _ | assumption⟩
      apply DQ.step (E' := [(108, _), (107, _)])
      case ho => rfl
      case hs => exact ⟨rfl, rfl, trivial⟩
      case hk => rfl
      case h1 =>
        intro wq_10 kq_10
        have zs_kq_10 := kq_10.size
        replace h7 := h7.chg kq_10 (by first | (intro x h1 h2; exact h2) | (intro x h0 h1 h2; exact hS x h1 h2) | (intro x h0 h1 h2; have h3 : _ = _ := h2; subst h3; exact hSR h1.1) | (intro x h1 h2; have h3 : _ = _ := h2; subst h3; assumption) | (intro x h1 h2; have h3 : _ = _ := h2; exfalso; omega) | (intro b h1 h2 h3; have h4 : _ = _ := h3; (try dsimp only at h2); exfalso; omega) | (intro h1; have h2 : _ = _ := h1; exfalso; omega) | (intro h1; have h2 : _ ≤ _ := h1; exfalso; omega) | (intros; exfalso; (try dsimp only at *); omega) | (intro b h1 h2 h3; exfalso; have h4 := h3.2; (try dsimp only at *); omega) | (intro h1; exfalso; have h4 := h1.2; (try dsimp only at *); omega) | (intro x h1 h2; exfalso; have h4 := h2.2; (try dsimp only at *); omega) | (intro x h1 h2; exact ⟨_, rfl, h2⟩) | (intro x h1 h2; have h4 := h2.1; have h5 := h2.2; exfalso; omega) | (intro x h1 h2; exact h2.1) | (intro x h1 h2; rcases h2.1 with h3 | h3; exact h3; exfalso; omega) | (intro x h1 h2; rcases h2 with h3 | h3; exact h3; exfalso; omega))
        refine WL.indexArr (i) Tryd.underlying161 Tryd.sizeOf159 rfl rfl ⟨by omega, by omega⟩ rfl ?_
        refine WL.nil ?_
        exact WX.one ⟨rfl, by first | exact Chg.refl _ _ | assumption⟩
      apply DQ.step (E' := [(13, _)])
      case ho => rfl
      case hs => exact ⟨rfl, trivial⟩
      case hk => rfl
      case h1 =>
        intro wq_11 kq_11
        refine WL.move rfl rfl (?_)
        refine WL.nil ?_
        exact WX.one ⟨rfl, by first | exact Chg.refl _ _ | assumption⟩
      apply DQ.step (E' := [(7, _), (111, _)])
      case ho => rfl
      case hs => exact ⟨rfl, rfl, trivial⟩
      case hk => rfl
      case h1 =>
        intro wq_12 kq_12
        have zs_kq_12 := kq_12.size
        replace h7 := h7.chg kq_12 (by first | (intro x h1 h2; exact h2) | (intro x h0 h1 h2; exact hS x h1 h2) | (intro x h0 h1 h2; have h3 : _ = _ := h2; subst h3; exact hSR h1.1) | (intro x h1 h2; have h3 : _ = _ := h2; subst h3; assumption) | (intro x h1 h2; have h3 : _ = _ := h2; exfalso; omega) | (intro b h1 h2 h3; have h4 : _ = _ := h3; (try dsimp only at h2); exfalso; omega) | (intro h1; have h2 : _ = _ := h1; exfalso; omega) | (intro h1; have h2 : _ ≤ _ := h1; exfalso; omega) | (intros; exfalso; (try dsimp only at *); omega) | (intro b h1 h2 h3; exfalso; have h4 := h3.2; (try dsimp only at *); omega) | (intro h1; exfalso; have h4 := h1.2; (try dsimp only at *); omega) | (intro x h1 h2; exfalso; have h4 := h2.2; (try dsimp only at *); omega) | (intro x h1 h2; exact ⟨_, rfl, h2⟩) | (intro x h1 h2; have h4 := h2.1; have h5 := h2.2; exfalso; omega) | (intro x h1 h2; exact h2.1) | (intro x h1 h2; rcases h2.1 with h3 | h3; exact h3; exfalso; omega) | (intro x h1 h2; rcases h2 with h3 | h3; exact h3; exfalso; omega))
        refine WL.indexArr (i) Tryd.underlying161 Tryd.sizeOf159 rfl rfl ⟨by omega, by omega⟩ rfl ?_
        refine WL.nil ?_
        exact WX.one ⟨rfl, by first | exact Chg.refl _ _ | assumption⟩
      apply DQ.step (E' := [(112, _)])
      case ho => rfl
      case hs => exact ⟨rfl, trivial⟩
      case hk => rfl
      case h1 =>
        intro wq_13 kq_13
        have zs_kq_13 := kq_13.size
        replace h7 := h7.chg kq_13 (by first | (intro x h1 h2; exact h2) | (intro x h0 h1 h2; exact hS x h1 h2) | (intro x h0 h1 h2; have h3 : _ = _ := h2; subst h3; exact hSR h1.1) | (intro x h1 h2; have h3 : _ = _ := h2; subst h3; assumption) | (intro x h1 h2; have h3 : _ = _ := h2; exfalso; omega) | (intro b h1 h2 h3; have h4 : _ = _ := h3; (try dsimp only at h2); exfalso; omega) | (intro h1; have h2 : _ = _ := h1; exfalso; omega) | (intro h1; have h2 : _ ≤ _ := h1; exfalso; omega) | (intros; exfalso; (try dsimp only at *); omega) | (intro b h1 h2 h3; exfalso; have h4 := h3.2; (try dsimp only at *); omega) | (intro h1; exfalso; have h4 := h1.2; (try dsimp only at *); omega) | (intro x h1 h2; exfalso; have h4 := h2.2; (try dsimp only at *); omega) | (intro x h1 h2; exact ⟨_, rfl, h2⟩) | (intro x h1 h2; have h4 := h2.1; have h5 := h2.2; exfalso; omega) | (intro x h1 h2; exact h2.1) | (intro x h1 h2; rcases h2.1 with h3 | h3; exact h3; exfalso; omega) | (intro x h1 h2; rcases h2 with h3 | h3; exact h3; exfalso; omega))
        refine WL.loadB Tryd.isAgg159 h7 rfl (map_at _ f2) rfl (?_)
        refine WL.nil ?_
        exact WX.one ⟨rfl, by first | exact Chg.refl _ _ | assumption⟩
      apply DQ.step (E' := [(106, _)])
      case ho => rfl
      case hs => exact ⟨rfl, trivial⟩
      case hk => rfl
      case h1 =>
        intro wq_14 kq_14
        refine WL.nilCheck rfl rfl (?_)
        refine WL.nil ?_
        exact WX.one ⟨rfl, by first | exact Chg.refl _ _ | assumption⟩
      apply DQ.step (E' := [(115, _), (107, _)])
      case ho => rfl
      case hs => exact ⟨rfl, rfl, trivial⟩
      case hk => rfl
      case h1 =>
        intro wq_15 kq_15
        have zs_kq_15 := kq_15.size
        replace h7 := h7.chg kq_15 (by first | (intro x h1 h2; exact h2) | (intro x h0 h1 h2; exact hS x h1 h2) | (intro x h0 h1 h2; have h3 : _ = _ := h2; subst h3; exact hSR h1.1) | (intro x h1 h2; have h3 : _ = _ := h2; subst h3; assumption) | (intro x h1 h2; have h3 : _ = _ := h2; exfalso; omega) | (intro b h1 h2 h3; have h4 : _ = _ := h3; (try dsimp only at h2); exfalso; omega) | (intro h1; have h2 : _ = _ := h1; exfalso; omega) | (intro h1; have h2 : _ ≤ _ := h1; exfalso; omega) | (intros; exfalso; (try dsimp only at *); omega) | (intro b h1 h2 h3; exfalso; have h4 := h3.2; (try dsimp only at *); omega) | (intro h1; exfalso; have h4 := h1.2; (try dsimp only at *); omega) | (intro x h1 h2; exfalso; have h4 := h2.2; (try dsimp only at *); omega) | (intro x h1 h2; exact ⟨_, rfl, h2⟩) | (intro x h1 h2; have h4 := h2.1; have h5 := h2.2; exfalso; omega) | (intro x h1 h2; exact h2.1) | (intro x h1 h2; rcases h2.1 with h3 | h3; exact h3; exfalso; omega) | (intro x h1 h2; rcases h2 with h3 | h3; exact h3; exfalso; omega))
        refine WL.indexArr (i) Tryd.underlying161 Tryd.sizeOf159 rfl rfl ⟨by omega, by omega⟩ rfl ?_
        refine WL.nil ?_
        exact WX.one ⟨rfl, by first | exact Chg.refl _ _ | assumption⟩
      refine DQ.done (fun hd_6 => ?_)
      refine DL.step [(109, _)] rfl ⟨rfl, trivial⟩ rfl (fun wq_16 kq_16 => ?_)
      have zs_kq_16 := kq_16.size
      replace hs := hs.pure kq_16
      replace h7 := h7.pure kq_16
      replace hw := hw.pure kq_16
      replace hd_6 := hd_6.pure kq_16
      refine WL.loadB Tryd.isAgg159 hs rfl (map_at _ f1) rfl (?_)
      refine WL.nil ?_
      refine WX.one ⟨hd_6, ?_⟩
      refine DL.step [(110, _), (113, _)] rfl ⟨rfl, rfl, trivial⟩ rfl (fun wq_17 kq_17 => ?_)
      have zs_kq_17 := kq_17.size
      replace hs := hs.pure kq_17
      replace h7 := h7.pure kq_17
      replace hw := hw.pure kq_17
      replace hd_6 := hd_6.pure kq_17
      refine WL.num rfl rfl (n_add32 _ _ _ _) rfl (?_)
      refine WL.nil ?_
      refine WX.one ⟨hd_6, ?_⟩
      refine DL.step [(116, _), (114, _)] rfl ⟨rfl, rfl, trivial⟩ rfl (fun wq_18 kq_18 => ?_)
      have zs_kq_18 := kq_18.size
      replace hs := hs.pure kq_18
      replace h7 := h7.pure kq_18
      replace hw := hw.pure kq_18
      replace hd_6 := hd_6.pure kq_18
      refine WL.store Tryd.sizeOf159 hs rfl rfl rfl (by simp; omega) ?_
      intro w_19 hs_19 hn_19 k_19
      have zs_k_19 := k_19.size
      replace h7 := h7.chg k_19 (by first | (intro x h1 h2; exact h2) | (intro x h0 h1 h2; exact hS x h1 h2) | (intro x h0 h1 h2; have h3 : _ = _ := h2; subst h3; exact hSR h1.1) | (intro x h1 h2; have h3 : _ = _ := h2; subst h3; assumption) | (intro x h1 h2; have h3 : _ = _ := h2; exfalso; omega) | (intro b h1 h2 h3; have h4 : _ = _ := h3; (try dsimp only at h2); exfalso; omega) | (intro h1; have h2 : _ = _ := h1; exfalso; omega) | (intro h1; have h2 : _ ≤ _ := h1; exfalso; omega) | (intros; exfalso; (try dsimp only at *); omega) | (intro b h1 h2 h3; exfalso; have h4 := h3.2; (try dsimp only at *); omega) | (intro h1; exfalso; have h4 := h1.2; (try dsimp only at *); omega) | (intro x h1 h2; exfalso; have h4 := h2.2; (try dsimp only at *); omega) | (intro x h1 h2; exact ⟨_, rfl, h2⟩) | (intro x h1 h2; have h4 := h2.1; have h5 := h2.2; exfalso; omega) | (intro x h1 h2; exact h2.1) | (intro x h1 h2; rcases h2.1 with h3 | h3; exact h3; exfalso; omega) | (intro x h1 h2; rcases h2 with h3 | h3; exact h3; exfalso; omega))
      replace hw := hw.chg k_19 (by first | (intro x h1 h2; exact h2) | (intro x h0 h1 h2; exact hS x h1 h2) | (intro x h0 h1 h2; have h3 : _ = _ := h2; subst h3; exact hSR h1.1) | (intro x h1 h2; have h3 : _ = _ := h2; subst h3; assumption) | (intro x h1 h2; have h3 : _ = _ := h2; exfalso; omega) | (intro b h1 h2 h3; have h4 : _ = _ := h3; (try dsimp only at h2); exfalso; omega) | (intro h1; have h2 : _ = _ := h1; exfalso; omega) | (intro h1; have h2 : _ ≤ _ := h1; exfalso; omega) | (intros; exfalso; (try dsimp only at *); omega) | (intro b h1 h2 h3; exfalso; have h4 := h3.2; (try dsimp only at *); omega) | (intro h1; exfalso; have h4 := h1.2; (try dsimp only at *); omega) | (intro x h1 h2; exfalso; have h4 := h2.2; (try dsimp only at *); omega) | (intro x h1 h2; exact ⟨_, rfl, h2⟩) | (intro x h1 h2; have h4 := h2.1; have h5 := h2.2; exfalso; omega) | (intro x h1 h2; exact h2.1) | (intro x h1 h2; rcases h2.1 with h3 | h3; exact h3; exfalso; omega) | (intro x h1 h2; rcases h2 with h3 | h3; exact h3; exfalso; omega))
      replace hd_6 := hd_6.chg k_19 (by first | (intro x h1 h2; exact h2) | (intro x h0 h1 h2; exact hS x h1 h2) | (intro x h0 h1 h2; have h3 : _ = _ := h2; subst h3; exact hSR h1.1) | (intro x h1 h2; have h3 : _ = _ := h2; subst h3; assumption) | (intro x h1 h2; have h3 : _ = _ := h2; exfalso; omega) | (intro b h1 h2 h3; have h4 : _ = _ := h3; (try dsimp only at h2); exfalso; omega) | (intro h1; have h2 : _ = _ := h1; exfalso; omega) | (intro h1; have h2 : _ ≤ _ := h1; exfalso; omega) | (intros; exfalso; (try dsimp only at *); omega) | (intro b h1 h2 h3; exfalso; have h4 := h3.2; (try dsimp only at *); omega) | (intro h1; exfalso; have h4 := h1.2; (try dsimp only at *); omega) | (intro x h1 h2; exfalso; have h4 := h2.2; (try dsimp only at *); omega) | (intro x h1 h2; exact ⟨_, rfl, h2⟩) | (intro x h1 h2; have h4 := h2.1; have h5 := h2.2; exfalso; omega) | (intro x h1 h2; exact h2.1) | (intro x h1 h2; rcases h2.1 with h3 | h3; exact h3; exfalso; omega) | (intro x h1 h2; rcases h2 with h3 | h3; exact h3; exfalso; omega))
      replace hs := hn_19
      refine WL.nil ?_
      refine WX.one0 (v := undef) ⟨hd_6, ?_⟩
      refine DL.done (fun we_20 ke_20 => ?_)
      have zs_ke_20 := ke_20.size
      replace hs := hs.pure ke_20
      replace h7 := h7.pure ke_20
      replace hw := hw.pure ke_20
      replace hd_6 := hd_6.pure ke_20
      refine WX.block_normal (WX.then_normal (WC.region (WL.add64 rfl rfl (by first | omega | (constructor <;> omega)) rfl (WL.move rfl rfl (WL.nil (?_))))))
      first
        | (refine WX.loop_next (t + 1) ⟨rfl, rfl, rfl, rfl, rfl, trivial⟩ ⟨by omega, hs, hk, h6, ?_, hw⟩ (by show _ - _ < _ - _; omega)
           rw [roundsN, ← hV]
           exact h7)
        | (refine WX.loop_next (i + 1) ⟨rfl, rfl, rfl, trivial⟩ ⟨by omega, ?_, h7, hw⟩ (by show _ - _ < _ - _; omega)
           rw [← f3, List.map_set]
           exact hs)
    ·
      refine WL.nil (WX.then_normal (WC.seq (WC.cond_false rfl (WC.exit (WX.then_exit (WX.then_exit (WX.block_here (?_))))))))
      refine WX.ret0 (.inr rfl) Tryd.results106 ?_
      have hi8 : i = 8 := by omega
      subst hi8
      refine ⟨_, rfl, rfl, ?_, hw⟩
      rw [mix_eq, ← hws, ← hV]
      exact hs
end Go.Proofs.YtjeldcjchipdgaaDoor
namespace Go.Proofs.YtjeldcjchipdgaaDoor
open Go.RowKit Go.HL
set_option maxRecDepth 100000

/-- block after block -/
def comp (s : V8) (ms : List UInt8) : V8 := if 64 ≤ ms.length then comp (mix s (ms.take 64)) (ms.drop 64) else s
termination_by ms.length
decreasing_by simp; omega
theorem comp_more {s : V8} {ms : List UInt8} (h : 64 ≤ ms.length) : comp s ms = comp (mix s (ms.take 64)) (ms.drop 64) := by rw [comp, if_pos h]
theorem comp_end {s : V8} {ms : List UInt8} (h : ms.length < 64) : comp s ms = s := by rw [comp, if_neg (by omega)]
def bytes4 (x : UInt32) : List UInt8 := [(x >>> UInt32.ofNat 24).toUInt8, (x >>> UInt32.ofNat 16).toUInt8, (x >>> UInt32.ofNat 8).toUInt8, x.toUInt8]
def sumB (b : List UInt8) : List UInt8 := (comp st0 (padded b)).list.flatMap bytes4
theorem sumB_len (b : List UInt8) : (sumB b).length = 32 := by simp [sumB, V8.list, bytes4]
theorem padded_len (b : List UInt8) : (padded b).length % 64 = 0 := by
  simp [padded, be8]
  omega
set_option maxHeartbeats 1000000 in
theorem sum_calls {S : Nat → Prop} {w : World} {ao : Option Addr} {c : Nat} {b : List UInt8} (hr : RSl S w eb ao c b) (hl : b.length ≤ 140737488351232) :
    Calls Tryd.prog 86 [.slice ao b.length c].toArray w (Ret fun v w' => v = .string ⟨(sumB b).toArray⟩ ∧ Chg Nob w w') := by
  replace hr := hr.old
  have hw := Chg.refl Nob w
  refine Calls.of_WC Tryd.func86 rfl Tryd.ntmps86 (by simp) ?_
  refine WC.seq (WC.region (WL.assign rfl rfl (WL.nil (WX.then_normal (WC.seq (WC.region (?_)))))))
  refine WL.call eg_103 rfl rfl (begin_calls _) ?_
  rintro v w1 ⟨rfl, k⟩
  rw [V8.cells_eq]
  have zs_k := k.size
  replace hr := hr.pure k
  replace hw := hw.pure k
  refine WL.call eg_104 rfl rfl (rounds_calls _) ?_
  rintro v w1 ⟨rfl, k⟩
  have zs_k := k.size
  replace hr := hr.pure k
  replace hw := hw.pure k
  refine WL.alloc Tryd.zeroValue161 rfl ?_
  intro g_1 w_1 hge_1 hlt_1 hb_1 k_1
  have zs_k_1 := k_1.size
  replace hr := hr.pure k_1
  replace hw := hw.pure k_1
  refine WL.alloc Tryd.zeroValue163 rfl ?_
  intro g_2 w_2 hge_2 hlt_2 hb_2 k_2
  have zs_k_2 := k_2.size
  replace hr := hr.pure k_2
  replace hw := hw.pure k_2
  replace hb_1 := hb_1.pure k_2
  refine WL.stores Tryd.sizeOf161 hb_1 rfl rfl (by first | (simp; done) | (simp; omega) | rfl) (by first | exact Enc.one _ _ | (intro u hu; obtain ⟨x, _, rfl⟩ := List.mem_map.1 hu; rfl) | (simp [Value.oneCell']; done) | (simp [Value.oneCell', Value.cells]; done)) (by first | (simp; done) | (simp; omega) | (simp [Value.cells]; done) | (simp [Value.cells]; omega) | exact Nat.le_of_ble_eq_true rfl) rfl ?_
  intro w_3 hs_3 hn_3 k_3
  have zs_k_3 := k_3.size
  replace hr := hr.chg k_3 (by first | (intro x h1 h2; exact h2) | (intro x h0 h1 h2; exact hS x h1 h2) | (intro x h0 h1 h2; have h3 : _ = _ := h2; subst h3; exact hSR h1.1) | (intro x h1 h2; have h3 : _ = _ := h2; subst h3; assumption) | (intro x h1 h2; have h3 : _ = _ := h2; exfalso; omega) | (intro b h1 h2 h3; have h4 : _ = _ := h3; (try dsimp only at h2); exfalso; omega) | (intro h1; have h2 : _ = _ := h1; exfalso; omega) | (intro h1; have h2 : _ ≤ _ := h1; exfalso; omega) | (intros; exfalso; (try dsimp only at *); omega) | (intro b h1 h2 h3; exfalso; have h4 := h3.2; (try dsimp only at *); omega) | (intro h1; exfalso; have h4 := h1.2; (try dsimp only at *); omega) | (intro x h1 h2; exfalso; have h4 := h2.2; (try dsimp only at *); omega) | (intro x h1 h2; exact ⟨_, rfl, h2⟩) | (intro x h1 h2; have h4 := h2.1; have h5 := h2.2; exfalso; omega) | (intro x h1 h2; exact h2.1) | (intro x h1 h2; rcases h2.1 with h3 | h3; exact h3; exfalso; omega) | (intro x h1 h2; rcases h2 with h3 | h3; exact h3; exfalso; omega))
  replace hw := hw.chg k_3 (by first | (intro x h1 h2; exact h2) | (intro x h0 h1 h2; exact hS x h1 h2) | (intro x h0 h1 h2; have h3 : _ = _ := h2; subst h3; exact hSR h1.1) | (intro x h1 h2; have h3 : _ = _ := h2; subst h3; assumption) | (intro x h1 h2; have h3 : _ = _ := h2; exfalso; omega) | (intro b h1 h2 h3; have h4 : _ = _ := h3; (try dsimp only at h2); exfalso; omega) | (intro h1; have h2 : _ = _ := h1; exfalso; omega) | (intro h1; have h2 : _ ≤ _ := h1; exfalso; omega) | (intros; exfalso; (try dsimp only at *); omega) | (intro b h1 h2 h3; exfalso; have h4 := h3.2; (try dsimp only at *); omega) | (intro h1; exfalso; have h4 := h1.2; (try dsimp only at *); omega) | (intro x h1 h2; exfalso; have h4 := h2.2; (try dsimp only at *); omega) | (intro x h1 h2; exact ⟨_, rfl, h2⟩) | (intro x h1 h2; have h4 := h2.1; have h5 := h2.2; exfalso; omega) | (intro x h1 h2; exact h2.1) | (intro x h1 h2; rcases h2.1 with h3 | h3; exact h3; exfalso; omega) | (intro x h1 h2; rcases h2 with h3 | h3; exact h3; exfalso; omega))
  replace hb_2 := hb_2.chg k_3 (by first | (intro x h1 h2; exact h2) | (intro x h0 h1 h2; exact hS x h1 h2) | (intro x h0 h1 h2; have h3 : _ = _ := h2; subst h3; exact hSR h1.1) | (intro x h1 h2; have h3 : _ = _ := h2; subst h3; assumption) | (intro x h1 h2; have h3 : _ = _ := h2; exfalso; omega) | (intro b h1 h2 h3; have h4 : _ = _ := h3; (try dsimp only at h2); exfalso; omega) | (intro h1; have h2 : _ = _ := h1; exfalso; omega) | (intro h1; have h2 : _ ≤ _ := h1; exfalso; omega) | (intros; exfalso; (try dsimp only at *); omega) | (intro b h1 h2 h3; exfalso; have h4 := h3.2; (try dsimp only at *); omega) | (intro h1; exfalso; have h4 := h1.2; (try dsimp only at *); omega) | (intro x h1 h2; exfalso; have h4 := h2.2; (try dsimp only at *); omega) | (intro x h1 h2; exact ⟨_, rfl, h2⟩) | (intro x h1 h2; have h4 := h2.1; have h5 := h2.2; exfalso; omega) | (intro x h1 h2; exact h2.1) | (intro x h1 h2; rcases h2.1 with h3 | h3; exact h3; exfalso; omega) | (intro x h1 h2; rcases h2 with h3 | h3; exact h3; exfalso; omega))
  replace hb_1 := hn_3
  refine WL.stores Tryd.sizeOf163 hb_2 rfl rfl (by first | (simp; done) | (simp; omega) | rfl) (by first | exact Enc.one _ _ | (intro u hu; obtain ⟨x, _, rfl⟩ := List.mem_map.1 hu; rfl) | (simp [Value.oneCell']; done) | (simp [Value.oneCell', Value.cells]; done)) (by first | (simp; done) | (simp; omega) | (simp [Value.cells]; done) | (simp [Value.cells]; omega) | exact Nat.le_of_ble_eq_true rfl) rfl ?_
  intro w_4 hs_4 hn_4 k_4
  have zs_k_4 := k_4.size
  replace hr := hr.chg k_4 (by first | (intro x h1 h2; exact h2) | (intro x h0 h1 h2; exact hS x h1 h2) | (intro x h0 h1 h2; have h3 : _ = _ := h2; subst h3; exact hSR h1.1) | (intro x h1 h2; have h3 : _ = _ := h2; subst h3; assumption) | (intro x h1 h2; have h3 : _ = _ := h2; exfalso; omega) | (intro b h1 h2 h3; have h4 : _ = _ := h3; (try dsimp only at h2); exfalso; omega) | (intro h1; have h2 : _ = _ := h1; exfalso; omega) | (intro h1; have h2 : _ ≤ _ := h1; exfalso; omega) | (intros; exfalso; (try dsimp only at *); omega) | (intro b h1 h2 h3; exfalso; have h4 := h3.2; (try dsimp only at *); omega) | (intro h1; exfalso; have h4 := h1.2; (try dsimp only at *); omega) | (intro x h1 h2; exfalso; have h4 := h2.2; (try dsimp only at *); omega) | (intro x h1 h2; exact ⟨_, rfl, h2⟩) | (intro x h1 h2; have h4 := h2.1; have h5 := h2.2; exfalso; omega) | (intro x h1 h2; exact h2.1) | (intro x h1 h2; rcases h2.1 with h3 | h3; exact h3; exfalso; omega) | (intro x h1 h2; rcases h2 with h3 | h3; exact h3; exfalso; omega))
  replace hw := hw.chg k_4 (by first | (intro x h1 h2; exact h2) | (intro x h0 h1 h2; exact hS x h1 h2) | (intro x h0 h1 h2; have h3 : _ = _ := h2; subst h3; exact hSR h1.1) | (intro x h1 h2; have h3 : _ = _ := h2; subst h3; assumption) | (intro x h1 h2; have h3 : _ = _ := h2; exfalso; omega) | (intro b h1 h2 h3; have h4 : _ = _ := h3; (try dsimp only at h2); exfalso; omega) | (intro h1; have h2 : _ = _ := h1; exfalso; omega) | (intro h1; have h2 : _ ≤ _ := h1; exfalso; omega) | (intros; exfalso; (try dsimp only at *); omega) | (intro b h1 h2 h3; exfalso; have h4 := h3.2; (try dsimp only at *); omega) | (intro h1; exfalso; have h4 := h1.2; (try dsimp only at *); omega) | (intro x h1 h2; exfalso; have h4 := h2.2; (try dsimp only at *); omega) | (intro x h1 h2; exact ⟨_, rfl, h2⟩) | (intro x h1 h2; have h4 := h2.1; have h5 := h2.2; exfalso; omega) | (intro x h1 h2; exact h2.1) | (intro x h1 h2; rcases h2.1 with h3 | h3; exact h3; exfalso; omega) | (intro x h1 h2; rcases h2 with h3 | h3; exact h3; exfalso; omega))
  replace hb_1 := hb_1.chg k_4 (by first | (intro x h1 h2; exact h2) | (intro x h0 h1 h2; exact hS x h1 h2) | (intro x h0 h1 h2; have h3 : _ = _ := h2; subst h3; exact hSR h1.1) | (intro x h1 h2; have h3 : _ = _ := h2; subst h3; assumption) | (intro x h1 h2; have h3 : _ = _ := h2; exfalso; omega) | (intro b h1 h2 h3; have h4 : _ = _ := h3; (try dsimp only at h2); exfalso; omega) | (intro h1; have h2 : _ = _ := h1; exfalso; omega) | (intro h1; have h2 : _ ≤ _ := h1; exfalso; omega) | (intros; exfalso; (try dsimp only at *); omega) | (intro b h1 h2 h3; exfalso; have h4 := h3.2; (try dsimp only at *); omega) | (intro h1; exfalso; have h4 := h1.2; (try dsimp only at *); omega) | (intro x h1 h2; exfalso; have h4 := h2.2; (try dsimp only at *); omega) | (intro x h1 h2; exact ⟨_, rfl, h2⟩) | (intro x h1 h2; have h4 := h2.1; have h5 := h2.2; exfalso; omega) | (intro x h1 h2; exact h2.1) | (intro x h1 h2; rcases h2.1 with h3 | h3; exact h3; exfalso; omega) | (intro x h1 h2; rcases h2 with h3 | h3; exact h3; exfalso; omega))
  replace hb_2 := hn_4
  refine WL.nil (WX.then_normal (WC.seq (WC.seq (WC.region (WL.move rfl rfl (?_))))))
  have hr2 := hr.old
  refine WL.call eg_105 rfl rfl (pad_calls hr2 hl) ?_
  rintro v w1 ⟨⟨a1, c1, rfl, hq⟩, k⟩
  have zs_k := k.size
  replace hw := hw.pure k
  replace hb_1 := hb_1.pure k
  replace hb_2 := hb_2.pure k
  refine WL.assign rfl rfl (WL.nil (WX.then_normal (WC.block (?_))))
  have e6 : ∀ zs : List Value, zs.length = 64 → List.take 0 zs ++ List.map v32 K256 ++ List.drop (0 + (List.map v32 K256).length) zs = List.map v32 K256 := by
    intro zs hz
    rw [List.drop_eq_nil_of_le (by simp [K256]; omega)]
    simp
  rw [e6 _ rfl] at hb_2
  have hm : RSl (fun x => g_1 < x ∧ g_2 < x) _ eb a1 c1 (padded b) := hq.rsl.mono (fun x h => by constructor <;> omega)
  refine WC.loop (σ := V8 × List UInt8 × Option Addr × Nat) (fun q => [(3, .pointer (some ⟨g_1, 0, none⟩)), (4, .pointer (some ⟨g_2, 0, none⟩)), (5, .slice q.2.2.1 q.2.1.length q.2.2.2)])
    (fun q w' => comp q.1 q.2.1 = comp st0 (padded b) ∧ q.2.1.length % 64 = 0 ∧ q.2.1.length ≤ 140737488355328 ∧ Blk w' g_1 161 q.1.cells ∧ Blk w' g_2 163 (K256.map v32) ∧ RSl (fun x => g_1 < x ∧ g_2 < x) w' eb q.2.2.1 q.2.2.2 q.2.1 ∧ Chg Nob w w') (fun q => q.2.1.length) (st0, padded b, a1, c1) ⟨rfl, rfl, rfl, trivial⟩ ⟨rfl, padded_len b, by simp [padded, be8]; omega, hb_1, hb_2, hm, hw⟩ ?_
  clear hr hw hq hm hb_1 hb_2
  rintro ⟨s, ms, am, cm⟩ w9 ⟨hcm, hm64, hmle, hb1, hb2, hm, hw⟩
  dsimp only at hcm hm64 hmle hb1 hb2 hm hw ⊢
  refine WC.seq (WC.seq (WC.region (WL.move rfl rfl (WL.len Tryd.underlying26 rfl rfl (?_)))))
  refine WL.gtr? rfl rfl rfl (fun h15 => ?_) (fun h15 => ?_)
  ·
    refine WL.nil (WX.then_normal (WC.cond_true rfl (WC.skip (WX.then_normal (WC.seq (WC.block (WC.region (?_))))))))
    refine WL.move rfl rfl (?_)
    refine WL.slice (l := 0) (h := 64) (k := .i64) Tryd.underlying26 Tryd.sizeOf5 hm rfl (.inr ⟨rfl, rfl⟩) (.inl rfl) (by constructor <;> omega) rfl ?_
    intro a_hc c_hc hc n_hc
    rw [List.drop_zero] at hc ⊢
    refine WL.call eg_106 rfl rfl (mix_calls hb1 hb2 hc (by simp; omega) (by omega)) ?_
    rintro v w1 ⟨rfl, hb1', k⟩
    have zs_k := k.size
    replace hb2 := hb2.chg k (by first | (intro x h1 h2; exact h2) | (intro x h0 h1 h2; exact hS x h1 h2) | (intro x h0 h1 h2; have h3 : _ = _ := h2; subst h3; exact hSR h1.1) | (intro x h1 h2; have h3 : _ = _ := h2; subst h3; assumption) | (intro x h1 h2; have h3 : _ = _ := h2; exfalso; omega) | (intro b h1 h2 h3; have h4 : _ = _ := h3; (try dsimp only at h2); exfalso; omega) | (intro h1; have h2 : _ = _ := h1; exfalso; omega) | (intro h1; have h2 : _ ≤ _ := h1; exfalso; omega) | (intros; exfalso; (try dsimp only at *); omega) | (intro b h1 h2 h3; exfalso; have h4 := h3.2; (try dsimp only at *); omega) | (intro h1; exfalso; have h4 := h1.2; (try dsimp only at *); omega) | (intro x h1 h2; exfalso; have h4 := h2.2; (try dsimp only at *); omega) | (intro x h1 h2; exact ⟨_, rfl, h2⟩) | (intro x h1 h2; have h4 := h2.1; have h5 := h2.2; exfalso; omega) | (intro x h1 h2; exact h2.1) | (intro x h1 h2; rcases h2.1 with h3 | h3; exact h3; exfalso; omega) | (intro x h1 h2; rcases h2 with h3 | h3; exact h3; exfalso; omega))
    replace hm := hm.chg k (by first | (intro x h1 h2; exact h2) | (intro x h0 h1 h2; exact hS x h1 h2) | (intro x h0 h1 h2; have h3 : _ = _ := h2; subst h3; exact hSR h1.1) | (intro x h1 h2; have h3 : _ = _ := h2; subst h3; assumption) | (intro x h1 h2; have h3 : _ = _ := h2; exfalso; omega) | (intro b h1 h2 h3; have h4 : _ = _ := h3; (try dsimp only at h2); exfalso; omega) | (intro h1; have h2 : _ = _ := h1; exfalso; omega) | (intro h1; have h2 : _ ≤ _ := h1; exfalso; omega) | (intros; exfalso; (try dsimp only at *); omega) | (intro b h1 h2 h3; exfalso; have h4 := h3.2; (try dsimp only at *); omega) | (intro h1; exfalso; have h4 := h1.2; (try dsimp only at *); omega) | (intro x h1 h2; exfalso; have h4 := h2.2; (try dsimp only at *); omega) | (intro x h1 h2; exact ⟨_, rfl, h2⟩) | (intro x h1 h2; have h4 := h2.1; have h5 := h2.2; exfalso; omega) | (intro x h1 h2; exact h2.1) | (intro x h1 h2; rcases h2.1 with h3 | h3; exact h3; exfalso; omega) | (intro x h1 h2; rcases h2 with h3 | h3; exact h3; exfalso; omega))
    replace hw := hw.chg k (by first | (intro x h1 h2; exact h2) | (intro x h0 h1 h2; exact hS x h1 h2) | (intro x h0 h1 h2; have h3 : _ = _ := h2; subst h3; exact hSR h1.1) | (intro x h1 h2; have h3 : _ = _ := h2; subst h3; assumption) | (intro x h1 h2; have h3 : _ = _ := h2; exfalso; omega) | (intro b h1 h2 h3; have h4 : _ = _ := h3; (try dsimp only at h2); exfalso; omega) | (intro h1; have h2 : _ = _ := h1; exfalso; omega) | (intro h1; have h2 : _ ≤ _ := h1; exfalso; omega) | (intros; exfalso; (try dsimp only at *); omega) | (intro b h1 h2 h3; exfalso; have h4 := h3.2; (try dsimp only at *); omega) | (intro h1; exfalso; have h4 := h1.2; (try dsimp only at *); omega) | (intro x h1 h2; exfalso; have h4 := h2.2; (try dsimp only at *); omega) | (intro x h1 h2; exact ⟨_, rfl, h2⟩) | (intro x h1 h2; have h4 := h2.1; have h5 := h2.2; exfalso; omega) | (intro x h1 h2; exact h2.1) | (intro x h1 h2; rcases h2.1 with h3 | h3; exact h3; exfalso; omega) | (intro x h1 h2; rcases h2 with h3 | h3; exact h3; exfalso; omega))
    replace hb1 := hb1'
    refine WL.nil (WX.block_normal (WX.then_normal (WC.region (WL.move rfl rfl (?_)))))
    refine WL.slice (l := 64) (h := ms.length) (j := .i64) Tryd.underlying26 Tryd.sizeOf5 hm rfl (.inl rfl) (.inr ⟨rfl, rfl⟩) (by constructor <;> omega) rfl ?_
    intro a_hm2 c_hm2 hm2 n_hm2
    refine WL.assign rfl rfl (WL.nil (?_))
    first
      | (rw [List.take_length] at hm2 ⊢
         have hml : 64 ≤ ms.length := by omega
         refine WX.loop_next (mix s (ms.take 64), ms.drop 64, a_hm2, c_hm2) ⟨rfl, rfl, rfl, trivial⟩ ⟨by rw [← hcm, comp_more hml], by simp; omega, by simp; omega, hb1, hb2, hm2, hw⟩ (by show (ms.drop 64).length < ms.length; simp; omega))
      | (have e1 : (s.list.take (i + 1)).flatMap bytes4 = (s.list.take i).flatMap bytes4 ++ bytes4 (s.list.getD i 0) := by
           rw [List.take_add_one, fv, List.flatMap_append]
           simp
         refine WX.loop_next (i + 1, a_hq2, c_hq2) ⟨rfl, rfl, ?_, trivial⟩ ⟨by dsimp only; omega, ?_, hw⟩ (by show _ - _ < _ - _; omega)
         ·
           dsimp only; rw [e1]; rfl
         ·
           dsimp only; rw [e1]; exact hq2)
  ·
    refine WL.nil (WX.then_normal (WC.cond_false rfl (WC.exit (WX.then_exit (WX.then_exit (WX.block_here (WX.then_normal (?_))))))))
    refine WC.seq (WC.region (?_))
    have zw9 := hw.size
    refine WL.make (e := eb) (0 : UInt8) 0 32 Tryd.underlying26 info_5 rfl rfl rfl ⟨rfl, rfl, by decide⟩ (by decide) rfl ?_
    intro gq wq hq kq zq eq_
    rw [show List.replicate 0 (0 : UInt8) = [] from rfl] at hq ⊢
    have zs_kq := kq.size
    replace hb1 := hb1.pure kq
    replace hb2 := hb2.pure kq
    replace hm := hm.pure kq
    replace hw := hw.pure kq
    refine WL.assign rfl rfl (WL.nil (WX.then_normal (WC.seq (WC.seq (WC.region (WL.loadsB Tryd.isAgg161 Tryd.sizeOf161 hb1 rfl (by first | (simp; done) | (simp; omega) | rfl) rfl (WL.move rfl rfl (?_))))))))
    refine WL.nil (WX.then_normal (WC.block (?_)))
    have hs0 : s = comp st0 (padded b) := by rw [← hcm, comp_end (by omega)]
    have hq0 : Row (w.heap.size ≤ ·) wq 5 eb (some ⟨gq, 0, none⟩) 32 ([] : List UInt8) := hq.mono (fun b h => by omega)
    refine WC.loop (σ := Nat × Option Addr × Nat) (fun q => [(22, .agg s.cells.toArray), (23, vi q.1), (6, .slice q.2.1 ((s.list.take q.1).flatMap bytes4).length q.2.2)])
      (fun q w' => q.1 ≤ 8 ∧ Row (w.heap.size ≤ ·) w' 5 eb q.2.1 q.2.2 ((s.list.take q.1).flatMap bytes4) ∧ Chg Nob w w') (fun q => 8 - q.1) (0, some ⟨gq, 0, none⟩, 32) ⟨rfl, rfl, rfl, trivial⟩ ⟨by simp, by simpa using hq0, hw⟩ ?_
    clear hm hb1 hb2 hq hw hq0
    rintro ⟨i, ai, ci⟩ w8 ⟨hi, hq, hw⟩
    dsimp only at hi hq hw ⊢
    have zw := hw.size
    have hlen : ((s.list.take i).flatMap bytes4).length = 4 * i := by
      have h9 : i = 0 ∨ i = 1 ∨ i = 2 ∨ i = 3 ∨ i = 4 ∨ i = 5 ∨ i = 6 ∨ i = 7 ∨ i = 8 := by omega
      rcases h9 with rfl | rfl | rfl | rfl | rfl | rfl | rfl | rfl | rfl <;> rfl
    refine WC.seq (WC.region (?_))
    refine WL.lss? rfl rfl rfl (fun h24 => ?_) (fun h24 => ?_)
    ·
      refine WL.nil (WX.then_normal (WC.seq (WC.cond_true rfl (WC.skip (WX.then_normal (WC.seq (WC.block (?_))))))))
      refine WC.seq (WC.region (?_))
      have fv := getD_at (xs := s.list) (i := i) (by show i < 8; omega)
      refine WL.indexV i Tryd.underlying161 Tryd.sizeOf159 Tryd.isAgg159 rfl rfl ⟨rfl, by omega⟩ (map_at v32 fv) rfl ?_
      refine WL.assign rfl rfl (WL.nil (WX.then_normal (WC.region (WL.move rfl rfl (WL.move rfl rfl (WL.num rfl rfl (n_shr32 _ _ _ _ 24 (by decide)) rfl (WL.c_u32_u8 Tryd.underlying159 Tryd.underlying5 rfl rfl (?_))))))))
      refine WL.move rfl rfl (WL.num rfl rfl (n_shr32 _ _ _ _ 16 (by decide)) rfl (WL.c_u32_u8 Tryd.underlying159 Tryd.underlying5 rfl rfl (WL.move rfl rfl (WL.num rfl rfl (n_shr32 _ _ _ _ 8 (by decide)) rfl (WL.c_u32_u8 Tryd.underlying159 Tryd.underlying5 rfl rfl (WL.move rfl rfl (WL.c_u32_u8 Tryd.underlying159 Tryd.underlying5 rfl rfl (?_))))))))
      refine WL.build (e := eb) (bytes4 (s.list.getD i 0)) Tryd.underlying26 Tryd.sizeOf5 Tryd.zeroValue5 rfl rfl rfl (by first | (simp [Value.cells]; done) | (simp [Value.cells] <;> rfl) | (simp [Value.cells, eb, ei, es, ebool, e32, e64]; done) | (simp [Value.cells] <;> (repeat' apply And.intro) <;> rfl)) (by decide) rfl ?_
      intro a_hn w_hn hn l_hn z_hn k_hn
      have zs_k_hn := k_hn.size
      replace hq := hq.pure k_hn
      replace hw := hw.pure k_hn
      refine WL.append (e := eb) info_5 rfl Tryd.underlying26 rfl rfl hq (hn.rsl.src Tryd.underlying26) (by (try simp only [List.length_append, List.length_cons, List.length_nil] at *); omega) (by intro b hb; first | (apply hS; omega) | ((try dsimp only); omega)) rfl ?_
      intro a_hq2 c_hq2 w_hq2 hq2 g_hq2 n_hq2
      have z_hq2 := g_hq2.chg.size
      have zs_g_hq2_chg := g_hq2.chg.size
      replace hw := hw.chg g_hq2.chg (by first | (intro x h1 h2; exact h2) | (intro x h0 h1 h2; exact hS x h1 h2) | (intro x h0 h1 h2; have h3 : _ = _ := h2; subst h3; exact hSR h1.1) | (intro x h1 h2; have h3 : _ = _ := h2; subst h3; assumption) | (intro x h1 h2; have h3 : _ = _ := h2; exfalso; omega) | (intro b h1 h2 h3; have h4 : _ = _ := h3; (try dsimp only at h2); exfalso; omega) | (intro h1; have h2 : _ = _ := h1; exfalso; omega) | (intro h1; have h2 : _ ≤ _ := h1; exfalso; omega) | (intros; exfalso; (try dsimp only at *); omega) | (intro b h1 h2 h3; exfalso; have h4 := h3.2; (try dsimp only at *); omega) | (intro h1; exfalso; have h4 := h1.2; (try dsimp only at *); omega) | (intro x h1 h2; exfalso; have h4 := h2.2; (try dsimp only at *); omega) | (intro x h1 h2; exact ⟨_, rfl, h2⟩) | (intro x h1 h2; have h4 := h2.1; have h5 := h2.2; exfalso; omega) | (intro x h1 h2; exact h2.1) | (intro x h1 h2; rcases h2.1 with h3 | h3; exact h3; exfalso; omega) | (intro x h1 h2; rcases h2 with h3 | h3; exact h3; exfalso; omega))
      refine WL.assign rfl rfl (WL.nil (WX.block_normal (WX.then_normal (WC.region (WL.add64 rfl rfl (by first | omega | (constructor <;> omega)) rfl (WL.move rfl rfl (WL.nil (?_))))))))
      first
        | (rw [List.take_length] at hm2 ⊢
           have hml : 64 ≤ ms.length := by omega
           refine WX.loop_next (mix s (ms.take 64), ms.drop 64, a_hm2, c_hm2) ⟨rfl, rfl, rfl, trivial⟩ ⟨by rw [← hcm, comp_more hml], by simp; omega, by simp; omega, hb1, hb2, hm2, hw⟩ (by show (ms.drop 64).length < ms.length; simp; omega))
        | (have e1 : (s.list.take (i + 1)).flatMap bytes4 = (s.list.take i).flatMap bytes4 ++ bytes4 (s.list.getD i 0) := by
             rw [List.take_add_one, fv, List.flatMap_append]
             simp
           refine WX.loop_next (i + 1, a_hq2, c_hq2) ⟨rfl, rfl, ?_, trivial⟩ ⟨by dsimp only; omega, ?_, hw⟩ (by show _ - _ < _ - _; omega)
           ·
             dsimp only; rw [e1]; rfl
           ·
             dsimp only; rw [e1]; exact hq2)
    ·
      refine WL.nil (WX.then_normal (WC.seq (WC.cond_false rfl (WC.exit (WX.then_exit (WX.then_exit (WX.block_here (?_))))))))
      refine WX.then_normal (WC.seq (WC.region (WL.move rfl rfl (WL.toStr Tryd.underlying26 Tryd.underlying5 Tryd.underlying9 hq.rsl rfl rfl (WL.assign rfl rfl (WL.nil (WX.then_normal (?_))))))))
      refine WC.ret (?_)
      refine WX.ret1 (.inl rfl) Tryd.results86 rfl ?_
      have h8 : i = 8 := by omega
      subst h8
      rw [hs0]
      exact ⟨_, rfl, rfl, hw⟩
end Go.Proofs.YtjeldcjchipdgaaDoor
namespace Go.HL
open Go.RowKit
section
variable {P : Program} (t : TypeId) (w : World)
end
section
variable {P : Program} {ops : Array Oper} {Q : Exit → Act → World → Prop} {N : Nat} {E : Env} {w : World} {rest : List Oper} {ty : TypeId} {pos : String} {af : Array Edge} {α : Type} {e : Enc α} {S : Nat → Prop} {t T : TypeId} {x y : Operand}
theorem all_set (e : Enc α) (h1 : e.sz = 1) {z : α} {v : Value} (hz : e.f z = [v]) : ∀ (xs : List α) (j : Nat), e.all (xs.set j z) = (e.all xs).set j v
  | [], j => by simp [Enc.all]
  | x :: r, 0 => by
    have hl := e.len x
    rw [h1] at hl
    obtain ⟨u, hu⟩ := List.length_eq_one_iff.1 hl
    simp [Enc.all, hz, hu]
  | x :: r, j + 1 => by
    have hl := e.len x
    rw [h1] at hl
    obtain ⟨u, hu⟩ := List.length_eq_one_iff.1 hl
    have ih := all_set e h1 hz r j
    simp only [Enc.all] at ih
    simp [Enc.all, hu, ih]
theorem Row.place0 {T : TypeId} {ao : Option Addr} {c : Nat} {xs : List α} {j : Nat} (hr : Row S w T e ao c xs) (hz : j < xs.length) : ∃ g, ao = some ⟨g, 0, none⟩ := by
  rcases hr.own.2.2 with ⟨rfl, _⟩ | ⟨g, _, _, rfl, _⟩
  · have := hr.rsl.none_nil
    subst this
    simp at hz
  · exact ⟨g, rfl⟩
theorem WL.storeRow {g o c : Nat} {xs : List α} {z : α} {v : Value} (j : Nat) (hs : ∀ w, (sizeOf t).run P w = .ok 1 w) (hr : Row S w T e (some ⟨g, 0, none⟩) c xs) (h1 : e.sz = 1) (hz : e.f z = [v]) (hx : ev E x = some (.pointer (some ⟨g, o, none⟩))) (ho : o = j) (hj : j < xs.length) (hy : ev E y = some v)
    (h : ∀ w', w'.heap.size = w.heap.size → Row S w' T e (some ⟨g, 0, none⟩) c (xs.set j z) → Chg (· = g) w w' → WL P ops Q N rest E w') :
    WL P ops Q N (⟨none, .store t x y, ty, pos, af, none⟩ :: rest) E w := by
  subst ho
  have hv1 : v.oneCell' = true := e.one z v (by rw [hz]; simp)
  have hr' := hr
  obtain ⟨hat, hlen, hcap, hc | ⟨g', cur, fr, hg', hg, hfr, hmax, hsz, htk⟩⟩ := hr
  · cases hc.1
  · cases hg'
    rw [h1] at hsz htk hlen
    simp only [Nat.mul_one] at hsz htk hlen
    have hoc : o < cur.size := by omega
    refine WL.run0 (w.setCell ⟨g, o, none⟩ v) (fun a hh => by
      have hst : (Go.store ⟨g, o, none⟩ v).run P w = .ok () (w.setCell ⟨g, o, none⟩ v) := by
        rw [run_store P w _ v _ hv1]
        have h3 := hfr o hoc
        have hcell : w.cell? ⟨g, o, none⟩ = some (cur[o]'hoc) := by rw [cell_of_row w g o cur T fr hg, Array.getElem?_eq_getElem hoc]
        have hfz : w.frozen? ⟨g, o, none⟩ = false := by
          simp only [World.frozen?, hg]
          simp
          intro hh
          exact Nat.le_of_not_lt (fun hlt => h3 ⟨hh, hlt⟩)
        simp [hcell, hfz]
      have hc1 : v.cells = #[v] := by cases v <;> simp_all [Value.oneCell', Value.cells]
      simp [execOp, ev_eval hh hx, ev_eval hh hy, Instr.storeAt, Instr.sureAddr, storeVar, hs, hc1, storeCells, Addr.add_lit, hst]) (h _ (by simp) ?_ (Chg.setCell w ⟨g, o, none⟩ v))
    have hnew : (w.setCell ⟨g, o, none⟩ v).heap[g]? = some (.cells (cur.setIfInBounds o v) T fr) := by
      simp only [World.setCell, Array.getElem?_modify, hg, if_true, Option.map_some]
      simp
    refine ⟨hat, by rw [all_set e h1 hz, List.length_set, List.length_set, h1, Nat.mul_one]; exact hlen, by simpa using hcap, .inr ⟨g, cur.setIfInBounds o v, fr, rfl, hnew, by simpa using hfr, hmax, by rw [h1, Nat.mul_one]; simpa using hsz, ?_⟩⟩
    rw [all_set e h1 hz, h1, List.length_set, Nat.mul_one, ← htk, Array.toList_setIfInBounds, List.take_set]
end
end Go.HL
namespace Go.Proofs.YtjeldcjchipdgaaDoor
open Go.RowKit Go.HL
set_option maxRecDepth 100000

/-! digits -/
/-! sealed and opened -/
theorem sum_calls' {S : Nat → Prop} {w : World} {ao : Option Addr} {c : Nat} {b : List UInt8} (hr : RSl S w eb ao c b) (hl : b.length ≤ 4000) :
    Calls Tryd.prog 86 [.slice ao b.length c].toArray w (Ret fun v w' => v = .string ⟨(sumB b).toArray⟩ ∧ Chg Nob w w') := sum_calls hr (by omega)
theorem seal_calls {S : Nat → Prop} {w : World} {ao : Option Addr} {c : Nat} {b : List UInt8} (hr : RSl S w eb ao c b) (hl : b.length ≤ 4000) :
    Calls Tryd.prog 65 [.slice ao b.length c].toArray w (Ret fun v w' => (∃ (ao' : Option Addr) (c' : Nat), v = .slice ao' (b ++ sumB b).length c' ∧ Row (w.heap.size ≤ ·) w' 5 eb ao' c' (b ++ sumB b)) ∧ Chg Nob w w') := by
  replace hr := hr.old
  have hw := Chg.refl Nob w
  have hsl := sumB_len b
  refine Calls.of_WC Tryd.func65 rfl Tryd.ntmps65 (by simp) ?_
  refine WC.seq (WC.region (WL.assign rfl rfl (WL.nil (WX.then_normal (WC.seq (WC.region (WL.move rfl rfl (?_))))))))
  refine WL.call eg_85 rfl rfl (clone_calls hr (by omega)) ?_
  rintro v w1 ⟨⟨a1, c1, rfl, hq⟩, k⟩
  have zs_k := k.size
  replace hr := hr.pure k
  replace hw := hw.pure k
  refine WL.move rfl rfl (?_)
  have hr2 := hr.old
  refine WL.call eg_86 rfl rfl (sum_calls' hr2 hl) ?_
  rintro v w2 ⟨rfl, k⟩
  have zs_k := k.size
  replace hr := hr.pure k
  replace hw := hw.pure k
  replace hq := hq.pure k
  refine WL.append (e := eb) info_5 rfl Tryd.underlying26 rfl rfl hq (src_string _ Tryd.underlying9) (by (try simp only [List.length_append, List.length_cons, List.length_nil] at *); omega) (by intro b hb; first | (apply hS; omega) | ((try dsimp only); omega)) rfl ?_
  intro a_hq2 c_hq2 w_hq2 hq2 g_hq2 n_hq2
  have z_hq2 := g_hq2.chg.size
  have zs_g_hq2_chg := g_hq2.chg.size
  replace hr := hr.chg g_hq2.chg (by first | (intro x h1 h2; exact h2) | (intro x h0 h1 h2; exact hS x h1 h2) | (intro x h0 h1 h2; have h3 : _ = _ := h2; subst h3; exact hSR h1.1) | (intro x h1 h2; have h3 : _ = _ := h2; subst h3; assumption) | (intro x h1 h2; have h3 : _ = _ := h2; exfalso; omega) | (intro b h1 h2 h3; have h4 : _ = _ := h3; (try dsimp only at h2); exfalso; omega) | (intro h1; have h2 : _ = _ := h1; exfalso; omega) | (intro h1; have h2 : _ ≤ _ := h1; exfalso; omega) | (intros; exfalso; (try dsimp only at *); omega) | (intro b h1 h2 h3; exfalso; have h4 := h3.2; (try dsimp only at *); omega) | (intro h1; exfalso; have h4 := h1.2; (try dsimp only at *); omega) | (intro x h1 h2; exfalso; have h4 := h2.2; (try dsimp only at *); omega) | (intro x h1 h2; exact ⟨_, rfl, h2⟩) | (intro x h1 h2; have h4 := h2.1; have h5 := h2.2; exfalso; omega) | (intro x h1 h2; exact h2.1) | (intro x h1 h2; rcases h2.1 with h3 | h3; exact h3; exfalso; omega) | (intro x h1 h2; rcases h2 with h3 | h3; exact h3; exfalso; omega))
  replace hw := hw.chg g_hq2.chg (by first | (intro x h1 h2; exact h2) | (intro x h0 h1 h2; exact hS x h1 h2) | (intro x h0 h1 h2; have h3 : _ = _ := h2; subst h3; exact hSR h1.1) | (intro x h1 h2; have h3 : _ = _ := h2; subst h3; assumption) | (intro x h1 h2; have h3 : _ = _ := h2; exfalso; omega) | (intro b h1 h2 h3; have h4 : _ = _ := h3; (try dsimp only at h2); exfalso; omega) | (intro h1; have h2 : _ = _ := h1; exfalso; omega) | (intro h1; have h2 : _ ≤ _ := h1; exfalso; omega) | (intros; exfalso; (try dsimp only at *); omega) | (intro b h1 h2 h3; exfalso; have h4 := h3.2; (try dsimp only at *); omega) | (intro h1; exfalso; have h4 := h1.2; (try dsimp only at *); omega) | (intro x h1 h2; exfalso; have h4 := h2.2; (try dsimp only at *); omega) | (intro x h1 h2; exact ⟨_, rfl, h2⟩) | (intro x h1 h2; have h4 := h2.1; have h5 := h2.2; exfalso; omega) | (intro x h1 h2; exact h2.1) | (intro x h1 h2; rcases h2.1 with h3 | h3; exact h3; exfalso; omega) | (intro x h1 h2; rcases h2 with h3 | h3; exact h3; exfalso; omega))
  refine WL.assign rfl rfl (WL.nil (WX.then_normal (WC.ret (?_))))
  refine WX.ret1 (.inl rfl) Tryd.results65 rfl ?_
  exact ⟨_, rfl, ⟨_, _, rfl, hq2⟩, hw⟩
def openR (b : List UInt8) : List UInt8 × Int := if 32 ≤ b.length ∧ sumB (b.take (b.length - 32)) = b.drop (b.length - 32) then (b.take (b.length - 32), 0) else ([], 2)
theorem open_bad {S : Nat → Prop} {w : World} {ao : Option Addr} {c : Nat} {b : List UInt8} (hr : RSl S w eb ao c b) (hl : b.length < 32) :
    Calls Tryd.prog 69 [.slice ao b.length c].toArray w (Ret fun v w' => (∃ (ao' : Option Addr) (c' : Nat), v = .tuple #[.slice ao' (openR b).1.length c', vi (openR b).2] ∧ Row (w.heap.size ≤ ·) w' 5 eb ao' c' (openR b).1) ∧ Chg Nob w w') := by
  replace hr := hr.old
  have hw := Chg.refl Nob w
  refine Calls.of_WC Tryd.func69 rfl Tryd.ntmps69 (by simp) ?_
  refine WC.seq (WC.region (WL.assign rfl rfl (WL.assign rfl rfl (WL.nil (WX.then_normal (WC.seq (WC.region (?_))))))))
  refine WL.move rfl rfl (WL.len Tryd.underlying26 rfl rfl (WL.sub64 rfl rfl (by first | omega | (constructor <;> omega)) rfl (WL.assign rfl rfl (WL.nil (WX.then_normal (WC.seq (WC.seq (?_))))))))
  refine WC.draw (Nob) [0, 1, 2, 3, 4, 5, 6, 7, 8, 9, 10, 11, 12] [] mixed rfl rfl (fun wd_1 kd_1 zd_1 => ?_)
  have zs_kd_1 := kd_1.size
  replace hr := hr.pure kd_1
  replace hw := hw.pure kd_1
  apply DQ.step (E' := [(4, _)])
  case ho => rfl
  case hs => exact ⟨rfl, trivial⟩
  case hk => rfl
  case h1 =>
    intro wq_2 kq_2
    refine WL.move rfl rfl (?_)
    refine WL.nil ?_
    exact WX.one ⟨rfl, by first | exact Chg.refl _ _ | assumption⟩
  apply DQ.step (E' := [(8, _)])
  case ho => rfl
  case hs => exact ⟨rfl, trivial⟩
  case hk => rfl
  case h1 =>
    intro wq_3 kq_3
    refine WL.lss rfl rfl rfl ?_
    rw [show decide ((b.length : Int) - 32 < 0) = true from decide_eq_true (by omega)]
    refine WL.nil ?_
    exact WX.one ⟨rfl, by first | exact Chg.refl _ _ | assumption⟩
  apply DQ.step (E' := [(9, _)])
  case ho => rfl
  case hs => exact ⟨rfl, trivial⟩
  case hk => rfl
  case h1 =>
    intro wq_4 kq_4
    refine WL.move rfl rfl (?_)
    refine WL.nil ?_
    exact WX.one ⟨rfl, by first | exact Chg.refl _ _ | assumption⟩
  apply DQ.step (E' := [(0, _), (10, _)])
  case ho => rfl
  case hs => exact ⟨rfl, rfl, trivial⟩
  case hk => rfl
  case h1 =>
    intro wq_5 kq_5
    refine WL.pass rfl rfl rfl rfl (WL.nil (?_))
    exact WX.one ⟨rfl, by first | exact Chg.refl _ _ | assumption⟩
  apply DQ.step (E' := [(4, _), (10, _)])
  case ho => rfl
  case hs => exact ⟨rfl, rfl, trivial⟩
  case hk => rfl
  case h1 =>
    intro wq_6 kq_6
    refine WL.pass rfl rfl rfl rfl (WL.nil (?_))
    exact WX.one ⟨rfl, by first | exact Chg.refl _ _ | assumption⟩
  apply DQ.step (E' := [(11, _), (12, _), (10, _)])
  case ho => rfl
  case hs => exact ⟨rfl, rfl, rfl, trivial⟩
  case hk => rfl
  case h1 =>
    intro wq_7 kq_7
    have zs_kq_7 := kq_7.size
    replace hr := hr.pure kq_7
    replace hw := hw.pure kq_7
    refine WL.pass rfl rfl rfl rfl (WL.nil (?_))
    exact WX.one ⟨rfl, by first | exact Chg.refl _ _ | assumption⟩
  apply DQ.step (E' := [(13, _), (10, _)])
  case ho => rfl
  case hs => exact ⟨rfl, rfl, trivial⟩
  case hk => rfl
  case h1 =>
    intro wq_8 kq_8
    have zs_kq_8 := kq_8.size
    replace hr := hr.pure kq_8
    replace hw := hw.pure kq_8
    refine WL.pass rfl rfl rfl rfl (WL.nil (?_))
    exact WX.one ⟨rfl, by first | exact Chg.refl _ _ | assumption⟩
  apply DQ.step (E' := [(0, _), (10, _)])
  case ho => rfl
  case hs => exact ⟨rfl, rfl, trivial⟩
  case hk => rfl
  case h1 =>
    intro wq_9 kq_9
    refine WL.pass rfl rfl rfl rfl (WL.nil (?_))
    exact WX.one ⟨rfl, by first | exact Chg.refl _ _ | assumption⟩
  apply DQ.step (E' := [(4, _), (10, _)])
  case ho => rfl
  case hs => exact ⟨rfl, rfl, trivial⟩
  case hk => rfl
  case h1 =>
    intro wq_10 kq_10
    refine WL.pass rfl rfl rfl rfl (WL.nil (?_))
    exact WX.one ⟨rfl, by first | exact Chg.refl _ _ | assumption⟩
  apply DQ.step (E' := [(15, _), (16, _), (10, _)])
  case ho => rfl
  case hs => exact ⟨rfl, rfl, rfl, trivial⟩
  case hk => rfl
  case h1 =>
    intro wq_11 kq_11
    have zs_kq_11 := kq_11.size
    replace hr := hr.pure kq_11
    replace hw := hw.pure kq_11
    refine WL.pass rfl rfl rfl rfl (WL.nil (?_))
    exact WX.one ⟨rfl, by first | exact Chg.refl _ _ | assumption⟩
  apply DQ.step (E' := [(17, _), (10, _)])
  case ho => rfl
  case hs => exact ⟨rfl, rfl, trivial⟩
  case hk => rfl
  case h1 =>
    intro wq_12 kq_12
    have zs_kq_12 := kq_12.size
    replace hr := hr.pure kq_12
    replace hw := hw.pure kq_12
    refine WL.pass rfl rfl rfl rfl (WL.nil (?_))
    exact WX.one ⟨rfl, by first | exact Chg.refl _ _ | assumption⟩
  apply DQ.step (E' := [(14, _), (18, _), (10, _)])
  case ho => rfl
  case hs => exact ⟨rfl, rfl, rfl, trivial⟩
  case hk => rfl
  case h1 =>
    intro wq_13 kq_13
    refine WL.pass rfl rfl rfl rfl (WL.nil (?_))
    exact WX.one ⟨rfl, by first | exact Chg.refl _ _ | assumption⟩
  apply DQ.step (E' := [(10, _), (19, _)])
  case ho => rfl
  case hs => exact ⟨rfl, rfl, trivial⟩
  case hk => rfl
  case h1 =>
    intro wq_14 kq_14
    refine WL.pickT rfl rfl rfl (?_)
    refine WL.nil ?_
    exact WX.one ⟨rfl, by first | exact Chg.refl _ _ | assumption⟩
  refine DQ.done (fun _ => ?_)
  refine DL.done (fun we_15 ke_15 => ?_)
  have zs_ke_15 := ke_15.size
  replace hr := hr.pure ke_15
  replace hw := hw.pure ke_15
  refine WX.then_normal (WC.cond_true rfl (WC.seq (WC.region (WL.assign rfl rfl (WL.assign rfl rfl (WL.nil (WX.then_normal (?_))))))))
  refine WC.ret (WX.then_ret (?_))
  refine WX.ret2 (.inl rfl) Tryd.results69 rfl rfl ?_
  rw [openR, if_neg (by omega)]
  exact ⟨_, rfl, ⟨none, 0, rfl, Row.nil _ _ _ _⟩, hw⟩
theorem open_good {S : Nat → Prop} {w : World} {ao : Option Addr} {c : Nat} {b : List UInt8} (hr : RSl S w eb ao c b) (n : Nat) (hn : b.length = n + 32) (hl : b.length ≤ 4000) :
    Calls Tryd.prog 69 [.slice ao b.length c].toArray w (Ret fun v w' => (∃ (ao' : Option Addr) (c' : Nat), v = .tuple #[.slice ao' (openR b).1.length c', vi (openR b).2] ∧ Row (w.heap.size ≤ ·) w' 5 eb ao' c' (openR b).1) ∧ Chg Nob w w') := by
  replace hr := hr.old
  have hw := Chg.refl Nob w
  have hc1 := hr.cut 0 n ⟨by omega, by omega⟩
  have hc2 := hr.cut n b.length ⟨by omega, by omega⟩
  have e1 : (b.take n).drop 0 = b.take n := by simp
  have e2 : (b.take b.length).drop n = b.drop n := by simp
  have e3 : b.length - 32 = n := by omega
  refine Calls.of_WC Tryd.func69 rfl Tryd.ntmps69 (by simp) ?_
  refine WC.seq (WC.region (WL.assign rfl rfl (WL.assign rfl rfl (WL.nil (WX.then_normal (WC.seq (WC.region (?_))))))))
  refine WL.move rfl rfl (WL.len Tryd.underlying26 rfl rfl (?_))
  refine WL.sub64 rfl rfl (by constructor <;> omega) rfl ?_
  rw [show ((b.length : Int) - 32) = (n : Int) from by omega]
  refine WL.assign rfl rfl (WL.nil (WX.then_normal (WC.seq (WC.seq (?_)))))
  refine WC.draw (Nob) [0, 1, 2, 3, 4, 5, 6, 7, 8, 9, 10, 11, 12] [] mixed rfl rfl (fun wd_1 kd_1 zd_1 => ?_)
  have zs_kd_1 := kd_1.size
  replace hr := hr.pure kd_1
  replace hc1 := hc1.pure kd_1
  replace hc2 := hc2.pure kd_1
  replace hw := hw.pure kd_1
  apply DQ.step (E' := [(4, _)])
  case ho => rfl
  case hs => exact ⟨rfl, trivial⟩
  case hk => rfl
  case h1 =>
    intro wq_2 kq_2
    refine WL.move rfl rfl (?_)
    refine WL.nil ?_
    exact WX.one ⟨rfl, by first | exact Chg.refl _ _ | assumption⟩
  apply DQ.step (E' := [(8, _)])
  case ho => rfl
  case hs => exact ⟨rfl, trivial⟩
  case hk => rfl
  case h1 =>
    intro wq_3 kq_3
    refine WL.lss rfl rfl rfl ?_
    rw [show decide ((n : Int) < 0) = false from decide_eq_false (by omega)]
    refine WL.nil ?_
    exact WX.one ⟨rfl, by first | exact Chg.refl _ _ | assumption⟩
  apply DQ.step (E' := [(9, _)])
  case ho => rfl
  case hs => exact ⟨rfl, trivial⟩
  case hk => rfl
  case h1 =>
    intro wq_4 kq_4
    refine WL.move rfl rfl (?_)
    refine WL.nil ?_
    exact WX.one ⟨rfl, by first | exact Chg.refl _ _ | assumption⟩
  apply DQ.step (E' := [(0, _), (10, _)])
  case ho => rfl
  case hs => exact ⟨rfl, rfl, trivial⟩
  case hk => rfl
  case h1 =>
    intro wq_5 kq_5
    refine WL.want rfl rfl rfl (WL.move rfl rfl (?_))
    refine WL.nil ?_
    exact WX.one ⟨rfl, by first | exact Chg.refl _ _ | assumption⟩
  apply DQ.step (E' := [(4, _), (10, _)])
  case ho => rfl
  case hs => exact ⟨rfl, rfl, trivial⟩
  case hk => rfl
  case h1 =>
    intro wq_6 kq_6
    refine WL.want rfl rfl rfl (WL.move rfl rfl (?_))
    refine WL.nil ?_
    exact WX.one ⟨rfl, by first | exact Chg.refl _ _ | assumption⟩
  apply DQ.step (E' := [(11, _), (12, _), (10, _)])
  case ho => rfl
  case hs => exact ⟨rfl, rfl, rfl, trivial⟩
  case hk => rfl
  case h1 =>
    intro wq_7 kq_7
    have zs_kq_7 := kq_7.size
    replace hr := hr.pure kq_7
    replace hc1 := hc1.pure kq_7
    replace hc2 := hc2.pure kq_7
    replace hw := hw.pure kq_7
    refine WL.want rfl rfl rfl (?_)
    refine WL.sliceC (l := 0) (h := n) (k := .i64) Tryd.underlying26 Tryd.sizeOf5 hr rfl (.inr ⟨rfl, rfl⟩) (.inl rfl) (by constructor <;> omega) rfl ?_
    refine WL.nil ?_
    exact WX.one ⟨rfl, by first | exact Chg.refl _ _ | assumption⟩
  apply DQ.step (E' := [(13, _), (10, _)])
  case ho => rfl
  case hs => exact ⟨rfl, rfl, trivial⟩
  case hk => rfl
  case h1 =>
    intro wq_8 kq_8
    have zs_kq_8 := kq_8.size
    replace hr := hr.pure kq_8
    replace hc1 := hc1.pure kq_8
    replace hc2 := hc2.pure kq_8
    replace hw := hw.pure kq_8
    refine WL.want rfl rfl rfl (?_)
    have hc3 := hc1.old
    refine WL.call eg_86 rfl rfl (sum_calls' hc3 (by simp; omega)) ?_
    rintro v w2 ⟨rfl, k⟩
    have zs_k := k.size
    replace hr := hr.pure k
    replace hc1 := hc1.pure k
    replace hc2 := hc2.pure k
    replace hw := hw.pure k
    refine WL.nil ?_
    exact WX.one ⟨rfl, by first | exact Chg.refl _ _ | assumption⟩
  apply DQ.step (E' := [(0, _), (10, _)])
  case ho => rfl
  case hs => exact ⟨rfl, rfl, trivial⟩
  case hk => rfl
  case h1 =>
    intro wq_9 kq_9
    refine WL.want rfl rfl rfl (WL.move rfl rfl (?_))
    refine WL.nil ?_
    exact WX.one ⟨rfl, by first | exact Chg.refl _ _ | assumption⟩
  apply DQ.step (E' := [(4, _), (10, _)])
  case ho => rfl
  case hs => exact ⟨rfl, rfl, trivial⟩
  case hk => rfl
  case h1 =>
    intro wq_10 kq_10
    refine WL.want rfl rfl rfl (WL.move rfl rfl (?_))
    refine WL.nil ?_
    exact WX.one ⟨rfl, by first | exact Chg.refl _ _ | assumption⟩
  apply DQ.step (E' := [(15, _), (16, _), (10, _)])
  case ho => rfl
  case hs => exact ⟨rfl, rfl, rfl, trivial⟩
  case hk => rfl
  case h1 =>
    intro wq_11 kq_11
    have zs_kq_11 := kq_11.size
    replace hr := hr.pure kq_11
    replace hc1 := hc1.pure kq_11
    replace hc2 := hc2.pure kq_11
    replace hw := hw.pure kq_11
    refine WL.want rfl rfl rfl (?_)
    refine WL.sliceC (l := n) (h := b.length) (j := .i64) Tryd.underlying26 Tryd.sizeOf5 hr rfl (.inl rfl) (.inr ⟨rfl, rfl⟩) (by constructor <;> omega) rfl ?_
    refine WL.nil ?_
    exact WX.one ⟨rfl, by first | exact Chg.refl _ _ | assumption⟩
  apply DQ.step (E' := [(17, _), (10, _)])
  case ho => rfl
  case hs => exact ⟨rfl, rfl, trivial⟩
  case hk => rfl
  case h1 =>
    intro wq_12 kq_12
    have zs_kq_12 := kq_12.size
    replace hr := hr.pure kq_12
    replace hc1 := hc1.pure kq_12
    replace hc2 := hc2.pure kq_12
    replace hw := hw.pure kq_12
    refine WL.want rfl rfl rfl (?_)
    refine WL.toStr Tryd.underlying26 Tryd.underlying5 Tryd.underlying9 hc2 rfl rfl ?_
    refine WL.nil ?_
    exact WX.one ⟨rfl, by first | exact Chg.refl _ _ | assumption⟩
  apply DQ.split (E' := [(14, _), (18, _), (10, _)])
  case ho => rfl
  case hs => exact ⟨rfl, rfl, rfl, trivial⟩
  case hk => rfl
  case h1 =>
    intro wq_13 kq_13
    refine WL.want rfl rfl rfl (?_)
    refine WL.sneq rfl rfl rfl ?_
    refine WL.nil ?_
    exact WX.one ⟨rfl, by first | exact Chg.refl _ _ | assumption⟩
  case ht =>
    intro h19
    replace h19 := of_decide_eq_true h19
    apply DQ.step (E' := [(10, _), (19, _)])
    case ho => rfl
    case hs => exact ⟨rfl, rfl, trivial⟩
    case hk => rfl
    case h1 =>
      intro wq_14 kq_14
      refine WL.pickF rfl rfl rfl (?_)
      refine WL.nil ?_
      exact WX.one ⟨rfl, by first | exact Chg.refl _ _ | assumption⟩
    refine DQ.done (fun _ => ?_)
    refine DL.done (fun we_15 ke_15 => ?_)
    have zs_ke_15 := ke_15.size
    replace hr := hr.pure ke_15
    replace hc1 := hc1.pure ke_15
    replace hc2 := hc2.pure ke_15
    replace hw := hw.pure ke_15
    refine WX.then_normal (WC.cond_true rfl (WC.seq (WC.region (WL.assign rfl rfl (WL.assign rfl rfl (WL.nil (WX.then_normal (?_))))))))
    refine WC.ret (WX.then_ret (?_))
    refine WX.ret2 (.inl rfl) Tryd.results69 rfl rfl ?_
    simp only [openR, e3]
    first
      | (have h2 : sumB (b.take n) = b.drop n := by
           have h3 := congrArg (fun s : ByteArray => s.data.toList) (Classical.not_not.1 h19)
           rw [e1, e2] at h3
           exact h3
         rw [e1] at hq
         rw [if_pos ⟨by omega, h2⟩]
         exact ⟨_, rfl, ⟨_, _, by rw [e1], hq.mono (fun x hx => by omega)⟩, hw⟩)
      | (have h2 : ¬ sumB (b.take n) = b.drop n := fun h => h19 (by rw [e1, e2, h])
         rw [if_neg (fun h => h2 h.2)]
         exact ⟨_, rfl, ⟨none, 0, rfl, Row.nil _ _ _ _⟩, hw⟩)
  case hf =>
    intro h19
    replace h19 := of_decide_eq_false h19
    apply DQ.step (E' := [(10, _), (19, _)])
    case ho => rfl
    case hs => exact ⟨rfl, rfl, trivial⟩
    case hk => rfl
    case h1 =>
      intro wq_14 kq_14
      refine WL.pickF rfl rfl rfl (?_)
      refine WL.nil ?_
      exact WX.one ⟨rfl, by first | exact Chg.refl _ _ | assumption⟩
    refine DQ.done (fun _ => ?_)
    refine DL.done (fun we_15 ke_15 => ?_)
    have zs_ke_15 := ke_15.size
    replace hr := hr.pure ke_15
    replace hc1 := hc1.pure ke_15
    replace hc2 := hc2.pure ke_15
    replace hw := hw.pure ke_15
    refine WX.then_normal (WC.cond_false rfl (WC.skip (WX.then_normal (WC.seq (WC.region (WL.move rfl rfl (WL.move rfl rfl (?_))))))))
    refine WL.slice (l := 0) (h := n) (k := .i64) Tryd.underlying26 Tryd.sizeOf5 hr rfl (.inr ⟨rfl, rfl⟩) (.inl rfl) (by constructor <;> omega) rfl ?_
    intro a_hx c_hx hx n_hx
    have hx2 := hx.old
    refine WL.call eg_85 rfl rfl (clone_calls hx2 (by simp; omega)) ?_
    rintro v w1 ⟨⟨a1, c1, rfl, hq⟩, k⟩
    have zs_k := k.size
    replace hr := hr.pure k
    replace hc1 := hc1.pure k
    replace hc2 := hc2.pure k
    replace hw := hw.pure k
    replace hx := hx.pure k
    refine WL.assign rfl rfl (WL.assign rfl rfl (WL.nil (WX.then_normal (WC.ret (?_)))))
    refine WX.ret2 (.inl rfl) Tryd.results69 rfl rfl ?_
    simp only [openR, e3]
    first
      | (have h2 : sumB (b.take n) = b.drop n := by
           have h3 := congrArg (fun s : ByteArray => s.data.toList) (Classical.not_not.1 h19)
           rw [e1, e2] at h3
           exact h3
         rw [e1] at hq
         rw [if_pos ⟨by omega, h2⟩]
         exact ⟨_, rfl, ⟨_, _, by rw [e1], hq.mono (fun x hx => by omega)⟩, hw⟩)
      | (have h2 : ¬ sumB (b.take n) = b.drop n := fun h => h19 (by rw [e1, e2, h])
         rw [if_neg (fun h => h2 h.2)]
         exact ⟨_, rfl, ⟨none, 0, rfl, Row.nil _ _ _ _⟩, hw⟩)
theorem open_calls {S : Nat → Prop} {w : World} {ao : Option Addr} {c : Nat} {b : List UInt8} (hr : RSl S w eb ao c b) (hl : b.length ≤ 4000) :
    Calls Tryd.prog 69 [.slice ao b.length c].toArray w (Ret fun v w' => (∃ (ao' : Option Addr) (c' : Nat), v = .tuple #[.slice ao' (openR b).1.length c', vi (openR b).2] ∧ Row (w.heap.size ≤ ·) w' 5 eb ao' c' (openR b).1) ∧ Chg Nob w w') := by
  rcases Nat.lt_or_ge b.length 32 with h | h
  · exact open_bad hr h
  · exact open_good hr (b.length - 32) (by omega) hl
/-! the sum of three letters -/
theorem sumB_small {b : List UInt8} (h : (padded b).length = 64) : sumB b = (mix st0 (padded b)).list.flatMap bytes4 := by
  rw [sumB, comp_more (by omega), List.take_of_length_le (by omega), comp_end (by simp; omega)]
end Go.Proofs.YtjeldcjchipdgaaDoor
namespace Go.Proofs.YtjeldcjchipdgaaDoor
open Go.RowKit Go.HL
set_option maxRecDepth 100000

theorem xor_ne {z x : UInt8} (h : x ≠ 0) : z ^^^ x ≠ z := by
  intro k
  apply h
  have h1 : z ^^^ (z ^^^ x) = z ^^^ z := by rw [k]
  rw [← UInt8.xor_assoc, UInt8.xor_self, UInt8.zero_xor] at h1
  exact h1
end Go.Proofs.YtjeldcjchipdgaaDoor
namespace Go.Proofs.YtjeldcjchipdgaaDoor
open Go.RowKit Go.HL
set_option maxRecDepth 100000

/-! the document's words are those of 32 bits -/
theorem word_up (a b c d : UInt8) : ((((0 * 256 + a.toUInt64) * 256 + b.toUInt64) * 256 + c.toUInt64) * 256 + d.toUInt64 : UInt64) = (((a.toUInt32 <<< UInt32.ofNat 24 ||| b.toUInt32 <<< UInt32.ofNat 16) ||| c.toUInt32 <<< UInt32.ofNat 8) ||| d.toUInt32).toUInt64 := by
  have ha := a.toNat_lt
  have hb := b.toNat_lt
  have hc := c.toNat_lt
  have hd := d.toNat_lt
  apply UInt64.toNat_inj.1
  have e24 : (a.toUInt32 <<< UInt32.ofNat 24).toNat = a.toNat <<< 24 := by
    simp [UInt32.toNat_shiftLeft, Nat.shiftLeft_eq]
    omega
  have e16 : (b.toUInt32 <<< UInt32.ofNat 16).toNat = b.toNat <<< 16 := by
    simp [UInt32.toNat_shiftLeft, Nat.shiftLeft_eq]
    omega
  have e8 : (c.toUInt32 <<< UInt32.ofNat 8).toNat = c.toNat <<< 8 := by
    simp [UInt32.toNat_shiftLeft, Nat.shiftLeft_eq]
    omega
  rw [UInt32.toNat_toUInt64, UInt32.toNat_or, UInt32.toNat_or, UInt32.toNat_or, e24, e16, e8, UInt8.toNat_toUInt32]
  have h1 : c.toNat <<< 8 ||| d.toNat = c.toNat <<< 8 + d.toNat := (Nat.shiftLeft_add_eq_or_of_lt (by simpa using hd) _).symm
  have h2 : b.toNat <<< 16 ||| (c.toNat <<< 8 + d.toNat) = b.toNat <<< 16 + (c.toNat <<< 8 + d.toNat) := (Nat.shiftLeft_add_eq_or_of_lt (by rw [Nat.shiftLeft_eq]; omega) _).symm
  have h3 : a.toNat <<< 24 ||| (b.toNat <<< 16 + (c.toNat <<< 8 + d.toNat)) = a.toNat <<< 24 + (b.toNat <<< 16 + (c.toNat <<< 8 + d.toNat)) := (Nat.shiftLeft_add_eq_or_of_lt (by rw [Nat.shiftLeft_eq, Nat.shiftLeft_eq]; omega) _).symm
  rw [Nat.or_assoc, Nat.or_assoc, h1, h2, h3]
  simp only [UInt64.toNat_add, UInt64.toNat_mul, UInt8.toNat_toUInt64, Nat.shiftLeft_eq]
  simp
  omega
def WU (b : List UInt8) (t : Nat) : List UInt64 := (sch b t).map UInt32.toUInt64
/-! two rows that grow by turns -/
section
variable {w w' : World} {T : TypeId} {n0 ca cb : Nat} {a b a2 : Option Addr} {xs ys : List UInt64}
end
end Go.Proofs.YtjeldcjchipdgaaDoor
namespace Go.Proofs.YtjeldcjchipdgaaDoor
open Go.RowKit Go.HL
set_option maxRecDepth 100000

/-! every byte of a message of one block turned in every way, at once -/
theorem word_nat (b : List UInt8) (t : Nat) : (wordAt b t).toNat = ((b.getD (4 * t) 0).toNat * 256 + (b.getD (4 * t + 1) 0).toNat) * 65536 + (b.getD (4 * t + 2) 0).toNat * 256 + (b.getD (4 * t + 3) 0).toNat := by
  have h := congrArg UInt64.toNat (word_up (b.getD (4 * t) 0) (b.getD (4 * t + 1) 0) (b.getD (4 * t + 2) 0) (b.getD (4 * t + 3) 0))
  have h1 := (b.getD (4 * t) 0).toNat_lt
  have h2 := (b.getD (4 * t + 1) 0).toNat_lt
  have h3 := (b.getD (4 * t + 2) 0).toNat_lt
  have h4 := (b.getD (4 * t + 3) 0).toNat_lt
  rw [show (wordAt b t).toNat = ((((b.getD (4 * t) 0).toUInt32 <<< UInt32.ofNat 24 ||| (b.getD (4 * t + 1) 0).toUInt32 <<< UInt32.ofNat 16) ||| (b.getD (4 * t + 2) 0).toUInt32 <<< UInt32.ofNat 8) ||| (b.getD (4 * t + 3) 0).toUInt32).toUInt64.toNat from (UInt32.toNat_toUInt64 _).symm, ← h]
  simp only [UInt64.toNat_add, UInt64.toNat_mul, UInt8.toNat_toUInt64]
  rw [show (0 : UInt64).toNat = 0 from rfl, show (256 : UInt64).toNat = 256 from rfl]
  omega
theorem getD_set (b : List UInt8) (p q : Nat) (y : UInt8) (hp : p < b.length) : (b.set p y).getD q 0 = if p = q then y else b.getD q 0 := by
  rw [List.getD_eq_getElem?_getD, List.getElem?_set]
  split
  · rename_i h
    simp
  · rw [List.getD_eq_getElem?_getD]
theorem word_set (b : List UInt8) (p t : Nat) (y : UInt8) (hp : p < b.length) : (wordAt (b.set p y) t).toNat = if p / 4 = t then (wordAt (b.set p 0) t).toNat + 2 ^ (24 - 8 * (p % 4)) * y.toNat else (wordAt b t).toNat := by
  rw [word_nat, word_nat, word_nat]
  simp only [getD_set b p _ _ hp]
  have h0 : (0 : UInt8).toNat = 0 := rfl
  by_cases h : p / 4 = t
  · rw [if_pos h]
    have h4 : p % 4 = 0 ∨ p % 4 = 1 ∨ p % 4 = 2 ∨ p % 4 = 3 := by omega
    rcases h4 with h5 | h5 | h5 | h5
    · simp only [show p = 4 * t from by omega, show ¬ 4 * t = 4 * t + 1 from by omega, show ¬ 4 * t = 4 * t + 2 from by omega, show ¬ 4 * t = 4 * t + 3 from by omega, if_true, if_false, show 4 * t % 4 = 0 from by omega, h0]
      omega
    · simp only [show p = 4 * t + 1 from by omega, show ¬ 4 * t + 1 = 4 * t from by omega, show ¬ 4 * t + 1 = 4 * t + 2 from by omega, show ¬ 4 * t + 1 = 4 * t + 3 from by omega, if_true, if_false, show (4 * t + 1) % 4 = 1 from by omega, h0]
      omega
    · simp only [show p = 4 * t + 2 from by omega, show ¬ 4 * t + 2 = 4 * t from by omega, show ¬ 4 * t + 2 = 4 * t + 1 from by omega, show ¬ 4 * t + 2 = 4 * t + 3 from by omega, if_true, if_false, show (4 * t + 2) % 4 = 2 from by omega, h0]
      omega
    · simp only [show p = 4 * t + 3 from by omega, show ¬ 4 * t + 3 = 4 * t from by omega, show ¬ 4 * t + 3 = 4 * t + 1 from by omega, show ¬ 4 * t + 3 = 4 * t + 2 from by omega, if_true, if_false, show (4 * t + 3) % 4 = 3 from by omega, h0]
      omega
  · rw [if_neg h, if_neg (by omega : ¬ p = 4 * t), if_neg (by omega : ¬ p = 4 * t + 1), if_neg (by omega : ¬ p = 4 * t + 2), if_neg (by omega : ¬ p = 4 * t + 3)]
def turnV (l : List UInt8) (p x : Nat) : Nat := ((l.getD p 0).toNat + 1 + x) % 256
def turnL (l : List UInt8) (i : Nat) : List UInt8 := l.set (i / 255) (UInt8.ofNat (turnV l (i / 255) (i % 255)))
def blockN (l : List UInt8) (t p : Nat) : Nat := if p / 4 = t then (wordAt (l.set p 0) t).toNat * one 255 + 2 ^ (24 - 8 * (p % 4)) * lanes (fun x => turnV l p x) 255 else (wordAt l t).toNat * one 255
def wordN (l : List UInt8) (t : Nat) : Nat → Nat
  | 0 => 0
  | p + 1 => wordN l t p + 2 ^ (64 * (255 * p)) * blockN l t p
theorem blockN_eq (l : List UInt8) (t p : Nat) (hp : p < l.length) : blockN l t p = lanes (fun x => (wordAt (l.set p (UInt8.ofNat (turnV l p x))) t).toNat) 255 := by
  have hy : ∀ x, (UInt8.ofNat (turnV l p x)).toNat = turnV l p x := fun x => by
    rw [UInt8.toNat_ofNat']
    exact Nat.mod_eq_of_lt (Nat.mod_lt _ (by decide))
  unfold blockN
  split
  · rename_i h
    rw [one_const, lanes_mul, lanes_add]
    exact lanes_congr fun x _ => by rw [word_set l p t (UInt8.ofNat (turnV l p x)) hp, if_pos h, hy]
  · rename_i h
    rw [one_const]
    exact lanes_congr fun x _ => by rw [word_set l p t (UInt8.ofNat (turnV l p x)) hp, if_neg h]
theorem lanes_blocks {f g h : Nat → Nat} (B : Nat) (h0 : h 0 = 0) (hs : ∀ p, h (p + 1) = h p + 2 ^ (64 * (B * p)) * g p) : ∀ m, (∀ p, p < m → g p = lanes (fun x => f (B * p + x)) B) → h m = lanes f (B * m)
  | 0, _ => h0
  | m + 1, hg => by
    rw [hs, lanes_blocks B h0 hs m (fun p hp => hg p (by omega)), Nat.mul_succ, lanes_app, hg m (by omega)]
theorem wordN_eq (l : List UInt8) (t m : Nat) (hm : m ≤ l.length) : wordN l t m = lanes (fun i => (wordAt (turnL l i) t).toNat) (255 * m) := by
  refine lanes_blocks (g := blockN l t) 255 (wordN.eq_1 l t) (fun p => wordN.eq_2 l t p) m (fun p hp => ?_)
  rw [blockN_eq l t p (by omega)]
  refine lanes_congr fun x hx => ?_
  have e1 : (255 * p + x) / 255 = p := by omega
  have e2 : (255 * p + x) % 255 = x := by omega
  show _ = (wordAt (turnL l (255 * p + x)) t).toNat
  rw [turnL, e1, e2]
def wordsN (l : List UInt8) (m : Nat) : List Nat := (List.range 16).map fun j => wordN l (15 - j) m
theorem wordsN_len (l : List UInt8) (m : Nat) : (wordsN l m).length = 16 := by rw [wordsN, List.length_map, List.length_range]
theorem wordsN_rep (l : List UInt8) {m : Nat} (h : m ≤ l.length) : RepL (255 * m) (wordsN l m) (fun i => revS (turnL l i) 16) := by
  refine ⟨fun j hj => ?_, fun i => by rw [revS, List.length_reverse, lenS, wordsN_len]⟩
  rw [wordsN_len] at hj
  have hF : (fun i => (revS (turnL l i) 16).getD j 0) = fun i => wordAt (turnL l i) (15 - j) := funext fun i => by
    rw [← revS_at _ hj, sch16_at _ 16 (Nat.le_refl _) _ (by omega)]
  rw [hF]
  refine ⟨?_⟩
  rw [← wordN_eq l (15 - j) m h, wordsN, List.getD_eq_getElem?_getD, List.getElem?_map, List.getElem?_range hj]
  rfl
/-- no byte ahead of place m can be turned so that the sum's first word stays -/
def firmN (l : List UInt8) (m : Nat) : Bool := noneIs (255 * m) (firstN (255 * m) (wordsN l m)) (mix st0 l).a
theorem firm_of {l : List UInt8} {m : Nat} (hm : m ≤ l.length) (h : firmN l m = true) {p : Nat} (hp : p < m) {y : UInt8} (hy : y ≠ l.getD p 0) : (mix st0 (l.set p y)).a ≠ (mix st0 l).a := by
  have h1 := noneIs_of (firstN_rep (n := 255 * m) (ws := wordsN l m) (wordsN_len l m) (wordsN_rep l hm)) h
  have hv := (l.getD p 0).toNat_lt
  have hy2 := y.toNat_lt
  have hne : y.toNat ≠ (l.getD p 0).toNat := fun e => hy (UInt8.toNat_inj.1 e)
  obtain ⟨x, hx⟩ : ∃ x, x = (y.toNat + 256 - (l.getD p 0).toNat - 1) % 256 := ⟨_, rfl⟩
  have hx2 : x < 255 := by omega
  have h2 := h1 (255 * p + x) (by omega)
  rw [turnL, show (255 * p + x) / 255 = p from by omega, show (255 * p + x) % 255 = x from by omega, show turnV l p x = y.toNat from by rw [turnV]; omega, UInt8.ofNat_toNat] at h2
  exact h2
end Go.Proofs.YtjeldcjchipdgaaDoor
namespace Go.HL
open Go.RowKit
/-- a row of bytes among others: where it lies, its room, what it holds -/
structure Rw where
  ao : Option Addr
  cap : Nat
  xs : List UInt8
def erow : Enc Rw := ⟨1, fun r => [.slice r.ao r.xs.length r.cap], fun _ => rfl, by simp [Value.oneCell'], by decide⟩
/-- rows of bytes that are read -/
structure RS (S : Nat → Prop) (w : World) (ao : Option Addr) (c : Nat) (rs : List Rw) : Prop where
  outer : RSl S w erow ao c rs
  inner : ∀ r ∈ rs, RSl S w eb r.ao r.cap r.xs
section
variable {S : Nat → Prop} {w w' : World} {ao : Option Addr} {c : Nat} {rs : List Rw} {M : Nat → Prop}
theorem RS.chg (h : RS S w ao c rs) (k : Chg M w w') (hd : ∀ b, b < w.heap.size → S b → M b → False) : RS S w' ao c rs := ⟨h.outer.chg k hd, fun r hr => (h.inner r hr).chg k hd⟩
theorem RS.pure (h : RS S w ao c rs) (k : Chg Nob w w') : RS S w' ao c rs := ⟨h.outer.pure k, fun r hr => (h.inner r hr).pure k⟩
theorem RS.mono {S' : Nat → Prop} (h : RS S w ao c rs) (k : ∀ b, S b → S' b) : RS S' w ao c rs := ⟨h.outer.mono k, fun r hr => (h.inner r hr).mono k⟩
theorem RS.old (h : RS S w ao c rs) : RS (· < w.heap.size) w ao c rs := ⟨h.outer.old, fun r hr => (h.inner r hr).old⟩
theorem RS.at (h : RS S w ao c rs) {i : Nat} {r : Rw} (hr : rs[i]? = some r) : RSl S w eb r.ao r.cap r.xs := h.inner r (List.mem_of_getElem? hr)
end
end Go.HL
namespace Go.HL
open Go.RowKit
/-! regions that draw their order, the loud operations in any order that the edges allow -/
def preds (ops : Array Oper) (rs : List Nat) (i : Nat) : Bool := rs.any fun j => before? ops j i
def AllB : List Nat → (Nat → Bool) → (Nat → Prop) → Prop
  | [], _, _ => True
  | a :: l, p, f => (bif p a then True else f a) ∧ AllB l p f
theorem AllB_mem : ∀ {l : List Nat} {p : Nat → Bool} {f : Nat → Prop}, AllB l p f → ∀ i ∈ l, p i = false → f i
  | [], _, _, _, i, hi, _ => by cases hi
  | a :: l, p, f, h, i, hi, hp => by
    rcases List.mem_cons.1 hi with rfl | h1
    · have := h.1
      rw [hp] at this
      exact this
    · exact AllB_mem h.2 i h1 hp
def drawOkT (ops : Array Oper) (C R : List Nat) : Bool :=
  ((List.range ops.size).all fun i => C.contains i || R.contains i) && ((C ++ R).all fun i => decide (i < ops.size)) &&
  ((List.range ops.size).all fun i => (List.range ops.size).all fun j => i == j || dstOf ops i == none || dstOf ops i != dstOf ops j) &&
  ((List.range ops.size).all fun i => ((ops[i]?).map (·.after.toList.all fun e => !Region.binds .any e || decide (e.on < i))).getD true) &&
  srcOk ops [] (C ++ R) && (R.all fun i => (List.range ops.size).all fun j => (looks ops i).all fun t => dstOf ops j != some t || (if C.contains j then before? ops j i else before? ops j i || before? ops i j)) && nodupB (C ++ R)
section
variable (P : Program) (ops : Array Oper) (Q : Exit → Act → World → Prop) (N : Nat) (K : World → Prop) (w0 : World)
def DT : Nat → List Nat → Env → World → Prop
  | 0, _, E, w => ∀ w', Chg Nob w w' → WX Q .normal N E w'
  | n + 1, rs, E, w => AllB rs (preds ops rs) fun i => ∀ w', Chg Nob w w' → ∀ o, ops[i]? = some o → WL P ops (One o.dst fun v w'' => K w'' ∧ DT n (rs.erase i) (putE E o.dst v) w'') N [o] (restr ops i E) w'
def DQT (R : List Nat) : List Nat → Env → Prop
  | [], E => DT P ops Q N K R.length R E w0
  | i :: is, E => ∃ v, (∀ o, ops[i]? = some o → ∀ w', K w' → WL P ops (One o.dst fun u w'' => u = v ∧ Chg Nob w' w'') N [o] (restr ops i E) w') ∧ DQT R is (putE E (dstOf ops i) v)
end
section
variable {P : Program} {ops : Array Oper} {Q : Exit → Act → World → Prop} {N : Nat} {K : World → Prop} {w0 : World} {E0 : Env}
theorem DQT_spec {R : List Nat} : ∀ {is : List Nat} {E : Env}, is.Nodup → DQT P ops Q N K w0 R is E → ∃ c : Nat → Value, DT P ops Q N K R.length R (envAfter ops c is E) w0 ∧
    ∀ pre i post, is = pre ++ i :: post → ∀ o, ops[i]? = some o → ∀ w', K w' → WL P ops (One o.dst fun u w'' => u = c i ∧ Chg Nob w' w'') N [o] (restr ops i (envAfter ops c pre E)) w'
  | [], E, _, h => ⟨fun _ => undef, h, fun pre i post hx => by cases pre <;> cases hx⟩
  | i :: is, E, hn, h => by
    obtain ⟨v, h1, h2⟩ := h
    obtain ⟨c, h3, h4⟩ := DQT_spec (List.nodup_cons.1 hn).2 h2
    have hi := (List.nodup_cons.1 hn).1
    let c' : Nat → Value := fun j => if j = i then v else c j
    have hc : ∀ j, j ∈ is → c j = c' j := fun j hj => by
      have : j ≠ i := fun e => hi (e ▸ hj)
      simp [c', this]
    have hci : c' i = v := by simp [c']
    refine ⟨c', ?_, ?_⟩
    · show DT P ops Q N K R.length R (envAfter ops c' is (putE E (dstOf ops i) (c' i))) w0
      rw [hci, ← envAfter_congr ops c c' is _ hc]
      exact h3
    · intro pre j post hx o ho w' hw
      cases pre with
      | nil =>
        injection hx with hx1 hx2
        subst hx1
        rw [hci]
        exact h1 o ho w' hw
      | cons p pre =>
        injection hx with hx1 hx2
        subst hx1
        have := h4 pre j post hx2 o ho w' hw
        have hj : j ∈ is := by rw [hx2]; simp
        rw [hc j hj, envAfter_congr ops c c' pre _ (fun k hk => hc k (by rw [hx2]; simp [hk]))] at this
        show WL P ops _ N [o] (restr ops j (envAfter ops c' pre (putE E (dstOf ops i) (c' i)))) w'
        rw [hci]
        exact this

theorem WC.drawT {id : Nat} (K : World → World → Prop) (C R : List Nat) (hm : P.follows .mixedOrders = true) (hok : drawOkT ops C R = true) (hN : ((List.range ops.size).all fun i => (dstOf ops i).all fun t => Nat.blt t N) = true) {w : World} (hK0 : K w.drew w.drew) (hKp : ∀ wd a b, K wd a → Chg Nob a b → K wd b)
    (h0 : ∀ wd, Chg Nob w wd → wd.heap.size = w.heap.size → DQT P ops Q N (K wd) wd R C E0) : WC P (.region id ops true) Q N E0 w := fun a0 ha0 => by
  have h := h0 w.drew (Chg.drew w) rfl
  simp only [drawOkT, Bool.and_eq_true, decide_eq_true_eq] at hok
  obtain ⟨⟨⟨⟨⟨⟨hpart, hlt0⟩, hdst0⟩, hback0⟩, hsrc⟩, hsrcT⟩, hnd⟩ := hok
  replace hnd := nodupB_spec hnd
  have hlt : ∀ k ∈ C ++ R, k < ops.size := fun k hk => by simpa using List.all_eq_true.1 hlt0 k hk
  have hdst : ∀ i j, i < ops.size → j < ops.size → i ≠ j → ∀ t, dstOf ops i = some t → dstOf ops j ≠ some t := by
    intro i j hi hj hne t h1 h2
    have := List.all_eq_true.1 (List.all_eq_true.1 hdst0 i (by simpa using hi)) j (by simpa using hj)
    simp [h1, h2, hne] at this
  have hback : ∀ i, i < ops.size → ∀ o, ops[i]? = some o → ∀ e ∈ o.after, Region.binds .any e = true → e.on < i := by
    intro i hi o ho e he hb
    have := List.all_eq_true.1 hback0 i (by simpa using hi)
    simp only [ho, Option.map_some, Option.getD_some] at this
    rw [List.all_eq_true] at this
    have := this e (by simpa using he)
    simpa [hb] using this
  have hNt : ∀ i, i < ops.size → ∀ t, dstOf ops i = some t → t < N := by
    intro i hi t ht
    have := List.all_eq_true.1 hN i (by simpa using hi)
    simpa [ht] using this
  have hin : ∀ i, i < ops.size → i ∈ C ∨ i ∈ R := fun i hi => by simpa using List.all_eq_true.1 hpart i (by simpa using hi)
  have hCn : C.Nodup := (List.nodup_append.1 hnd).1
  obtain ⟨c, hDL, hq⟩ := DQT_spec hCn h
  have hgs : ∀ (listed : Array Bool) (i j : Nat), i < listed.size → (listed.setIfInBounds i true).getD j false = if j = i then true else listed.getD j false := by
    intro listed i j hil
    simp only [Array.getD_eq_getD_getElem?, Array.getElem?_setIfInBounds]
    by_cases e : j = i
    · subst e; simp [hil]
    · have : ¬ i = j := fun x => e x.symm
      simp [this, e]
  have henv : ∀ (vals : Nat → Value) (rd : List Nat), (∀ i ∈ C, vals i = c i) → envAfter ops vals rd (envAfter ops c C E0) = envAfter ops vals (C ++ rd) E0 := by
    intro vals rd hC
    rw [envAfter_append, envAfter_congr ops vals c C E0 hC]
  have fin : ∀ (listed : Array Bool) (a : Act) (w1 wp : World) (vals : Nat → Value) (rd rs : List Nat), (∀ i, i < ops.size → i ∈ C ∨ i ∈ rd ∨ i ∈ rs) → (∀ i ∈ rd ++ rs, i < ops.size) → Mid ops N E0 listed a vals → (∀ i ∈ C, vals i = c i) → (∀ i ∈ rs, listed.getD i false = false) →
      Chg Nob wp w1 → DT P ops Q N (K w.drew) rs.length rs (envAfter ops vals rd (envAfter ops c C E0)) wp → (∀ i, i < ops.size → listed.getD i false = true) → Q .normal a w1 := by
    intro listed a w1 wp vals rd rs hpt hrl m hC hrs hpw hdl hall
    cases rs with
    | cons r rs =>
      have h1 := hall r (hrl r (by simp))
      have h2 := hrs r (by simp)
      rw [h1] at h2; cases h2
    | nil =>
      refine hdl w1 hpw a ⟨m.tsz, m.dfs, fun t v ht => ?_⟩
      rw [henv vals rd hC] at ht
      rcases (Rep.start ops E0 vals).after (C ++ rd) t v ht with ⟨j, hj, hd, rfl⟩ | ⟨h1, h2⟩
      · have hjl : j < ops.size := by
          rcases List.mem_append.1 (by simpa using hj : j ∈ C ++ rd) with h | h
          · exact hlt j (by simp [h])
          · exact hrl j (by simp [h])
        exact m.done j hjl (hall j hjl) t hd
      · refine m.old t v h2 fun j hj _ => h1 j ?_
        rcases hpt j hj with h | h | h
        · simp [h]
        · simp [h]
        · cases h
  have key : ∀ (fuel : Nat) (listed : Array Bool) (a : Act) (w1 wp : World) (vals : Nat → Value) (rd rs : List Nat), (∀ i, i < ops.size → i ∈ C ∨ i ∈ rd ∨ i ∈ rs) → (∀ i ∈ rd ++ rs, i < ops.size ∧ i ∉ C) → rs.Nodup → (∀ i ∈ rd, i ∉ rs) → Mid ops N E0 listed a vals → (∀ i ∈ C, vals i = c i) → (∀ i ∈ rd, listed.getD i false = true) → (∀ i ∈ rs, listed.getD i false = false) →
      K w.drew w1 → Chg Nob wp w1 → DT P ops Q N (K w.drew) rs.length rs (envAfter ops vals rd (envAfter ops c C E0)) wp → ((List.range ops.size).filter fun i => !listed.getD i false).length ≤ fuel → wpAny P .any ops Q fuel listed a w1 := by
    intro fuel
    induction fuel with
    | zero =>
      intro listed a w1 wp vals rd rs hpt hrl hrn hdj m hC hrd hrs hM hpw hdl hf
      have hall : ∀ i, i < ops.size → listed.getD i false = true := by
        intro i hi
        have h0 := List.length_eq_zero_iff.1 (Nat.le_zero.1 hf)
        have : i ∉ (List.range ops.size).filter fun i => !listed.getD i false := by rw [h0]; simp
        simpa [hi] using this
      refine ⟨?_, fin listed a w1 wp vals rd rs hpt (fun i hi => (hrl i hi).1) m hC hrs hpw hdl hall⟩
      refine List.eq_nil_iff_forall_not_mem.2 fun i hi => ?_
      obtain ⟨h1, h2, _⟩ := mem_ready hi
      have h3 := hall i h1
      have : i < listed.size := by rw [m.sz]; exact h1
      simp [Array.getD_eq_getD_getElem?, this] at h2 h3
      rw [h2] at h3; cases h3
    | succ fuel ih =>
      intro listed a w1 wp vals rd rs hpt hrl hrn hdj m hC hrd hrs hM hpw hdl hf
      refine ⟨fun hnil => fin listed a w1 wp vals rd rs hpt (fun i hi => (hrl i hi).1) m hC hrs hpw hdl (ready_nil m.sz hback hnil), fun i hi => ?_⟩
      obtain ⟨hilt, hno, hpre⟩ := mem_ready hi
      have hil : i < listed.size := by rw [m.sz]; exact hilt
      have hno' : listed.getD i false = false := by
        simp [Array.getD_eq_getD_getElem?, hil] at hno ⊢; exact hno
      have ho : ops[i]? = some ops[i] := Array.getElem?_eq_getElem hilt
      have hdo := dstOf_eq ho
      have hf' : ((List.range ops.size).filter fun j => !(listed.setIfInBounds i true).getD j false).length ≤ fuel := by
        have e1 : ((List.range ops.size).filter fun j => !(listed.setIfInBounds i true).getD j false) = ((List.range ops.size).filter fun j => !listed.getD j false).filter fun j => j != i := by
          rw [List.filter_filter]
          congr 1
          funext j
          rw [hgs listed i j hil]
          by_cases e : j = i <;> simp [e]
        rw [e1]
        have : (((List.range ops.size).filter fun j => !listed.getD j false).filter fun j => j != i).length < ((List.range ops.size).filter fun j => !listed.getD j false).length := by
          rw [List.length_filter_lt_length_iff_exists]
          exact ⟨i, List.mem_filter.2 ⟨by simpa using hilt, by rw [hno']; rfl⟩, by simp⟩
        omega
      by_cases hiC : i ∈ C
      · obtain ⟨pre, post, hsp⟩ := List.append_of_mem hiC
        have h1 := hq pre i post hsp _ ho w1 hM
        have hpc : ∀ k ∈ pre, vals k = c k := fun k hk => hC k (by rw [hsp]; simp [hk])
        have hrep : Rep ops E0 vals pre (envAfter ops c pre E0) := by
          have := (Rep.start ops E0 vals).after pre
          rw [envAfter_congr ops vals c pre E0 hpc] at this
          simpa using this
        have hh := m.holds hsrc (pre := pre) (post := post ++ R) (i := i) (by rw [hsp]; simp) hlt hrep hpre hno
        refine wpOp_mono ?_ (wpOp_of_WL ho hh (fun t ht => hNt i hilt t (by rw [hdo]; exact ht)) h1)
        rintro a' w' ⟨v, rfl, rfl, k⟩
        rw [← hdo]
        have hv : ∀ j, (if j = i then c i else vals j) = vals j := fun j => by
          by_cases e : j = i
          · subst e; simp [hC j hiC]
          · simp [e]
        have hm' := m.put hilt hdst (hNt i hilt) hpre hno (c i)
        simp only [hv] at hm'
        refine ih _ _ w' wp vals rd rs hpt hrl hrn hdj hm' hC (fun j hj => ?_) (fun j hj => ?_) (hKp _ _ _ hM k) (hpw.pure k) hdl hf'
        · rw [hgs listed i j hil]; split
          · rfl
          · exact hrd j hj
        · have : j ≠ i := by rintro rfl; exact (hrl j (by simp [hj])).2 hiC
          rw [hgs listed i j hil, if_neg this]; exact hrs j hj
      · have hird : i ∉ rd := fun hx => by have := hrd i hx; rw [hno'] at this; cases this
        have hirs : i ∈ rs := (hpt i hilt).elim (fun h => absurd h hiC) (fun h => h.elim (fun h => absurd h hird) (fun h => h))
        have hpr : preds ops rs i = false := by
          rw [preds, List.any_eq_false]
          intro p hp hb
          have h1 := hpre p hb
          have h2 := hrs p hp
          rw [h1] at h2; cases h2
        obtain ⟨n, hn⟩ : ∃ n, rs.length = n + 1 := ⟨rs.length - 1, by have := List.length_pos_of_mem hirs; omega⟩
        rw [hn] at hdl
        have h1 := AllB_mem hdl i hirs hpr w1 hpw _ ho
        rw [henv vals rd hC] at h1
        have hrep : Rep ops E0 vals (C ++ rd) (envAfter ops vals (C ++ rd) E0) := by simpa using (Rep.start ops E0 vals).after (C ++ rd)
        have hh : Holds N (restr ops i (envAfter ops vals (C ++ rd) E0)) a := by
          have hsT : ∀ t ∈ looks ops i, ∀ j, j < ops.size → dstOf ops j = some t → (j ∈ C → before? ops j i = true) ∧ (before? ops j i = true ∨ before? ops i j = true) := by
            intro t ht j hj hd
            have q1 := List.all_eq_true.1 hsrcT i (by rcases hin i hilt with h | h; exact absurd h hiC; exact h)
            have q2 := List.all_eq_true.1 (List.all_eq_true.1 q1 j (by simpa using hj)) t ht
            simp only [hd, bne_self_eq_false, Bool.false_or] at q2
            by_cases hjC : C.contains j = true
            · rw [hjC] at q2
              simp at q2
              exact ⟨fun _ => q2, .inl q2⟩
            · simp only [Bool.not_eq_true] at hjC
              rw [hjC] at q2
              simp at q2
              exact ⟨fun h => by simp [h] at hjC, q2⟩
          refine ⟨m.tsz, m.dfs, fun t v ht => ?_⟩
          obtain ⟨g1, g2⟩ := restr_lookup ht
          rcases hrep t v g2 with ⟨j, hj, hd, rfl⟩ | ⟨g3, g4⟩
          · have hjl : j < ops.size := by
              rcases List.mem_append.1 (by simpa using hj : j ∈ C ++ rd) with h | h
              · exact hlt j (by simp [h])
              · exact (hrl j (by simp [h])).1
            have hb : before? ops j i = true := by
              rcases List.mem_append.1 (by simpa using hj : j ∈ C ++ rd) with h | h
              · exact (hsT t g1 j hjl hd).1 h
              · rcases (hsT t g1 j hjl hd).2 with h5 | h5
                · exact h5
                · have h6 := m.clo j hjl (hrd j h) i h5
                  rw [hno'] at h6; cases h6
            exact m.done j hjl (hpre j hb) t hd
          · refine m.old t v g4 fun j hj hl hd => ?_
            rcases hpt j hj with h | h | h
            · exact g3 j (by simp [h]) hd
            · exact g3 j (by simp [h]) hd
            · rw [hrs j h] at hl; cases hl
        refine wpOp_mono ?_ (wpOp_of_WL ho hh (fun t ht => hNt i hilt t (by rw [hdo]; exact ht)) h1)
        rintro a' w' ⟨v, rfl, hM', hdl'⟩
        have hm' := m.put hilt hdst (hNt i hilt) hpre hno v
        rw [← hdo]
        have hC' : ∀ j ∈ C, (if j = i then v else vals j) = c j := fun j hj => by
          have : j ≠ i := by rintro rfl; exact hiC hj
          rw [if_neg this]; exact hC j hj
        have hcr : ∀ j ∈ C ++ rd, vals j = (if j = i then v else vals j) := fun j hj => by
          have : j ≠ i := by rintro rfl; exact (List.mem_append.1 hj).elim hiC hird
          rw [if_neg this]
        have her : ∀ j, j ∈ rs.erase i ↔ j ≠ i ∧ j ∈ rs := fun j => List.Nodup.mem_erase_iff hrn
        refine ih _ _ w' w' (fun j => if j = i then v else vals j) (rd ++ [i]) (rs.erase i) (fun j hj => ?_) (fun j hj => ?_) (hrn.erase i) (fun j hj => ?_) hm' hC' (fun j hj => ?_) (fun j hj => ?_) hM' (Chg.refl _ _) ?_ hf'
        · rcases hpt j hj with h | h | h
          · exact .inl h
          · exact .inr (.inl (by simp [h]))
          · by_cases e : j = i
            · exact .inr (.inl (by simp [e]))
            · exact .inr (.inr ((her j).2 ⟨e, h⟩))
        · rcases List.mem_append.1 hj with h | h
          · rcases List.mem_append.1 h with h | h
            · exact hrl j (by simp [h])
            · have : j = i := by simpa using h
              subst this
              exact hrl j (by simp [hirs])
          · exact hrl j (by simp [((her j).1 h).2])
        · intro h
          have h5 := (her j).1 h
          rcases List.mem_append.1 hj with h6 | h6
          · exact hdj j h6 h5.2
          · exact h5.1 (by simpa using h6)
        · rw [hgs listed i j hil]; split
          · rfl
          · rename_i hne
            rcases List.mem_append.1 hj with hj | hj
            · exact hrd j hj
            · exact absurd (by simpa using hj) hne
        · have h5 := (her j).1 hj
          rw [hgs listed i j hil, if_neg h5.1]; exact hrs j h5.2
        · rw [henv _ (rd ++ [i]) hC', ← List.append_assoc, envAfter_append, ← envAfter_congr ops vals _ (C ++ rd) E0 hcr]
          simp only [envAfter, if_true]
          rw [hdo, List.length_erase_of_mem hirs, hn]
          exact hdl'
  refine wp_region_any hm ?_
  refine key ops.size _ a0 w.drew w.drew c [] R (fun i hi => (hin i hi).elim .inl (fun h => .inr (.inr h))) (fun i hi => ⟨hlt i (by simpa using Or.inr (by simpa using hi)), fun h => (List.nodup_append.1 hnd).2.2 i h i (by simpa using hi) rfl⟩) (List.nodup_append.1 hnd).2.1 (fun i h => by cases h) ?_ (fun _ _ => rfl) (fun _ h => by cases h) (fun i hi => ?_) hK0 (Chg.refl _ _) hDL ?_
  · refine ⟨by simp, ha0.size, ha0.defs, fun i hi hl => ?_, fun t v ht _ => ha0.env t v ht, fun i hi hl => ?_⟩
    · simp [Array.getD_eq_getD_getElem?, hi] at hl
    · simp [Array.getD_eq_getD_getElem?, hi] at hl
  · have hi' := hlt i (by simp [hi])
    simp [Array.getD_eq_getD_getElem?, hi']
  · refine Nat.le_trans (List.length_filter_le _ _) (by simp)
theorem WC.drawM {id : Nat} (M : Nat → Prop) (C R : List Nat) (hm : P.follows .mixedOrders = true) (hok : drawOkT ops C R = true) (hN : ((List.range ops.size).all fun i => (dstOf ops i).all fun t => Nat.blt t N) = true) {w : World}
    (h0 : ∀ wd, Chg Nob w wd → wd.heap.size = w.heap.size → DQT P ops Q N (Chg M wd) wd R C E0) : WC P (.region id ops true) Q N E0 w :=
  WC.drawT (fun wd => Chg M wd) C R hm hok hN (Chg.refl _ _) (fun _ _ _ h k => h.pure k) h0
end
section
variable {P : Program} {ops : Array Oper} {Q : Exit → Act → World → Prop} {N : Nat} {M : Nat → Prop} {K : World → Prop} {w0 w : World} {E E' : Env} {R is : List Nat} {i : Nat} {o : Oper}
theorem DQT.step {v : Value} (E' : Env) (ho : ops[i]? = some o) (hs : Sub E' E) (hk : (E'.all fun p => (looks ops i).contains p.1) = true)
    (h1 : ∀ w', K w' → WL P ops (One o.dst fun u w'' => u = v ∧ Chg Nob w' w'') N [o] E' w') (h2 : DQT P ops Q N K w0 R is (putE E o.dst v)) : DQT P ops Q N K w0 R (i :: is) E :=
  ⟨v, fun o' ho' w' hw => by rw [ho] at ho'; injection ho' with ho'; subst ho'; exact (h1 w' hw).sub (sub_restr hs hk), by rw [dstOf_eq ho]; exact h2⟩
theorem DQT.split {b : Bool} (E' : Env) (ho : ops[i]? = some o) (hs : Sub E' E) (hk : (E'.all fun p => (looks ops i).contains p.1) = true)
    (h1 : ∀ w', K w' → WL P ops (One o.dst fun u w'' => u = .bool b ∧ Chg Nob w' w'') N [o] E' w') (ht : b = true → DQT P ops Q N K w0 R is (putE E o.dst (.bool true))) (hf : b = false → DQT P ops Q N K w0 R is (putE E o.dst (.bool false))) : DQT P ops Q N K w0 R (i :: is) E :=
  DQT.step E' ho hs hk h1 (by
    cases b
    · exact hf rfl
    · exact ht rfl)
theorem DQT.done (h : Chg M w0 w0 → DT P ops Q N (Chg M w0) R.length R E w0) : DQT P ops Q N (Chg M w0) w0 R [] E := h (Chg.refl _ _)
theorem DT.step {T : Env → World → Prop} (E' : Env) (ho : ops[i]? = some o) (hs : Sub E' E) (hk : (E'.all fun p => (looks ops i).contains p.1) = true)
    (h1 : ∀ w', Chg Nob w w' → WL P ops (One o.dst fun v w'' => K w'' ∧ T (putE E o.dst v) w'') N [o] E' w') :
    ∀ w', Chg Nob w w' → ∀ o', ops[i]? = some o' → WL P ops (One o'.dst fun v w'' => K w'' ∧ T (putE E o'.dst v) w'') N [o'] (restr ops i E) w' :=
  fun w' hw o' ho' => by rw [ho] at ho'; injection ho' with ho'; subst ho'; exact (h1 w' hw).sub (sub_restr hs hk)
theorem DT.done (h : ∀ w', Chg Nob w w' → WX Q .normal N E w') (rs : List Nat) : DT P ops Q N K 0 rs E w := h
end
end Go.HL
namespace Go.HL
open Go.RowKit
section
variable {P : Program} {ops : Array Oper} {Q : Exit → Act → World → Prop} {N : Nat} {E : Env} {w : World} {rest : List Oper} {ty : TypeId} {pos : String} {af : Array Edge} {d : Nat} {α : Type} {e : Enc α} {S : Nat → Prop}
/-- append to a row that has no room: always a new block -/
theorem WL.append0 {t tx T : TypeId} {s x : Operand} {ao : Option Addr} {bytes : Nat} {ys : List α} {z v : Value} (hinfo : (P.info? T).map (fun i => (i.zero, i.size, i.bytes)) = some (some z, e.sz, bytes)) (hzs : z.cells.size = e.sz)
    (ht : P.underlying t = some (.slice T)) (hs : ev E s = some (.slice ao 0 0)) (hx : ev E x = some v) (ho : Row S w T e ao 0 ([] : List α)) (hsrc : Src P e.sz tx v ys.length (e.all ys) w) (hne : 0 < ys.length)
    (hb : ys.length * bytes ≤ 140737488355328 ∧ ys.length ≤ 9223372036854775807) (hd : Nat.blt d N = true)
    (h : ∀ g c2 w', Row (fun b => b = g) w' T e (some ⟨g, 0, none⟩) c2 ys → Chg Nob w w' → g = w.heap.size → w'.heap.size = w.heap.size + 1 → WL P ops Q N rest ((d, .slice (some ⟨g, 0, none⟩) ys.length c2) :: E) w') :
    WL P ops Q N (⟨some d, .call ⟨.builtin .append, #[s, x], #[t, tx]⟩, ty, pos, af, none⟩ :: rest) E w := by
  obtain ⟨i, hi, h1, h2, h3⟩ := info_parts hinfo
  have hn63 : 0 + ys.length ≤ maxLen := by simpa [maxLen] using hb.2
  have hold : (Builtin.firstCells i.size 0 (.slice ao 0 0)).run P w.drew = .ok ([] : List Value).toArray w.drew := by
    cases ao with
    | none => simp [Builtin.firstCells]
    | some b => exact run_firstCells_some w.drew i.size 0 b 0 0 [] (by simp) (fun j v h => by simp at h)
  have hr := run_append_grow_src (P := P) w t tx ty T i z ht hi h1 ao 0 0 [] hold v ys.length (e.all ys) (by rw [h2]; exact hsrc) (by omega) (by omega) (growslice_fits (by omega) (by rw [h3]; simpa using hb.1))
  have hge := grownCap_ge w (0 + ys.length) 0 T
  have hcm : grownCap w (0 + ys.length) 0 T ≤ maxLen := grownCap_le_maxLen w (0 + ys.length) 0 T hn63
  have hlen : (e.all ys).length = ys.length * e.sz := Enc.all_len _ _
  obtain ⟨cap, hcap⟩ : ∃ cap, cap = grownCap w (0 + ys.length) 0 T := ⟨_, rfl⟩
  rw [← hcap] at hr hge hcm
  obtain ⟨W', hW'⟩ : ∃ W', W' = w.drew.alloc (.cells (([] ++ e.all ys).toArray ++ Builtin.zeroCells z.cells (cap - (0 + ys.length))) T) := ⟨_, rfl⟩
  rw [← hW', Nat.zero_add] at hr
  refine WL.run (.slice (some ⟨w.heap.size, 0, none⟩) ys.length cap) W' (fun a ha => by simp [execOp, resolve, invoke, builtin, ev_eval ha hs, ev_eval ha hx, hr]) hd ?_
  subst hW'
  have hnew := h w.heap.size cap (w.drew.alloc (.cells (([] ++ e.all ys).toArray ++ Builtin.zeroCells z.cells (cap - (0 + ys.length))) T)) ?_ ⟨rfl, rfl, rfl, by simp, fun k hk _ => Below.heap_alloc w.drew _ k hk⟩ rfl (by simp)
  · exact hnew
  · refine ⟨fun a ea => by injection ea with ea; subst ea; rfl, hlen, by omega, .inr ⟨w.heap.size, _, (0, 0), rfl, heap_alloc_new w.drew _, fun j _ h => by omega, hcm, ?_, ?_⟩⟩
    · simp only [Array.size_append, List.size_toArray, size_zeroCells, hzs, List.nil_append, hlen, ← Nat.add_mul]
      congr 1
      omega
    · simp only [Array.toList_append, List.nil_append]
      rw [← hlen]
      exact List.take_left
end
end Go.HL
