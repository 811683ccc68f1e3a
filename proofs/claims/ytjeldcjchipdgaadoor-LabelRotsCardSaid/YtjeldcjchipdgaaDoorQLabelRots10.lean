import Derived.Test.YtjeldcjchipdgaaDoorQLabelRots9
namespace Go.Proofs.YtjeldcjchipdgaaDoor
open Go.RowKit Go.HL
set_option maxRecDepth 100000

/-! the records of a drive -/
theorem Blk.eqc {w : World} {g : Nat} {T : TypeId} {cs cs' : List Value} (h : Blk w g T cs) (e : cs = cs') : Blk w g T cs' := e ▸ h
theorem decU_t {b : List UInt8} (h : decEr b = 0) : 1 ≤ (decV b).t := by
  unfold decEr at h
  unfold decV
  cases hd : decU b with
  | none => rw [hd] at h; cases h
  | some u =>
    unfold decU at hd
    split at hd
    · split at hd
      · rename_i hc
        injection hd with hd
        subst hd
        exact hc.2.2.1
      · cases hd
    · cases hd
def slotU (s : RA) (d : Int) (a : Nat) : UbV := if decEr (heldS s (d, a)) = 0 ∧ (decV (heldS s (d, a))).t % 8 = a then decV (heldS s (d, a)) else ⟨-1, zeroP⟩
def errD (s : RA) (d : Int) : Int := if goneS s d = true then 3 else if s.off = true then 16 else 0
def outK (s : RA) (d : Int) (k : Nat) : List UbV := (List.range 8).map fun i => if i < k then slotU s d i else zeroU
def wholeL (s : RA) (d : Int) : List UbV := if errD s d = 0 then outK s d 8 else []
theorem outK_len (s : RA) (d : Int) (k : Nat) : (outK s d k).length = 8 := by simp [outK]
theorem outK_0 (s : RA) (d : Int) : outK s d 0 = List.replicate 8 zeroU := by rfl
theorem outK_set (s : RA) (d : Int) {k : Nat} (hk : k < 8) : (outK s d k).set k (slotU s d k) = outK s d (k + 1) := by
  apply List.ext_getElem?
  intro i
  simp only [outK, List.getElem?_set, List.length_map, List.length_range, List.getElem?_map]
  by_cases h : k = i
  · subst h
    simp [hk]
  · by_cases hi : i < 8
    · simp only [h, if_false, List.getElem?_range hi, Option.map_some]
      have : (i < k) ↔ (i < k + 1) := by omega
      simp only [this]
    · simp [h, hi]
theorem errS_D {s : RA} {d : Int} (hd : isS s d) (h8 : 8 < s.sn) {a : Nat} (ha : a < 8) : errS s d a = errD s d := by
  unfold errS errD
  rw [if_neg (fun h => h ⟨hd.1, hd.2, by omega, by omega⟩)]
set_option maxHeartbeats 2000000 in
theorem whole_calls {A : Nat → Prop} {w : World} {R : Nat} {s : RA} (h : RK A w R s) {d : Int} (hd : isS s d) (h8 : 8 < s.sn) :
    Calls Tryd.prog 50 [ptr R, vi d].toArray w (Ret fun v w' => (∃ (ao : Option Addr) (c : Nat), v = .tuple #[.slice ao (wholeL s d).length c, vi (errD s d)] ∧ Row (w.heap.size ≤ ·) w' 25 eub ao c (wholeL s d)) ∧ Chg Nob w w') := by
  have hw := Chg.refl Nob w
  replace h : RK (fun x => x < w.heap.size) w R s := h.old.mono (fun x hx => hx.2)
  refine Calls.of_WC Tryd.func50 rfl Tryd.ntmps50 (by simp) ?_
  refine WC.seq (WC.region (WL.assign rfl rfl (WL.assign rfl rfl (WL.nil (WX.then_normal (WC.seq (WC.region (?_))))))))
  refine WL.make (e := eub) zeroU 8 8 Tryd.underlying98 info_25 rfl rfl rfl ⟨rfl, rfl, Nat.le_refl _⟩ (by constructor <;> omega) rfl ?_
  intro g0 w0 hO k0 z0 eg0
  rw [← outK_0 s d] at hO ⊢
  rw [outK_len]
  have zs_k0 := k0.size
  replace h := h.pure k0
  replace hw := hw.pure k0
  refine WL.assign rfl rfl (WL.nil (WX.then_normal (WC.seq (WC.seq (WC.region (WL.move rfl rfl (WL.len Tryd.underlying98 rfl rfl (?_))))))))
  refine WL.move rfl rfl (WL.nil (WX.then_normal (WC.block (?_))))
  refine WC.loop (σ := Nat) (fun k => [(0, ptr R), (1, vi d), (6, .slice (some ⟨g0, 0, none⟩) 8 8), (13, vi 8), (14, vi (k : Int))])
    (fun k w' => k ≤ 8 ∧ (0 < k → errD s d = 0) ∧ Row (fun x => x = g0) w' 25 eub (some ⟨g0, 0, none⟩) 8 (outK s d k) ∧ RK (fun x => x < w.heap.size) w' R s ∧ Chg Nob w w') (fun k => 8 - k) 0 ⟨rfl, rfl, rfl, rfl, rfl, trivial⟩
    ⟨Nat.zero_le _, fun h9 => absurd h9 (Nat.lt_irrefl _), ⟨fun a ea => by injection ea with ea; subst ea; rfl, hO.own⟩, h, hw⟩ ?_
  clear hO h hw
  rintro k w1 ⟨hk, hE, hO, h, hw⟩
  have zw := hw.size
  have lg0 : g0 < w1.heap.size := hO.own.lt _ rfl
  refine WC.seq (WC.region (?_))
  refine WL.lss? rfl rfl rfl (fun h15 => ?_) (fun h15 => ?_)
  ·
    refine WL.nil (WX.then_normal (WC.seq (WC.cond_true rfl (WC.skip (WX.then_normal (WC.seq (WC.block (?_))))))))
    refine WC.seq (WC.region (WL.move rfl rfl (WL.assign rfl rfl (WL.nil (WX.then_normal (WC.seq (WC.region (?_))))))))
    refine WL.move rfl rfl (WL.move rfl rfl (WL.move rfl rfl (?_)))
    refine WL.call eg_27 rfl rfl (Read_calls h d k) ?_
    rintro v w2 ⟨⟨r, e, rfl, he, hx, -, hq⟩, k2⟩
    rw [errS_D hd h8 (by omega)] at he
    have zs_k2 := k2.size
    replace hO := hO.pure k2
    replace h := h.pure k2
    replace hw := hw.pure k2
    replace hq := hq.lt
    refine WL.move rfl rfl (WL.extract rfl rfl rfl (WL.extract rfl rfl rfl (WL.assign rfl rfl (WL.assign rfl rfl (WL.nil (WX.then_normal (WC.seq (?_))))))))
    refine WC.seq (WC.region (WL.move rfl rfl (?_)))
    refine WL.neq? rfl rfl rfl (fun h25 => ?_) (fun h25 => ?_)
    ·
      refine WL.nil (WX.then_normal (WC.cond_true rfl (WC.seq (WC.region (WL.move rfl rfl (WL.assign rfl rfl (WL.assign rfl rfl (?_))))))))
      refine WL.nil (WX.then_normal (WC.ret (WX.then_ret (WX.block_ret (WX.then_ret (WX.then_ret (WX.block_ret (?_))))))))
      refine WX.then_ret (?_)
      refine WX.ret2 (.inl rfl) Tryd.results50 rfl rfl ?_
      first
        | (have hz : e ≠ 0 := h25
           have hl : wholeL s d = [] := by rw [wholeL, if_neg (by rw [← he]; exact hz)]
           refine ⟨_, rfl, ⟨none, 0, ?_, ?_⟩, hw⟩
           ·
             rw [hl, ← he]
             rfl
           ·
             rw [hl]
             exact Row.nil _ _ _ _)
        | (have h0 := hE (by omega)
           have hk8 : k = 8 := by omega
           have hl : wholeL s d = outK s d k := by rw [wholeL, if_pos h0, hk8]
           refine ⟨_, rfl, ⟨some ⟨g0, 0, none⟩, 8, ?_, ?_⟩, hw⟩
           ·
             rw [hl, outK_len, h0]
           ·
             rw [hl]
             exact hO.mono (fun x hx => by omega))
    ·
      refine WL.nil (WX.then_normal (WC.cond_false rfl (WC.skip (WX.then_normal (WC.seq (WC.region (WL.move rfl rfl (?_))))))))
      have hxs := hx (by omega)
      have hxl : r.xs.length = 128 := by rw [hxs]; exact heldS_len h.ok _
      have hq2 := hq.rsl.old
      refine WL.call eg_14 rfl rfl (decU_calls hq2 (by omega)) ?_
      rintro v w3 ⟨rfl, k3⟩
      rw [hxs]
      have zs_k3 := k3.size
      replace hO := hO.pure k3
      replace h := h.pure k3
      replace hw := hw.pure k3
      replace hq := hq.pure k3
      refine WL.move rfl rfl (WL.extract rfl rfl rfl (WL.extract rfl rfl rfl (?_)))
      refine WL.alloc Tryd.zeroValue25 rfl ?_
      intro g_1 w_1 hge_1 hlt_1 hb_1 k_1
      have zs_k_1 := k_1.size
      replace hO := hO.pure k_1
      replace h := h.pure k_1
      replace hw := hw.pure k_1
      replace hq := hq.pure k_1
      refine WL.stores Tryd.sizeOf25 hb_1 rfl rfl (by first | (simp; done) | (simp; omega) | rfl) (by first | exact Enc.one _ _ | (intro u hu; obtain ⟨x, _, rfl⟩ := List.mem_map.1 hu; rfl) | (simp [Value.oneCell']; done) | (simp [Value.oneCell', Value.cells]; done)) (by first | (simp; done) | (simp; omega) | (simp [Value.cells]; done) | (simp [Value.cells]; omega) | exact Nat.le_of_ble_eq_true rfl) rfl ?_
      intro w_2 hs_2 hn_2 k_2
      have zs_k_2 := k_2.size
      replace hO := hO.chg k_2 (by first | (intro x h1 h2; exact h2) | (intro x h0 h1 h2; exact hS x h1 h2) | (intro x h0 h1 h2; have h3 : _ = _ := h2; subst h3; exact hSR h1.1) | (intro x h1 h2; have h3 : _ = _ := h2; subst h3; assumption) | (intro x h1 h2; have h3 : _ = _ := h2; exfalso; omega) | (intro b h1 h2 h3; have h4 : _ = _ := h3; (try dsimp only at h2); exfalso; omega) | (intro h1; have h2 : _ = _ := h1; exfalso; omega) | (intro h1; have h2 : _ ≤ _ := h1; exfalso; omega) | (intros; exfalso; (try dsimp only at *); omega) | (intro b h1 h2 h3; exfalso; have h4 := h3.2; (try dsimp only at *); omega) | (intro h1; exfalso; have h4 := h1.2; (try dsimp only at *); omega) | (intro x h1 h2; exfalso; have h4 := h2.2; (try dsimp only at *); omega) | (intro x h1 h2; exact ⟨_, rfl, h2⟩) | (intro x h1 h2; have h4 := h2.1; have h5 := h2.2; exfalso; omega) | (intro x h1 h2; exact h2.1) | (intro x h1 h2; rcases h2.1 with h3 | h3; exact h3; exfalso; omega) | (intro x h1 h2; rcases h2 with h3 | h3; exact h3; exfalso; omega))
      replace h := h.chg k_2 (by first | (intro x h1 h2; exact h2) | (intro x h0 h1 h2; exact hS x h1 h2) | (intro x h0 h1 h2; have h3 : _ = _ := h2; subst h3; exact hSR h1.1) | (intro x h1 h2; have h3 : _ = _ := h2; subst h3; assumption) | (intro x h1 h2; have h3 : _ = _ := h2; exfalso; omega) | (intro b h1 h2 h3; have h4 : _ = _ := h3; (try dsimp only at h2); exfalso; omega) | (intro h1; have h2 : _ = _ := h1; exfalso; omega) | (intro h1; have h2 : _ ≤ _ := h1; exfalso; omega) | (intros; exfalso; (try dsimp only at *); omega) | (intro b h1 h2 h3; exfalso; have h4 := h3.2; (try dsimp only at *); omega) | (intro h1; exfalso; have h4 := h1.2; (try dsimp only at *); omega) | (intro x h1 h2; exfalso; have h4 := h2.2; (try dsimp only at *); omega) | (intro x h1 h2; exact ⟨_, rfl, h2⟩) | (intro x h1 h2; have h4 := h2.1; have h5 := h2.2; exfalso; omega) | (intro x h1 h2; exact h2.1) | (intro x h1 h2; rcases h2.1 with h3 | h3; exact h3; exfalso; omega) | (intro x h1 h2; rcases h2 with h3 | h3; exact h3; exfalso; omega))
      replace hw := hw.chg k_2 (by first | (intro x h1 h2; exact h2) | (intro x h0 h1 h2; exact hS x h1 h2) | (intro x h0 h1 h2; have h3 : _ = _ := h2; subst h3; exact hSR h1.1) | (intro x h1 h2; have h3 : _ = _ := h2; subst h3; assumption) | (intro x h1 h2; have h3 : _ = _ := h2; exfalso; omega) | (intro b h1 h2 h3; have h4 : _ = _ := h3; (try dsimp only at h2); exfalso; omega) | (intro h1; have h2 : _ = _ := h1; exfalso; omega) | (intro h1; have h2 : _ ≤ _ := h1; exfalso; omega) | (intros; exfalso; (try dsimp only at *); omega) | (intro b h1 h2 h3; exfalso; have h4 := h3.2; (try dsimp only at *); omega) | (intro h1; exfalso; have h4 := h1.2; (try dsimp only at *); omega) | (intro x h1 h2; exfalso; have h4 := h2.2; (try dsimp only at *); omega) | (intro x h1 h2; exact ⟨_, rfl, h2⟩) | (intro x h1 h2; have h4 := h2.1; have h5 := h2.2; exfalso; omega) | (intro x h1 h2; exact h2.1) | (intro x h1 h2; rcases h2.1 with h3 | h3; exact h3; exfalso; omega) | (intro x h1 h2; rcases h2 with h3 | h3; exact h3; exfalso; omega))
      replace hq := hq.chg k_2 (by first | (intro x h1 h2; exact h2) | (intro x h0 h1 h2; exact hS x h1 h2) | (intro x h0 h1 h2; have h3 : _ = _ := h2; subst h3; exact hSR h1.1) | (intro x h1 h2; have h3 : _ = _ := h2; subst h3; assumption) | (intro x h1 h2; have h3 : _ = _ := h2; exfalso; omega) | (intro b h1 h2 h3; have h4 : _ = _ := h3; (try dsimp only at h2); exfalso; omega) | (intro h1; have h2 : _ = _ := h1; exfalso; omega) | (intro h1; have h2 : _ ≤ _ := h1; exfalso; omega) | (intros; exfalso; (try dsimp only at *); omega) | (intro b h1 h2 h3; exfalso; have h4 := h3.2; (try dsimp only at *); omega) | (intro h1; exfalso; have h4 := h1.2; (try dsimp only at *); omega) | (intro x h1 h2; exfalso; have h4 := h2.2; (try dsimp only at *); omega) | (intro x h1 h2; exact ⟨_, rfl, h2⟩) | (intro x h1 h2; have h4 := h2.1; have h5 := h2.2; exfalso; omega) | (intro x h1 h2; exact h2.1) | (intro x h1 h2; rcases h2.1 with h3 | h3; exact h3; exfalso; omega) | (intro x h1 h2; rcases h2 with h3 | h3; exact h3; exfalso; omega))
      replace hb_1 := hn_2
      refine WL.assign rfl rfl (WL.nil (WX.then_normal (WC.seq (WC.seq (WC.region (WL.move rfl rfl (?_)))))))
      refine WL.neq? rfl rfl rfl (fun h33 => ?_) (fun h33 => ?_)
      ·
        refine WL.move rfl rfl (WL.pass rfl rfl rfl rfl (WL.pass rfl rfl rfl rfl (WL.pass rfl rfl rfl rfl (WL.pass rfl rfl rfl rfl (WL.pass rfl rfl rfl rfl (WL.pickT rfl rfl rfl (WL.nil (?_))))))))
        refine WX.then_normal (WC.cond_true rfl (WC.region (WL.bld rfl (bld_25_0 _) rfl (?_))))
        refine WL.stores Tryd.sizeOf25 hb_1 rfl rfl (by first | (simp; done) | (simp; omega) | rfl) (by first | exact Enc.one _ _ | (intro u hu; obtain ⟨x, _, rfl⟩ := List.mem_map.1 hu; rfl) | (simp [Value.oneCell']; done) | (simp [Value.oneCell', Value.cells]; done)) (by first | (simp; done) | (simp; omega) | (simp [Value.cells]; done) | (simp [Value.cells]; omega) | exact Nat.le_of_ble_eq_true rfl) rfl ?_
        intro w_3 hs_3 hn_3 k_3
        have zs_k_3 := k_3.size
        replace hO := hO.chg k_3 (by first | (intro x h1 h2; exact h2) | (intro x h0 h1 h2; exact hS x h1 h2) | (intro x h0 h1 h2; have h3 : _ = _ := h2; subst h3; exact hSR h1.1) | (intro x h1 h2; have h3 : _ = _ := h2; subst h3; assumption) | (intro x h1 h2; have h3 : _ = _ := h2; exfalso; omega) | (intro b h1 h2 h3; have h4 : _ = _ := h3; (try dsimp only at h2); exfalso; omega) | (intro h1; have h2 : _ = _ := h1; exfalso; omega) | (intro h1; have h2 : _ ≤ _ := h1; exfalso; omega) | (intros; exfalso; (try dsimp only at *); omega) | (intro b h1 h2 h3; exfalso; have h4 := h3.2; (try dsimp only at *); omega) | (intro h1; exfalso; have h4 := h1.2; (try dsimp only at *); omega) | (intro x h1 h2; exfalso; have h4 := h2.2; (try dsimp only at *); omega) | (intro x h1 h2; exact ⟨_, rfl, h2⟩) | (intro x h1 h2; have h4 := h2.1; have h5 := h2.2; exfalso; omega) | (intro x h1 h2; exact h2.1) | (intro x h1 h2; rcases h2.1 with h3 | h3; exact h3; exfalso; omega) | (intro x h1 h2; rcases h2 with h3 | h3; exact h3; exfalso; omega))
        replace h := h.chg k_3 (by first | (intro x h1 h2; exact h2) | (intro x h0 h1 h2; exact hS x h1 h2) | (intro x h0 h1 h2; have h3 : _ = _ := h2; subst h3; exact hSR h1.1) | (intro x h1 h2; have h3 : _ = _ := h2; subst h3; assumption) | (intro x h1 h2; have h3 : _ = _ := h2; exfalso; omega) | (intro b h1 h2 h3; have h4 : _ = _ := h3; (try dsimp only at h2); exfalso; omega) | (intro h1; have h2 : _ = _ := h1; exfalso; omega) | (intro h1; have h2 : _ ≤ _ := h1; exfalso; omega) | (intros; exfalso; (try dsimp only at *); omega) | (intro b h1 h2 h3; exfalso; have h4 := h3.2; (try dsimp only at *); omega) | (intro h1; exfalso; have h4 := h1.2; (try dsimp only at *); omega) | (intro x h1 h2; exfalso; have h4 := h2.2; (try dsimp only at *); omega) | (intro x h1 h2; exact ⟨_, rfl, h2⟩) | (intro x h1 h2; have h4 := h2.1; have h5 := h2.2; exfalso; omega) | (intro x h1 h2; exact h2.1) | (intro x h1 h2; rcases h2.1 with h3 | h3; exact h3; exfalso; omega) | (intro x h1 h2; rcases h2 with h3 | h3; exact h3; exfalso; omega))
        replace hw := hw.chg k_3 (by first | (intro x h1 h2; exact h2) | (intro x h0 h1 h2; exact hS x h1 h2) | (intro x h0 h1 h2; have h3 : _ = _ := h2; subst h3; exact hSR h1.1) | (intro x h1 h2; have h3 : _ = _ := h2; subst h3; assumption) | (intro x h1 h2; have h3 : _ = _ := h2; exfalso; omega) | (intro b h1 h2 h3; have h4 : _ = _ := h3; (try dsimp only at h2); exfalso; omega) | (intro h1; have h2 : _ = _ := h1; exfalso; omega) | (intro h1; have h2 : _ ≤ _ := h1; exfalso; omega) | (intros; exfalso; (try dsimp only at *); omega) | (intro b h1 h2 h3; exfalso; have h4 := h3.2; (try dsimp only at *); omega) | (intro h1; exfalso; have h4 := h1.2; (try dsimp only at *); omega) | (intro x h1 h2; exfalso; have h4 := h2.2; (try dsimp only at *); omega) | (intro x h1 h2; exact ⟨_, rfl, h2⟩) | (intro x h1 h2; have h4 := h2.1; have h5 := h2.2; exfalso; omega) | (intro x h1 h2; exact h2.1) | (intro x h1 h2; rcases h2.1 with h3 | h3; exact h3; exfalso; omega) | (intro x h1 h2; rcases h2 with h3 | h3; exact h3; exfalso; omega))
        replace hq := hq.chg k_3 (by first | (intro x h1 h2; exact h2) | (intro x h0 h1 h2; exact hS x h1 h2) | (intro x h0 h1 h2; have h3 : _ = _ := h2; subst h3; exact hSR h1.1) | (intro x h1 h2; have h3 : _ = _ := h2; subst h3; assumption) | (intro x h1 h2; have h3 : _ = _ := h2; exfalso; omega) | (intro b h1 h2 h3; have h4 : _ = _ := h3; (try dsimp only at h2); exfalso; omega) | (intro h1; have h2 : _ = _ := h1; exfalso; omega) | (intro h1; have h2 : _ ≤ _ := h1; exfalso; omega) | (intros; exfalso; (try dsimp only at *); omega) | (intro b h1 h2 h3; exfalso; have h4 := h3.2; (try dsimp only at *); omega) | (intro h1; exfalso; have h4 := h1.2; (try dsimp only at *); omega) | (intro x h1 h2; exfalso; have h4 := h2.2; (try dsimp only at *); omega) | (intro x h1 h2; exact ⟨_, rfl, h2⟩) | (intro x h1 h2; have h4 := h2.1; have h5 := h2.2; exfalso; omega) | (intro x h1 h2; exact h2.1) | (intro x h1 h2; rcases h2.1 with h3 | h3; exact h3; exfalso; omega) | (intro x h1 h2; rcases h2 with h3 | h3; exact h3; exfalso; omega))
        replace hb_1 := hn_3
        refine WL.nil (WX.then_normal (WC.region (WL.move rfl rfl (WL.move rfl rfl (?_)))))
        have hb10 := Blk.eqc (cs' := eub.f (slotU s d k)) hb_1 (by
          by_cases hc : decEr (heldS s (d, (k : Int))) = 0 ∧ (decV (heldS s (d, (k : Int)))).t % 8 = k
          ·
            rw [slotU, if_pos hc]
            first
              | rfl
              | (exfalso; exact h33 hc.1)
              | (exfalso; exact h39 hc.2)
          ·
            rw [slotU, if_neg hc]
            first
              | rfl
              | (exfalso; exact hc ⟨h33, h39⟩))
        refine WL.loads (eub.f (slotU s d k)) Tryd.isAgg25 Tryd.sizeOf25 rfl (fun j v hj => by rw [Nat.zero_add]; exact hb10.cell hj) rfl rfl ?_
        refine WL.index (j := k) Tryd.underlying98 Tryd.sizeOf25 rfl rfl rfl (by omega) rfl ?_
        refine WL.storeE (e := eub) (vs := eub.f (slotU s d k)) (ys := (outK s d k).set k (slotU s d k)) Tryd.sizeOf25 hO rfl rfl rfl (eub.one _) (by rw [outK_len]; show 0 + k * 5 + 5 ≤ 8 * 5; omega) (List.length_set ..) (by rw [Nat.zero_add]; exact (Enc.all_set eub (by rw [outK_len]; omega) _).symm) ?_
        intro w9 z9 hO9 k9
        rw [outK_set s d (by omega)] at hO9
        have zs_k9 := k9.size
        replace h := h.chg k9 (by first | (intro x h1 h2; exact h2) | (intro x h0 h1 h2; exact hS x h1 h2) | (intro x h0 h1 h2; have h3 : _ = _ := h2; subst h3; exact hSR h1.1) | (intro x h1 h2; have h3 : _ = _ := h2; subst h3; assumption) | (intro x h1 h2; have h3 : _ = _ := h2; exfalso; omega) | (intro b h1 h2 h3; have h4 : _ = _ := h3; (try dsimp only at h2); exfalso; omega) | (intro h1; have h2 : _ = _ := h1; exfalso; omega) | (intro h1; have h2 : _ ≤ _ := h1; exfalso; omega) | (intros; exfalso; (try dsimp only at *); omega) | (intro b h1 h2 h3; exfalso; have h4 := h3.2; (try dsimp only at *); omega) | (intro h1; exfalso; have h4 := h1.2; (try dsimp only at *); omega) | (intro x h1 h2; exfalso; have h4 := h2.2; (try dsimp only at *); omega) | (intro x h1 h2; exact ⟨_, rfl, h2⟩) | (intro x h1 h2; have h4 := h2.1; have h5 := h2.2; exfalso; omega) | (intro x h1 h2; exact h2.1) | (intro x h1 h2; rcases h2.1 with h3 | h3; exact h3; exfalso; omega) | (intro x h1 h2; rcases h2 with h3 | h3; exact h3; exfalso; omega))
        replace hw := hw.chg k9 (by first | (intro x h1 h2; exact h2) | (intro x h0 h1 h2; exact hS x h1 h2) | (intro x h0 h1 h2; have h3 : _ = _ := h2; subst h3; exact hSR h1.1) | (intro x h1 h2; have h3 : _ = _ := h2; subst h3; assumption) | (intro x h1 h2; have h3 : _ = _ := h2; exfalso; omega) | (intro b h1 h2 h3; have h4 : _ = _ := h3; (try dsimp only at h2); exfalso; omega) | (intro h1; have h2 : _ = _ := h1; exfalso; omega) | (intro h1; have h2 : _ ≤ _ := h1; exfalso; omega) | (intros; exfalso; (try dsimp only at *); omega) | (intro b h1 h2 h3; exfalso; have h4 := h3.2; (try dsimp only at *); omega) | (intro h1; exfalso; have h4 := h1.2; (try dsimp only at *); omega) | (intro x h1 h2; exfalso; have h4 := h2.2; (try dsimp only at *); omega) | (intro x h1 h2; exact ⟨_, rfl, h2⟩) | (intro x h1 h2; have h4 := h2.1; have h5 := h2.2; exfalso; omega) | (intro x h1 h2; exact h2.1) | (intro x h1 h2; rcases h2.1 with h3 | h3; exact h3; exfalso; omega) | (intro x h1 h2; rcases h2 with h3 | h3; exact h3; exfalso; omega))
        replace hq := hq.chg k9 (by first | (intro x h1 h2; exact h2) | (intro x h0 h1 h2; exact hS x h1 h2) | (intro x h0 h1 h2; have h3 : _ = _ := h2; subst h3; exact hSR h1.1) | (intro x h1 h2; have h3 : _ = _ := h2; subst h3; assumption) | (intro x h1 h2; have h3 : _ = _ := h2; exfalso; omega) | (intro b h1 h2 h3; have h4 : _ = _ := h3; (try dsimp only at h2); exfalso; omega) | (intro h1; have h2 : _ = _ := h1; exfalso; omega) | (intro h1; have h2 : _ ≤ _ := h1; exfalso; omega) | (intros; exfalso; (try dsimp only at *); omega) | (intro b h1 h2 h3; exfalso; have h4 := h3.2; (try dsimp only at *); omega) | (intro h1; exfalso; have h4 := h1.2; (try dsimp only at *); omega) | (intro x h1 h2; exfalso; have h4 := h2.2; (try dsimp only at *); omega) | (intro x h1 h2; exact ⟨_, rfl, h2⟩) | (intro x h1 h2; have h4 := h2.1; have h5 := h2.2; exfalso; omega) | (intro x h1 h2; exact h2.1) | (intro x h1 h2; rcases h2.1 with h3 | h3; exact h3; exfalso; omega) | (intro x h1 h2; rcases h2 with h3 | h3; exact h3; exfalso; omega))
        replace hb10 := hb10.chg k9 (by first | (intro x h1 h2; exact h2) | (intro x h0 h1 h2; exact hS x h1 h2) | (intro x h0 h1 h2; have h3 : _ = _ := h2; subst h3; exact hSR h1.1) | (intro x h1 h2; have h3 : _ = _ := h2; subst h3; assumption) | (intro x h1 h2; have h3 : _ = _ := h2; exfalso; omega) | (intro b h1 h2 h3; have h4 : _ = _ := h3; (try dsimp only at h2); exfalso; omega) | (intro h1; have h2 : _ = _ := h1; exfalso; omega) | (intro h1; have h2 : _ ≤ _ := h1; exfalso; omega) | (intros; exfalso; (try dsimp only at *); omega) | (intro b h1 h2 h3; exfalso; have h4 := h3.2; (try dsimp only at *); omega) | (intro h1; exfalso; have h4 := h1.2; (try dsimp only at *); omega) | (intro x h1 h2; exfalso; have h4 := h2.2; (try dsimp only at *); omega) | (intro x h1 h2; exact ⟨_, rfl, h2⟩) | (intro x h1 h2; have h4 := h2.1; have h5 := h2.2; exfalso; omega) | (intro x h1 h2; exact h2.1) | (intro x h1 h2; rcases h2.1 with h3 | h3; exact h3; exfalso; omega) | (intro x h1 h2; rcases h2 with h3 | h3; exact h3; exfalso; omega))
        refine WL.nil (WX.block_normal (WX.then_normal (WC.region (WL.add64 rfl rfl (by first | omega | (constructor <;> omega)) rfl (WL.move rfl rfl (WL.nil (?_)))))))
        exact WX.loop_next (k + 1) ⟨rfl, rfl, rfl, rfl, rfl, trivial⟩ ⟨by omega, fun _ => by rw [← he]; exact h25, hO9, h, hw⟩ (by show _ - _ < _ - _; omega)
      ·
        refine WL.move rfl rfl (WL.want rfl rfl rfl (WL.fieldAddr (fld_25_0) rfl rfl (WL.want rfl rfl rfl (WL.loadB Tryd.isAgg3 hb_1 rfl rfl rfl (WL.want rfl rfl rfl (?_))))))
        have hz : decEr (heldS s (d, (k : Int))) = 0 := h33
        have ht := decU_t hz
        refine WL.rem64i rfl rfl (by constructor <;> omega) rfl ?_
        refine WL.want rfl rfl rfl (WL.move rfl rfl (WL.want rfl rfl rfl (?_)))
        refine WL.neq? rfl rfl rfl (fun h39 => ?_) (fun h39 => ?_)
        ·
          refine WL.pickF rfl rfl rfl (WL.nil (WX.then_normal (WC.cond_true rfl (WC.region (WL.bld rfl (bld_25_0 _) rfl (?_))))))
          refine WL.stores Tryd.sizeOf25 hb_1 rfl rfl (by first | (simp; done) | (simp; omega) | rfl) (by first | exact Enc.one _ _ | (intro u hu; obtain ⟨x, _, rfl⟩ := List.mem_map.1 hu; rfl) | (simp [Value.oneCell']; done) | (simp [Value.oneCell', Value.cells]; done)) (by first | (simp; done) | (simp; omega) | (simp [Value.cells]; done) | (simp [Value.cells]; omega) | exact Nat.le_of_ble_eq_true rfl) rfl ?_
          intro w_3 hs_3 hn_3 k_3
          have zs_k_3 := k_3.size
          replace hO := hO.chg k_3 (by first | (intro x h1 h2; exact h2) | (intro x h0 h1 h2; exact hS x h1 h2) | (intro x h0 h1 h2; have h3 : _ = _ := h2; subst h3; exact hSR h1.1) | (intro x h1 h2; have h3 : _ = _ := h2; subst h3; assumption) | (intro x h1 h2; have h3 : _ = _ := h2; exfalso; omega) | (intro b h1 h2 h3; have h4 : _ = _ := h3; (try dsimp only at h2); exfalso; omega) | (intro h1; have h2 : _ = _ := h1; exfalso; omega) | (intro h1; have h2 : _ ≤ _ := h1; exfalso; omega) | (intros; exfalso; (try dsimp only at *); omega) | (intro b h1 h2 h3; exfalso; have h4 := h3.2; (try dsimp only at *); omega) | (intro h1; exfalso; have h4 := h1.2; (try dsimp only at *); omega) | (intro x h1 h2; exfalso; have h4 := h2.2; (try dsimp only at *); omega) | (intro x h1 h2; exact ⟨_, rfl, h2⟩) | (intro x h1 h2; have h4 := h2.1; have h5 := h2.2; exfalso; omega) | (intro x h1 h2; exact h2.1) | (intro x h1 h2; rcases h2.1 with h3 | h3; exact h3; exfalso; omega) | (intro x h1 h2; rcases h2 with h3 | h3; exact h3; exfalso; omega))
          replace h := h.chg k_3 (by first | (intro x h1 h2; exact h2) | (intro x h0 h1 h2; exact hS x h1 h2) | (intro x h0 h1 h2; have h3 : _ = _ := h2; subst h3; exact hSR h1.1) | (intro x h1 h2; have h3 : _ = _ := h2; subst h3; assumption) | (intro x h1 h2; have h3 : _ = _ := h2; exfalso; omega) | (intro b h1 h2 h3; have h4 : _ = _ := h3; (try dsimp only at h2); exfalso; omega) | (intro h1; have h2 : _ = _ := h1; exfalso; omega) | (intro h1; have h2 : _ ≤ _ := h1; exfalso; omega) | (intros; exfalso; (try dsimp only at *); omega) | (intro b h1 h2 h3; exfalso; have h4 := h3.2; (try dsimp only at *); omega) | (intro h1; exfalso; have h4 := h1.2; (try dsimp only at *); omega) | (intro x h1 h2; exfalso; have h4 := h2.2; (try dsimp only at *); omega) | (intro x h1 h2; exact ⟨_, rfl, h2⟩) | (intro x h1 h2; have h4 := h2.1; have h5 := h2.2; exfalso; omega) | (intro x h1 h2; exact h2.1) | (intro x h1 h2; rcases h2.1 with h3 | h3; exact h3; exfalso; omega) | (intro x h1 h2; rcases h2 with h3 | h3; exact h3; exfalso; omega))
          replace hw := hw.chg k_3 (by first | (intro x h1 h2; exact h2) | (intro x h0 h1 h2; exact hS x h1 h2) | (intro x h0 h1 h2; have h3 : _ = _ := h2; subst h3; exact hSR h1.1) | (intro x h1 h2; have h3 : _ = _ := h2; subst h3; assumption) | (intro x h1 h2; have h3 : _ = _ := h2; exfalso; omega) | (intro b h1 h2 h3; have h4 : _ = _ := h3; (try dsimp only at h2); exfalso; omega) | (intro h1; have h2 : _ = _ := h1; exfalso; omega) | (intro h1; have h2 : _ ≤ _ := h1; exfalso; omega) | (intros; exfalso; (try dsimp only at *); omega) | (intro b h1 h2 h3; exfalso; have h4 := h3.2; (try dsimp only at *); omega) | (intro h1; exfalso; have h4 := h1.2; (try dsimp only at *); omega) | (intro x h1 h2; exfalso; have h4 := h2.2; (try dsimp only at *); omega) | (intro x h1 h2; exact ⟨_, rfl, h2⟩) | (intro x h1 h2; have h4 := h2.1; have h5 := h2.2; exfalso; omega) | (intro x h1 h2; exact h2.1) | (intro x h1 h2; rcases h2.1 with h3 | h3; exact h3; exfalso; omega) | (intro x h1 h2; rcases h2 with h3 | h3; exact h3; exfalso; omega))
          replace hq := hq.chg k_3 (by first | (intro x h1 h2; exact h2) | (intro x h0 h1 h2; exact hS x h1 h2) | (intro x h0 h1 h2; have h3 : _ = _ := h2; subst h3; exact hSR h1.1) | (intro x h1 h2; have h3 : _ = _ := h2; subst h3; assumption) | (intro x h1 h2; have h3 : _ = _ := h2; exfalso; omega) | (intro b h1 h2 h3; have h4 : _ = _ := h3; (try dsimp only at h2); exfalso; omega) | (intro h1; have h2 : _ = _ := h1; exfalso; omega) | (intro h1; have h2 : _ ≤ _ := h1; exfalso; omega) | (intros; exfalso; (try dsimp only at *); omega) | (intro b h1 h2 h3; exfalso; have h4 := h3.2; (try dsimp only at *); omega) | (intro h1; exfalso; have h4 := h1.2; (try dsimp only at *); omega) | (intro x h1 h2; exfalso; have h4 := h2.2; (try dsimp only at *); omega) | (intro x h1 h2; exact ⟨_, rfl, h2⟩) | (intro x h1 h2; have h4 := h2.1; have h5 := h2.2; exfalso; omega) | (intro x h1 h2; exact h2.1) | (intro x h1 h2; rcases h2.1 with h3 | h3; exact h3; exfalso; omega) | (intro x h1 h2; rcases h2 with h3 | h3; exact h3; exfalso; omega))
          replace hb_1 := hn_3
          refine WL.nil (WX.then_normal (WC.region (WL.move rfl rfl (WL.move rfl rfl (?_)))))
          have hb10 := Blk.eqc (cs' := eub.f (slotU s d k)) hb_1 (by
            by_cases hc : decEr (heldS s (d, (k : Int))) = 0 ∧ (decV (heldS s (d, (k : Int)))).t % 8 = k
            ·
              rw [slotU, if_pos hc]
              first
                | rfl
                | (exfalso; exact h33 hc.1)
                | (exfalso; exact h39 hc.2)
            ·
              rw [slotU, if_neg hc]
              first
                | rfl
                | (exfalso; exact hc ⟨h33, h39⟩))
          refine WL.loads (eub.f (slotU s d k)) Tryd.isAgg25 Tryd.sizeOf25 rfl (fun j v hj => by rw [Nat.zero_add]; exact hb10.cell hj) rfl rfl ?_
          refine WL.index (j := k) Tryd.underlying98 Tryd.sizeOf25 rfl rfl rfl (by omega) rfl ?_
          refine WL.storeE (e := eub) (vs := eub.f (slotU s d k)) (ys := (outK s d k).set k (slotU s d k)) Tryd.sizeOf25 hO rfl rfl rfl (eub.one _) (by rw [outK_len]; show 0 + k * 5 + 5 ≤ 8 * 5; omega) (List.length_set ..) (by rw [Nat.zero_add]; exact (Enc.all_set eub (by rw [outK_len]; omega) _).symm) ?_
          intro w9 z9 hO9 k9
          rw [outK_set s d (by omega)] at hO9
          have zs_k9 := k9.size
          replace h := h.chg k9 (by first | (intro x h1 h2; exact h2) | (intro x h0 h1 h2; exact hS x h1 h2) | (intro x h0 h1 h2; have h3 : _ = _ := h2; subst h3; exact hSR h1.1) | (intro x h1 h2; have h3 : _ = _ := h2; subst h3; assumption) | (intro x h1 h2; have h3 : _ = _ := h2; exfalso; omega) | (intro b h1 h2 h3; have h4 : _ = _ := h3; (try dsimp only at h2); exfalso; omega) | (intro h1; have h2 : _ = _ := h1; exfalso; omega) | (intro h1; have h2 : _ ≤ _ := h1; exfalso; omega) | (intros; exfalso; (try dsimp only at *); omega) | (intro b h1 h2 h3; exfalso; have h4 := h3.2; (try dsimp only at *); omega) | (intro h1; exfalso; have h4 := h1.2; (try dsimp only at *); omega) | (intro x h1 h2; exfalso; have h4 := h2.2; (try dsimp only at *); omega) | (intro x h1 h2; exact ⟨_, rfl, h2⟩) | (intro x h1 h2; have h4 := h2.1; have h5 := h2.2; exfalso; omega) | (intro x h1 h2; exact h2.1) | (intro x h1 h2; rcases h2.1 with h3 | h3; exact h3; exfalso; omega) | (intro x h1 h2; rcases h2 with h3 | h3; exact h3; exfalso; omega))
          replace hw := hw.chg k9 (by first | (intro x h1 h2; exact h2) | (intro x h0 h1 h2; exact hS x h1 h2) | (intro x h0 h1 h2; have h3 : _ = _ := h2; subst h3; exact hSR h1.1) | (intro x h1 h2; have h3 : _ = _ := h2; subst h3; assumption) | (intro x h1 h2; have h3 : _ = _ := h2; exfalso; omega) | (intro b h1 h2 h3; have h4 : _ = _ := h3; (try dsimp only at h2); exfalso; omega) | (intro h1; have h2 : _ = _ := h1; exfalso; omega) | (intro h1; have h2 : _ ≤ _ := h1; exfalso; omega) | (intros; exfalso; (try dsimp only at *); omega) | (intro b h1 h2 h3; exfalso; have h4 := h3.2; (try dsimp only at *); omega) | (intro h1; exfalso; have h4 := h1.2; (try dsimp only at *); omega) | (intro x h1 h2; exfalso; have h4 := h2.2; (try dsimp only at *); omega) | (intro x h1 h2; exact ⟨_, rfl, h2⟩) | (intro x h1 h2; have h4 := h2.1; have h5 := h2.2; exfalso; omega) | (intro x h1 h2; exact h2.1) | (intro x h1 h2; rcases h2.1 with h3 | h3; exact h3; exfalso; omega) | (intro x h1 h2; rcases h2 with h3 | h3; exact h3; exfalso; omega))
          replace hq := hq.chg k9 (by first | (intro x h1 h2; exact h2) | (intro x h0 h1 h2; exact hS x h1 h2) | (intro x h0 h1 h2; have h3 : _ = _ := h2; subst h3; exact hSR h1.1) | (intro x h1 h2; have h3 : _ = _ := h2; subst h3; assumption) | (intro x h1 h2; have h3 : _ = _ := h2; exfalso; omega) | (intro b h1 h2 h3; have h4 : _ = _ := h3; (try dsimp only at h2); exfalso; omega) | (intro h1; have h2 : _ = _ := h1; exfalso; omega) | (intro h1; have h2 : _ ≤ _ := h1; exfalso; omega) | (intros; exfalso; (try dsimp only at *); omega) | (intro b h1 h2 h3; exfalso; have h4 := h3.2; (try dsimp only at *); omega) | (intro h1; exfalso; have h4 := h1.2; (try dsimp only at *); omega) | (intro x h1 h2; exfalso; have h4 := h2.2; (try dsimp only at *); omega) | (intro x h1 h2; exact ⟨_, rfl, h2⟩) | (intro x h1 h2; have h4 := h2.1; have h5 := h2.2; exfalso; omega) | (intro x h1 h2; exact h2.1) | (intro x h1 h2; rcases h2.1 with h3 | h3; exact h3; exfalso; omega) | (intro x h1 h2; rcases h2 with h3 | h3; exact h3; exfalso; omega))
          replace hb10 := hb10.chg k9 (by first | (intro x h1 h2; exact h2) | (intro x h0 h1 h2; exact hS x h1 h2) | (intro x h0 h1 h2; have h3 : _ = _ := h2; subst h3; exact hSR h1.1) | (intro x h1 h2; have h3 : _ = _ := h2; subst h3; assumption) | (intro x h1 h2; have h3 : _ = _ := h2; exfalso; omega) | (intro b h1 h2 h3; have h4 : _ = _ := h3; (try dsimp only at h2); exfalso; omega) | (intro h1; have h2 : _ = _ := h1; exfalso; omega) | (intro h1; have h2 : _ ≤ _ := h1; exfalso; omega) | (intros; exfalso; (try dsimp only at *); omega) | (intro b h1 h2 h3; exfalso; have h4 := h3.2; (try dsimp only at *); omega) | (intro h1; exfalso; have h4 := h1.2; (try dsimp only at *); omega) | (intro x h1 h2; exfalso; have h4 := h2.2; (try dsimp only at *); omega) | (intro x h1 h2; exact ⟨_, rfl, h2⟩) | (intro x h1 h2; have h4 := h2.1; have h5 := h2.2; exfalso; omega) | (intro x h1 h2; exact h2.1) | (intro x h1 h2; rcases h2.1 with h3 | h3; exact h3; exfalso; omega) | (intro x h1 h2; rcases h2 with h3 | h3; exact h3; exfalso; omega))
          refine WL.nil (WX.block_normal (WX.then_normal (WC.region (WL.add64 rfl rfl (by first | omega | (constructor <;> omega)) rfl (WL.move rfl rfl (WL.nil (?_)))))))
          exact WX.loop_next (k + 1) ⟨rfl, rfl, rfl, rfl, rfl, trivial⟩ ⟨by omega, fun _ => by rw [← he]; exact h25, hO9, h, hw⟩ (by show _ - _ < _ - _; omega)
        ·
          refine WL.pickF rfl rfl rfl (WL.nil (WX.then_normal (WC.cond_false rfl (WC.skip (WX.then_normal (WC.region (WL.move rfl rfl (?_))))))))
          refine WL.move rfl rfl (?_)
          have hb10 := Blk.eqc (cs' := eub.f (slotU s d k)) hb_1 (by
            by_cases hc : decEr (heldS s (d, (k : Int))) = 0 ∧ (decV (heldS s (d, (k : Int)))).t % 8 = k
            ·
              rw [slotU, if_pos hc]
              first
                | rfl
                | (exfalso; exact h33 hc.1)
                | (exfalso; exact h39 hc.2)
            ·
              rw [slotU, if_neg hc]
              first
                | rfl
                | (exfalso; exact hc ⟨h33, h39⟩))
          refine WL.loads (eub.f (slotU s d k)) Tryd.isAgg25 Tryd.sizeOf25 rfl (fun j v hj => by rw [Nat.zero_add]; exact hb10.cell hj) rfl rfl ?_
          refine WL.index (j := k) Tryd.underlying98 Tryd.sizeOf25 rfl rfl rfl (by omega) rfl ?_
          refine WL.storeE (e := eub) (vs := eub.f (slotU s d k)) (ys := (outK s d k).set k (slotU s d k)) Tryd.sizeOf25 hO rfl rfl rfl (eub.one _) (by rw [outK_len]; show 0 + k * 5 + 5 ≤ 8 * 5; omega) (List.length_set ..) (by rw [Nat.zero_add]; exact (Enc.all_set eub (by rw [outK_len]; omega) _).symm) ?_
          intro w9 z9 hO9 k9
          rw [outK_set s d (by omega)] at hO9
          have zs_k9 := k9.size
          replace h := h.chg k9 (by first | (intro x h1 h2; exact h2) | (intro x h0 h1 h2; exact hS x h1 h2) | (intro x h0 h1 h2; have h3 : _ = _ := h2; subst h3; exact hSR h1.1) | (intro x h1 h2; have h3 : _ = _ := h2; subst h3; assumption) | (intro x h1 h2; have h3 : _ = _ := h2; exfalso; omega) | (intro b h1 h2 h3; have h4 : _ = _ := h3; (try dsimp only at h2); exfalso; omega) | (intro h1; have h2 : _ = _ := h1; exfalso; omega) | (intro h1; have h2 : _ ≤ _ := h1; exfalso; omega) | (intros; exfalso; (try dsimp only at *); omega) | (intro b h1 h2 h3; exfalso; have h4 := h3.2; (try dsimp only at *); omega) | (intro h1; exfalso; have h4 := h1.2; (try dsimp only at *); omega) | (intro x h1 h2; exfalso; have h4 := h2.2; (try dsimp only at *); omega) | (intro x h1 h2; exact ⟨_, rfl, h2⟩) | (intro x h1 h2; have h4 := h2.1; have h5 := h2.2; exfalso; omega) | (intro x h1 h2; exact h2.1) | (intro x h1 h2; rcases h2.1 with h3 | h3; exact h3; exfalso; omega) | (intro x h1 h2; rcases h2 with h3 | h3; exact h3; exfalso; omega))
          replace hw := hw.chg k9 (by first | (intro x h1 h2; exact h2) | (intro x h0 h1 h2; exact hS x h1 h2) | (intro x h0 h1 h2; have h3 : _ = _ := h2; subst h3; exact hSR h1.1) | (intro x h1 h2; have h3 : _ = _ := h2; subst h3; assumption) | (intro x h1 h2; have h3 : _ = _ := h2; exfalso; omega) | (intro b h1 h2 h3; have h4 : _ = _ := h3; (try dsimp only at h2); exfalso; omega) | (intro h1; have h2 : _ = _ := h1; exfalso; omega) | (intro h1; have h2 : _ ≤ _ := h1; exfalso; omega) | (intros; exfalso; (try dsimp only at *); omega) | (intro b h1 h2 h3; exfalso; have h4 := h3.2; (try dsimp only at *); omega) | (intro h1; exfalso; have h4 := h1.2; (try dsimp only at *); omega) | (intro x h1 h2; exfalso; have h4 := h2.2; (try dsimp only at *); omega) | (intro x h1 h2; exact ⟨_, rfl, h2⟩) | (intro x h1 h2; have h4 := h2.1; have h5 := h2.2; exfalso; omega) | (intro x h1 h2; exact h2.1) | (intro x h1 h2; rcases h2.1 with h3 | h3; exact h3; exfalso; omega) | (intro x h1 h2; rcases h2 with h3 | h3; exact h3; exfalso; omega))
          replace hq := hq.chg k9 (by first | (intro x h1 h2; exact h2) | (intro x h0 h1 h2; exact hS x h1 h2) | (intro x h0 h1 h2; have h3 : _ = _ := h2; subst h3; exact hSR h1.1) | (intro x h1 h2; have h3 : _ = _ := h2; subst h3; assumption) | (intro x h1 h2; have h3 : _ = _ := h2; exfalso; omega) | (intro b h1 h2 h3; have h4 : _ = _ := h3; (try dsimp only at h2); exfalso; omega) | (intro h1; have h2 : _ = _ := h1; exfalso; omega) | (intro h1; have h2 : _ ≤ _ := h1; exfalso; omega) | (intros; exfalso; (try dsimp only at *); omega) | (intro b h1 h2 h3; exfalso; have h4 := h3.2; (try dsimp only at *); omega) | (intro h1; exfalso; have h4 := h1.2; (try dsimp only at *); omega) | (intro x h1 h2; exfalso; have h4 := h2.2; (try dsimp only at *); omega) | (intro x h1 h2; exact ⟨_, rfl, h2⟩) | (intro x h1 h2; have h4 := h2.1; have h5 := h2.2; exfalso; omega) | (intro x h1 h2; exact h2.1) | (intro x h1 h2; rcases h2.1 with h3 | h3; exact h3; exfalso; omega) | (intro x h1 h2; rcases h2 with h3 | h3; exact h3; exfalso; omega))
          replace hb10 := hb10.chg k9 (by first | (intro x h1 h2; exact h2) | (intro x h0 h1 h2; exact hS x h1 h2) | (intro x h0 h1 h2; have h3 : _ = _ := h2; subst h3; exact hSR h1.1) | (intro x h1 h2; have h3 : _ = _ := h2; subst h3; assumption) | (intro x h1 h2; have h3 : _ = _ := h2; exfalso; omega) | (intro b h1 h2 h3; have h4 : _ = _ := h3; (try dsimp only at h2); exfalso; omega) | (intro h1; have h2 : _ = _ := h1; exfalso; omega) | (intro h1; have h2 : _ ≤ _ := h1; exfalso; omega) | (intros; exfalso; (try dsimp only at *); omega) | (intro b h1 h2 h3; exfalso; have h4 := h3.2; (try dsimp only at *); omega) | (intro h1; exfalso; have h4 := h1.2; (try dsimp only at *); omega) | (intro x h1 h2; exfalso; have h4 := h2.2; (try dsimp only at *); omega) | (intro x h1 h2; exact ⟨_, rfl, h2⟩) | (intro x h1 h2; have h4 := h2.1; have h5 := h2.2; exfalso; omega) | (intro x h1 h2; exact h2.1) | (intro x h1 h2; rcases h2.1 with h3 | h3; exact h3; exfalso; omega) | (intro x h1 h2; rcases h2 with h3 | h3; exact h3; exfalso; omega))
          refine WL.nil (WX.block_normal (WX.then_normal (WC.region (WL.add64 rfl rfl (by first | omega | (constructor <;> omega)) rfl (WL.move rfl rfl (WL.nil (?_)))))))
          exact WX.loop_next (k + 1) ⟨rfl, rfl, rfl, rfl, rfl, trivial⟩ ⟨by omega, fun _ => by rw [← he]; exact h25, hO9, h, hw⟩ (by show _ - _ < _ - _; omega)
  ·
    refine WL.nil (WX.then_normal (WC.seq (WC.cond_false rfl (WC.exit (WX.then_exit (WX.then_exit (WX.block_here (?_))))))))
    refine WX.then_normal (WC.seq (WC.region (WL.move rfl rfl (WL.assign rfl rfl (WL.assign rfl rfl (WL.nil (WX.then_normal (?_))))))))
    refine WC.ret (?_)
    refine WX.ret2 (.inl rfl) Tryd.results50 rfl rfl ?_
    first
      | (have hz : e ≠ 0 := h25
         have hl : wholeL s d = [] := by rw [wholeL, if_neg (by rw [← he]; exact hz)]
         refine ⟨_, rfl, ⟨none, 0, ?_, ?_⟩, hw⟩
         ·
           rw [hl, ← he]
           rfl
         ·
           rw [hl]
           exact Row.nil _ _ _ _)
      | (have h0 := hE (by omega)
         have hk8 : k = 8 := by omega
         have hl : wholeL s d = outK s d k := by rw [wholeL, if_pos h0, hk8]
         refine ⟨_, rfl, ⟨some ⟨g0, 0, none⟩, 8, ?_, ?_⟩, hw⟩
         ·
           rw [hl, outK_len, h0]
         ·
           rw [hl]
           exact hO.mono (fun x hx => by omega))
end Go.Proofs.YtjeldcjchipdgaaDoor
namespace Go.Proofs.YtjeldcjchipdgaaDoor
open Go.RowKit Go.HL
set_option maxRecDepth 100000

/-! the newest record -/
def better (b u : UbV) : UbV := if b.t < u.t then u else b
def bestR (s : RA) : Nat → UbV
  | 0 => zeroU
  | k + 1 => (wholeL s k).foldl better (bestR s k)
def downS (s : RA) : Bool := (List.range s.dn).any fun d => decide (errD s d = 16)
def nwE (s : RA) : Int := if ¬ 8 < s.sn then 1 else if downS s = true then 16 else if (bestR s s.dn).t = 0 then 7 else 0
def nwU (s : RA) : UbV := if nwE s = 0 then bestR s s.dn else zeroU
theorem fold_take (l : List UbV) (b : UbV) {j : Nat} {u : UbV} (h : l[j]? = some u) : (l.take (j + 1)).foldl better b = better ((l.take j).foldl better b) u := by
  rw [List.take_add_one, h, List.foldl_append]
  rfl
theorem down_no {s : RA} (h : ∀ d, d < s.dn → errD s (d : Nat) ≠ 16) : downS s = false := by
  unfold downS
  rw [List.any_eq_false]
  intro d hd
  have := h d (List.mem_range.1 hd)
  simpa using this
theorem down_yes {s : RA} {d : Nat} (hd : d < s.dn) (h : errD s d = 16) : downS s = true := by
  unfold downS
  rw [List.any_eq_true]
  exact ⟨d, List.mem_range.2 hd, decide_eq_true h⟩
theorem nw_right {s : RA} (h : ¬ 8 < s.sn) : nwE s = 1 ∧ nwU s = zeroU := by
  have e : nwE s = 1 := by rw [nwE, if_pos h]
  exact ⟨e, by rw [nwU, e, if_neg (by decide)]⟩
theorem nw_down {s : RA} (h : 8 < s.sn) {d : Nat} (hd : d < s.dn) (h16 : errD s d = 16) : nwE s = 16 ∧ nwU s = zeroU := by
  have e : nwE s = 16 := by rw [nwE, if_neg (fun x => x h), if_pos (down_yes hd h16)]
  exact ⟨e, by rw [nwU, e, if_neg (by decide)]⟩
theorem nw_none {s : RA} (h : 8 < s.sn) (hd : downS s = false) (h0 : (bestR s s.dn).t = 0) : nwE s = 7 ∧ nwU s = zeroU := by
  have e : nwE s = 7 := by rw [nwE, if_neg (fun x => x h), if_neg (by rw [hd]; decide), if_pos h0]
  exact ⟨e, by rw [nwU, e, if_neg (by decide)]⟩
theorem nw_some {s : RA} (h : 8 < s.sn) (hd : downS s = false) (h0 : (bestR s s.dn).t ≠ 0) : nwE s = 0 ∧ nwU s = bestR s s.dn := by
  have e : nwE s = 0 := by rw [nwE, if_neg (fun x => x h), if_neg (by rw [hd]; decide), if_neg h0]
  exact ⟨e, by rw [nwU, if_pos e]⟩
set_option maxHeartbeats 2000000 in
theorem lNewest_calls {A : Nat → Prop} {w : World} {R : Nat} {s : RA} (h : RK A w R s) :
    Calls Tryd.prog 20 [ptr R].toArray w (Ret fun v w' => v = .tuple #[.agg (eub.f (nwU s)).toArray, vi (nwE s)] ∧ Chg Nob w w') := by
  have hw := Chg.refl Nob w
  have hdn := h.ok.dn
  replace h : RK (fun x => x < w.heap.size) w R s := h.old.mono (fun x hx => hx.2)
  refine Calls.of_WC Tryd.func20 rfl Tryd.ntmps20 (by simp) ?_
  refine WC.seq (WC.region (?_))
  refine WL.alloc Tryd.zeroValue25 rfl ?_
  intro g_1 w_1 hge_1 hlt_1 hb_1 k_1
  have zs_k_1 := k_1.size
  replace h := h.pure k_1
  replace hw := hw.pure k_1
  refine WL.assign rfl rfl (WL.nil (WX.then_normal (WC.seq (WC.seq (WC.region (WL.move rfl rfl (?_)))))))
  refine WL.call eg_42 rfl rfl (right_calls h) ?_
  rintro v w1 ⟨rfl, k1⟩
  have zs_k1 := k1.size
  replace h := h.pure k1
  replace hw := hw.pure k1
  replace hb_1 := hb_1.pure k1
  by_cases h12 : 8 < s.sn
  ·
    rw [decide_eq_true h12]
    refine WL.not rfl rfl (WL.nil (WX.then_normal (WC.cond_false rfl (WC.skip (WX.then_normal (WC.seq (WC.region (?_))))))))
    refine WL.alloc Tryd.zeroValue25 rfl ?_
    intro g_2 w_2 hge_2 hlt_2 hb_2 k_2
    have zs_k_2 := k_2.size
    replace h := h.pure k_2
    replace hw := hw.pure k_2
    replace hb_1 := hb_1.pure k_2
    refine WL.nil (WX.then_normal (WC.seq (WC.seq (WC.region (WL.move rfl rfl (?_))))))
    refine WL.call eg_43 rfl rfl (Drives_calls h) ?_
    rintro v w4 ⟨rfl, k4⟩
    have zs_k4 := k4.size
    replace h := h.pure k4
    replace hw := hw.pure k4
    replace hb_1 := hb_1.pure k4
    replace hb_2 := hb_2.pure k4
    refine WL.move rfl rfl (WL.nil (WX.then_normal (WC.block (?_))))
    have hb1 := Blk.eqc (cs' := eub.f zeroU) hb_1 rfl
    have hb2 := Blk.eqc (cs' := eub.f zeroU) hb_2 rfl
    refine WC.loop (σ := Nat) (fun k => [(0, ptr R), (2, ptr g_1), (4, ptr g_2), (15, vi (s.dn : Int)), (16, vi (k : Int))])
      (fun k w' => k ≤ s.dn ∧ (∀ d, d < k → errD s (d : Nat) ≠ 16) ∧ Blk w' g_1 25 (eub.f zeroU) ∧ Blk w' g_2 25 (eub.f (bestR s k)) ∧ RK (fun x => x < w.heap.size) w' R s ∧ Chg Nob w w') (fun k => s.dn - k) 0 ⟨rfl, rfl, rfl, rfl, rfl, trivial⟩
      ⟨Nat.zero_le _, fun d hd => absurd hd (Nat.not_lt_zero d), hb1, hb2, h, hw⟩ ?_
    have hg12 : w.heap.size ≤ g_1 ∧ g_1 < g_2 := by omega
    clear hb1 hb2 hb_1 hb_2 h hw
    rintro k w3 ⟨hk, hE, hb1, hb2, h, hw⟩
    have lg1 := hb1.lt
    have lg2 := hb2.lt
    refine WC.seq (WC.region (?_))
    refine WL.lss? rfl rfl rfl (fun h17 => ?_) (fun h17 => ?_)
    ·
      refine WL.nil (WX.then_normal (WC.seq (WC.cond_true rfl (WC.skip (WX.then_normal (WC.seq (WC.block (?_))))))))
      refine WC.seq (WC.region (WL.move rfl rfl (WL.assign rfl rfl (WL.nil (WX.then_normal (WC.seq (WC.region (?_))))))))
      refine WL.move rfl rfl (WL.move rfl rfl (?_))
      have hsd : isS s (k : Int) := ⟨by omega, by omega⟩
      refine WL.call eg_50 rfl rfl (whole_calls h hsd h12) ?_
      rintro v w5 ⟨⟨ao, c, rfl, hq⟩, k5⟩
      obtain ⟨L, eL⟩ : ∃ L, L = wholeL s k := ⟨_, rfl⟩
      have hLl : L.length ≤ 8 := by rw [eL, wholeL]; split; rw [outK_len]; omega; simp
      rw [← eL] at hq ⊢
      have zs_k5 := k5.size
      replace hb1 := hb1.pure k5
      replace hb2 := hb2.pure k5
      replace h := h.pure k5
      replace hw := hw.pure k5
      replace hq := hq.lt
      refine WL.move rfl rfl (WL.extract rfl rfl rfl (WL.extract rfl rfl rfl (WL.assign rfl rfl (WL.assign rfl rfl (WL.nil (WX.then_normal (WC.seq (?_))))))))
      refine WC.seq (WC.region (WL.move rfl rfl (?_)))
      refine WL.eql? rfl rfl rfl (fun h26 => ?_) (fun h26 => ?_)
      ·
        refine WL.nil (WX.then_normal (WC.cond_true rfl (WC.seq (WC.region (WL.bld rfl (bld_25_z) rfl (WL.move rfl rfl (?_)))))))
        refine WL.stores Tryd.sizeOf25 hb1 rfl rfl (by first | (simp; done) | (simp; omega) | rfl) (by first | exact Enc.one _ _ | (intro u hu; obtain ⟨x, _, rfl⟩ := List.mem_map.1 hu; rfl) | (simp [Value.oneCell']; done) | (simp [Value.oneCell', Value.cells]; done)) (by first | (simp; done) | (simp; omega) | (simp [Value.cells]; done) | (simp [Value.cells]; omega) | exact Nat.le_of_ble_eq_true rfl) rfl ?_
        intro w_3 hs_3 hn_3 k_3
        have zs_k_3 := k_3.size
        replace hb2 := hb2.chg k_3 (by first | (intro x h1 h2; exact h2) | (intro x h0 h1 h2; exact hS x h1 h2) | (intro x h0 h1 h2; have h3 : _ = _ := h2; subst h3; exact hSR h1.1) | (intro x h1 h2; have h3 : _ = _ := h2; subst h3; assumption) | (intro x h1 h2; have h3 : _ = _ := h2; exfalso; omega) | (intro b h1 h2 h3; have h4 : _ = _ := h3; (try dsimp only at h2); exfalso; omega) | (intro h1; have h2 : _ = _ := h1; exfalso; omega) | (intro h1; have h2 : _ ≤ _ := h1; exfalso; omega) | (intros; exfalso; (try dsimp only at *); omega) | (intro b h1 h2 h3; exfalso; have h4 := h3.2; (try dsimp only at *); omega) | (intro h1; exfalso; have h4 := h1.2; (try dsimp only at *); omega) | (intro x h1 h2; exfalso; have h4 := h2.2; (try dsimp only at *); omega) | (intro x h1 h2; exact ⟨_, rfl, h2⟩) | (intro x h1 h2; have h4 := h2.1; have h5 := h2.2; exfalso; omega) | (intro x h1 h2; exact h2.1) | (intro x h1 h2; rcases h2.1 with h3 | h3; exact h3; exfalso; omega) | (intro x h1 h2; rcases h2 with h3 | h3; exact h3; exfalso; omega))
        replace h := h.chg k_3 (by first | (intro x h1 h2; exact h2) | (intro x h0 h1 h2; exact hS x h1 h2) | (intro x h0 h1 h2; have h3 : _ = _ := h2; subst h3; exact hSR h1.1) | (intro x h1 h2; have h3 : _ = _ := h2; subst h3; assumption) | (intro x h1 h2; have h3 : _ = _ := h2; exfalso; omega) | (intro b h1 h2 h3; have h4 : _ = _ := h3; (try dsimp only at h2); exfalso; omega) | (intro h1; have h2 : _ = _ := h1; exfalso; omega) | (intro h1; have h2 : _ ≤ _ := h1; exfalso; omega) | (intros; exfalso; (try dsimp only at *); omega) | (intro b h1 h2 h3; exfalso; have h4 := h3.2; (try dsimp only at *); omega) | (intro h1; exfalso; have h4 := h1.2; (try dsimp only at *); omega) | (intro x h1 h2; exfalso; have h4 := h2.2; (try dsimp only at *); omega) | (intro x h1 h2; exact ⟨_, rfl, h2⟩) | (intro x h1 h2; have h4 := h2.1; have h5 := h2.2; exfalso; omega) | (intro x h1 h2; exact h2.1) | (intro x h1 h2; rcases h2.1 with h3 | h3; exact h3; exfalso; omega) | (intro x h1 h2; rcases h2 with h3 | h3; exact h3; exfalso; omega))
        replace hw := hw.chg k_3 (by first | (intro x h1 h2; exact h2) | (intro x h0 h1 h2; exact hS x h1 h2) | (intro x h0 h1 h2; have h3 : _ = _ := h2; subst h3; exact hSR h1.1) | (intro x h1 h2; have h3 : _ = _ := h2; subst h3; assumption) | (intro x h1 h2; have h3 : _ = _ := h2; exfalso; omega) | (intro b h1 h2 h3; have h4 : _ = _ := h3; (try dsimp only at h2); exfalso; omega) | (intro h1; have h2 : _ = _ := h1; exfalso; omega) | (intro h1; have h2 : _ ≤ _ := h1; exfalso; omega) | (intros; exfalso; (try dsimp only at *); omega) | (intro b h1 h2 h3; exfalso; have h4 := h3.2; (try dsimp only at *); omega) | (intro h1; exfalso; have h4 := h1.2; (try dsimp only at *); omega) | (intro x h1 h2; exfalso; have h4 := h2.2; (try dsimp only at *); omega) | (intro x h1 h2; exact ⟨_, rfl, h2⟩) | (intro x h1 h2; have h4 := h2.1; have h5 := h2.2; exfalso; omega) | (intro x h1 h2; exact h2.1) | (intro x h1 h2; rcases h2.1 with h3 | h3; exact h3; exfalso; omega) | (intro x h1 h2; rcases h2 with h3 | h3; exact h3; exfalso; omega))
        replace hq := hq.chg k_3 (by first | (intro x h1 h2; exact h2) | (intro x h0 h1 h2; exact hS x h1 h2) | (intro x h0 h1 h2; have h3 : _ = _ := h2; subst h3; exact hSR h1.1) | (intro x h1 h2; have h3 : _ = _ := h2; subst h3; assumption) | (intro x h1 h2; have h3 : _ = _ := h2; exfalso; omega) | (intro b h1 h2 h3; have h4 : _ = _ := h3; (try dsimp only at h2); exfalso; omega) | (intro h1; have h2 : _ = _ := h1; exfalso; omega) | (intro h1; have h2 : _ ≤ _ := h1; exfalso; omega) | (intros; exfalso; (try dsimp only at *); omega) | (intro b h1 h2 h3; exfalso; have h4 := h3.2; (try dsimp only at *); omega) | (intro h1; exfalso; have h4 := h1.2; (try dsimp only at *); omega) | (intro x h1 h2; exfalso; have h4 := h2.2; (try dsimp only at *); omega) | (intro x h1 h2; exact ⟨_, rfl, h2⟩) | (intro x h1 h2; have h4 := h2.1; have h5 := h2.2; exfalso; omega) | (intro x h1 h2; exact h2.1) | (intro x h1 h2; rcases h2.1 with h3 | h3; exact h3; exfalso; omega) | (intro x h1 h2; rcases h2 with h3 | h3; exact h3; exfalso; omega))
        replace hb1 := hn_3
        refine WL.assign rfl rfl (WL.nil (WX.then_normal (WC.ret (WX.then_ret (WX.block_ret (WX.then_ret (WX.then_ret (?_))))))))
        refine WX.block_ret (WX.then_ret (?_))
        refine WX.ret2c (.inl rfl) Tryd.results20 Tryd.isAgg25 Tryd.sizeOf25 hb1 rfl (by first | (simp; done) | (simp; omega) | rfl) rfl ?_
        first
          | (have hz : ¬ 8 < s.sn := h12
             obtain ⟨e1, e2⟩ := nw_right hz
             rw [e1, e2]
             exact ⟨_, rfl, rfl, hw⟩)
          | (have hz : errD s k = 16 := h26
             obtain ⟨e1, e2⟩ := nw_down h12 (d := k) (by omega) hz
             rw [e1, e2]
             refine ⟨_, rfl, ?_, hw⟩
             rw [← hz]
             rfl)
          | (have hkd : k = s.dn := by omega
             subst hkd
             have hno := down_no hE
             by_cases hc : (bestR s s.dn).t = 0
             ·
               obtain ⟨e1, e2⟩ := nw_none h12 hno hc
               rw [e1, e2]
               first
                 | exact ⟨_, rfl, rfl, hw⟩
                 | (exfalso; omega)
             ·
               obtain ⟨e1, e2⟩ := nw_some h12 hno hc
               rw [e1, e2]
               first
                 | exact ⟨_, rfl, rfl, hw⟩
                 | (exfalso; omega))
      ·
        refine WL.nil (WX.then_normal (WC.cond_false rfl (WC.skip (WX.then_normal (WC.seq (WC.region (WL.move rfl rfl (?_))))))))
        refine WL.len Tryd.underlying98 rfl rfl (WL.move rfl rfl (WL.nil (WX.then_normal (WC.block (?_)))))
        obtain ⟨n5, en5⟩ : ∃ n5, n5 = w5.heap.size := ⟨_, rfl⟩
        refine WC.loop (σ := Nat) (fun j => [(0, ptr R), (2, ptr g_1), (4, ptr g_2), (15, vi (s.dn : Int)), (16, vi (k : Int)), (29, .slice ao L.length c), (30, vi (L.length : Int)), (31, vi (j : Int))])
          (fun j w' => j ≤ L.length ∧ Blk w' g_1 25 (eub.f zeroU) ∧ Blk w' g_2 25 (eub.f ((L.take j).foldl better (bestR s k))) ∧ Row (fun x => w3.heap.size ≤ x ∧ x < n5) w' 25 eub ao c L ∧ n5 ≤ w'.heap.size ∧ RK (fun x => x < w.heap.size) w' R s ∧ Chg Nob w w') (fun j => L.length - j) 0 ⟨rfl, rfl, rfl, rfl, rfl, rfl, rfl, rfl, trivial⟩
          ⟨Nat.zero_le _, hb1, hb2, hq.mono (fun x hx => by omega), by omega, h, hw⟩ ?_
        clear hb1 hb2 hq h hw
        rintro j w6 ⟨hj, hb1, hb2, hq, hn5, h, hw⟩
        have lg11 := hb1.lt
        have lg22 := hb2.lt
        refine WC.seq (WC.region (?_))
        refine WL.lss? rfl rfl rfl (fun h32 => ?_) (fun h32 => ?_)
        ·
          refine WL.nil (WX.then_normal (WC.seq (WC.cond_true rfl (WC.skip (WX.then_normal (WC.seq (WC.block (?_))))))))
          refine WC.seq (WC.region (?_))
          obtain ⟨u, hu⟩ : ∃ u, L[j]? = some u := ⟨_, List.getElem?_eq_getElem (by omega)⟩
          refine WL.indexT Tryd.underlying98 Tryd.sizeOf25 hq.rsl rfl rfl ⟨hu, rfl⟩ rfl ?_
          intro b_3 o_3 hc_3
          refine WL.loads _ Tryd.isAgg25 Tryd.sizeOf25 rfl hc_3 rfl rfl (?_)
          refine WL.alloc Tryd.zeroValue25 rfl ?_
          intro g_4 w_4 hge_4 hlt_4 hb_4 k_4
          have zs_k_4 := k_4.size
          replace hb1 := hb1.pure k_4
          replace hb2 := hb2.pure k_4
          replace hq := hq.pure k_4
          replace h := h.pure k_4
          replace hw := hw.pure k_4
          refine WL.stores Tryd.sizeOf25 hb_4 rfl rfl (by first | (simp; done) | (simp; omega) | rfl) (by first | exact Enc.one _ _ | (intro u hu; obtain ⟨x, _, rfl⟩ := List.mem_map.1 hu; rfl) | (simp [Value.oneCell']; done) | (simp [Value.oneCell', Value.cells]; done)) (by first | (simp; done) | (simp; omega) | (simp [Value.cells]; done) | (simp [Value.cells]; omega) | exact Nat.le_of_ble_eq_true rfl) rfl ?_
          intro w_5 hs_5 hn_5 k_5
          have zs_k_5 := k_5.size
          replace hb1 := hb1.chg k_5 (by first | (intro x h1 h2; exact h2) | (intro x h0 h1 h2; exact hS x h1 h2) | (intro x h0 h1 h2; have h3 : _ = _ := h2; subst h3; exact hSR h1.1) | (intro x h1 h2; have h3 : _ = _ := h2; subst h3; assumption) | (intro x h1 h2; have h3 : _ = _ := h2; exfalso; omega) | (intro b h1 h2 h3; have h4 : _ = _ := h3; (try dsimp only at h2); exfalso; omega) | (intro h1; have h2 : _ = _ := h1; exfalso; omega) | (intro h1; have h2 : _ ≤ _ := h1; exfalso; omega) | (intros; exfalso; (try dsimp only at *); omega) | (intro b h1 h2 h3; exfalso; have h4 := h3.2; (try dsimp only at *); omega) | (intro h1; exfalso; have h4 := h1.2; (try dsimp only at *); omega) | (intro x h1 h2; exfalso; have h4 := h2.2; (try dsimp only at *); omega) | (intro x h1 h2; exact ⟨_, rfl, h2⟩) | (intro x h1 h2; have h4 := h2.1; have h5 := h2.2; exfalso; omega) | (intro x h1 h2; exact h2.1) | (intro x h1 h2; rcases h2.1 with h3 | h3; exact h3; exfalso; omega) | (intro x h1 h2; rcases h2 with h3 | h3; exact h3; exfalso; omega))
          replace hb2 := hb2.chg k_5 (by first | (intro x h1 h2; exact h2) | (intro x h0 h1 h2; exact hS x h1 h2) | (intro x h0 h1 h2; have h3 : _ = _ := h2; subst h3; exact hSR h1.1) | (intro x h1 h2; have h3 : _ = _ := h2; subst h3; assumption) | (intro x h1 h2; have h3 : _ = _ := h2; exfalso; omega) | (intro b h1 h2 h3; have h4 : _ = _ := h3; (try dsimp only at h2); exfalso; omega) | (intro h1; have h2 : _ = _ := h1; exfalso; omega) | (intro h1; have h2 : _ ≤ _ := h1; exfalso; omega) | (intros; exfalso; (try dsimp only at *); omega) | (intro b h1 h2 h3; exfalso; have h4 := h3.2; (try dsimp only at *); omega) | (intro h1; exfalso; have h4 := h1.2; (try dsimp only at *); omega) | (intro x h1 h2; exfalso; have h4 := h2.2; (try dsimp only at *); omega) | (intro x h1 h2; exact ⟨_, rfl, h2⟩) | (intro x h1 h2; have h4 := h2.1; have h5 := h2.2; exfalso; omega) | (intro x h1 h2; exact h2.1) | (intro x h1 h2; rcases h2.1 with h3 | h3; exact h3; exfalso; omega) | (intro x h1 h2; rcases h2 with h3 | h3; exact h3; exfalso; omega))
          replace hq := hq.chg k_5 (by first | (intro x h1 h2; exact h2) | (intro x h0 h1 h2; exact hS x h1 h2) | (intro x h0 h1 h2; have h3 : _ = _ := h2; subst h3; exact hSR h1.1) | (intro x h1 h2; have h3 : _ = _ := h2; subst h3; assumption) | (intro x h1 h2; have h3 : _ = _ := h2; exfalso; omega) | (intro b h1 h2 h3; have h4 : _ = _ := h3; (try dsimp only at h2); exfalso; omega) | (intro h1; have h2 : _ = _ := h1; exfalso; omega) | (intro h1; have h2 : _ ≤ _ := h1; exfalso; omega) | (intros; exfalso; (try dsimp only at *); omega) | (intro b h1 h2 h3; exfalso; have h4 := h3.2; (try dsimp only at *); omega) | (intro h1; exfalso; have h4 := h1.2; (try dsimp only at *); omega) | (intro x h1 h2; exfalso; have h4 := h2.2; (try dsimp only at *); omega) | (intro x h1 h2; exact ⟨_, rfl, h2⟩) | (intro x h1 h2; have h4 := h2.1; have h5 := h2.2; exfalso; omega) | (intro x h1 h2; exact h2.1) | (intro x h1 h2; rcases h2.1 with h3 | h3; exact h3; exfalso; omega) | (intro x h1 h2; rcases h2 with h3 | h3; exact h3; exfalso; omega))
          replace h := h.chg k_5 (by first | (intro x h1 h2; exact h2) | (intro x h0 h1 h2; exact hS x h1 h2) | (intro x h0 h1 h2; have h3 : _ = _ := h2; subst h3; exact hSR h1.1) | (intro x h1 h2; have h3 : _ = _ := h2; subst h3; assumption) | (intro x h1 h2; have h3 : _ = _ := h2; exfalso; omega) | (intro b h1 h2 h3; have h4 : _ = _ := h3; (try dsimp only at h2); exfalso; omega) | (intro h1; have h2 : _ = _ := h1; exfalso; omega) | (intro h1; have h2 : _ ≤ _ := h1; exfalso; omega) | (intros; exfalso; (try dsimp only at *); omega) | (intro b h1 h2 h3; exfalso; have h4 := h3.2; (try dsimp only at *); omega) | (intro h1; exfalso; have h4 := h1.2; (try dsimp only at *); omega) | (intro x h1 h2; exfalso; have h4 := h2.2; (try dsimp only at *); omega) | (intro x h1 h2; exact ⟨_, rfl, h2⟩) | (intro x h1 h2; have h4 := h2.1; have h5 := h2.2; exfalso; omega) | (intro x h1 h2; exact h2.1) | (intro x h1 h2; rcases h2.1 with h3 | h3; exact h3; exfalso; omega) | (intro x h1 h2; rcases h2 with h3 | h3; exact h3; exfalso; omega))
          replace hw := hw.chg k_5 (by first | (intro x h1 h2; exact h2) | (intro x h0 h1 h2; exact hS x h1 h2) | (intro x h0 h1 h2; have h3 : _ = _ := h2; subst h3; exact hSR h1.1) | (intro x h1 h2; have h3 : _ = _ := h2; subst h3; assumption) | (intro x h1 h2; have h3 : _ = _ := h2; exfalso; omega) | (intro b h1 h2 h3; have h4 : _ = _ := h3; (try dsimp only at h2); exfalso; omega) | (intro h1; have h2 : _ = _ := h1; exfalso; omega) | (intro h1; have h2 : _ ≤ _ := h1; exfalso; omega) | (intros; exfalso; (try dsimp only at *); omega) | (intro b h1 h2 h3; exfalso; have h4 := h3.2; (try dsimp only at *); omega) | (intro h1; exfalso; have h4 := h1.2; (try dsimp only at *); omega) | (intro x h1 h2; exfalso; have h4 := h2.2; (try dsimp only at *); omega) | (intro x h1 h2; exact ⟨_, rfl, h2⟩) | (intro x h1 h2; have h4 := h2.1; have h5 := h2.2; exfalso; omega) | (intro x h1 h2; exact h2.1) | (intro x h1 h2; rcases h2.1 with h3 | h3; exact h3; exfalso; omega) | (intro x h1 h2; rcases h2 with h3 | h3; exact h3; exfalso; omega))
          replace hb_4 := hn_5
          refine WL.nil (WX.then_normal (WC.seq (WC.region (WL.fieldAddr (fld_25_0) rfl rfl (?_)))))
          have hb9 := Blk.eqc (cs' := eub.f u) hb_4 rfl
          refine WL.loadB Tryd.isAgg3 hb9 rfl rfl rfl ?_
          refine WL.fieldAddr (fld_25_0) rfl rfl (WL.loadB Tryd.isAgg3 hb2 rfl rfl rfl (?_))
          refine WL.gtr? rfl rfl rfl (fun h39 => ?_) (fun h39 => ?_)
          ·
            refine WL.nil (WX.then_normal (WC.cond_true rfl (WC.region (?_))))
            refine WL.loads (eub.f u) Tryd.isAgg25 Tryd.sizeOf25 rfl (fun j v hj => by rw [Nat.zero_add]; exact hb9.cell hj) rfl rfl ?_
            refine WL.stores Tryd.sizeOf25 hb2 rfl rfl (by first | (simp; done) | (simp; omega) | rfl) (by first | exact Enc.one _ _ | (intro u hu; obtain ⟨x, _, rfl⟩ := List.mem_map.1 hu; rfl) | (simp [Value.oneCell']; done) | (simp [Value.oneCell', Value.cells]; done)) (by first | (simp; done) | (simp; omega) | (simp [Value.cells]; done) | (simp [Value.cells]; omega) | exact Nat.le_of_ble_eq_true rfl) rfl ?_
            intro w_6 hs_6 hn_6 k_6
            have zs_k_6 := k_6.size
            replace hb1 := hb1.chg k_6 (by first | (intro x h1 h2; exact h2) | (intro x h0 h1 h2; exact hS x h1 h2) | (intro x h0 h1 h2; have h3 : _ = _ := h2; subst h3; exact hSR h1.1) | (intro x h1 h2; have h3 : _ = _ := h2; subst h3; assumption) | (intro x h1 h2; have h3 : _ = _ := h2; exfalso; omega) | (intro b h1 h2 h3; have h4 : _ = _ := h3; (try dsimp only at h2); exfalso; omega) | (intro h1; have h2 : _ = _ := h1; exfalso; omega) | (intro h1; have h2 : _ ≤ _ := h1; exfalso; omega) | (intros; exfalso; (try dsimp only at *); omega) | (intro b h1 h2 h3; exfalso; have h4 := h3.2; (try dsimp only at *); omega) | (intro h1; exfalso; have h4 := h1.2; (try dsimp only at *); omega) | (intro x h1 h2; exfalso; have h4 := h2.2; (try dsimp only at *); omega) | (intro x h1 h2; exact ⟨_, rfl, h2⟩) | (intro x h1 h2; have h4 := h2.1; have h5 := h2.2; exfalso; omega) | (intro x h1 h2; exact h2.1) | (intro x h1 h2; rcases h2.1 with h3 | h3; exact h3; exfalso; omega) | (intro x h1 h2; rcases h2 with h3 | h3; exact h3; exfalso; omega))
            replace hq := hq.chg k_6 (by first | (intro x h1 h2; exact h2) | (intro x h0 h1 h2; exact hS x h1 h2) | (intro x h0 h1 h2; have h3 : _ = _ := h2; subst h3; exact hSR h1.1) | (intro x h1 h2; have h3 : _ = _ := h2; subst h3; assumption) | (intro x h1 h2; have h3 : _ = _ := h2; exfalso; omega) | (intro b h1 h2 h3; have h4 : _ = _ := h3; (try dsimp only at h2); exfalso; omega) | (intro h1; have h2 : _ = _ := h1; exfalso; omega) | (intro h1; have h2 : _ ≤ _ := h1; exfalso; omega) | (intros; exfalso; (try dsimp only at *); omega) | (intro b h1 h2 h3; exfalso; have h4 := h3.2; (try dsimp only at *); omega) | (intro h1; exfalso; have h4 := h1.2; (try dsimp only at *); omega) | (intro x h1 h2; exfalso; have h4 := h2.2; (try dsimp only at *); omega) | (intro x h1 h2; exact ⟨_, rfl, h2⟩) | (intro x h1 h2; have h4 := h2.1; have h5 := h2.2; exfalso; omega) | (intro x h1 h2; exact h2.1) | (intro x h1 h2; rcases h2.1 with h3 | h3; exact h3; exfalso; omega) | (intro x h1 h2; rcases h2 with h3 | h3; exact h3; exfalso; omega))
            replace h := h.chg k_6 (by first | (intro x h1 h2; exact h2) | (intro x h0 h1 h2; exact hS x h1 h2) | (intro x h0 h1 h2; have h3 : _ = _ := h2; subst h3; exact hSR h1.1) | (intro x h1 h2; have h3 : _ = _ := h2; subst h3; assumption) | (intro x h1 h2; have h3 : _ = _ := h2; exfalso; omega) | (intro b h1 h2 h3; have h4 : _ = _ := h3; (try dsimp only at h2); exfalso; omega) | (intro h1; have h2 : _ = _ := h1; exfalso; omega) | (intro h1; have h2 : _ ≤ _ := h1; exfalso; omega) | (intros; exfalso; (try dsimp only at *); omega) | (intro b h1 h2 h3; exfalso; have h4 := h3.2; (try dsimp only at *); omega) | (intro h1; exfalso; have h4 := h1.2; (try dsimp only at *); omega) | (intro x h1 h2; exfalso; have h4 := h2.2; (try dsimp only at *); omega) | (intro x h1 h2; exact ⟨_, rfl, h2⟩) | (intro x h1 h2; have h4 := h2.1; have h5 := h2.2; exfalso; omega) | (intro x h1 h2; exact h2.1) | (intro x h1 h2; rcases h2.1 with h3 | h3; exact h3; exfalso; omega) | (intro x h1 h2; rcases h2 with h3 | h3; exact h3; exfalso; omega))
            replace hw := hw.chg k_6 (by first | (intro x h1 h2; exact h2) | (intro x h0 h1 h2; exact hS x h1 h2) | (intro x h0 h1 h2; have h3 : _ = _ := h2; subst h3; exact hSR h1.1) | (intro x h1 h2; have h3 : _ = _ := h2; subst h3; assumption) | (intro x h1 h2; have h3 : _ = _ := h2; exfalso; omega) | (intro b h1 h2 h3; have h4 : _ = _ := h3; (try dsimp only at h2); exfalso; omega) | (intro h1; have h2 : _ = _ := h1; exfalso; omega) | (intro h1; have h2 : _ ≤ _ := h1; exfalso; omega) | (intros; exfalso; (try dsimp only at *); omega) | (intro b h1 h2 h3; exfalso; have h4 := h3.2; (try dsimp only at *); omega) | (intro h1; exfalso; have h4 := h1.2; (try dsimp only at *); omega) | (intro x h1 h2; exfalso; have h4 := h2.2; (try dsimp only at *); omega) | (intro x h1 h2; exact ⟨_, rfl, h2⟩) | (intro x h1 h2; have h4 := h2.1; have h5 := h2.2; exfalso; omega) | (intro x h1 h2; exact h2.1) | (intro x h1 h2; rcases h2.1 with h3 | h3; exact h3; exfalso; omega) | (intro x h1 h2; rcases h2 with h3 | h3; exact h3; exfalso; omega))
            replace hb9 := hb9.chg k_6 (by first | (intro x h1 h2; exact h2) | (intro x h0 h1 h2; exact hS x h1 h2) | (intro x h0 h1 h2; have h3 : _ = _ := h2; subst h3; exact hSR h1.1) | (intro x h1 h2; have h3 : _ = _ := h2; subst h3; assumption) | (intro x h1 h2; have h3 : _ = _ := h2; exfalso; omega) | (intro b h1 h2 h3; have h4 : _ = _ := h3; (try dsimp only at h2); exfalso; omega) | (intro h1; have h2 : _ = _ := h1; exfalso; omega) | (intro h1; have h2 : _ ≤ _ := h1; exfalso; omega) | (intros; exfalso; (try dsimp only at *); omega) | (intro b h1 h2 h3; exfalso; have h4 := h3.2; (try dsimp only at *); omega) | (intro h1; exfalso; have h4 := h1.2; (try dsimp only at *); omega) | (intro x h1 h2; exfalso; have h4 := h2.2; (try dsimp only at *); omega) | (intro x h1 h2; exact ⟨_, rfl, h2⟩) | (intro x h1 h2; have h4 := h2.1; have h5 := h2.2; exfalso; omega) | (intro x h1 h2; exact h2.1) | (intro x h1 h2; rcases h2.1 with h3 | h3; exact h3; exfalso; omega) | (intro x h1 h2; rcases h2 with h3 | h3; exact h3; exfalso; omega))
            replace hb2 := hn_6
            refine WL.nil (WX.block_normal (WX.then_normal (WC.region (WL.add64 rfl rfl (by first | omega | (constructor <;> omega)) rfl (WL.move rfl rfl (WL.nil (?_)))))))
            first
              | (have hz : (List.foldl better (bestR s k) (List.take j L)).t < u.t := h39
                 have e1 := fold_take L (bestR s k) hu
                 have hb2' := Blk.eqc (cs' := eub.f ((L.take (j + 1)).foldl better (bestR s k))) hb2 (by rw [e1, better, if_pos hz]; rfl)
                 exact WX.loop_next (j + 1) ⟨rfl, rfl, rfl, rfl, rfl, rfl, rfl, rfl, trivial⟩ ⟨by omega, hb1, hb2', hq, by omega, h, hw⟩ (by show _ - _ < _ - _; omega))
              | (have hz : u.t ≤ (List.foldl better (bestR s k) (List.take j L)).t := h39
                 have e1 := fold_take L (bestR s k) hu
                 have hb2' := Blk.eqc (cs' := eub.f ((L.take (j + 1)).foldl better (bestR s k))) hb2 (by rw [e1, better, if_neg (by omega)])
                 exact WX.loop_next (j + 1) ⟨rfl, rfl, rfl, rfl, rfl, rfl, rfl, rfl, trivial⟩ ⟨by omega, hb1, hb2', hq, by omega, h, hw⟩ (by show _ - _ < _ - _; omega))
              | (have hz : (L.length : Int) ≤ j := h32
                 have hjl : L.take j = L := List.take_of_length_le (by omega)
                 have hz2 : errD s k ≠ 16 := h26
                 have hb2' := Blk.eqc (cs' := eub.f (bestR s (k + 1))) hb2 (by rw [bestR, ← eL, hjl])
                 refine WX.loop_next (k + 1) ⟨rfl, rfl, rfl, rfl, rfl, trivial⟩ ⟨by omega, fun d hd => ?_, hb1, hb2', h, hw⟩ (by show _ - _ < _ - _; omega)
                 rcases Nat.lt_or_ge d k with h9 | h9
                 ·
                   exact hE d h9
                 ·
                   rw [show d = k from by omega]; exact hz2)
          ·
            refine WL.nil (WX.then_normal (WC.cond_false rfl (WC.skip (WX.block_normal (WX.then_normal (WC.region (WL.add64 rfl rfl (by first | omega | (constructor <;> omega)) rfl (?_))))))))
            refine WL.move rfl rfl (WL.nil (?_))
            first
              | (have hz : (List.foldl better (bestR s k) (List.take j L)).t < u.t := h39
                 have e1 := fold_take L (bestR s k) hu
                 have hb2' := Blk.eqc (cs' := eub.f ((L.take (j + 1)).foldl better (bestR s k))) hb2 (by rw [e1, better, if_pos hz]; rfl)
                 exact WX.loop_next (j + 1) ⟨rfl, rfl, rfl, rfl, rfl, rfl, rfl, rfl, trivial⟩ ⟨by omega, hb1, hb2', hq, by omega, h, hw⟩ (by show _ - _ < _ - _; omega))
              | (have hz : u.t ≤ (List.foldl better (bestR s k) (List.take j L)).t := h39
                 have e1 := fold_take L (bestR s k) hu
                 have hb2' := Blk.eqc (cs' := eub.f ((L.take (j + 1)).foldl better (bestR s k))) hb2 (by rw [e1, better, if_neg (by omega)])
                 exact WX.loop_next (j + 1) ⟨rfl, rfl, rfl, rfl, rfl, rfl, rfl, rfl, trivial⟩ ⟨by omega, hb1, hb2', hq, by omega, h, hw⟩ (by show _ - _ < _ - _; omega))
              | (have hz : (L.length : Int) ≤ j := h32
                 have hjl : L.take j = L := List.take_of_length_le (by omega)
                 have hz2 : errD s k ≠ 16 := h26
                 have hb2' := Blk.eqc (cs' := eub.f (bestR s (k + 1))) hb2 (by rw [bestR, ← eL, hjl])
                 refine WX.loop_next (k + 1) ⟨rfl, rfl, rfl, rfl, rfl, trivial⟩ ⟨by omega, fun d hd => ?_, hb1, hb2', h, hw⟩ (by show _ - _ < _ - _; omega)
                 rcases Nat.lt_or_ge d k with h9 | h9
                 ·
                   exact hE d h9
                 ·
                   rw [show d = k from by omega]; exact hz2)
        ·
          refine WL.nil (WX.then_normal (WC.seq (WC.cond_false rfl (WC.exit (WX.then_exit (WX.then_exit (WX.block_here (?_))))))))
          refine WX.block_normal (WX.then_normal (WC.region (WL.add64 rfl rfl (by first | omega | (constructor <;> omega)) rfl (WL.move rfl rfl (WL.nil (?_))))))
          first
            | (have hz : (List.foldl better (bestR s k) (List.take j L)).t < u.t := h39
               have e1 := fold_take L (bestR s k) hu
               have hb2' := Blk.eqc (cs' := eub.f ((L.take (j + 1)).foldl better (bestR s k))) hb2 (by rw [e1, better, if_pos hz]; rfl)
               exact WX.loop_next (j + 1) ⟨rfl, rfl, rfl, rfl, rfl, rfl, rfl, rfl, trivial⟩ ⟨by omega, hb1, hb2', hq, by omega, h, hw⟩ (by show _ - _ < _ - _; omega))
            | (have hz : u.t ≤ (List.foldl better (bestR s k) (List.take j L)).t := h39
               have e1 := fold_take L (bestR s k) hu
               have hb2' := Blk.eqc (cs' := eub.f ((L.take (j + 1)).foldl better (bestR s k))) hb2 (by rw [e1, better, if_neg (by omega)])
               exact WX.loop_next (j + 1) ⟨rfl, rfl, rfl, rfl, rfl, rfl, rfl, rfl, trivial⟩ ⟨by omega, hb1, hb2', hq, by omega, h, hw⟩ (by show _ - _ < _ - _; omega))
            | (have hz : (L.length : Int) ≤ j := h32
               have hjl : L.take j = L := List.take_of_length_le (by omega)
               have hz2 : errD s k ≠ 16 := h26
               have hb2' := Blk.eqc (cs' := eub.f (bestR s (k + 1))) hb2 (by rw [bestR, ← eL, hjl])
               refine WX.loop_next (k + 1) ⟨rfl, rfl, rfl, rfl, rfl, trivial⟩ ⟨by omega, fun d hd => ?_, hb1, hb2', h, hw⟩ (by show _ - _ < _ - _; omega)
               rcases Nat.lt_or_ge d k with h9 | h9
               ·
                 exact hE d h9
               ·
                 rw [show d = k from by omega]; exact hz2)
    ·
      refine WL.nil (WX.then_normal (WC.seq (WC.cond_false rfl (WC.exit (WX.then_exit (WX.then_exit (WX.block_here (?_))))))))
      refine WX.then_normal (WC.seq (WC.seq (WC.region (WL.fieldAddr (fld_25_0) rfl rfl (WL.loadB Tryd.isAgg3 hb2 rfl rfl rfl (?_))))))
      refine WL.eql? rfl rfl rfl (fun h45 => ?_) (fun h45 => ?_)
      ·
        refine WL.nil (WX.then_normal (WC.cond_true rfl (WC.seq (WC.region (WL.bld rfl (bld_25_z) rfl (?_))))))
        refine WL.stores Tryd.sizeOf25 hb1 rfl rfl (by first | (simp; done) | (simp; omega) | rfl) (by first | exact Enc.one _ _ | (intro u hu; obtain ⟨x, _, rfl⟩ := List.mem_map.1 hu; rfl) | (simp [Value.oneCell']; done) | (simp [Value.oneCell', Value.cells]; done)) (by first | (simp; done) | (simp; omega) | (simp [Value.cells]; done) | (simp [Value.cells]; omega) | exact Nat.le_of_ble_eq_true rfl) rfl ?_
        intro w_3 hs_3 hn_3 k_3
        have zs_k_3 := k_3.size
        replace hb2 := hb2.chg k_3 (by first | (intro x h1 h2; exact h2) | (intro x h0 h1 h2; exact hS x h1 h2) | (intro x h0 h1 h2; have h3 : _ = _ := h2; subst h3; exact hSR h1.1) | (intro x h1 h2; have h3 : _ = _ := h2; subst h3; assumption) | (intro x h1 h2; have h3 : _ = _ := h2; exfalso; omega) | (intro b h1 h2 h3; have h4 : _ = _ := h3; (try dsimp only at h2); exfalso; omega) | (intro h1; have h2 : _ = _ := h1; exfalso; omega) | (intro h1; have h2 : _ ≤ _ := h1; exfalso; omega) | (intros; exfalso; (try dsimp only at *); omega) | (intro b h1 h2 h3; exfalso; have h4 := h3.2; (try dsimp only at *); omega) | (intro h1; exfalso; have h4 := h1.2; (try dsimp only at *); omega) | (intro x h1 h2; exfalso; have h4 := h2.2; (try dsimp only at *); omega) | (intro x h1 h2; exact ⟨_, rfl, h2⟩) | (intro x h1 h2; have h4 := h2.1; have h5 := h2.2; exfalso; omega) | (intro x h1 h2; exact h2.1) | (intro x h1 h2; rcases h2.1 with h3 | h3; exact h3; exfalso; omega) | (intro x h1 h2; rcases h2 with h3 | h3; exact h3; exfalso; omega))
        replace h := h.chg k_3 (by first | (intro x h1 h2; exact h2) | (intro x h0 h1 h2; exact hS x h1 h2) | (intro x h0 h1 h2; have h3 : _ = _ := h2; subst h3; exact hSR h1.1) | (intro x h1 h2; have h3 : _ = _ := h2; subst h3; assumption) | (intro x h1 h2; have h3 : _ = _ := h2; exfalso; omega) | (intro b h1 h2 h3; have h4 : _ = _ := h3; (try dsimp only at h2); exfalso; omega) | (intro h1; have h2 : _ = _ := h1; exfalso; omega) | (intro h1; have h2 : _ ≤ _ := h1; exfalso; omega) | (intros; exfalso; (try dsimp only at *); omega) | (intro b h1 h2 h3; exfalso; have h4 := h3.2; (try dsimp only at *); omega) | (intro h1; exfalso; have h4 := h1.2; (try dsimp only at *); omega) | (intro x h1 h2; exfalso; have h4 := h2.2; (try dsimp only at *); omega) | (intro x h1 h2; exact ⟨_, rfl, h2⟩) | (intro x h1 h2; have h4 := h2.1; have h5 := h2.2; exfalso; omega) | (intro x h1 h2; exact h2.1) | (intro x h1 h2; rcases h2.1 with h3 | h3; exact h3; exfalso; omega) | (intro x h1 h2; rcases h2 with h3 | h3; exact h3; exfalso; omega))
        replace hw := hw.chg k_3 (by first | (intro x h1 h2; exact h2) | (intro x h0 h1 h2; exact hS x h1 h2) | (intro x h0 h1 h2; have h3 : _ = _ := h2; subst h3; exact hSR h1.1) | (intro x h1 h2; have h3 : _ = _ := h2; subst h3; assumption) | (intro x h1 h2; have h3 : _ = _ := h2; exfalso; omega) | (intro b h1 h2 h3; have h4 : _ = _ := h3; (try dsimp only at h2); exfalso; omega) | (intro h1; have h2 : _ = _ := h1; exfalso; omega) | (intro h1; have h2 : _ ≤ _ := h1; exfalso; omega) | (intros; exfalso; (try dsimp only at *); omega) | (intro b h1 h2 h3; exfalso; have h4 := h3.2; (try dsimp only at *); omega) | (intro h1; exfalso; have h4 := h1.2; (try dsimp only at *); omega) | (intro x h1 h2; exfalso; have h4 := h2.2; (try dsimp only at *); omega) | (intro x h1 h2; exact ⟨_, rfl, h2⟩) | (intro x h1 h2; have h4 := h2.1; have h5 := h2.2; exfalso; omega) | (intro x h1 h2; exact h2.1) | (intro x h1 h2; rcases h2.1 with h3 | h3; exact h3; exfalso; omega) | (intro x h1 h2; rcases h2 with h3 | h3; exact h3; exfalso; omega))
        replace hb1 := hn_3
        refine WL.assign rfl rfl (WL.nil (WX.then_normal (WC.ret (WX.then_ret (?_)))))
        refine WX.ret2c (.inl rfl) Tryd.results20 Tryd.isAgg25 Tryd.sizeOf25 hb1 rfl (by first | (simp; done) | (simp; omega) | rfl) rfl ?_
        first
          | (have hz : ¬ 8 < s.sn := h12
             obtain ⟨e1, e2⟩ := nw_right hz
             rw [e1, e2]
             exact ⟨_, rfl, rfl, hw⟩)
          | (have hz : errD s k = 16 := h26
             obtain ⟨e1, e2⟩ := nw_down h12 (d := k) (by omega) hz
             rw [e1, e2]
             refine ⟨_, rfl, ?_, hw⟩
             rw [← hz]
             rfl)
          | (have hkd : k = s.dn := by omega
             subst hkd
             have hno := down_no hE
             by_cases hc : (bestR s s.dn).t = 0
             ·
               obtain ⟨e1, e2⟩ := nw_none h12 hno hc
               rw [e1, e2]
               first
                 | exact ⟨_, rfl, rfl, hw⟩
                 | (exfalso; omega)
             ·
               obtain ⟨e1, e2⟩ := nw_some h12 hno hc
               rw [e1, e2]
               first
                 | exact ⟨_, rfl, rfl, hw⟩
                 | (exfalso; omega))
      ·
        refine WL.nil (WX.then_normal (WC.cond_false rfl (WC.skip (WX.then_normal (WC.seq (WC.region (WL.loadsB Tryd.isAgg25 Tryd.sizeOf25 hb2 rfl (by first | (simp; done) | (simp; omega) | rfl) rfl (?_))))))))
        refine WL.stores Tryd.sizeOf25 hb1 rfl rfl (by first | (simp; done) | (simp; omega) | rfl) (by first | exact Enc.one _ _ | (intro u hu; obtain ⟨x, _, rfl⟩ := List.mem_map.1 hu; rfl) | (simp [Value.oneCell']; done) | (simp [Value.oneCell', Value.cells]; done)) (by first | (simp; done) | (simp; omega) | (simp [Value.cells]; done) | (simp [Value.cells]; omega) | exact Nat.le_of_ble_eq_true rfl) rfl ?_
        intro w_3 hs_3 hn_3 k_3
        have zs_k_3 := k_3.size
        replace hb2 := hb2.chg k_3 (by first | (intro x h1 h2; exact h2) | (intro x h0 h1 h2; exact hS x h1 h2) | (intro x h0 h1 h2; have h3 : _ = _ := h2; subst h3; exact hSR h1.1) | (intro x h1 h2; have h3 : _ = _ := h2; subst h3; assumption) | (intro x h1 h2; have h3 : _ = _ := h2; exfalso; omega) | (intro b h1 h2 h3; have h4 : _ = _ := h3; (try dsimp only at h2); exfalso; omega) | (intro h1; have h2 : _ = _ := h1; exfalso; omega) | (intro h1; have h2 : _ ≤ _ := h1; exfalso; omega) | (intros; exfalso; (try dsimp only at *); omega) | (intro b h1 h2 h3; exfalso; have h4 := h3.2; (try dsimp only at *); omega) | (intro h1; exfalso; have h4 := h1.2; (try dsimp only at *); omega) | (intro x h1 h2; exfalso; have h4 := h2.2; (try dsimp only at *); omega) | (intro x h1 h2; exact ⟨_, rfl, h2⟩) | (intro x h1 h2; have h4 := h2.1; have h5 := h2.2; exfalso; omega) | (intro x h1 h2; exact h2.1) | (intro x h1 h2; rcases h2.1 with h3 | h3; exact h3; exfalso; omega) | (intro x h1 h2; rcases h2 with h3 | h3; exact h3; exfalso; omega))
        replace h := h.chg k_3 (by first | (intro x h1 h2; exact h2) | (intro x h0 h1 h2; exact hS x h1 h2) | (intro x h0 h1 h2; have h3 : _ = _ := h2; subst h3; exact hSR h1.1) | (intro x h1 h2; have h3 : _ = _ := h2; subst h3; assumption) | (intro x h1 h2; have h3 : _ = _ := h2; exfalso; omega) | (intro b h1 h2 h3; have h4 : _ = _ := h3; (try dsimp only at h2); exfalso; omega) | (intro h1; have h2 : _ = _ := h1; exfalso; omega) | (intro h1; have h2 : _ ≤ _ := h1; exfalso; omega) | (intros; exfalso; (try dsimp only at *); omega) | (intro b h1 h2 h3; exfalso; have h4 := h3.2; (try dsimp only at *); omega) | (intro h1; exfalso; have h4 := h1.2; (try dsimp only at *); omega) | (intro x h1 h2; exfalso; have h4 := h2.2; (try dsimp only at *); omega) | (intro x h1 h2; exact ⟨_, rfl, h2⟩) | (intro x h1 h2; have h4 := h2.1; have h5 := h2.2; exfalso; omega) | (intro x h1 h2; exact h2.1) | (intro x h1 h2; rcases h2.1 with h3 | h3; exact h3; exfalso; omega) | (intro x h1 h2; rcases h2 with h3 | h3; exact h3; exfalso; omega))
        replace hw := hw.chg k_3 (by first | (intro x h1 h2; exact h2) | (intro x h0 h1 h2; exact hS x h1 h2) | (intro x h0 h1 h2; have h3 : _ = _ := h2; subst h3; exact hSR h1.1) | (intro x h1 h2; have h3 : _ = _ := h2; subst h3; assumption) | (intro x h1 h2; have h3 : _ = _ := h2; exfalso; omega) | (intro b h1 h2 h3; have h4 : _ = _ := h3; (try dsimp only at h2); exfalso; omega) | (intro h1; have h2 : _ = _ := h1; exfalso; omega) | (intro h1; have h2 : _ ≤ _ := h1; exfalso; omega) | (intros; exfalso; (try dsimp only at *); omega) | (intro b h1 h2 h3; exfalso; have h4 := h3.2; (try dsimp only at *); omega) | (intro h1; exfalso; have h4 := h1.2; (try dsimp only at *); omega) | (intro x h1 h2; exfalso; have h4 := h2.2; (try dsimp only at *); omega) | (intro x h1 h2; exact ⟨_, rfl, h2⟩) | (intro x h1 h2; have h4 := h2.1; have h5 := h2.2; exfalso; omega) | (intro x h1 h2; exact h2.1) | (intro x h1 h2; rcases h2.1 with h3 | h3; exact h3; exfalso; omega) | (intro x h1 h2; rcases h2 with h3 | h3; exact h3; exfalso; omega))
        replace hb1 := hn_3
        refine WL.assign rfl rfl (WL.nil (WX.then_normal (WC.ret (?_))))
        refine WX.ret2c (.inl rfl) Tryd.results20 Tryd.isAgg25 Tryd.sizeOf25 hb1 rfl (by first | (simp; done) | (simp; omega) | rfl) rfl ?_
        first
          | (have hz : ¬ 8 < s.sn := h12
             obtain ⟨e1, e2⟩ := nw_right hz
             rw [e1, e2]
             exact ⟨_, rfl, rfl, hw⟩)
          | (have hz : errD s k = 16 := h26
             obtain ⟨e1, e2⟩ := nw_down h12 (d := k) (by omega) hz
             rw [e1, e2]
             refine ⟨_, rfl, ?_, hw⟩
             rw [← hz]
             rfl)
          | (have hkd : k = s.dn := by omega
             subst hkd
             have hno := down_no hE
             by_cases hc : (bestR s s.dn).t = 0
             ·
               obtain ⟨e1, e2⟩ := nw_none h12 hno hc
               rw [e1, e2]
               first
                 | exact ⟨_, rfl, rfl, hw⟩
                 | (exfalso; omega)
             ·
               obtain ⟨e1, e2⟩ := nw_some h12 hno hc
               rw [e1, e2]
               first
                 | exact ⟨_, rfl, rfl, hw⟩
                 | (exfalso; omega))
  ·
    rw [decide_eq_false h12]
    refine WL.not rfl rfl (WL.nil (WX.then_normal (WC.cond_true rfl (WC.seq (WC.region (WL.bld rfl (bld_25_z) rfl (?_)))))))
    refine WL.stores Tryd.sizeOf25 hb_1 rfl rfl (by first | (simp; done) | (simp; omega) | rfl) (by first | exact Enc.one _ _ | (intro u hu; obtain ⟨x, _, rfl⟩ := List.mem_map.1 hu; rfl) | (simp [Value.oneCell']; done) | (simp [Value.oneCell', Value.cells]; done)) (by first | (simp; done) | (simp; omega) | (simp [Value.cells]; done) | (simp [Value.cells]; omega) | exact Nat.le_of_ble_eq_true rfl) rfl ?_
    intro w_2 hs_2 hn_2 k_2
    have zs_k_2 := k_2.size
    replace h := h.chg k_2 (by first | (intro x h1 h2; exact h2) | (intro x h0 h1 h2; exact hS x h1 h2) | (intro x h0 h1 h2; have h3 : _ = _ := h2; subst h3; exact hSR h1.1) | (intro x h1 h2; have h3 : _ = _ := h2; subst h3; assumption) | (intro x h1 h2; have h3 : _ = _ := h2; exfalso; omega) | (intro b h1 h2 h3; have h4 : _ = _ := h3; (try dsimp only at h2); exfalso; omega) | (intro h1; have h2 : _ = _ := h1; exfalso; omega) | (intro h1; have h2 : _ ≤ _ := h1; exfalso; omega) | (intros; exfalso; (try dsimp only at *); omega) | (intro b h1 h2 h3; exfalso; have h4 := h3.2; (try dsimp only at *); omega) | (intro h1; exfalso; have h4 := h1.2; (try dsimp only at *); omega) | (intro x h1 h2; exfalso; have h4 := h2.2; (try dsimp only at *); omega) | (intro x h1 h2; exact ⟨_, rfl, h2⟩) | (intro x h1 h2; have h4 := h2.1; have h5 := h2.2; exfalso; omega) | (intro x h1 h2; exact h2.1) | (intro x h1 h2; rcases h2.1 with h3 | h3; exact h3; exfalso; omega) | (intro x h1 h2; rcases h2 with h3 | h3; exact h3; exfalso; omega))
    replace hw := hw.chg k_2 (by first | (intro x h1 h2; exact h2) | (intro x h0 h1 h2; exact hS x h1 h2) | (intro x h0 h1 h2; have h3 : _ = _ := h2; subst h3; exact hSR h1.1) | (intro x h1 h2; have h3 : _ = _ := h2; subst h3; assumption) | (intro x h1 h2; have h3 : _ = _ := h2; exfalso; omega) | (intro b h1 h2 h3; have h4 : _ = _ := h3; (try dsimp only at h2); exfalso; omega) | (intro h1; have h2 : _ = _ := h1; exfalso; omega) | (intro h1; have h2 : _ ≤ _ := h1; exfalso; omega) | (intros; exfalso; (try dsimp only at *); omega) | (intro b h1 h2 h3; exfalso; have h4 := h3.2; (try dsimp only at *); omega) | (intro h1; exfalso; have h4 := h1.2; (try dsimp only at *); omega) | (intro x h1 h2; exfalso; have h4 := h2.2; (try dsimp only at *); omega) | (intro x h1 h2; exact ⟨_, rfl, h2⟩) | (intro x h1 h2; have h4 := h2.1; have h5 := h2.2; exfalso; omega) | (intro x h1 h2; exact h2.1) | (intro x h1 h2; rcases h2.1 with h3 | h3; exact h3; exfalso; omega) | (intro x h1 h2; rcases h2 with h3 | h3; exact h3; exfalso; omega))
    replace hb_1 := hn_2
    refine WL.assign rfl rfl (WL.nil (WX.then_normal (WC.ret (WX.then_ret (?_)))))
    refine WX.ret2c (.inl rfl) Tryd.results20 Tryd.isAgg25 Tryd.sizeOf25 hb_1 rfl (by first | (simp; done) | (simp; omega) | rfl) rfl ?_
    first
      | (have hz : ¬ 8 < s.sn := h12
         obtain ⟨e1, e2⟩ := nw_right hz
         rw [e1, e2]
         exact ⟨_, rfl, rfl, hw⟩)
      | (have hz : errD s k = 16 := h26
         obtain ⟨e1, e2⟩ := nw_down h12 (d := k) (by omega) hz
         rw [e1, e2]
         refine ⟨_, rfl, ?_, hw⟩
         rw [← hz]
         rfl)
      | (have hkd : k = s.dn := by omega
         subst hkd
         have hno := down_no hE
         by_cases hc : (bestR s s.dn).t = 0
         ·
           obtain ⟨e1, e2⟩ := nw_none h12 hno hc
           rw [e1, e2]
           first
             | exact ⟨_, rfl, rfl, hw⟩
             | (exfalso; omega)
         ·
           obtain ⟨e1, e2⟩ := nw_some h12 hno hc
           rw [e1, e2]
           first
             | exact ⟨_, rfl, rfl, hw⟩
             | (exfalso; omega))
end Go.Proofs.YtjeldcjchipdgaaDoor
namespace Go.Proofs.YtjeldcjchipdgaaDoor
open Go.RowKit Go.HL
set_option maxRecDepth 100000

/-! plain: what is read behind what was written -/
theorem dec_enc {u : UbV} (h : encE u = 0) (hw : WfU u) : decU (encB u) = some u := by
  obtain ⟨t1, t2, t3, t4⟩ := encE_t h
  have hu := un_sec t3 (uit_rit hw)
  have hp := unp_ptr t1 hw.2
  unfold decU
  rw [encB, if_pos ⟨t1, t2⟩, hu]
  simp [uit, hp, t2]
theorem zeros_no : decU zeros = none := by
  refine decU_bad (.inl ?_)
  have hz : unS zeros = none := by
    unfold unS
    rw [if_neg]
    rintro ⟨_, _, _, h⟩
    have h0 : ((zeros.take (1 + (zeros.getD 0 0).toNat)).drop 1) = [] := by decide +kernel
    rw [h0] at h
    exact absurd h (by decide)
  rw [(un_none hz).2]
  decide
theorem slot_zeros {s : RA} {d : Int} {a : Nat} (h : heldS s (d, a) = zeros) : slotU s d a = ⟨-1, zeroP⟩ := by
  rw [slotU, h, (decU_no zeros_no).2, if_neg (fun h => absurd h.1 (by decide))]
theorem slot_enc {s : RA} {d : Int} {a : Nat} {u : UbV} (h : heldS s (d, a) = encB u) (hE : encE u = 0) (hw : WfU u) (ha : u.t % 8 = a) : slotU s d a = u := by
  obtain ⟨e1, e2⟩ := decU_yes (dec_enc hE hw)
  rw [slotU, h, e1, e2, if_pos ⟨rfl, ha⟩]
/-- the drives that are written -/
def addAll (s : RA) (a : Int) (B : List UInt8) : Nat → RA
  | 0 => s
  | k + 1 => if goneS s (k : Nat) = true then addAll s a B k else addS (addAll s a B k) ((k : Nat), a) B
def cntD (s : RA) : Nat → Nat
  | 0 => 0
  | k + 1 => if goneS s (k : Nat) = true then cntD s k else cntD s k + 1
theorem addAll_dn (s : RA) (a : Int) (B : List UInt8) (k : Nat) : (addAll s a B k).dn = s.dn ∧ (addAll s a B k).sn = s.sn ∧ (addAll s a B k).gone = s.gone ∧ (addAll s a B k).off = s.off ∧ (addAll s a B k).armed = s.armed ∧ (addAll s a B k).last = s.last := by
  induction k with
  | zero => exact ⟨rfl, rfl, rfl, rfl, rfl, rfl⟩
  | succ k ih =>
    rw [addAll]
    split
    · exact ih
    · exact ih
theorem addAll_up {s : RA} (h : Up s) (a : Int) (B : List UInt8) (k : Nat) : Up (addAll s a B k) :=
  ⟨(addAll_dn s a B k).2.2.2.1.trans h.off, (addAll_dn s a B k).2.2.2.2.1.trans h.armed⟩
theorem addAll_gone (s : RA) (a : Int) (B : List UInt8) (k : Nat) (d : Int) : goneS (addAll s a B k) d = goneS s d := by
  unfold goneS
  rw [(addAll_dn s a B k).2.2.1]
theorem addAll_held (s : RA) (a : Int) (B : List UInt8) (k : Nat) (q : Pl) : heldS (addAll s a B k) q = if (∃ d, d < k ∧ q = (((d : Nat) : Int), a) ∧ goneS s (d : Nat) = false) then B else heldS s q := by
  induction k with
  | zero =>
    rw [if_neg]
    · rfl
    · rintro ⟨d, hd, _⟩
      omega
  | succ k ih =>
    rw [addAll]
    by_cases hg : goneS s (k : Nat) = true
    · rw [if_pos hg, ih]
      have : (∃ d, d < k ∧ q = (((d : Nat) : Int), a) ∧ goneS s (d : Nat) = false) ↔ (∃ d, d < k + 1 ∧ q = (((d : Nat) : Int), a) ∧ goneS s (d : Nat) = false) := by
        constructor
        · rintro ⟨d, h1, h2, h3⟩
          exact ⟨d, by omega, h2, h3⟩
        · rintro ⟨d, h1, h2, h3⟩
          refine ⟨d, ?_, h2, h3⟩
          rcases Nat.lt_or_ge d k with h4 | h4
          · exact h4
          · have : d = k := by omega
            subst this
            rw [hg] at h3
            cases h3
      simp only [this]
    · rw [if_neg hg, addS_held]
      by_cases hq : q = (((k : Nat) : Int), a)
      · rw [if_pos hq, if_pos ⟨k, by omega, hq, by simpa using hg⟩]
      · rw [if_neg hq, ih]
        have : (∃ d, d < k ∧ q = (((d : Nat) : Int), a) ∧ goneS s (d : Nat) = false) ↔ (∃ d, d < k + 1 ∧ q = (((d : Nat) : Int), a) ∧ goneS s (d : Nat) = false) := by
          constructor
          · rintro ⟨d, h1, h2, h3⟩
            exact ⟨d, by omega, h2, h3⟩
          · rintro ⟨d, h1, h2, h3⟩
            refine ⟨d, ?_, h2, h3⟩
            rcases Nat.lt_or_ge d k with h4 | h4
            · exact h4
            · have : d = k := by omega
              subst this
              exact absurd h2 hq
        simp only [this]
theorem lwR_up {s : RA} (h : Up s) (hs : 8 < s.sn) {a : Int} (ha : 0 ≤ a ∧ a < 8) {B : List UInt8} (hB : B.length = 128) (k : Nat) (hk : k ≤ s.dn) : lwR s a B k = (addAll s a B k, cntD s k, 0) := by
  induction k with
  | zero => rfl
  | succ k ih =>
    have ih := ih (by omega)
    have hi : inS (addAll s a B k) (k : Nat) a := by
      unfold inS
      rw [(addAll_dn s a B k).1, (addAll_dn s a B k).2.1]
      omega
    rw [lwR, ih]
    simp only [ne_eq, not_true_eq_false, if_false]
    cases hg : goneS s (k : Nat) with
    | false =>
      obtain ⟨e1, e2⟩ := (addAll_up h a B k).write hi (by rw [addAll_gone]; exact hg) hB
      rw [if_pos e1, e2, addAll, cntD, if_neg (by rw [hg]; decide), if_neg (by rw [hg]; decide)]
    | true =>
      have e1 : writeE (addAll s a B k) (k : Nat) a B.length = 3 := by
        unfold writeE
        rw [if_neg (fun x => x.elim (fun y => y hi) (fun y => y hB)), if_pos (by rw [addAll_gone]; exact hg)]
      have e2 : writeS (addAll s a B k) (k : Nat) a B = addAll s a B k := by
        unfold writeS
        rw [e1, if_neg (by decide), if_neg (by decide)]
      rw [e1, if_neg (by decide), if_pos rfl, e2, addAll, cntD, if_pos hg, if_pos hg]
theorem lw_up {s : RA} (h : Up s) (hs : 8 < s.sn) {u : UbV} (hE : encE u = 0) : lwS s u = addAll s (u.t % 8) (encB u) s.dn ∧ lwN s u = cntD s s.dn ∧ lwE s u = if cntD s s.dn = 0 then 4 else 0 := by
  obtain ⟨t1, t2, t3, t4⟩ := encE_t hE
  have e := lwR_up h hs (a := u.t % 8) (by omega) t4 s.dn (Nat.le_refl _)
  obtain ⟨e1, e2, e3⟩ := lw_end hs hE rfl rfl (by rw [e])
  rw [e1, e2, e3, e]
  exact ⟨rfl, rfl, rfl⟩
/-! the newest -/
theorem fold_best (u : UbV) : ∀ (l : List UbV) (b : UbV), (∀ x ∈ l, x.t ≤ u.t ∧ (x.t = u.t → x = u)) → (b.t ≤ u.t ∧ (b.t = u.t → b = u)) → (u ∈ l ∨ b = u) → l.foldl better b = u
  | [], b, _, _, h => by
    rcases h with h | h
    · cases h
    · exact h
  | x :: l, b, hl, hb, h => by
    have hx := hl x (.head _)
    have hb2 : (better b x).t ≤ u.t ∧ ((better b x).t = u.t → better b x = u) := by
      unfold better
      split
      · exact hx
      · exact hb
    refine fold_best u l (better b x) (fun y hy => hl y (.tail _ hy)) hb2 ?_
    rcases h with h | h
    · rcases List.mem_cons.1 h with h1 | h1
      · right
        subst h1
        unfold better
        split
        · rfl
        · exact hb.2 (by omega)
      · exact .inl h1
    · right
      subst h
      unfold better
      split
      · exfalso; have := hx.1; omega
      · rfl
theorem bestR_fold (s : RA) (k : Nat) : bestR s k = ((List.range k).flatMap fun d => wholeL s (d : Nat)).foldl better zeroU := by
  induction k with
  | zero => rfl
  | succ k ih => rw [bestR, ih, List.range_succ, List.flatMap_append, List.foldl_append]; simp
theorem mem_whole {s : RA} {d : Int} {x : UbV} : x ∈ wholeL s d ↔ errD s d = 0 ∧ ∃ a, a < 8 ∧ slotU s d a = x := by
  unfold wholeL
  split
  · rename_i h
    simp only [outK, List.mem_map, List.mem_range]
    constructor
    · rintro ⟨a, ha, hx⟩
      rw [if_pos ha] at hx
      exact ⟨h, a, ha, hx⟩
    · rintro ⟨_, a, ha, hx⟩
      exact ⟨a, ha, by rw [if_pos ha, hx]⟩
  · rename_i h
    constructor
    · intro h1; cases h1
    · rintro ⟨h1, _⟩; exact absurd h1 h
theorem best_is {s : RA} {u : UbV} (h0 : 0 < u.t) (h1 : ∃ d, d < s.dn ∧ errD s (d : Nat) = 0 ∧ ∃ a, a < 8 ∧ slotU s (d : Nat) a = u)
    (h2 : ∀ d, d < s.dn → errD s (d : Nat) = 0 → ∀ a, a < 8 → (slotU s (d : Nat) a).t ≤ u.t ∧ ((slotU s (d : Nat) a).t = u.t → slotU s (d : Nat) a = u)) : bestR s s.dn = u := by
  rw [bestR_fold]
  refine fold_best u _ _ (fun x hx => ?_) ⟨by show (0 : Int) ≤ _; omega, fun h => by have : (0 : Int) = u.t := h; omega⟩ (.inl ?_)
  · obtain ⟨d, hd, hx⟩ := List.mem_flatMap.1 hx
    obtain ⟨he, a, ha, rfl⟩ := mem_whole.1 hx
    exact h2 d (List.mem_range.1 hd) he a ha
  · obtain ⟨d, hd, he, ha⟩ := h1
    exact List.mem_flatMap.2 ⟨d, List.mem_range.2 hd, mem_whole.2 ⟨he, ha⟩⟩
theorem best_none {s : RA} (h : ∀ d, d < s.dn → errD s (d : Nat) = 0 → ∀ a, a < 8 → (slotU s (d : Nat) a).t ≤ 0) : bestR s s.dn = zeroU := by
  rw [bestR_fold]
  have : ∀ l : List UbV, (∀ x ∈ l, x.t ≤ 0) → l.foldl better zeroU = zeroU := by
    intro l
    induction l with
    | nil => intro _; rfl
    | cons x l ih =>
      intro hl
      have hx := hl x (.head _)
      rw [List.foldl_cons, show better zeroU x = zeroU from by rw [better, if_neg (by show ¬ (0 : Int) < x.t; omega)]]
      exact ih (fun y hy => hl y (.tail _ hy))
  refine this _ (fun x hx => ?_)
  obtain ⟨d, hd, hx⟩ := List.mem_flatMap.1 hx
  obtain ⟨he, a, ha, rfl⟩ := mem_whole.1 hx
  exact h d (List.mem_range.1 hd) he a ha
end Go.Proofs.YtjeldcjchipdgaaDoor
namespace Go.Proofs.YtjeldcjchipdgaaDoor
open Go.RowKit Go.HL
set_option maxRecDepth 100000

/-! sizes -/
theorem e1_len {n : Int} (h : RIt ⟨1, n, ⟨#[]⟩⟩) : (enc1 ⟨1, n, ⟨#[]⟩⟩).length ≤ 11 := by
  have h1 : enc1 ⟨1, n, ⟨#[]⟩⟩ = B8 1 :: cnt (zigU n).toNat := rfl
  have h2 : (zigU n).toNat = zig n := zigU_zig h
  rw [h1, h2, List.length_cons]
  have hz : zig n < 18446744073709551616 := zig_lt h
  have hc : (cnt (zig n)).length ≤ 10 := cnt_len 9 (zig n) (by omega)
  omega
theorem e1_small {n : Int} (h : 0 ≤ n ∧ n ≤ 1024) : (enc1 ⟨1, n, ⟨#[]⟩⟩).length ≤ 3 := by
  have h1 : enc1 ⟨1, n, ⟨#[]⟩⟩ = B8 1 :: cnt (zigU n).toNat := rfl
  rw [h1, zigU_zig (by constructor <;> omega), List.length_cons]
  have h2 : zig n < 128 ^ 2 := by
    unfold zig
    split <;> omega
  have := cnt_len 1 (zig n) h2
  omega
theorem e2_len {s : ByteArray} (h : s.size < 128) : (enc1 ⟨2, 0, s⟩).length = 2 + s.size := by
  have h1 : enc1 ⟨2, 0, s⟩ = B8 2 :: (cnt s.size ++ s.data.toList) := rfl
  rw [h1, cnt_small h]
  simp
  omega
theorem ptrS_len {p : PtrV} (h : rightP p) (hw : WfP p) : (ptrS p).size ≤ 59 := by
  rw [ptrS, if_pos h]
  show (encAll (pit p)).toArray.size ≤ 59
  obtain ⟨h1, h2, h3, h4, h5⟩ := h
  rw [List.size_toArray, pit, encAll_cons, encAll_cons, encAll_cons, encAll_cons]
  simp only [List.length_append]
  have a1 := e1_len (n := p.a) hw.1
  have a2 := e1_small (n := p.z) (by omega)
  have a3 := e1_len (n := p.b) hw.2.2
  have a4 := e2_len (s := p.s) (by omega)
  have a5 : (encAll []).length = 0 := rfl
  omega
theorem encE_ok {u : UbV} (hr : rightP u.p) (h1 : 1 ≤ u.t) (hw : WfU u) : encE u = 0 := by
  have hs := ptrS_len hr hw.2
  have hg : ∀ i ∈ uit u, Good i := by
    intro i hi
    have hri := uit_rit hw i hi
    simp only [uit, List.mem_cons, List.not_mem_nil, or_false] at hi
    rcases hi with rfl | rfl | rfl
    · exact ⟨by simp [longI], by simp [okI], hri⟩
    · exact ⟨by simp [longI], by simp [okI], hri⟩
    · exact ⟨by simp [longI]; omega, by simp [okI], hri⟩
  have hc : checkE (uit u) = 0 := icheck_good (by simp [uit]) hg
  have hl : (encAll (uit u)).length ≤ 75 := by
    rw [uit, encAll_cons, encAll_cons, encAll_cons]
    simp only [List.length_append]
    have a1 := e1_small (n := 77) (by omega)
    have a2 := e1_len (n := u.t) hw.1
    have a3 := e2_len (s := ptrS u.p) (by omega)
    have a5 : (encAll []).length = 0 := rfl
    omega
  rw [encE, if_pos ⟨hr, h1⟩, secE, if_pos hc, if_neg (by omega)]
/-! a pointer by a number -/
def ptrL (n : Int) (k : Nat) : List UInt8 := (List.range 32).map fun i => if i < k then B8 (n + i) else 0
def ptrV (n : Int) : PtrV := ⟨n % 1000, 1 + n % 1024, n % 77, ⟨(ptrL n 32).toArray⟩⟩
theorem ptrL_len (n : Int) (k : Nat) : (ptrL n k).length = 32 := by simp [ptrL]
theorem ptrL_0 (n : Int) : ptrL n 0 = List.replicate 32 0 := by simp [ptrL]; decide
theorem ptrL_set (n : Int) {k : Nat} (hk : k < 32) : (ptrL n k).set k (B8 (n + k)) = ptrL n (k + 1) := by
  apply List.ext_getElem?
  intro i
  simp only [ptrL, List.getElem?_set, List.length_map, List.length_range, List.getElem?_map]
  by_cases h : k = i
  · subst h
    simp [hk]
  · by_cases hi : i < 32
    · simp only [h, if_false, List.getElem?_range hi, Option.map_some]
      have : (i < k) ↔ (i < k + 1) := by omega
      simp only [this]
    · simp [h, hi]
theorem ptrV_right (n : Int) : rightP (ptrV n) := by
  refine ⟨by show 0 ≤ n % 1000; omega, by show 0 ≤ n % 77; omega, by show 1 ≤ 1 + n % 1024; omega, by show 1 + n % 1024 ≤ 1024; omega, ?_⟩
  show (ptrL n 32).toArray.size = 32
  rw [List.size_toArray, ptrL_len]
theorem ptrV_wf (n : Int) : WfP (ptrV n) := by
  refine ⟨?_, ?_, ?_⟩
  · show _ ≤ n % 1000 ∧ n % 1000 ≤ _; omega
  · show _ ≤ 1 + n % 1024 ∧ 1 + n % 1024 ≤ _; omega
  · show _ ≤ n % 77 ∧ n % 77 ≤ _; omega
theorem lptr_calls (n : Int) (hn : 0 ≤ n ∧ n ≤ 1000000) (w : World) : Calls Tryd.prog 17 [vi n].toArray w (Ret fun v w' => v = .agg (ept.f (ptrV n)).toArray ∧ Chg Nob w w') := by
  have hw := Chg.refl Nob w
  refine Calls.of_WC Tryd.func17 rfl Tryd.ntmps17 (by simp) ?_
  refine WC.seq (WC.region (?_))
  refine WL.alloc Tryd.zeroValue23 rfl ?_
  intro g_1 w_1 hge_1 hlt_1 hb_1 k_1
  have zs_k_1 := k_1.size
  replace hw := hw.pure k_1
  refine WL.nil (WX.then_normal (WC.seq (WC.region (?_))))
  refine WL.make (e := eb) (0 : UInt8) 32 32 Tryd.underlying26 info_5 rfl rfl rfl ⟨rfl, rfl, Nat.le_refl _⟩ (by constructor <;> omega) rfl ?_
  intro g0 w0 hO k0 z0 eg0
  rw [← ptrL_0 n] at hO ⊢
  rw [ptrL_len]
  have zs_k0 := k0.size
  replace hw := hw.pure k0
  replace hb_1 := hb_1.pure k0
  refine WL.assign rfl rfl (WL.nil (WX.then_normal (WC.seq (WC.seq (WC.region (WL.assign rfl rfl (WL.nil (?_))))))))
  refine WX.then_normal (WC.block (?_))
  have hb1 := Blk.eqc (cs' := ept.f ⟨0, 0, 0, ⟨#[]⟩⟩) hb_1 rfl
  refine WC.loop (σ := Nat) (fun k => [(0, vi n), (2, ptr g_1), (3, .slice (some ⟨g0, 0, none⟩) 32 32), (4, vi (k : Int))])
    (fun k w' => k ≤ 32 ∧ Blk w' g_1 23 (ept.f ⟨0, 0, 0, ⟨#[]⟩⟩) ∧ Row (fun x => x = g0) w' 5 eb (some ⟨g0, 0, none⟩) 32 (ptrL n k) ∧ Chg Nob w w') (fun k => 32 - k) 0 ⟨rfl, rfl, rfl, rfl, trivial⟩
    ⟨Nat.zero_le _, hb1, ⟨fun a ea => by injection ea with ea; subst ea; rfl, hO.own⟩, hw⟩ ?_
  have hg1 : w.heap.size ≤ g_1 ∧ g_1 < g0 := by omega
  clear hb1 hb_1 hO hw
  rintro k w1 ⟨hk, hb1, hO, hw⟩
  have hbl := ptrL_len n k
  have lg0 : g0 < w1.heap.size := hO.own.lt _ rfl
  have hO' := hO.rsl
  refine WC.seq (WC.seq (WC.region (WL.move rfl rfl (WL.move rfl rfl (WL.len Tryd.underlying26 rfl rfl (?_))))))
  refine WL.lss? rfl rfl rfl (fun h9 => ?_) (fun h9 => ?_)
  ·
    refine WL.nil (WX.then_normal (WC.cond_true rfl (WC.skip (WX.then_normal (WC.seq (WC.block (WC.region (?_))))))))
    refine WL.move rfl rfl (WL.move rfl rfl (WL.move rfl rfl (WL.move rfl rfl (WL.add64 rfl rfl (by first | omega | (constructor <;> omega)) rfl (WL.c_i64_u8 Tryd.underlying3 Tryd.underlying5 rfl rfl (?_))))))
    refine WL.index (j := k) Tryd.underlying26 Tryd.sizeOf5 rfl rfl rfl (by omega) rfl ?_
    refine WL.storeRow (z := B8 (n + k)) (k) Tryd.sizeOf5 hO rfl rfl rfl (by first | (simp; done) | (show 0 + _ * 1 = _; omega)) (by omega) rfl ?_
    intro w_2 zs_2 nr_2 k_2
    have zs_k_2 := k_2.size
    replace hb1 := hb1.chg k_2 (by first | (intro x h1 h2; exact h2) | (intro x h0 h1 h2; exact hS x h1 h2) | (intro x h0 h1 h2; have h3 : _ = _ := h2; subst h3; exact hSR h1.1) | (intro x h1 h2; have h3 : _ = _ := h2; subst h3; assumption) | (intro x h1 h2; have h3 : _ = _ := h2; exfalso; omega) | (intro b h1 h2 h3; have h4 : _ = _ := h3; (try dsimp only at h2); exfalso; omega) | (intro h1; have h2 : _ = _ := h1; exfalso; omega) | (intro h1; have h2 : _ ≤ _ := h1; exfalso; omega) | (intros; exfalso; (try dsimp only at *); omega) | (intro b h1 h2 h3; exfalso; have h4 := h3.2; (try dsimp only at *); omega) | (intro h1; exfalso; have h4 := h1.2; (try dsimp only at *); omega) | (intro x h1 h2; exfalso; have h4 := h2.2; (try dsimp only at *); omega) | (intro x h1 h2; exact ⟨_, rfl, h2⟩) | (intro x h1 h2; have h4 := h2.1; have h5 := h2.2; exfalso; omega) | (intro x h1 h2; exact h2.1) | (intro x h1 h2; rcases h2.1 with h3 | h3; exact h3; exfalso; omega) | (intro x h1 h2; rcases h2 with h3 | h3; exact h3; exfalso; omega))
    replace hw := hw.chg k_2 (by first | (intro x h1 h2; exact h2) | (intro x h0 h1 h2; exact hS x h1 h2) | (intro x h0 h1 h2; have h3 : _ = _ := h2; subst h3; exact hSR h1.1) | (intro x h1 h2; have h3 : _ = _ := h2; subst h3; assumption) | (intro x h1 h2; have h3 : _ = _ := h2; exfalso; omega) | (intro b h1 h2 h3; have h4 : _ = _ := h3; (try dsimp only at h2); exfalso; omega) | (intro h1; have h2 : _ = _ := h1; exfalso; omega) | (intro h1; have h2 : _ ≤ _ := h1; exfalso; omega) | (intros; exfalso; (try dsimp only at *); omega) | (intro b h1 h2 h3; exfalso; have h4 := h3.2; (try dsimp only at *); omega) | (intro h1; exfalso; have h4 := h1.2; (try dsimp only at *); omega) | (intro x h1 h2; exfalso; have h4 := h2.2; (try dsimp only at *); omega) | (intro x h1 h2; exact ⟨_, rfl, h2⟩) | (intro x h1 h2; have h4 := h2.1; have h5 := h2.2; exfalso; omega) | (intro x h1 h2; exact h2.1) | (intro x h1 h2; rcases h2.1 with h3 | h3; exact h3; exfalso; omega) | (intro x h1 h2; rcases h2 with h3 | h3; exact h3; exfalso; omega))
    replace hO := nr_2
    refine WL.nil (WX.block_normal (WX.then_normal (WC.region (WL.move rfl rfl (WL.add64 rfl rfl (by first | omega | (constructor <;> omega)) rfl (WL.assign rfl rfl (WL.nil (?_))))))))
    have hO2 := hO
    rw [ptrL_set n (by omega)] at hO2
    exact WX.loop_next (k + 1) ⟨rfl, rfl, rfl, rfl, trivial⟩ ⟨by omega, hb1, hO2, hw⟩ (by show _ - _ < _ - _; omega)
  ·
    refine WL.nil (WX.then_normal (WC.cond_false rfl (WC.exit (WX.then_exit (WX.then_exit (WX.block_here (WX.then_normal (?_))))))))
    refine WC.seq (WC.region (WL.move rfl rfl (WL.rem64i rfl rfl (by constructor <;> omega) rfl (WL.move rfl rfl (WL.rem64i rfl rfl (by constructor <;> omega) rfl (WL.add64 rfl rfl (by first | omega | (constructor <;> omega)) rfl (WL.move rfl rfl (?_))))))))
    refine WL.rem64i rfl rfl (by constructor <;> omega) rfl (WL.move rfl rfl (?_))
    have hk32 : k = 32 := by omega
    refine WL.toStr Tryd.underlying26 Tryd.underlying5 Tryd.underlying9 hO.rsl (by rw [hbl]; rfl) rfl ?_
    refine WL.bld rfl (bld_23_0_1_2_3 _ _ _ _) rfl (?_)
    refine WL.stores Tryd.sizeOf23 hb1 rfl rfl (by first | (simp; done) | (simp; omega) | rfl) (by first | exact Enc.one _ _ | (intro u hu; obtain ⟨x, _, rfl⟩ := List.mem_map.1 hu; rfl) | (simp [Value.oneCell']; done) | (simp [Value.oneCell', Value.cells]; done)) (by first | (simp; done) | (simp; omega) | (simp [Value.cells]; done) | (simp [Value.cells]; omega) | exact Nat.le_of_ble_eq_true rfl) rfl ?_
    intro w_2 hs_2 hn_2 k_2
    have zs_k_2 := k_2.size
    replace hO := hO.chg k_2 (by first | (intro x h1 h2; exact h2) | (intro x h0 h1 h2; exact hS x h1 h2) | (intro x h0 h1 h2; have h3 : _ = _ := h2; subst h3; exact hSR h1.1) | (intro x h1 h2; have h3 : _ = _ := h2; subst h3; assumption) | (intro x h1 h2; have h3 : _ = _ := h2; exfalso; omega) | (intro b h1 h2 h3; have h4 : _ = _ := h3; (try dsimp only at h2); exfalso; omega) | (intro h1; have h2 : _ = _ := h1; exfalso; omega) | (intro h1; have h2 : _ ≤ _ := h1; exfalso; omega) | (intros; exfalso; (try dsimp only at *); omega) | (intro b h1 h2 h3; exfalso; have h4 := h3.2; (try dsimp only at *); omega) | (intro h1; exfalso; have h4 := h1.2; (try dsimp only at *); omega) | (intro x h1 h2; exfalso; have h4 := h2.2; (try dsimp only at *); omega) | (intro x h1 h2; exact ⟨_, rfl, h2⟩) | (intro x h1 h2; have h4 := h2.1; have h5 := h2.2; exfalso; omega) | (intro x h1 h2; exact h2.1) | (intro x h1 h2; rcases h2.1 with h3 | h3; exact h3; exfalso; omega) | (intro x h1 h2; rcases h2 with h3 | h3; exact h3; exfalso; omega))
    replace hw := hw.chg k_2 (by first | (intro x h1 h2; exact h2) | (intro x h0 h1 h2; exact hS x h1 h2) | (intro x h0 h1 h2; have h3 : _ = _ := h2; subst h3; exact hSR h1.1) | (intro x h1 h2; have h3 : _ = _ := h2; subst h3; assumption) | (intro x h1 h2; have h3 : _ = _ := h2; exfalso; omega) | (intro b h1 h2 h3; have h4 : _ = _ := h3; (try dsimp only at h2); exfalso; omega) | (intro h1; have h2 : _ = _ := h1; exfalso; omega) | (intro h1; have h2 : _ ≤ _ := h1; exfalso; omega) | (intros; exfalso; (try dsimp only at *); omega) | (intro b h1 h2 h3; exfalso; have h4 := h3.2; (try dsimp only at *); omega) | (intro h1; exfalso; have h4 := h1.2; (try dsimp only at *); omega) | (intro x h1 h2; exfalso; have h4 := h2.2; (try dsimp only at *); omega) | (intro x h1 h2; exact ⟨_, rfl, h2⟩) | (intro x h1 h2; have h4 := h2.1; have h5 := h2.2; exfalso; omega) | (intro x h1 h2; exact h2.1) | (intro x h1 h2; rcases h2.1 with h3 | h3; exact h3; exfalso; omega) | (intro x h1 h2; rcases h2 with h3 | h3; exact h3; exfalso; omega))
    replace hb1 := hn_2
    refine WL.nil (WX.then_normal (WC.ret (?_)))
    refine WX.ret1c (.inl rfl) Tryd.results17 Tryd.isAgg23 Tryd.sizeOf23 hb1 rfl (by first | (simp; done) | (simp; omega) | rfl) ?_
    subst hk32
    exact ⟨_, rfl, rfl, hw⟩
end Go.Proofs.YtjeldcjchipdgaaDoor
namespace Go.HL
open Go.RowKit
theorem partN {P : Program} {w : World} {t : TypeId} {cs ds : List Value} {o k : Nat} (hs : ∀ w, (sizeOf t).run P w = .ok k w) (hg : ∀ w, (isAgg t).run P w = .ok true w) (hv : (cs.drop o).take k = ds) : (part t cs.toArray o).run P w = .ok (.agg ds.toArray) w := by
  simp [part, hs, hg, hv]
end Go.HL
namespace Go.Proofs.YtjeldcjchipdgaaDoor
open Go.RowKit Go.HL
set_option maxRecDepth 100000

theorem eqg_ub : Tryd.prog.eqGuardType Tryd.prog.depth 25 = false := by kernel_rfl
theorem eq_ptr9 (a b : PtrV) (w : World) : (Op.equalIn 9999 23 (.agg (ept.f a).toArray) (.agg (ept.f b).toArray)).run Tryd.prog w = .ok (decide (a = b)) w := by
  refine eqA_of (d := 9998) Tryd.underlying23 (by kernel_rfl) ?_
  have h3 : (decide (a.a = b.a) && (decide (a.z = b.z) && (decide (a.b = b.b) && (decide (a.s = b.s) && true)))) = decide (a = b) := by
    have : decide (a = b) = decide (a.a = b.a ∧ a.z = b.z ∧ a.b = b.b ∧ a.s = b.s) := decide_eq_decide.2 (PtrV.eq_iff a b).symm
    rw [this]
    simp [Bool.decide_and]
  rw [← h3]
  refine eqf_cons rfl (part1 Tryd.sizeOf3 Tryd.isAgg3 rfl) (part1 Tryd.sizeOf3 Tryd.isAgg3 rfl) (run_equalIn_int w 9997 _ _ _ _ _ Tryd.underlying3) ?_
  refine eqf_cons rfl (part1 Tryd.sizeOf3 Tryd.isAgg3 rfl) (part1 Tryd.sizeOf3 Tryd.isAgg3 rfl) (run_equalIn_int w 9997 _ _ _ _ _ Tryd.underlying3) ?_
  refine eqf_cons rfl (part1 Tryd.sizeOf3 Tryd.isAgg3 rfl) (part1 Tryd.sizeOf3 Tryd.isAgg3 rfl) (run_equalIn_int w 9997 _ _ _ _ _ Tryd.underlying3) ?_
  refine eqf_cons rfl (part1 Tryd.sizeOf9 Tryd.isAgg9 rfl) (part1 Tryd.sizeOf9 Tryd.isAgg9 rfl) (by rw [← beq_bytes]; exact run_equalIn_string w 9997 _ _ _ Tryd.underlying9) eqf_nil
theorem eq_ub (a b : UbV) (w : World) : (Op.equalIn 10000 25 (.agg (eub.f a).toArray) (.agg (eub.f b).toArray)).run Tryd.prog w = .ok (decide (a = b)) w := by
  refine eqA_of (d := 9999) Tryd.underlying25 (by kernel_rfl) ?_
  have h3 : (decide (a.t = b.t) && (decide (a.p = b.p) && true)) = decide (a = b) := by
    have : decide (a = b) = decide (a.t = b.t ∧ a.p = b.p) := decide_eq_decide.2 (UbV.eq_iff a b).symm
    rw [this]
    simp [Bool.decide_and]
  rw [← h3]
  refine eqf_cons rfl (part1 Tryd.sizeOf3 Tryd.isAgg3 rfl) (part1 Tryd.sizeOf3 Tryd.isAgg3 rfl) (run_equalIn_int w 9998 _ _ _ _ _ Tryd.underlying3) ?_
  exact eqf_cons rfl (partN (ds := ept.f a.p) Tryd.sizeOf23 Tryd.isAgg23 rfl) (partN (ds := ept.f b.p) Tryd.sizeOf23 Tryd.isAgg23 rfl) (eq_ptr9 a.p b.p w) eqf_nil
/-- the record with a number and the pointer of a number -/
def ubV (t n : Int) : UbV := ⟨t, ptrV n⟩
theorem ubV_wf {t n : Int} (h : 1 ≤ t ∧ t ≤ 1000000) : WfU (ubV t n) := ⟨by show _ ≤ t ∧ t ≤ _; omega, ptrV_wf n⟩
theorem ubV_enc {t n : Int} (h : 1 ≤ t ∧ t ≤ 1000000) : encE (ubV t n) = 0 := encE_ok (ptrV_right n) h.1 (ubV_wf h)
/-- a powered rack on which no drive is gone -/
theorem errD_up {s : RA} (h : Up s) (d : Int) (hg : goneS s d = false) : errD s d = 0 := by
  rw [errD, if_neg (by rw [hg]; decide), if_neg (by rw [h.off]; decide)]
theorem downS_up {s : RA} (h : Up s) : downS s = false := down_no (fun d _ => by
  unfold errD
  split
  · decide
  · rw [if_neg (by rw [h.off]; decide)]; decide)
theorem cntD_all {s : RA} (h : ∀ d, goneS s d = false) (k : Nat) : cntD s k = k := by
  induction k with
  | zero => rfl
  | succ k ih => rw [cntD, if_neg (by rw [h]; decide), ih]
theorem lwS_facts {s : RA} (h : Up s) (hs : 8 < s.sn) {u : UbV} (hE : encE u = 0) : Up (lwS s u) ∧ (lwS s u).dn = s.dn ∧ (lwS s u).sn = s.sn ∧ (∀ d, goneS (lwS s u) d = goneS s d) ∧ (lwS s u).last = s.last ∧ (lwS s u).waits.length ≤ s.waits.length + s.dn := by
  obtain ⟨e1, -, -⟩ := lw_up h hs hE
  have hd := lwR_dn s (u.t % 8) (encB u) s.dn
  have h4 : (lwS s u).waits.length ≤ s.waits.length + s.dn := by
    rw [lwS, if_pos ⟨hs, hE⟩]
    exact hd.2.2.2.1
  obtain ⟨a1, a2, a3, a4, a5, a6⟩ := addAll_dn s (u.t % 8) (encB u) s.dn
  refine ⟨?_, ?_, ?_, fun d => ?_, ?_, h4⟩
  · rw [e1]; exact addAll_up h _ _ _
  · rw [e1]; exact a1
  · rw [e1]; exact a2
  · rw [e1]; exact addAll_gone _ _ _ _ _
  · rw [e1]; exact a6
theorem lwS_held {s : RA} (h : Up s) (hs : 8 < s.sn) {u : UbV} (hE : encE u = 0) (d : Nat) (hd : d < s.dn) (a : Nat) : heldS (lwS s u) (d, a) = if (a : Int) = u.t % 8 ∧ goneS s d = false then encB u else heldS s (d, a) := by
  obtain ⟨e1, -, -⟩ := lw_up h hs hE
  rw [e1, addAll_held]
  have : (∃ d', d' < s.dn ∧ (((d : Int), (a : Int)) : Pl) = (((d' : Nat) : Int), u.t % 8) ∧ goneS s (d' : Nat) = false) ↔ ((a : Int) = u.t % 8 ∧ goneS s d = false) := by
    constructor
    · rintro ⟨d', h1, h2, h3⟩
      injection h2 with h4 h5
      have : d = d' := by omega
      subst this
      exact ⟨h5, h3⟩
    · rintro ⟨h1, h2⟩
      exact ⟨d, hd, by rw [h1], h2⟩
  simp only [this]
theorem lwS_slot {s : RA} (h : Up s) (hs : 8 < s.sn) {u : UbV} (hE : encE u = 0) (hw : WfU u) (d : Nat) (hd : d < s.dn) (a : Nat) : slotU (lwS s u) d a = if (a : Int) = u.t % 8 ∧ goneS s d = false then u else slotU s d a := by
  have hh := lwS_held h hs hE d hd a
  by_cases hc : (a : Int) = u.t % 8 ∧ goneS s d = false
  · rw [if_pos hc] at hh ⊢
    exact slot_enc hh hE hw hc.1.symm
  · rw [if_neg hc] at hh ⊢
    rw [slotU, slotU, hh]
/-- on a fresh rack -/
theorem fresh_slot {s : RA} (h : ∀ q, heldS s q = zeros) (d : Int) (a : Nat) : slotU s d a = ⟨-1, zeroP⟩ := slot_zeros (h _)
theorem newest_is {s : RA} (h : Up s) (hs : 8 < s.sn) {u : UbV} (h0 : 0 < u.t) (h1 : ∃ d, d < s.dn ∧ goneS s (d : Nat) = false ∧ ∃ a, a < 8 ∧ slotU s (d : Nat) a = u)
    (h2 : ∀ d, d < s.dn → goneS s (d : Nat) = false → ∀ a, a < 8 → (slotU s (d : Nat) a).t ≤ u.t ∧ ((slotU s (d : Nat) a).t = u.t → slotU s (d : Nat) a = u)) : nwU s = u ∧ nwE s = 0 := by
  have hb : bestR s s.dn = u := by
    refine best_is h0 ?_ (fun d hd he a ha => h2 d hd ?_ a ha)
    · obtain ⟨d, hd, hg, ha⟩ := h1
      exact ⟨d, hd, errD_up h d hg, ha⟩
    · unfold errD at he
      cases hg : goneS s (d : Nat) with
      | false => rfl
      | true => rw [if_pos hg] at he; cases he
  obtain ⟨e1, e2⟩ := nw_some hs (downS_up h) (by rw [hb]; omega)
  exact ⟨e2.trans hb, e1⟩
theorem newest_fresh {s : RA} (h : Up s) (hs : 8 < s.sn) (hd : 0 < s.dn) (hg : ∀ d, goneS s d = false) (hz : ∀ q, heldS s q = zeros) {u : UbV} (hE : encE u = 0) (hw : WfU u) : nwU (lwS s u) = u ∧ nwE (lwS s u) = 0 := by
  obtain ⟨f1, f2, f3, f4, f5, f6⟩ := lwS_facts h hs hE
  obtain ⟨t1, t2, t3, t4⟩ := encE_t hE
  refine newest_is f1 (by rw [f3]; exact hs) (by omega) ⟨0, by rw [f2]; exact hd, by rw [f4]; exact hg _, (u.t % 8).toNat, by omega, ?_⟩ (fun d hdd _ a ha => ?_)
  · rw [lwS_slot h hs hE hw 0 hd, if_pos ⟨by omega, hg _⟩]
  · rw [lwS_slot h hs hE hw d (by rw [← f2]; exact hdd)]
    split
    · exact ⟨Int.le_refl _, fun _ => rfl⟩
    · rw [fresh_slot hz]
      exact ⟨by show (-1 : Int) ≤ _; omega, fun h9 => by have : (-1 : Int) = u.t := h9; omega⟩
set_option maxHeartbeats 1000000 in
theorem known8_calls (w : World) : Calls Tryd.prog 9 [].toArray w (Ret fun v w' => v = .bool true ∧ Chg Nob w w') := by
  have hw := Chg.refl Nob w
  obtain ⟨s0, sd, sn, u0, sg, sh, sl, sw, hNew⟩ := new_all 5 9 (by decide) (by decide)
  have sw0 : s0.waits.length = 0 := by rw [sw]; rfl
  have hE : encE (ubV 5 9) = 0 := ubV_enc (by omega)
  have hwf : WfU (ubV 5 9) := ubV_wf (by omega)
  obtain ⟨e1, e2, e3⟩ := lw_up u0 (by omega) hE
  have hc : cntD s0 s0.dn = 5 := by rw [cntD_all sg, sd]
  rw [hc] at e2 e3
  rw [if_neg (by decide)] at e3
  refine Calls.of_WC Tryd.func9 rfl Tryd.ntmps9 (by simp) ?_
  refine WC.seq (WC.region (WL.assign rfl rfl (WL.nil (WX.then_normal (WC.seq (WC.region (?_)))))))
  refine WL.call eg_15 rfl rfl (hNew _) ?_
  rintro v w1 ⟨⟨R, rfl, hR⟩, k1⟩
  have zs_k1 := k1.size
  replace hw := hw.pure k1
  refine WL.move rfl rfl (WL.extract rfl rfl rfl (WL.extract rfl rfl rfl (WL.assign rfl rfl (WL.assign rfl rfl (WL.nil (WX.then_normal (WC.seq (?_))))))))
  refine WC.region (WL.move rfl rfl (?_))
  refine WL.call eg_17 rfl rfl (lptr_calls 9 (by omega) _) ?_
  rintro v w2 ⟨rfl, k2⟩
  have zs_k2 := k2.size
  replace hw := hw.pure k2
  replace hR := hR.pure k2
  refine WL.bld rfl (bld_25_0_1 _ _ _ _ _) rfl (?_)
  refine WL.call eg_16 rfl rfl (lWrite_calls hR (ubV 5 9) hwf (by omega)) ?_
  rintro v w3 ⟨rfl, hR3, k3⟩
  rw [e2, e3]
  have zs_k3 := k3.size
  replace hw := hw.chg k3 (by first | (intro x h1 h2; exact h2) | (intro x h0 h1 h2; exact hS x h1 h2) | (intro x h0 h1 h2; have h3 : _ = _ := h2; subst h3; exact hSR h1.1) | (intro x h1 h2; have h3 : _ = _ := h2; subst h3; assumption) | (intro x h1 h2; have h3 : _ = _ := h2; exfalso; omega) | (intro b h1 h2 h3; have h4 : _ = _ := h3; (try dsimp only at h2); exfalso; omega) | (intro h1; have h2 : _ = _ := h1; exfalso; omega) | (intro h1; have h2 : _ ≤ _ := h1; exfalso; omega) | (intros; exfalso; (try dsimp only at *); omega) | (intro b h1 h2 h3; exfalso; have h4 := h3.2; (try dsimp only at *); omega) | (intro h1; exfalso; have h4 := h1.2; (try dsimp only at *); omega) | (intro x h1 h2; exfalso; have h4 := h2.2; (try dsimp only at *); omega) | (intro x h1 h2; exact ⟨_, rfl, h2⟩) | (intro x h1 h2; have h4 := h2.1; have h5 := h2.2; exfalso; omega) | (intro x h1 h2; exact h2.1) | (intro x h1 h2; rcases h2.1 with h3 | h3; exact h3; exfalso; omega) | (intro x h1 h2; rcases h2 with h3 | h3; exact h3; exfalso; omega))
  refine WL.move rfl rfl (WL.extract rfl rfl rfl (WL.extract rfl rfl rfl (WL.assign rfl rfl (WL.assign rfl rfl (WL.nil (WX.then_normal (WC.seq (?_))))))))
  refine WC.region (WL.move rfl rfl (?_))
  refine WL.call eg_20 rfl rfl (lNewest_calls hR3) ?_
  rintro v w4 ⟨rfl, k4⟩
  obtain ⟨n1, n2⟩ := newest_fresh u0 (by omega) (by omega) sg sh hE hwf
  rw [n1, n2]
  have zs_k4 := k4.size
  replace hw := hw.pure k4
  refine WL.move rfl rfl (WL.extract rfl rfl rfl (WL.extract rfl rfl rfl (?_)))
  refine WL.alloc Tryd.zeroValue25 rfl ?_
  intro g_1 w_1 hge_1 hlt_1 hb_1 k_1
  have zs_k_1 := k_1.size
  replace hw := hw.pure k_1
  refine WL.stores Tryd.sizeOf25 hb_1 rfl rfl (by first | (simp; done) | (simp; omega) | rfl) (by first | exact Enc.one _ _ | (intro u hu; obtain ⟨x, _, rfl⟩ := List.mem_map.1 hu; rfl) | (simp [Value.oneCell']; done) | (simp [Value.oneCell', Value.cells]; done)) (by first | (simp; done) | (simp; omega) | (simp [Value.cells]; done) | (simp [Value.cells]; omega) | exact Nat.le_of_ble_eq_true rfl) rfl ?_
  intro w_2 hs_2 hn_2 k_2
  have zs_k_2 := k_2.size
  replace hw := hw.chg k_2 (by first | (intro x h1 h2; exact h2) | (intro x h0 h1 h2; exact hS x h1 h2) | (intro x h0 h1 h2; have h3 : _ = _ := h2; subst h3; exact hSR h1.1) | (intro x h1 h2; have h3 : _ = _ := h2; subst h3; assumption) | (intro x h1 h2; have h3 : _ = _ := h2; exfalso; omega) | (intro b h1 h2 h3; have h4 : _ = _ := h3; (try dsimp only at h2); exfalso; omega) | (intro h1; have h2 : _ = _ := h1; exfalso; omega) | (intro h1; have h2 : _ ≤ _ := h1; exfalso; omega) | (intros; exfalso; (try dsimp only at *); omega) | (intro b h1 h2 h3; exfalso; have h4 := h3.2; (try dsimp only at *); omega) | (intro h1; exfalso; have h4 := h1.2; (try dsimp only at *); omega) | (intro x h1 h2; exfalso; have h4 := h2.2; (try dsimp only at *); omega) | (intro x h1 h2; exact ⟨_, rfl, h2⟩) | (intro x h1 h2; have h4 := h2.1; have h5 := h2.2; exfalso; omega) | (intro x h1 h2; exact h2.1) | (intro x h1 h2; rcases h2.1 with h3 | h3; exact h3; exfalso; omega) | (intro x h1 h2; rcases h2 with h3 | h3; exact h3; exfalso; omega))
  replace hb_1 := hn_2
  refine WL.assign rfl rfl (WL.nil (WX.then_normal (WC.seq (?_))))
  refine WC.draw (Nob) [0, 1, 2, 3, 4, 5, 6, 7, 8, 9, 10, 11, 12, 13, 14, 15] [16, 17, 18, 19, 20] mixed rfl rfl (fun wd_3 kd_3 zd_3 => ?_)
  have zs_kd_3 := kd_3.size
  replace hw := hw.pure kd_3
  replace hb_1 := hb_1.pure kd_3
  apply DQ.step (E' := [(2, _)])
  case ho => rfl
  case hs => exact ⟨rfl, trivial⟩
  case hk => rfl
  case h1 =>
    intro wq_5 kq_5
    refine WL.move rfl rfl (?_)
    refine WL.nil ?_
    exact WX.one ⟨rfl, by first | exact Chg.refl _ _ | assumption⟩
  apply DQ.split (E' := [(23, _)])
  case ho => rfl
  case hs => exact ⟨rfl, trivial⟩
  case hk => rfl
  case h1 =>
    intro wq_6 kq_6
    refine WL.eql rfl rfl rfl ?_
    refine WL.nil ?_
    exact WX.one ⟨rfl, by first | exact Chg.refl _ _ | assumption⟩
  case ht =>
    intro h24
    replace h24 := of_decide_eq_true h24
    apply DQ.step (E' := [(24, _)])
    case ho => rfl
    case hs => exact ⟨rfl, trivial⟩
    case hk => rfl
    case h1 =>
      intro wq_7 kq_7
      refine WL.move rfl rfl (?_)
      refine WL.nil ?_
      exact WX.one ⟨rfl, by first | exact Chg.refl _ _ | assumption⟩
    apply DQ.step (E' := [(4, _), (25, _)])
    case ho => rfl
    case hs => exact ⟨rfl, rfl, trivial⟩
    case hk => rfl
    case h1 =>
      intro wq_8 kq_8
      refine WL.want rfl rfl rfl (WL.move rfl rfl (?_))
      refine WL.nil ?_
      exact WX.one ⟨rfl, by first | exact Chg.refl _ _ | assumption⟩
    apply DQ.split (E' := [(26, _), (25, _)])
    case ho => rfl
    case hs => exact ⟨rfl, rfl, trivial⟩
    case hk => rfl
    case h1 =>
      intro wq_9 kq_9
      refine WL.want rfl rfl rfl (?_)
      refine WL.eql rfl rfl rfl ?_
      refine WL.nil ?_
      exact WX.one ⟨rfl, by first | exact Chg.refl _ _ | assumption⟩
    case ht =>
      intro h27
      replace h27 := of_decide_eq_true h27
      apply DQ.step (E' := [(25, _), (27, _)])
      case ho => rfl
      case hs => exact ⟨rfl, rfl, trivial⟩
      case hk => rfl
      case h1 =>
        intro wq_10 kq_10
        refine WL.pickT rfl rfl rfl (?_)
        refine WL.nil ?_
        exact WX.one ⟨rfl, by first | exact Chg.refl _ _ | assumption⟩
      apply DQ.step (E' := [(28, _)])
      case ho => rfl
      case hs => exact ⟨rfl, trivial⟩
      case hk => rfl
      case h1 =>
        intro wq_11 kq_11
        refine WL.move rfl rfl (?_)
        refine WL.nil ?_
        exact WX.one ⟨rfl, by first | exact Chg.refl _ _ | assumption⟩
      apply DQ.step (E' := [(3, _), (29, _)])
      case ho => rfl
      case hs => exact ⟨rfl, rfl, trivial⟩
      case hk => rfl
      case h1 =>
        intro wq_12 kq_12
        refine WL.want rfl rfl rfl (WL.move rfl rfl (?_))
        refine WL.nil ?_
        exact WX.one ⟨rfl, by first | exact Chg.refl _ _ | assumption⟩
      apply DQ.split (E' := [(30, _), (29, _)])
      case ho => rfl
      case hs => exact ⟨rfl, rfl, trivial⟩
      case hk => rfl
      case h1 =>
        intro wq_13 kq_13
        refine WL.want rfl rfl rfl (?_)
        refine WL.eql rfl rfl rfl ?_
        refine WL.nil ?_
        exact WX.one ⟨rfl, by first | exact Chg.refl _ _ | assumption⟩
      case ht =>
        intro h31
        replace h31 := of_decide_eq_true h31
        apply DQ.step (E' := [(29, _), (31, _)])
        case ho => rfl
        case hs => exact ⟨rfl, rfl, trivial⟩
        case hk => rfl
        case h1 =>
          intro wq_14 kq_14
          refine WL.pickT rfl rfl rfl (?_)
          refine WL.nil ?_
          exact WX.one ⟨rfl, by first | exact Chg.refl _ _ | assumption⟩
        apply DQ.step (E' := [(32, _)])
        case ho => rfl
        case hs => exact ⟨rfl, trivial⟩
        case hk => rfl
        case h1 =>
          intro wq_15 kq_15
          refine WL.move rfl rfl (?_)
          refine WL.nil ?_
          exact WX.one ⟨rfl, by first | exact Chg.refl _ _ | assumption⟩
        apply DQ.step (E' := [(6, _), (33, _)])
        case ho => rfl
        case hs => exact ⟨rfl, rfl, trivial⟩
        case hk => rfl
        case h1 =>
          intro wq_16 kq_16
          refine WL.want rfl rfl rfl (WL.move rfl rfl (?_))
          refine WL.nil ?_
          exact WX.one ⟨rfl, by first | exact Chg.refl _ _ | assumption⟩
        apply DQ.split (E' := [(34, _), (33, _)])
        case ho => rfl
        case hs => exact ⟨rfl, rfl, trivial⟩
        case hk => rfl
        case h1 =>
          intro wq_17 kq_17
          refine WL.want rfl rfl rfl (?_)
          refine WL.eql rfl rfl rfl ?_
          refine WL.nil ?_
          exact WX.one ⟨rfl, by first | exact Chg.refl _ _ | assumption⟩
        case ht =>
          intro h35
          replace h35 := of_decide_eq_true h35
          apply DQ.step (E' := [(33, _), (35, _)])
          case ho => rfl
          case hs => exact ⟨rfl, rfl, trivial⟩
          case hk => rfl
          case h1 =>
            intro wq_18 kq_18
            refine WL.pickT rfl rfl rfl (?_)
            refine WL.nil ?_
            exact WX.one ⟨rfl, by first | exact Chg.refl _ _ | assumption⟩
          apply DQ.step (E' := [(36, _)])
          case ho => rfl
          case hs => exact ⟨rfl, trivial⟩
          case hk => rfl
          case h1 =>
            intro wq_19 kq_19
            refine WL.move rfl rfl (?_)
            refine WL.nil ?_
            exact WX.one ⟨rfl, by first | exact Chg.refl _ _ | assumption⟩
          apply DQ.step (E' := [(5, _), (37, _)])
          case ho => rfl
          case hs => exact ⟨rfl, rfl, trivial⟩
          case hk => rfl
          case h1 =>
            intro wq_20 kq_20
            have zs_kq_20 := kq_20.size
            replace hw := hw.pure kq_20
            replace hb_1 := hb_1.pure kq_20
            refine WL.want rfl rfl rfl (?_)
            have hb5 := Blk.eqc (cs' := eub.f (ubV 5 9)) hb_1 rfl
            refine WL.loads (eub.f (ubV 5 9)) Tryd.isAgg25 Tryd.sizeOf25 rfl (fun j v hj => by rw [Nat.zero_add]; exact hb5.cell hj) rfl rfl ?_
            refine WL.nil ?_
            exact WX.one ⟨rfl, by first | exact Chg.refl _ _ | assumption⟩
          refine DQ.done (fun hd_4 => ?_)
          refine DL.step [(37, _)] rfl ⟨rfl, trivial⟩ rfl (fun wq_21 kq_21 => ?_)
          have zs_kq_21 := kq_21.size
          replace hw := hw.pure kq_21
          replace hb_1 := hb_1.pure kq_21
          replace hd_4 := hd_4.pure kq_21
          refine WL.want rfl rfl rfl (?_)
          refine WL.call eg_17 rfl rfl (lptr_calls 9 (by omega) _) ?_
          rintro v w5 ⟨rfl, k5⟩
          have zs_k5 := k5.size
          replace hw := hw.pure k5
          replace hb_1 := hb_1.pure k5
          replace hd_4 := hd_4.pure k5
          refine WL.nil ?_
          refine WX.one ⟨hd_4, ?_⟩
          refine DL.step [(39, _), (37, _)] rfl ⟨rfl, rfl, trivial⟩ rfl (fun wq_22 kq_22 => ?_)
          have zs_kq_22 := kq_22.size
          replace hw := hw.pure kq_22
          replace hb_1 := hb_1.pure kq_22
          replace hd_4 := hd_4.pure kq_22
          refine WL.want rfl rfl rfl (WL.bld rfl (bld_25_0_1 _ _ _ _ _) rfl (?_))
          refine WL.nil ?_
          refine WX.one ⟨hd_4, ?_⟩
          refine DL.step [(38, _), (40, _), (37, _)] rfl ⟨rfl, rfl, rfl, trivial⟩ rfl (fun wq_23 kq_23 => ?_)
          have zs_kq_23 := kq_23.size
          replace hw := hw.pure kq_23
          replace hb_1 := hb_1.pure kq_23
          replace hd_4 := hd_4.pure kq_23
          refine WL.want rfl rfl rfl (WL.aeql eqg_ub (eq_ub (ubV 5 9) (ubV 5 9)) rfl rfl rfl (?_))
          refine WL.nil ?_
          refine WX.one ⟨hd_4, ?_⟩
          refine DL.step [(37, _), (41, _)] rfl ⟨rfl, rfl, trivial⟩ rfl (fun wq_24 kq_24 => ?_)
          have zs_kq_24 := kq_24.size
          replace hw := hw.pure kq_24
          replace hb_1 := hb_1.pure kq_24
          replace hd_4 := hd_4.pure kq_24
          refine WL.pickT rfl rfl rfl (?_)
          refine WL.nil ?_
          refine WX.one ⟨hd_4, ?_⟩
          refine DL.step [(42, _)] rfl ⟨rfl, trivial⟩ rfl (fun wq_25 kq_25 => ?_)
          have zs_kq_25 := kq_25.size
          replace hw := hw.pure kq_25
          replace hb_1 := hb_1.pure kq_25
          replace hd_4 := hd_4.pure kq_25
          refine WL.assign rfl rfl (?_)
          refine WL.nil ?_
          refine WX.one ⟨hd_4, ?_⟩
          refine DL.done (fun we_26 ke_26 => ?_)
          have zs_ke_26 := ke_26.size
          replace hw := hw.pure ke_26
          replace hb_1 := hb_1.pure ke_26
          replace hd_4 := hd_4.pure ke_26
          refine WX.then_normal (WC.ret (?_))
          refine WX.ret1 (.inl rfl) Tryd.results9 rfl ?_
          first
            | exact ⟨_, rfl, rfl, hw⟩
            | (refine ⟨_, rfl, ?_, hw⟩
               exact congrArg Value.bool (decide_eq_true rfl))
            | (exfalso; omega)
        case hf =>
          intro h35
          replace h35 := of_decide_eq_false h35
          apply DQ.step (E' := [(33, _), (35, _)])
          case ho => rfl
          case hs => exact ⟨rfl, rfl, trivial⟩
          case hk => rfl
          case h1 =>
            intro wq_18 kq_18
            refine WL.pickT rfl rfl rfl (?_)
            refine WL.nil ?_
            exact WX.one ⟨rfl, by first | exact Chg.refl _ _ | assumption⟩
          apply DQ.step (E' := [(36, _)])
          case ho => rfl
          case hs => exact ⟨rfl, trivial⟩
          case hk => rfl
          case h1 =>
            intro wq_19 kq_19
            refine WL.move rfl rfl (?_)
            refine WL.nil ?_
            exact WX.one ⟨rfl, by first | exact Chg.refl _ _ | assumption⟩
          apply DQ.step (E' := [(5, _), (37, _)])
          case ho => rfl
          case hs => exact ⟨rfl, rfl, trivial⟩
          case hk => rfl
          case h1 =>
            intro wq_20 kq_20
            have zs_kq_20 := kq_20.size
            replace hw := hw.pure kq_20
            replace hb_1 := hb_1.pure kq_20
            refine WL.pass rfl rfl rfl rfl (WL.nil (?_))
            exact WX.one ⟨rfl, by first | exact Chg.refl _ _ | assumption⟩
          refine DQ.done (fun hd_4 => ?_)
          refine DL.step [(37, _)] rfl ⟨rfl, trivial⟩ rfl (fun wq_21 kq_21 => ?_)
          have zs_kq_21 := kq_21.size
          replace hw := hw.pure kq_21
          replace hb_1 := hb_1.pure kq_21
          replace hd_4 := hd_4.pure kq_21
          refine WL.pass rfl rfl rfl rfl (WL.nil (?_))
          refine WX.one ⟨hd_4, ?_⟩
          refine DL.step [(39, _), (37, _)] rfl ⟨rfl, rfl, trivial⟩ rfl (fun wq_22 kq_22 => ?_)
          have zs_kq_22 := kq_22.size
          replace hw := hw.pure kq_22
          replace hb_1 := hb_1.pure kq_22
          replace hd_4 := hd_4.pure kq_22
          refine WL.pass rfl rfl rfl rfl (WL.nil (?_))
          refine WX.one ⟨hd_4, ?_⟩
          refine DL.step [(38, _), (40, _), (37, _)] rfl ⟨rfl, rfl, rfl, trivial⟩ rfl (fun wq_23 kq_23 => ?_)
          have zs_kq_23 := kq_23.size
          replace hw := hw.pure kq_23
          replace hb_1 := hb_1.pure kq_23
          replace hd_4 := hd_4.pure kq_23
          refine WL.pass rfl rfl rfl rfl (WL.nil (?_))
          refine WX.one ⟨hd_4, ?_⟩
          refine DL.step [(37, _), (41, _)] rfl ⟨rfl, rfl, trivial⟩ rfl (fun wq_24 kq_24 => ?_)
          have zs_kq_24 := kq_24.size
          replace hw := hw.pure kq_24
          replace hb_1 := hb_1.pure kq_24
          replace hd_4 := hd_4.pure kq_24
          refine WL.pickF rfl rfl rfl (?_)
          refine WL.nil ?_
          refine WX.one ⟨hd_4, ?_⟩
          refine DL.step [(42, _)] rfl ⟨rfl, trivial⟩ rfl (fun wq_25 kq_25 => ?_)
          have zs_kq_25 := kq_25.size
          replace hw := hw.pure kq_25
          replace hb_1 := hb_1.pure kq_25
          replace hd_4 := hd_4.pure kq_25
          refine WL.assign rfl rfl (?_)
          refine WL.nil ?_
          refine WX.one ⟨hd_4, ?_⟩
          refine DL.done (fun we_26 ke_26 => ?_)
          have zs_ke_26 := ke_26.size
          replace hw := hw.pure ke_26
          replace hb_1 := hb_1.pure ke_26
          replace hd_4 := hd_4.pure ke_26
          refine WX.then_normal (WC.ret (?_))
          refine WX.ret1 (.inl rfl) Tryd.results9 rfl ?_
          first
            | exact ⟨_, rfl, rfl, hw⟩
            | (refine ⟨_, rfl, ?_, hw⟩
               exact congrArg Value.bool (decide_eq_true rfl))
            | (exfalso; omega)
      case hf =>
        intro h31
        replace h31 := of_decide_eq_false h31
        apply DQ.step (E' := [(29, _), (31, _)])
        case ho => rfl
        case hs => exact ⟨rfl, rfl, trivial⟩
        case hk => rfl
        case h1 =>
          intro wq_14 kq_14
          refine WL.pickT rfl rfl rfl (?_)
          refine WL.nil ?_
          exact WX.one ⟨rfl, by first | exact Chg.refl _ _ | assumption⟩
        apply DQ.step (E' := [(32, _)])
        case ho => rfl
        case hs => exact ⟨rfl, trivial⟩
        case hk => rfl
        case h1 =>
          intro wq_15 kq_15
          refine WL.move rfl rfl (?_)
          refine WL.nil ?_
          exact WX.one ⟨rfl, by first | exact Chg.refl _ _ | assumption⟩
        apply DQ.step (E' := [(6, _), (33, _)])
        case ho => rfl
        case hs => exact ⟨rfl, rfl, trivial⟩
        case hk => rfl
        case h1 =>
          intro wq_16 kq_16
          refine WL.pass rfl rfl rfl rfl (WL.nil (?_))
          exact WX.one ⟨rfl, by first | exact Chg.refl _ _ | assumption⟩
        apply DQ.step (E' := [(34, _), (33, _)])
        case ho => rfl
        case hs => exact ⟨rfl, rfl, trivial⟩
        case hk => rfl
        case h1 =>
          intro wq_17 kq_17
          refine WL.pass rfl rfl rfl rfl (WL.nil (?_))
          exact WX.one ⟨rfl, by first | exact Chg.refl _ _ | assumption⟩
        apply DQ.step (E' := [(33, _), (35, _)])
        case ho => rfl
        case hs => exact ⟨rfl, rfl, trivial⟩
        case hk => rfl
        case h1 =>
          intro wq_18 kq_18
          refine WL.pickF rfl rfl rfl (?_)
          refine WL.nil ?_
          exact WX.one ⟨rfl, by first | exact Chg.refl _ _ | assumption⟩
        apply DQ.step (E' := [(36, _)])
        case ho => rfl
        case hs => exact ⟨rfl, trivial⟩
        case hk => rfl
        case h1 =>
          intro wq_19 kq_19
          refine WL.move rfl rfl (?_)
          refine WL.nil ?_
          exact WX.one ⟨rfl, by first | exact Chg.refl _ _ | assumption⟩
        apply DQ.step (E' := [(5, _), (37, _)])
        case ho => rfl
        case hs => exact ⟨rfl, rfl, trivial⟩
        case hk => rfl
        case h1 =>
          intro wq_20 kq_20
          have zs_kq_20 := kq_20.size
          replace hw := hw.pure kq_20
          replace hb_1 := hb_1.pure kq_20
          refine WL.pass rfl rfl rfl rfl (WL.nil (?_))
          exact WX.one ⟨rfl, by first | exact Chg.refl _ _ | assumption⟩
        refine DQ.done (fun hd_4 => ?_)
        refine DL.step [(37, _)] rfl ⟨rfl, trivial⟩ rfl (fun wq_21 kq_21 => ?_)
        have zs_kq_21 := kq_21.size
        replace hw := hw.pure kq_21
        replace hb_1 := hb_1.pure kq_21
        replace hd_4 := hd_4.pure kq_21
        refine WL.pass rfl rfl rfl rfl (WL.nil (?_))
        refine WX.one ⟨hd_4, ?_⟩
        refine DL.step [(39, _), (37, _)] rfl ⟨rfl, rfl, trivial⟩ rfl (fun wq_22 kq_22 => ?_)
        have zs_kq_22 := kq_22.size
        replace hw := hw.pure kq_22
        replace hb_1 := hb_1.pure kq_22
        replace hd_4 := hd_4.pure kq_22
        refine WL.pass rfl rfl rfl rfl (WL.nil (?_))
        refine WX.one ⟨hd_4, ?_⟩
        refine DL.step [(38, _), (40, _), (37, _)] rfl ⟨rfl, rfl, rfl, trivial⟩ rfl (fun wq_23 kq_23 => ?_)
        have zs_kq_23 := kq_23.size
        replace hw := hw.pure kq_23
        replace hb_1 := hb_1.pure kq_23
        replace hd_4 := hd_4.pure kq_23
        refine WL.pass rfl rfl rfl rfl (WL.nil (?_))
        refine WX.one ⟨hd_4, ?_⟩
        refine DL.step [(37, _), (41, _)] rfl ⟨rfl, rfl, trivial⟩ rfl (fun wq_24 kq_24 => ?_)
        have zs_kq_24 := kq_24.size
        replace hw := hw.pure kq_24
        replace hb_1 := hb_1.pure kq_24
        replace hd_4 := hd_4.pure kq_24
        refine WL.pickF rfl rfl rfl (?_)
        refine WL.nil ?_
        refine WX.one ⟨hd_4, ?_⟩
        refine DL.step [(42, _)] rfl ⟨rfl, trivial⟩ rfl (fun wq_25 kq_25 => ?_)
        have zs_kq_25 := kq_25.size
        replace hw := hw.pure kq_25
        replace hb_1 := hb_1.pure kq_25
        replace hd_4 := hd_4.pure kq_25
        refine WL.assign rfl rfl (?_)
        refine WL.nil ?_
        refine WX.one ⟨hd_4, ?_⟩
        refine DL.done (fun we_26 ke_26 => ?_)
        have zs_ke_26 := ke_26.size
        replace hw := hw.pure ke_26
        replace hb_1 := hb_1.pure ke_26
        replace hd_4 := hd_4.pure ke_26
        refine WX.then_normal (WC.ret (?_))
        refine WX.ret1 (.inl rfl) Tryd.results9 rfl ?_
        first
          | exact ⟨_, rfl, rfl, hw⟩
          | (refine ⟨_, rfl, ?_, hw⟩
             exact congrArg Value.bool (decide_eq_true rfl))
          | (exfalso; omega)
    case hf =>
      intro h27
      replace h27 := of_decide_eq_false h27
      apply DQ.step (E' := [(25, _), (27, _)])
      case ho => rfl
      case hs => exact ⟨rfl, rfl, trivial⟩
      case hk => rfl
      case h1 =>
        intro wq_10 kq_10
        refine WL.pickT rfl rfl rfl (?_)
        refine WL.nil ?_
        exact WX.one ⟨rfl, by first | exact Chg.refl _ _ | assumption⟩
      apply DQ.step (E' := [(28, _)])
      case ho => rfl
      case hs => exact ⟨rfl, trivial⟩
      case hk => rfl
      case h1 =>
        intro wq_11 kq_11
        refine WL.move rfl rfl (?_)
        refine WL.nil ?_
        exact WX.one ⟨rfl, by first | exact Chg.refl _ _ | assumption⟩
      apply DQ.step (E' := [(3, _), (29, _)])
      case ho => rfl
      case hs => exact ⟨rfl, rfl, trivial⟩
      case hk => rfl
      case h1 =>
        intro wq_12 kq_12
        refine WL.pass rfl rfl rfl rfl (WL.nil (?_))
        exact WX.one ⟨rfl, by first | exact Chg.refl _ _ | assumption⟩
      apply DQ.step (E' := [(30, _), (29, _)])
      case ho => rfl
      case hs => exact ⟨rfl, rfl, trivial⟩
      case hk => rfl
      case h1 =>
        intro wq_13 kq_13
        refine WL.pass rfl rfl rfl rfl (WL.nil (?_))
        exact WX.one ⟨rfl, by first | exact Chg.refl _ _ | assumption⟩
      apply DQ.step (E' := [(29, _), (31, _)])
      case ho => rfl
      case hs => exact ⟨rfl, rfl, trivial⟩
      case hk => rfl
      case h1 =>
        intro wq_14 kq_14
        refine WL.pickF rfl rfl rfl (?_)
        refine WL.nil ?_
        exact WX.one ⟨rfl, by first | exact Chg.refl _ _ | assumption⟩
      apply DQ.step (E' := [(32, _)])
      case ho => rfl
      case hs => exact ⟨rfl, trivial⟩
      case hk => rfl
      case h1 =>
        intro wq_15 kq_15
        refine WL.move rfl rfl (?_)
        refine WL.nil ?_
        exact WX.one ⟨rfl, by first | exact Chg.refl _ _ | assumption⟩
      apply DQ.step (E' := [(6, _), (33, _)])
      case ho => rfl
      case hs => exact ⟨rfl, rfl, trivial⟩
      case hk => rfl
      case h1 =>
        intro wq_16 kq_16
        refine WL.pass rfl rfl rfl rfl (WL.nil (?_))
        exact WX.one ⟨rfl, by first | exact Chg.refl _ _ | assumption⟩
      apply DQ.step (E' := [(34, _), (33, _)])
      case ho => rfl
      case hs => exact ⟨rfl, rfl, trivial⟩
      case hk => rfl
      case h1 =>
        intro wq_17 kq_17
        refine WL.pass rfl rfl rfl rfl (WL.nil (?_))
        exact WX.one ⟨rfl, by first | exact Chg.refl _ _ | assumption⟩
      apply DQ.step (E' := [(33, _), (35, _)])
      case ho => rfl
      case hs => exact ⟨rfl, rfl, trivial⟩
      case hk => rfl
      case h1 =>
        intro wq_18 kq_18
        refine WL.pickF rfl rfl rfl (?_)
        refine WL.nil ?_
        exact WX.one ⟨rfl, by first | exact Chg.refl _ _ | assumption⟩
      apply DQ.step (E' := [(36, _)])
      case ho => rfl
      case hs => exact ⟨rfl, trivial⟩
      case hk => rfl
      case h1 =>
        intro wq_19 kq_19
        refine WL.move rfl rfl (?_)
        refine WL.nil ?_
        exact WX.one ⟨rfl, by first | exact Chg.refl _ _ | assumption⟩
      apply DQ.step (E' := [(5, _), (37, _)])
      case ho => rfl
      case hs => exact ⟨rfl, rfl, trivial⟩
      case hk => rfl
      case h1 =>
        intro wq_20 kq_20
        have zs_kq_20 := kq_20.size
        replace hw := hw.pure kq_20
        replace hb_1 := hb_1.pure kq_20
        refine WL.pass rfl rfl rfl rfl (WL.nil (?_))
        exact WX.one ⟨rfl, by first | exact Chg.refl _ _ | assumption⟩
      refine DQ.done (fun hd_4 => ?_)
      refine DL.step [(37, _)] rfl ⟨rfl, trivial⟩ rfl (fun wq_21 kq_21 => ?_)
      have zs_kq_21 := kq_21.size
      replace hw := hw.pure kq_21
      replace hb_1 := hb_1.pure kq_21
      replace hd_4 := hd_4.pure kq_21
      refine WL.pass rfl rfl rfl rfl (WL.nil (?_))
      refine WX.one ⟨hd_4, ?_⟩
      refine DL.step [(39, _), (37, _)] rfl ⟨rfl, rfl, trivial⟩ rfl (fun wq_22 kq_22 => ?_)
      have zs_kq_22 := kq_22.size
      replace hw := hw.pure kq_22
      replace hb_1 := hb_1.pure kq_22
      replace hd_4 := hd_4.pure kq_22
      refine WL.pass rfl rfl rfl rfl (WL.nil (?_))
      refine WX.one ⟨hd_4, ?_⟩
      refine DL.step [(38, _), (40, _), (37, _)] rfl ⟨rfl, rfl, rfl, trivial⟩ rfl (fun wq_23 kq_23 => ?_)
      have zs_kq_23 := kq_23.size
      replace hw := hw.pure kq_23
      replace hb_1 := hb_1.pure kq_23
      replace hd_4 := hd_4.pure kq_23
      refine WL.pass rfl rfl rfl rfl (WL.nil (?_))
      refine WX.one ⟨hd_4, ?_⟩
      refine DL.step [(37, _), (41, _)] rfl ⟨rfl, rfl, trivial⟩ rfl (fun wq_24 kq_24 => ?_)
      have zs_kq_24 := kq_24.size
      replace hw := hw.pure kq_24
      replace hb_1 := hb_1.pure kq_24
      replace hd_4 := hd_4.pure kq_24
      refine WL.pickF rfl rfl rfl (?_)
      refine WL.nil ?_
      refine WX.one ⟨hd_4, ?_⟩
      refine DL.step [(42, _)] rfl ⟨rfl, trivial⟩ rfl (fun wq_25 kq_25 => ?_)
      have zs_kq_25 := kq_25.size
      replace hw := hw.pure kq_25
      replace hb_1 := hb_1.pure kq_25
      replace hd_4 := hd_4.pure kq_25
      refine WL.assign rfl rfl (?_)
      refine WL.nil ?_
      refine WX.one ⟨hd_4, ?_⟩
      refine DL.done (fun we_26 ke_26 => ?_)
      have zs_ke_26 := ke_26.size
      replace hw := hw.pure ke_26
      replace hb_1 := hb_1.pure ke_26
      replace hd_4 := hd_4.pure ke_26
      refine WX.then_normal (WC.ret (?_))
      refine WX.ret1 (.inl rfl) Tryd.results9 rfl ?_
      first
        | exact ⟨_, rfl, rfl, hw⟩
        | (refine ⟨_, rfl, ?_, hw⟩
           exact congrArg Value.bool (decide_eq_true rfl))
        | (exfalso; omega)
  case hf =>
    intro h24
    replace h24 := of_decide_eq_false h24
    apply DQ.step (E' := [(24, _)])
    case ho => rfl
    case hs => exact ⟨rfl, trivial⟩
    case hk => rfl
    case h1 =>
      intro wq_7 kq_7
      refine WL.move rfl rfl (?_)
      refine WL.nil ?_
      exact WX.one ⟨rfl, by first | exact Chg.refl _ _ | assumption⟩
    apply DQ.step (E' := [(4, _), (25, _)])
    case ho => rfl
    case hs => exact ⟨rfl, rfl, trivial⟩
    case hk => rfl
    case h1 =>
      intro wq_8 kq_8
      refine WL.pass rfl rfl rfl rfl (WL.nil (?_))
      exact WX.one ⟨rfl, by first | exact Chg.refl _ _ | assumption⟩
    apply DQ.step (E' := [(26, _), (25, _)])
    case ho => rfl
    case hs => exact ⟨rfl, rfl, trivial⟩
    case hk => rfl
    case h1 =>
      intro wq_9 kq_9
      refine WL.pass rfl rfl rfl rfl (WL.nil (?_))
      exact WX.one ⟨rfl, by first | exact Chg.refl _ _ | assumption⟩
    apply DQ.step (E' := [(25, _), (27, _)])
    case ho => rfl
    case hs => exact ⟨rfl, rfl, trivial⟩
    case hk => rfl
    case h1 =>
      intro wq_10 kq_10
      refine WL.pickF rfl rfl rfl (?_)
      refine WL.nil ?_
      exact WX.one ⟨rfl, by first | exact Chg.refl _ _ | assumption⟩
    apply DQ.step (E' := [(28, _)])
    case ho => rfl
    case hs => exact ⟨rfl, trivial⟩
    case hk => rfl
    case h1 =>
      intro wq_11 kq_11
      refine WL.move rfl rfl (?_)
      refine WL.nil ?_
      exact WX.one ⟨rfl, by first | exact Chg.refl _ _ | assumption⟩
    apply DQ.step (E' := [(3, _), (29, _)])
    case ho => rfl
    case hs => exact ⟨rfl, rfl, trivial⟩
    case hk => rfl
    case h1 =>
      intro wq_12 kq_12
      refine WL.pass rfl rfl rfl rfl (WL.nil (?_))
      exact WX.one ⟨rfl, by first | exact Chg.refl _ _ | assumption⟩
    apply DQ.step (E' := [(30, _), (29, _)])
    case ho => rfl
    case hs => exact ⟨rfl, rfl, trivial⟩
    case hk => rfl
    case h1 =>
      intro wq_13 kq_13
      refine WL.pass rfl rfl rfl rfl (WL.nil (?_))
      exact WX.one ⟨rfl, by first | exact Chg.refl _ _ | assumption⟩
    apply DQ.step (E' := [(29, _), (31, _)])
    case ho => rfl
    case hs => exact ⟨rfl, rfl, trivial⟩
    case hk => rfl
    case h1 =>
      intro wq_14 kq_14
      refine WL.pickF rfl rfl rfl (?_)
      refine WL.nil ?_
      exact WX.one ⟨rfl, by first | exact Chg.refl _ _ | assumption⟩
    apply DQ.step (E' := [(32, _)])
    case ho => rfl
    case hs => exact ⟨rfl, trivial⟩
    case hk => rfl
    case h1 =>
      intro wq_15 kq_15
      refine WL.move rfl rfl (?_)
      refine WL.nil ?_
      exact WX.one ⟨rfl, by first | exact Chg.refl _ _ | assumption⟩
    apply DQ.step (E' := [(6, _), (33, _)])
    case ho => rfl
    case hs => exact ⟨rfl, rfl, trivial⟩
    case hk => rfl
    case h1 =>
      intro wq_16 kq_16
      refine WL.pass rfl rfl rfl rfl (WL.nil (?_))
      exact WX.one ⟨rfl, by first | exact Chg.refl _ _ | assumption⟩
    apply DQ.step (E' := [(34, _), (33, _)])
    case ho => rfl
    case hs => exact ⟨rfl, rfl, trivial⟩
    case hk => rfl
    case h1 =>
      intro wq_17 kq_17
      refine WL.pass rfl rfl rfl rfl (WL.nil (?_))
      exact WX.one ⟨rfl, by first | exact Chg.refl _ _ | assumption⟩
    apply DQ.step (E' := [(33, _), (35, _)])
    case ho => rfl
    case hs => exact ⟨rfl, rfl, trivial⟩
    case hk => rfl
    case h1 =>
      intro wq_18 kq_18
      refine WL.pickF rfl rfl rfl (?_)
      refine WL.nil ?_
      exact WX.one ⟨rfl, by first | exact Chg.refl _ _ | assumption⟩
    apply DQ.step (E' := [(36, _)])
    case ho => rfl
    case hs => exact ⟨rfl, trivial⟩
    case hk => rfl
    case h1 =>
      intro wq_19 kq_19
      refine WL.move rfl rfl (?_)
      refine WL.nil ?_
      exact WX.one ⟨rfl, by first | exact Chg.refl _ _ | assumption⟩
    apply DQ.step (E' := [(5, _), (37, _)])
    case ho => rfl
    case hs => exact ⟨rfl, rfl, trivial⟩
    case hk => rfl
    case h1 =>
      intro wq_20 kq_20
      have zs_kq_20 := kq_20.size
      replace hw := hw.pure kq_20
      replace hb_1 := hb_1.pure kq_20
      refine WL.pass rfl rfl rfl rfl (WL.nil (?_))
      exact WX.one ⟨rfl, by first | exact Chg.refl _ _ | assumption⟩
    refine DQ.done (fun hd_4 => ?_)
    refine DL.step [(37, _)] rfl ⟨rfl, trivial⟩ rfl (fun wq_21 kq_21 => ?_)
    have zs_kq_21 := kq_21.size
    replace hw := hw.pure kq_21
    replace hb_1 := hb_1.pure kq_21
    replace hd_4 := hd_4.pure kq_21
    refine WL.pass rfl rfl rfl rfl (WL.nil (?_))
    refine WX.one ⟨hd_4, ?_⟩
    refine DL.step [(39, _), (37, _)] rfl ⟨rfl, rfl, trivial⟩ rfl (fun wq_22 kq_22 => ?_)
    have zs_kq_22 := kq_22.size
    replace hw := hw.pure kq_22
    replace hb_1 := hb_1.pure kq_22
    replace hd_4 := hd_4.pure kq_22
    refine WL.pass rfl rfl rfl rfl (WL.nil (?_))
    refine WX.one ⟨hd_4, ?_⟩
    refine DL.step [(38, _), (40, _), (37, _)] rfl ⟨rfl, rfl, rfl, trivial⟩ rfl (fun wq_23 kq_23 => ?_)
    have zs_kq_23 := kq_23.size
    replace hw := hw.pure kq_23
    replace hb_1 := hb_1.pure kq_23
    replace hd_4 := hd_4.pure kq_23
    refine WL.pass rfl rfl rfl rfl (WL.nil (?_))
    refine WX.one ⟨hd_4, ?_⟩
    refine DL.step [(37, _), (41, _)] rfl ⟨rfl, rfl, trivial⟩ rfl (fun wq_24 kq_24 => ?_)
    have zs_kq_24 := kq_24.size
    replace hw := hw.pure kq_24
    replace hb_1 := hb_1.pure kq_24
    replace hd_4 := hd_4.pure kq_24
    refine WL.pickF rfl rfl rfl (?_)
    refine WL.nil ?_
    refine WX.one ⟨hd_4, ?_⟩
    refine DL.step [(42, _)] rfl ⟨rfl, trivial⟩ rfl (fun wq_25 kq_25 => ?_)
    have zs_kq_25 := kq_25.size
    replace hw := hw.pure kq_25
    replace hb_1 := hb_1.pure kq_25
    replace hd_4 := hd_4.pure kq_25
    refine WL.assign rfl rfl (?_)
    refine WL.nil ?_
    refine WX.one ⟨hd_4, ?_⟩
    refine DL.done (fun we_26 ke_26 => ?_)
    have zs_ke_26 := ke_26.size
    replace hw := hw.pure ke_26
    replace hb_1 := hb_1.pure ke_26
    replace hd_4 := hd_4.pure ke_26
    refine WX.then_normal (WC.ret (?_))
    refine WX.ret1 (.inl rfl) Tryd.results9 rfl ?_
    first
      | exact ⟨_, rfl, rfl, hw⟩
      | (refine ⟨_, rfl, ?_, hw⟩
         exact congrArg Value.bool (decide_eq_true rfl))
      | (exfalso; omega)
end Go.Proofs.YtjeldcjchipdgaaDoor
namespace Go.Proofs.YtjeldcjchipdgaaDoor
open Go.RowKit Go.HL
set_option maxRecDepth 100000

/-! the document's records -/
theorem unp_inv {s : ByteArray} (h : (unpR s).2 = 0) : rightP (unpR s).1 ∧ WfP (unpR s).1 ∧ ptrS (unpR s).1 = s := by
  by_cases h4 : (decL s.data.toList).length = 4
  · obtain ⟨i0, i1, i2, i3, hL⟩ := four h4
    have e := unpR_four hL
    by_cases hc : decE s.data.toList = 0 ∧ (i0.kind = 1 ∧ i1.kind = 1 ∧ i2.kind = 1 ∧ i3.kind = 2) ∧ rightP (ptr4 i0 i1 i2 i3)
    · rw [if_pos hc] at e
      rw [e]
      exact ⟨hc.2.2, four_wf hc.1 hL, (unp_text hc.1 hL hc.2.2).2 hc.2.1⟩
    · rw [if_neg hc] at e
      rw [e] at h
      cases h
  · rw [unpR_bad (.inr h4)] at h
    cases h
theorem dec_inv {b : List UInt8} {u : UbV} (h : decU b = some u) : encE u = 0 ∧ encB u = b ∧ WfU u := by
  unfold decU at h
  split at h
  · rename_i i0 i1 i2 hu
    split at h
    · rename_i hc
      obtain ⟨c1, c2, c3, c4, c5⟩ := hc
      injection h with h
      subst h
      obtain ⟨_, _, _, _, hg, hE, hB⟩ := un_parts hu
      obtain ⟨r1, r2, r3⟩ := unp_inv c5
      have g1 := hg i1 (by simp)
      have e1 := good1 g1 c2
      have e2 := good2 (hg i2 (by simp)) c4
      have hl : uit ⟨i1.n, (unpR i2.s).1⟩ = [i0, i1, i2] := by
        show [(⟨1, 77, ⟨#[]⟩⟩ : Item), ⟨1, i1.n, ⟨#[]⟩⟩, ⟨2, 0, ptrS (unpR i2.s).1⟩] = _
        rw [r3, c1, ← e1, ← e2]
      refine ⟨?_, ?_, g1.2.2, r2⟩
      · rw [encE, if_pos ⟨r1, c3⟩, hl, hE]
      · rw [encB, if_pos ⟨r1, c3⟩, hl, hB]
    · cases h
  · cases h
end Go.Proofs.YtjeldcjchipdgaaDoor
