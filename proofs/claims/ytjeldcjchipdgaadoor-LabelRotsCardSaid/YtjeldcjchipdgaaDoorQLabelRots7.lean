import Derived.Test.YtjeldcjchipdgaaDoorQLabelRots6
namespace Go.Proofs.YtjeldcjchipdgaaDoor
open Go.RowKit Go.HL
set_option maxRecDepth 100000

def zeroP : PtrV := ⟨0, 0, 0, ⟨#[]⟩⟩
def ptr4 (i0 i1 i2 i3 : Item) : PtrV := ⟨i0.n, i1.n, i2.n, i3.s⟩
def unpR (s : ByteArray) : PtrV × Int :=
  match decL s.data.toList with
  | [i0, i1, i2, i3] => if decE s.data.toList = 0 ∧ (i0.kind = 1 ∧ i1.kind = 1 ∧ i2.kind = 1 ∧ i3.kind = 2) ∧ rightP (ptr4 i0 i1 i2 i3) then (ptr4 i0 i1 i2 i3, 0) else (zeroP, 2)
  | _ => (zeroP, 2)
theorem unpR_four {s : ByteArray} {i0 i1 i2 i3 : Item} (h : decL s.data.toList = [i0, i1, i2, i3]) : unpR s = if decE s.data.toList = 0 ∧ (i0.kind = 1 ∧ i1.kind = 1 ∧ i2.kind = 1 ∧ i3.kind = 2) ∧ rightP (ptr4 i0 i1 i2 i3) then (ptr4 i0 i1 i2 i3, 0) else (zeroP, 2) := by
  unfold unpR
  rw [h]
theorem unpR_bad {s : ByteArray} (h : decE s.data.toList ≠ 0 ∨ (decL s.data.toList).length ≠ 4) : unpR s = (zeroP, 2) := by
  unfold unpR
  split
  · rename_i hl
    rcases h with h | h
    · rw [if_neg (fun x => h x.1)]
    · rw [hl] at h; exact absurd rfl h
  · rfl
theorem four {l : List Item} (h : l.length = 4) : ∃ i0 i1 i2 i3, l = [i0, i1, i2, i3] := by
  match l, h with
  | [a, b, c, d], _ => exact ⟨a, b, c, d, rfl⟩
theorem good1 {i : Item} (h : Good i) (k : i.kind = 1) : i = ⟨1, i.n, ⟨#[]⟩⟩ := by
  have h2 := h.2.1
  simp only [okI, decide_eq_true_eq] at h2
  obtain ⟨a, b, c⟩ := i
  simp only at k h2 ⊢
  subst k
  rcases h2 with ⟨_, rfl⟩ | ⟨h, _⟩
  · rfl
  · cases h
theorem good2 {i : Item} (h : Good i) (k : i.kind = 2) : i = ⟨2, 0, i.s⟩ := by
  have h2 := h.2.1
  simp only [okI, decide_eq_true_eq] at h2
  obtain ⟨a, b, c⟩ := i
  simp only at k h2 ⊢
  subst k
  rcases h2 with ⟨h, _⟩ | ⟨_, rfl⟩
  · cases h
  · rfl
theorem decE_items {b : List UInt8} (h : decE b = 0) : ∀ i ∈ decL b, Good i := (dec_spec b.length b (Nat.le_refl _) 0 (decL b) (by omega) (decE_zero h)).2.1
theorem four_wf {b : List UInt8} {i0 i1 i2 i3 : Item} (h : decE b = 0) (hL : decL b = [i0, i1, i2, i3]) : WfP (ptr4 i0 i1 i2 i3) := by
  have hg := decE_items h
  rw [hL] at hg
  exact ⟨(hg i0 (by simp)).2.2, (hg i1 (by simp)).2.2, (hg i2 (by simp)).2.2⟩
theorem unp_text {s : ByteArray} {i0 i1 i2 i3 : Item} (h0 : decE s.data.toList = 0) (hL : decL s.data.toList = [i0, i1, i2, i3]) (hr : rightP (ptr4 i0 i1 i2 i3)) : ptrS (ptr4 i0 i1 i2 i3) = s ↔ (i0.kind = 1 ∧ i1.kind = 1 ∧ i2.kind = 1 ∧ i3.kind = 2) := by
  have hg := decE_items h0
  have hw := four_wf h0 hL
  obtain ⟨he, hs⟩ := decE_good h0
  have hp := pit_check hr hw
  rw [hL] at hg hs he
  rw [ptrS, if_pos hr]
  constructor
  · intro h
    have h1 : encAll (pit (ptr4 i0 i1 i2 i3)) = encAll [i0, i1, i2, i3] := by rw [hs, ← h]
    have h2 := encAll_inj hp he (fun i hi => (pit_good hr hw i hi).2.2) (fun i hi => (hg i hi).2.2) h1
    simp only [pit, List.cons.injEq, and_true] at h2
    obtain ⟨e0, e1, e2, e3⟩ := h2
    refine ⟨?_, ?_, ?_, ?_⟩
    · rw [← e0]
    · rw [← e1]
    · rw [← e2]
    · rw [← e3]
  · rintro ⟨k0, k1, k2, k3⟩
    have h1 : pit (ptr4 i0 i1 i2 i3) = [i0, i1, i2, i3] := by
      have e0 := good1 (hg i0 (by simp)) k0
      have e1 := good1 (hg i1 (by simp)) k1
      have e2 := good1 (hg i2 (by simp)) k2
      have e3 := good2 (hg i3 (by simp)) k3
      simp only [pit, ptr4]
      rw [← e0, ← e1, ← e2, ← e3]
    rw [h1, hs]
theorem unp_ptr {p : PtrV} (hr : rightP p) (hw : WfP p) : unpR (ptrS p) = (p, 0) := by
  have e : (ptrS p).data.toList = encAll (pit p) := by rw [ptrS, if_pos hr]
  have hp := pit_check hr hw
  have hL : decL (ptrS p).data.toList = pit p := by rw [e]; exact decL_enc hp (fun i hi => (pit_good hr hw i hi).2.2)
  have hE : decE (ptrS p).data.toList = 0 := by rw [e]; exact decE_enc hp (fun i hi => (pit_good hr hw i hi).2.2)
  have h4 := unpR_four (s := ptrS p) (i0 := ⟨1, p.a, ⟨#[]⟩⟩) (i1 := ⟨1, p.z, ⟨#[]⟩⟩) (i2 := ⟨1, p.b, ⟨#[]⟩⟩) (i3 := ⟨2, 0, p.s⟩) hL
  rw [h4, if_pos ⟨hE, ⟨rfl, rfl, rfl, rfl⟩, hr⟩]
  rfl

theorem unptr_calls (s : ByteArray) (w : World) (hs : s.size ≤ 140737488351232) : Calls Tryd.prog 41 [.string s].toArray w (Ret fun v w' => v = .tuple #[.agg (ept.f (unpR s).1).toArray, vi (unpR s).2] ∧ Chg Nob w w') := by
  have kk := Chg.refl Nob w
  refine Calls.of_WC Tryd.func41 rfl Tryd.ntmps41 (by simp) ?_
  refine WC.seq (WC.region (?_))
  refine WL.alloc Tryd.zeroValue23 rfl ?_
  intro g_1 w_1 hge_1 hlt_1 hb_1 k_1
  have zs_k_1 := k_1.size
  replace kk := kk.pure k_1
  refine WL.assign rfl rfl (WL.nil (WX.then_normal (WC.seq (WC.region (WL.move rfl rfl (?_))))))
  refine WL.toBytes Tryd.underlying9 Tryd.underlying26 Tryd.underlying5 rfl (by omega) rfl ?_
  intro a_hb c_hb w_hb hb k_hb z_hb
  have zs_k_hb := k_hb.size
  replace kk := kk.pure k_hb
  replace hb_1 := hb_1.pure k_hb
  have hb2 := hb.rsl.old
  refine WL.call eg_70 rfl rfl (decode_calls' hb2 (by simpa using hs)) ?_
  rintro v w4 ⟨⟨ak, ck, rfl, hk⟩, k4⟩
  have zs_k4 := k4.size
  replace kk := kk.pure k4
  replace hb_1 := hb_1.pure k4
  replace hk := hk.lt
  refine WL.move rfl rfl (WL.extract rfl rfl rfl (WL.extract rfl rfl rfl (WL.assign rfl rfl (WL.assign rfl rfl (WL.nil (WX.then_normal (WC.seq (?_))))))))
  refine WC.seq (WC.region (WL.move rfl rfl (?_)))
  refine WL.neq? rfl rfl rfl (fun h16 => ?_) (fun h16 => ?_)
  ·
    refine WL.move rfl rfl (WL.pass rfl rfl rfl rfl (WL.pass rfl rfl rfl rfl (WL.pass rfl rfl rfl rfl (WL.pickT rfl rfl rfl (WL.move rfl rfl (WL.pass rfl rfl rfl rfl (WL.pass rfl rfl rfl rfl (?_))))))))
    refine WL.pass rfl rfl rfl rfl (WL.pass rfl rfl rfl rfl (WL.pass rfl rfl rfl rfl (WL.pickT rfl rfl rfl (WL.move rfl rfl (WL.pass rfl rfl rfl rfl (WL.pass rfl rfl rfl rfl (WL.pass rfl rfl rfl rfl (?_))))))))
    refine WL.pass rfl rfl rfl rfl (WL.pass rfl rfl rfl rfl (WL.pickT rfl rfl rfl (WL.move rfl rfl (WL.pass rfl rfl rfl rfl (WL.pass rfl rfl rfl rfl (WL.pass rfl rfl rfl rfl (WL.pass rfl rfl rfl rfl (?_))))))))
    refine WL.pass rfl rfl rfl rfl (WL.pickT rfl rfl rfl (WL.move rfl rfl (WL.pass rfl rfl rfl rfl (WL.pass rfl rfl rfl rfl (WL.pass rfl rfl rfl rfl (WL.pass rfl rfl rfl rfl (WL.pass rfl rfl rfl rfl (?_))))))))
    refine WL.pickT rfl rfl rfl (WL.nil (WX.then_normal (WC.cond_true rfl (WC.seq (WC.region (WL.bld rfl (bld_23_z) rfl (?_)))))))
    refine WL.stores Tryd.sizeOf23 hb_1 rfl rfl (by first | (simp; done) | (simp; omega) | rfl) (by first | exact Enc.one _ _ | (intro u hu; obtain ⟨x, _, rfl⟩ := List.mem_map.1 hu; rfl) | (simp [Value.oneCell']; done) | (simp [Value.oneCell', Value.cells]; done)) (by first | (simp; done) | (simp; omega) | (simp [Value.cells]; done) | (simp [Value.cells]; omega) | exact Nat.le_of_ble_eq_true rfl) rfl ?_
    intro w_2 hs_2 hn_2 k_2
    have zs_k_2 := k_2.size
    replace kk := kk.chg k_2 (by first | (intro x h1 h2; exact h2) | (intro x h0 h1 h2; exact hS x h1 h2) | (intro x h0 h1 h2; have h3 : _ = _ := h2; subst h3; exact hSR h1.1) | (intro x h1 h2; have h3 : _ = _ := h2; subst h3; assumption) | (intro x h1 h2; have h3 : _ = _ := h2; exfalso; omega) | (intro b h1 h2 h3; have h4 : _ = _ := h3; (try dsimp only at h2); exfalso; omega) | (intro h1; have h2 : _ = _ := h1; exfalso; omega) | (intro h1; have h2 : _ ≤ _ := h1; exfalso; omega) | (intros; exfalso; (try dsimp only at *); omega) | (intro b h1 h2 h3; exfalso; have h4 := h3.2; (try dsimp only at *); omega) | (intro h1; exfalso; have h4 := h1.2; (try dsimp only at *); omega) | (intro x h1 h2; exfalso; have h4 := h2.2; (try dsimp only at *); omega) | (intro x h1 h2; exact ⟨_, rfl, h2⟩) | (intro x h1 h2; have h4 := h2.1; have h5 := h2.2; exfalso; omega) | (intro x h1 h2; exact h2.1) | (intro x h1 h2; rcases h2.1 with h3 | h3; exact h3; exfalso; omega) | (intro x h1 h2; rcases h2 with h3 | h3; exact h3; exfalso; omega))
    replace hk := hk.chg k_2 (by first | (intro x h1 h2; exact h2) | (intro x h0 h1 h2; exact hS x h1 h2) | (intro x h0 h1 h2; have h3 : _ = _ := h2; subst h3; exact hSR h1.1) | (intro x h1 h2; have h3 : _ = _ := h2; subst h3; assumption) | (intro x h1 h2; have h3 : _ = _ := h2; exfalso; omega) | (intro b h1 h2 h3; have h4 : _ = _ := h3; (try dsimp only at h2); exfalso; omega) | (intro h1; have h2 : _ = _ := h1; exfalso; omega) | (intro h1; have h2 : _ ≤ _ := h1; exfalso; omega) | (intros; exfalso; (try dsimp only at *); omega) | (intro b h1 h2 h3; exfalso; have h4 := h3.2; (try dsimp only at *); omega) | (intro h1; exfalso; have h4 := h1.2; (try dsimp only at *); omega) | (intro x h1 h2; exfalso; have h4 := h2.2; (try dsimp only at *); omega) | (intro x h1 h2; exact ⟨_, rfl, h2⟩) | (intro x h1 h2; have h4 := h2.1; have h5 := h2.2; exfalso; omega) | (intro x h1 h2; exact h2.1) | (intro x h1 h2; rcases h2.1 with h3 | h3; exact h3; exfalso; omega) | (intro x h1 h2; rcases h2 with h3 | h3; exact h3; exfalso; omega))
    replace hb_1 := hn_2
    refine WL.assign rfl rfl (WL.nil (WX.then_normal (WC.ret (WX.then_ret (?_)))))
    refine WX.ret2c (.inl rfl) Tryd.results41 Tryd.isAgg23 Tryd.sizeOf23 hb_1 rfl (by first | (simp; done) | (simp; omega) | rfl) rfl ?_
    first
      | (refine ⟨_, rfl, ?_, kk⟩
         rw [unpR_bad (by omega)]
         rfl)
      | (refine ⟨_, rfl, ?_, kk⟩
         rw [unpR_four hL, if_neg (by omega)]
         rfl)
      | (have hr : ¬ rightP (ptr4 i0 i1 i2 i3) := fun hr => h74 (by rw [ptrE, if_pos hr])
         refine ⟨_, rfl, ?_, kk⟩
         rw [unpR_four hL, if_neg (fun x => hr x.2.2)]
         rw [ptrE, if_neg hr]
         rfl)
      | (have hr : rightP (ptr4 i0 i1 i2 i3) := by
           by_cases hr : rightP (ptr4 i0 i1 i2 i3)
           ·
             exact hr
           ·
             rw [ptrE, if_neg hr] at h74; cases h74
         refine ⟨_, rfl, ?_, kk⟩
         rw [unpR_four hL, if_pos ⟨by omega, ⟨by omega, by omega, by omega, by omega⟩, hr⟩]
         rfl)
  ·
    refine WL.move rfl rfl (WL.want rfl rfl rfl (WL.move rfl rfl (WL.want rfl rfl rfl (WL.len Tryd.underlying76 rfl rfl (WL.want rfl rfl rfl (?_))))))
    refine WL.neq? rfl rfl rfl (fun h20 => ?_) (fun h20 => ?_)
    ·
      refine WL.pickF rfl rfl rfl (WL.move rfl rfl (WL.pass rfl rfl rfl rfl (WL.pass rfl rfl rfl rfl (WL.pass rfl rfl rfl rfl (WL.pass rfl rfl rfl rfl (WL.pass rfl rfl rfl rfl (WL.pickT rfl rfl rfl (?_))))))))
      refine WL.move rfl rfl (WL.pass rfl rfl rfl rfl (WL.pass rfl rfl rfl rfl (WL.pass rfl rfl rfl rfl (WL.pass rfl rfl rfl rfl (WL.pass rfl rfl rfl rfl (WL.pickT rfl rfl rfl (WL.move rfl rfl (?_))))))))
      refine WL.pass rfl rfl rfl rfl (WL.pass rfl rfl rfl rfl (WL.pass rfl rfl rfl rfl (WL.pass rfl rfl rfl rfl (WL.pass rfl rfl rfl rfl (WL.pickT rfl rfl rfl (WL.move rfl rfl (WL.pass rfl rfl rfl rfl (?_))))))))
      refine WL.pass rfl rfl rfl rfl (WL.pass rfl rfl rfl rfl (WL.pass rfl rfl rfl rfl (WL.pass rfl rfl rfl rfl (WL.pickT rfl rfl rfl (WL.nil (WX.then_normal (WC.cond_true rfl (?_))))))))
      refine WC.seq (WC.region (WL.bld rfl (bld_23_z) rfl (?_)))
      refine WL.stores Tryd.sizeOf23 hb_1 rfl rfl (by first | (simp; done) | (simp; omega) | rfl) (by first | exact Enc.one _ _ | (intro u hu; obtain ⟨x, _, rfl⟩ := List.mem_map.1 hu; rfl) | (simp [Value.oneCell']; done) | (simp [Value.oneCell', Value.cells]; done)) (by first | (simp; done) | (simp; omega) | (simp [Value.cells]; done) | (simp [Value.cells]; omega) | exact Nat.le_of_ble_eq_true rfl) rfl ?_
      intro w_2 hs_2 hn_2 k_2
      have zs_k_2 := k_2.size
      replace kk := kk.chg k_2 (by first | (intro x h1 h2; exact h2) | (intro x h0 h1 h2; exact hS x h1 h2) | (intro x h0 h1 h2; have h3 : _ = _ := h2; subst h3; exact hSR h1.1) | (intro x h1 h2; have h3 : _ = _ := h2; subst h3; assumption) | (intro x h1 h2; have h3 : _ = _ := h2; exfalso; omega) | (intro b h1 h2 h3; have h4 : _ = _ := h3; (try dsimp only at h2); exfalso; omega) | (intro h1; have h2 : _ = _ := h1; exfalso; omega) | (intro h1; have h2 : _ ≤ _ := h1; exfalso; omega) | (intros; exfalso; (try dsimp only at *); omega) | (intro b h1 h2 h3; exfalso; have h4 := h3.2; (try dsimp only at *); omega) | (intro h1; exfalso; have h4 := h1.2; (try dsimp only at *); omega) | (intro x h1 h2; exfalso; have h4 := h2.2; (try dsimp only at *); omega) | (intro x h1 h2; exact ⟨_, rfl, h2⟩) | (intro x h1 h2; have h4 := h2.1; have h5 := h2.2; exfalso; omega) | (intro x h1 h2; exact h2.1) | (intro x h1 h2; rcases h2.1 with h3 | h3; exact h3; exfalso; omega) | (intro x h1 h2; rcases h2 with h3 | h3; exact h3; exfalso; omega))
      replace hk := hk.chg k_2 (by first | (intro x h1 h2; exact h2) | (intro x h0 h1 h2; exact hS x h1 h2) | (intro x h0 h1 h2; have h3 : _ = _ := h2; subst h3; exact hSR h1.1) | (intro x h1 h2; have h3 : _ = _ := h2; subst h3; assumption) | (intro x h1 h2; have h3 : _ = _ := h2; exfalso; omega) | (intro b h1 h2 h3; have h4 : _ = _ := h3; (try dsimp only at h2); exfalso; omega) | (intro h1; have h2 : _ = _ := h1; exfalso; omega) | (intro h1; have h2 : _ ≤ _ := h1; exfalso; omega) | (intros; exfalso; (try dsimp only at *); omega) | (intro b h1 h2 h3; exfalso; have h4 := h3.2; (try dsimp only at *); omega) | (intro h1; exfalso; have h4 := h1.2; (try dsimp only at *); omega) | (intro x h1 h2; exfalso; have h4 := h2.2; (try dsimp only at *); omega) | (intro x h1 h2; exact ⟨_, rfl, h2⟩) | (intro x h1 h2; have h4 := h2.1; have h5 := h2.2; exfalso; omega) | (intro x h1 h2; exact h2.1) | (intro x h1 h2; rcases h2.1 with h3 | h3; exact h3; exfalso; omega) | (intro x h1 h2; rcases h2 with h3 | h3; exact h3; exfalso; omega))
      replace hb_1 := hn_2
      refine WL.assign rfl rfl (WL.nil (WX.then_normal (WC.ret (WX.then_ret (?_)))))
      refine WX.ret2c (.inl rfl) Tryd.results41 Tryd.isAgg23 Tryd.sizeOf23 hb_1 rfl (by first | (simp; done) | (simp; omega) | rfl) rfl ?_
      first
        | (refine ⟨_, rfl, ?_, kk⟩
           rw [unpR_bad (by omega)]
           rfl)
        | (refine ⟨_, rfl, ?_, kk⟩
           rw [unpR_four hL, if_neg (by omega)]
           rfl)
        | (have hr : ¬ rightP (ptr4 i0 i1 i2 i3) := fun hr => h74 (by rw [ptrE, if_pos hr])
           refine ⟨_, rfl, ?_, kk⟩
           rw [unpR_four hL, if_neg (fun x => hr x.2.2)]
           rw [ptrE, if_neg hr]
           rfl)
        | (have hr : rightP (ptr4 i0 i1 i2 i3) := by
             by_cases hr : rightP (ptr4 i0 i1 i2 i3)
             ·
               exact hr
             ·
               rw [ptrE, if_neg hr] at h74; cases h74
           refine ⟨_, rfl, ?_, kk⟩
           rw [unpR_four hL, if_pos ⟨by omega, ⟨by omega, by omega, by omega, by omega⟩, hr⟩]
           rfl)
    ·
      refine WL.pickF rfl rfl rfl (WL.move rfl rfl (WL.want rfl rfl rfl (WL.move rfl rfl (WL.want rfl rfl rfl (?_)))))
      obtain ⟨i0, i1, i2, i3, hL⟩ := four (l := decL s.data.toList) (by omega)
      have hx0 : (decL s.data.toList)[0]? = some i0 := by rw [hL]; rfl
      have hx1 : (decL s.data.toList)[1]? = some i1 := by rw [hL]; rfl
      have hx2 : (decL s.data.toList)[2]? = some i2 := by rw [hL]; rfl
      have hx3 : (decL s.data.toList)[3]? = some i3 := by rw [hL]; rfl
      obtain ⟨bp, op, rfl⟩ := hk.rsl.place hx0
      refine WL.indexT Tryd.underlying76 Tryd.sizeOf75 hk.rsl rfl rfl ⟨hx0, rfl⟩ rfl ?_
      intro b_2 o_2 hc_2
      refine WL.want rfl rfl rfl (WL.fieldAddr (fld_75_0) rfl rfl (WL.want rfl rfl rfl (WL.load Tryd.isAgg3 rfl (hc_2 _ _ rfl) rfl (WL.want rfl rfl rfl (?_)))))
      refine WL.neq? rfl rfl rfl (fun h27 => ?_) (fun h27 => ?_)
      ·
        refine WL.pickF rfl rfl rfl (WL.move rfl rfl (WL.pass rfl rfl rfl rfl (WL.pass rfl rfl rfl rfl (WL.pass rfl rfl rfl rfl (WL.pass rfl rfl rfl rfl (WL.pass rfl rfl rfl rfl (WL.pickT rfl rfl rfl (?_))))))))
        refine WL.move rfl rfl (WL.pass rfl rfl rfl rfl (WL.pass rfl rfl rfl rfl (WL.pass rfl rfl rfl rfl (WL.pass rfl rfl rfl rfl (WL.pass rfl rfl rfl rfl (WL.pickT rfl rfl rfl (WL.move rfl rfl (?_))))))))
        refine WL.pass rfl rfl rfl rfl (WL.pass rfl rfl rfl rfl (WL.pass rfl rfl rfl rfl (WL.pass rfl rfl rfl rfl (WL.pass rfl rfl rfl rfl (WL.pickT rfl rfl rfl (WL.nil (WX.then_normal (?_))))))))
        refine WC.cond_true rfl (WC.seq (WC.region (WL.bld rfl (bld_23_z) rfl (?_))))
        refine WL.stores Tryd.sizeOf23 hb_1 rfl rfl (by first | (simp; done) | (simp; omega) | rfl) (by first | exact Enc.one _ _ | (intro u hu; obtain ⟨x, _, rfl⟩ := List.mem_map.1 hu; rfl) | (simp [Value.oneCell']; done) | (simp [Value.oneCell', Value.cells]; done)) (by first | (simp; done) | (simp; omega) | (simp [Value.cells]; done) | (simp [Value.cells]; omega) | exact Nat.le_of_ble_eq_true rfl) rfl ?_
        intro w_3 hs_3 hn_3 k_3
        have zs_k_3 := k_3.size
        replace kk := kk.chg k_3 (by first | (intro x h1 h2; exact h2) | (intro x h0 h1 h2; exact hS x h1 h2) | (intro x h0 h1 h2; have h3 : _ = _ := h2; subst h3; exact hSR h1.1) | (intro x h1 h2; have h3 : _ = _ := h2; subst h3; assumption) | (intro x h1 h2; have h3 : _ = _ := h2; exfalso; omega) | (intro b h1 h2 h3; have h4 : _ = _ := h3; (try dsimp only at h2); exfalso; omega) | (intro h1; have h2 : _ = _ := h1; exfalso; omega) | (intro h1; have h2 : _ ≤ _ := h1; exfalso; omega) | (intros; exfalso; (try dsimp only at *); omega) | (intro b h1 h2 h3; exfalso; have h4 := h3.2; (try dsimp only at *); omega) | (intro h1; exfalso; have h4 := h1.2; (try dsimp only at *); omega) | (intro x h1 h2; exfalso; have h4 := h2.2; (try dsimp only at *); omega) | (intro x h1 h2; exact ⟨_, rfl, h2⟩) | (intro x h1 h2; have h4 := h2.1; have h5 := h2.2; exfalso; omega) | (intro x h1 h2; exact h2.1) | (intro x h1 h2; rcases h2.1 with h3 | h3; exact h3; exfalso; omega) | (intro x h1 h2; rcases h2 with h3 | h3; exact h3; exfalso; omega))
        replace hk := hk.chg k_3 (by first | (intro x h1 h2; exact h2) | (intro x h0 h1 h2; exact hS x h1 h2) | (intro x h0 h1 h2; have h3 : _ = _ := h2; subst h3; exact hSR h1.1) | (intro x h1 h2; have h3 : _ = _ := h2; subst h3; assumption) | (intro x h1 h2; have h3 : _ = _ := h2; exfalso; omega) | (intro b h1 h2 h3; have h4 : _ = _ := h3; (try dsimp only at h2); exfalso; omega) | (intro h1; have h2 : _ = _ := h1; exfalso; omega) | (intro h1; have h2 : _ ≤ _ := h1; exfalso; omega) | (intros; exfalso; (try dsimp only at *); omega) | (intro b h1 h2 h3; exfalso; have h4 := h3.2; (try dsimp only at *); omega) | (intro h1; exfalso; have h4 := h1.2; (try dsimp only at *); omega) | (intro x h1 h2; exfalso; have h4 := h2.2; (try dsimp only at *); omega) | (intro x h1 h2; exact ⟨_, rfl, h2⟩) | (intro x h1 h2; have h4 := h2.1; have h5 := h2.2; exfalso; omega) | (intro x h1 h2; exact h2.1) | (intro x h1 h2; rcases h2.1 with h3 | h3; exact h3; exfalso; omega) | (intro x h1 h2; rcases h2 with h3 | h3; exact h3; exfalso; omega))
        replace hb_1 := hn_3
        refine WL.assign rfl rfl (WL.nil (WX.then_normal (WC.ret (WX.then_ret (?_)))))
        refine WX.ret2c (.inl rfl) Tryd.results41 Tryd.isAgg23 Tryd.sizeOf23 hb_1 rfl (by first | (simp; done) | (simp; omega) | rfl) rfl ?_
        first
          | (refine ⟨_, rfl, ?_, kk⟩
             rw [unpR_bad (by omega)]
             rfl)
          | (refine ⟨_, rfl, ?_, kk⟩
             rw [unpR_four hL, if_neg (by omega)]
             rfl)
          | (have hr : ¬ rightP (ptr4 i0 i1 i2 i3) := fun hr => h74 (by rw [ptrE, if_pos hr])
             refine ⟨_, rfl, ?_, kk⟩
             rw [unpR_four hL, if_neg (fun x => hr x.2.2)]
             rw [ptrE, if_neg hr]
             rfl)
          | (have hr : rightP (ptr4 i0 i1 i2 i3) := by
               by_cases hr : rightP (ptr4 i0 i1 i2 i3)
               ·
                 exact hr
               ·
                 rw [ptrE, if_neg hr] at h74; cases h74
             refine ⟨_, rfl, ?_, kk⟩
             rw [unpR_four hL, if_pos ⟨by omega, ⟨by omega, by omega, by omega, by omega⟩, hr⟩]
             rfl)
      ·
        refine WL.pickF rfl rfl rfl (WL.move rfl rfl (WL.want rfl rfl rfl (WL.move rfl rfl (WL.want rfl rfl rfl (?_)))))
        refine WL.indexT Tryd.underlying76 Tryd.sizeOf75 hk.rsl rfl rfl ⟨hx1, rfl⟩ rfl ?_
        intro b_3 o_3 hc_3
        refine WL.want rfl rfl rfl (WL.fieldAddr (fld_75_0) rfl rfl (WL.want rfl rfl rfl (WL.load Tryd.isAgg3 rfl (hc_3 _ _ rfl) rfl (WL.want rfl rfl rfl (?_)))))
        refine WL.neq? rfl rfl rfl (fun h34 => ?_) (fun h34 => ?_)
        ·
          refine WL.pickF rfl rfl rfl (WL.move rfl rfl (WL.pass rfl rfl rfl rfl (WL.pass rfl rfl rfl rfl (WL.pass rfl rfl rfl rfl (WL.pass rfl rfl rfl rfl (WL.pass rfl rfl rfl rfl (WL.pickT rfl rfl rfl (?_))))))))
          refine WL.move rfl rfl (WL.pass rfl rfl rfl rfl (WL.pass rfl rfl rfl rfl (WL.pass rfl rfl rfl rfl (WL.pass rfl rfl rfl rfl (WL.pass rfl rfl rfl rfl (WL.pickT rfl rfl rfl (WL.nil (?_))))))))
          refine WX.then_normal (WC.cond_true rfl (WC.seq (WC.region (WL.bld rfl (bld_23_z) rfl (?_)))))
          refine WL.stores Tryd.sizeOf23 hb_1 rfl rfl (by first | (simp; done) | (simp; omega) | rfl) (by first | exact Enc.one _ _ | (intro u hu; obtain ⟨x, _, rfl⟩ := List.mem_map.1 hu; rfl) | (simp [Value.oneCell']; done) | (simp [Value.oneCell', Value.cells]; done)) (by first | (simp; done) | (simp; omega) | (simp [Value.cells]; done) | (simp [Value.cells]; omega) | exact Nat.le_of_ble_eq_true rfl) rfl ?_
          intro w_4 hs_4 hn_4 k_4
          have zs_k_4 := k_4.size
          replace kk := kk.chg k_4 (by first | (intro x h1 h2; exact h2) | (intro x h0 h1 h2; exact hS x h1 h2) | (intro x h0 h1 h2; have h3 : _ = _ := h2; subst h3; exact hSR h1.1) | (intro x h1 h2; have h3 : _ = _ := h2; subst h3; assumption) | (intro x h1 h2; have h3 : _ = _ := h2; exfalso; omega) | (intro b h1 h2 h3; have h4 : _ = _ := h3; (try dsimp only at h2); exfalso; omega) | (intro h1; have h2 : _ = _ := h1; exfalso; omega) | (intro h1; have h2 : _ ≤ _ := h1; exfalso; omega) | (intros; exfalso; (try dsimp only at *); omega) | (intro b h1 h2 h3; exfalso; have h4 := h3.2; (try dsimp only at *); omega) | (intro h1; exfalso; have h4 := h1.2; (try dsimp only at *); omega) | (intro x h1 h2; exfalso; have h4 := h2.2; (try dsimp only at *); omega) | (intro x h1 h2; exact ⟨_, rfl, h2⟩) | (intro x h1 h2; have h4 := h2.1; have h5 := h2.2; exfalso; omega) | (intro x h1 h2; exact h2.1) | (intro x h1 h2; rcases h2.1 with h3 | h3; exact h3; exfalso; omega) | (intro x h1 h2; rcases h2 with h3 | h3; exact h3; exfalso; omega))
          replace hk := hk.chg k_4 (by first | (intro x h1 h2; exact h2) | (intro x h0 h1 h2; exact hS x h1 h2) | (intro x h0 h1 h2; have h3 : _ = _ := h2; subst h3; exact hSR h1.1) | (intro x h1 h2; have h3 : _ = _ := h2; subst h3; assumption) | (intro x h1 h2; have h3 : _ = _ := h2; exfalso; omega) | (intro b h1 h2 h3; have h4 : _ = _ := h3; (try dsimp only at h2); exfalso; omega) | (intro h1; have h2 : _ = _ := h1; exfalso; omega) | (intro h1; have h2 : _ ≤ _ := h1; exfalso; omega) | (intros; exfalso; (try dsimp only at *); omega) | (intro b h1 h2 h3; exfalso; have h4 := h3.2; (try dsimp only at *); omega) | (intro h1; exfalso; have h4 := h1.2; (try dsimp only at *); omega) | (intro x h1 h2; exfalso; have h4 := h2.2; (try dsimp only at *); omega) | (intro x h1 h2; exact ⟨_, rfl, h2⟩) | (intro x h1 h2; have h4 := h2.1; have h5 := h2.2; exfalso; omega) | (intro x h1 h2; exact h2.1) | (intro x h1 h2; rcases h2.1 with h3 | h3; exact h3; exfalso; omega) | (intro x h1 h2; rcases h2 with h3 | h3; exact h3; exfalso; omega))
          replace hb_1 := hn_4
          refine WL.assign rfl rfl (WL.nil (WX.then_normal (WC.ret (WX.then_ret (?_)))))
          refine WX.ret2c (.inl rfl) Tryd.results41 Tryd.isAgg23 Tryd.sizeOf23 hb_1 rfl (by first | (simp; done) | (simp; omega) | rfl) rfl ?_
          first
            | (refine ⟨_, rfl, ?_, kk⟩
               rw [unpR_bad (by omega)]
               rfl)
            | (refine ⟨_, rfl, ?_, kk⟩
               rw [unpR_four hL, if_neg (by omega)]
               rfl)
            | (have hr : ¬ rightP (ptr4 i0 i1 i2 i3) := fun hr => h74 (by rw [ptrE, if_pos hr])
               refine ⟨_, rfl, ?_, kk⟩
               rw [unpR_four hL, if_neg (fun x => hr x.2.2)]
               rw [ptrE, if_neg hr]
               rfl)
            | (have hr : rightP (ptr4 i0 i1 i2 i3) := by
                 by_cases hr : rightP (ptr4 i0 i1 i2 i3)
                 ·
                   exact hr
                 ·
                   rw [ptrE, if_neg hr] at h74; cases h74
               refine ⟨_, rfl, ?_, kk⟩
               rw [unpR_four hL, if_pos ⟨by omega, ⟨by omega, by omega, by omega, by omega⟩, hr⟩]
               rfl)
        ·
          refine WL.pickF rfl rfl rfl (WL.move rfl rfl (WL.want rfl rfl rfl (WL.move rfl rfl (WL.want rfl rfl rfl (?_)))))
          refine WL.indexT Tryd.underlying76 Tryd.sizeOf75 hk.rsl rfl rfl ⟨hx2, rfl⟩ rfl ?_
          intro b_4 o_4 hc_4
          refine WL.want rfl rfl rfl (WL.fieldAddr (fld_75_0) rfl rfl (WL.want rfl rfl rfl (WL.load Tryd.isAgg3 rfl (hc_4 _ _ rfl) rfl (WL.want rfl rfl rfl (?_)))))
          refine WL.neq? rfl rfl rfl (fun h41 => ?_) (fun h41 => ?_)
          ·
            refine WL.pickF rfl rfl rfl (WL.move rfl rfl (WL.pass rfl rfl rfl rfl (WL.pass rfl rfl rfl rfl (WL.pass rfl rfl rfl rfl (WL.pass rfl rfl rfl rfl (WL.pass rfl rfl rfl rfl (WL.pickT rfl rfl rfl (?_))))))))
            refine WL.nil (WX.then_normal (WC.cond_true rfl (WC.seq (WC.region (WL.bld rfl (bld_23_z) rfl (?_))))))
            refine WL.stores Tryd.sizeOf23 hb_1 rfl rfl (by first | (simp; done) | (simp; omega) | rfl) (by first | exact Enc.one _ _ | (intro u hu; obtain ⟨x, _, rfl⟩ := List.mem_map.1 hu; rfl) | (simp [Value.oneCell']; done) | (simp [Value.oneCell', Value.cells]; done)) (by first | (simp; done) | (simp; omega) | (simp [Value.cells]; done) | (simp [Value.cells]; omega) | exact Nat.le_of_ble_eq_true rfl) rfl ?_
            intro w_5 hs_5 hn_5 k_5
            have zs_k_5 := k_5.size
            replace kk := kk.chg k_5 (by first | (intro x h1 h2; exact h2) | (intro x h0 h1 h2; exact hS x h1 h2) | (intro x h0 h1 h2; have h3 : _ = _ := h2; subst h3; exact hSR h1.1) | (intro x h1 h2; have h3 : _ = _ := h2; subst h3; assumption) | (intro x h1 h2; have h3 : _ = _ := h2; exfalso; omega) | (intro b h1 h2 h3; have h4 : _ = _ := h3; (try dsimp only at h2); exfalso; omega) | (intro h1; have h2 : _ = _ := h1; exfalso; omega) | (intro h1; have h2 : _ ≤ _ := h1; exfalso; omega) | (intros; exfalso; (try dsimp only at *); omega) | (intro b h1 h2 h3; exfalso; have h4 := h3.2; (try dsimp only at *); omega) | (intro h1; exfalso; have h4 := h1.2; (try dsimp only at *); omega) | (intro x h1 h2; exfalso; have h4 := h2.2; (try dsimp only at *); omega) | (intro x h1 h2; exact ⟨_, rfl, h2⟩) | (intro x h1 h2; have h4 := h2.1; have h5 := h2.2; exfalso; omega) | (intro x h1 h2; exact h2.1) | (intro x h1 h2; rcases h2.1 with h3 | h3; exact h3; exfalso; omega) | (intro x h1 h2; rcases h2 with h3 | h3; exact h3; exfalso; omega))
            replace hk := hk.chg k_5 (by first | (intro x h1 h2; exact h2) | (intro x h0 h1 h2; exact hS x h1 h2) | (intro x h0 h1 h2; have h3 : _ = _ := h2; subst h3; exact hSR h1.1) | (intro x h1 h2; have h3 : _ = _ := h2; subst h3; assumption) | (intro x h1 h2; have h3 : _ = _ := h2; exfalso; omega) | (intro b h1 h2 h3; have h4 : _ = _ := h3; (try dsimp only at h2); exfalso; omega) | (intro h1; have h2 : _ = _ := h1; exfalso; omega) | (intro h1; have h2 : _ ≤ _ := h1; exfalso; omega) | (intros; exfalso; (try dsimp only at *); omega) | (intro b h1 h2 h3; exfalso; have h4 := h3.2; (try dsimp only at *); omega) | (intro h1; exfalso; have h4 := h1.2; (try dsimp only at *); omega) | (intro x h1 h2; exfalso; have h4 := h2.2; (try dsimp only at *); omega) | (intro x h1 h2; exact ⟨_, rfl, h2⟩) | (intro x h1 h2; have h4 := h2.1; have h5 := h2.2; exfalso; omega) | (intro x h1 h2; exact h2.1) | (intro x h1 h2; rcases h2.1 with h3 | h3; exact h3; exfalso; omega) | (intro x h1 h2; rcases h2 with h3 | h3; exact h3; exfalso; omega))
            replace hb_1 := hn_5
            refine WL.assign rfl rfl (WL.nil (WX.then_normal (WC.ret (WX.then_ret (?_)))))
            refine WX.ret2c (.inl rfl) Tryd.results41 Tryd.isAgg23 Tryd.sizeOf23 hb_1 rfl (by first | (simp; done) | (simp; omega) | rfl) rfl ?_
            first
              | (refine ⟨_, rfl, ?_, kk⟩
                 rw [unpR_bad (by omega)]
                 rfl)
              | (refine ⟨_, rfl, ?_, kk⟩
                 rw [unpR_four hL, if_neg (by omega)]
                 rfl)
              | (have hr : ¬ rightP (ptr4 i0 i1 i2 i3) := fun hr => h74 (by rw [ptrE, if_pos hr])
                 refine ⟨_, rfl, ?_, kk⟩
                 rw [unpR_four hL, if_neg (fun x => hr x.2.2)]
                 rw [ptrE, if_neg hr]
                 rfl)
              | (have hr : rightP (ptr4 i0 i1 i2 i3) := by
                   by_cases hr : rightP (ptr4 i0 i1 i2 i3)
                   ·
                     exact hr
                   ·
                     rw [ptrE, if_neg hr] at h74; cases h74
                 refine ⟨_, rfl, ?_, kk⟩
                 rw [unpR_four hL, if_pos ⟨by omega, ⟨by omega, by omega, by omega, by omega⟩, hr⟩]
                 rfl)
          ·
            refine WL.pickF rfl rfl rfl (WL.move rfl rfl (WL.want rfl rfl rfl (WL.move rfl rfl (WL.want rfl rfl rfl (?_)))))
            refine WL.indexT Tryd.underlying76 Tryd.sizeOf75 hk.rsl rfl rfl ⟨hx3, rfl⟩ rfl ?_
            intro b_5 o_5 hc_5
            refine WL.want rfl rfl rfl (WL.fieldAddr (fld_75_0) rfl rfl (WL.want rfl rfl rfl (WL.load Tryd.isAgg3 rfl (hc_5 _ _ rfl) rfl (WL.want rfl rfl rfl (?_)))))
            refine WL.neq? rfl rfl rfl (fun h48 => ?_) (fun h48 => ?_)
            ·
              refine WL.pickF rfl rfl rfl (WL.nil (WX.then_normal (WC.cond_true rfl (WC.seq (WC.region (WL.bld rfl (bld_23_z) rfl (?_)))))))
              refine WL.stores Tryd.sizeOf23 hb_1 rfl rfl (by first | (simp; done) | (simp; omega) | rfl) (by first | exact Enc.one _ _ | (intro u hu; obtain ⟨x, _, rfl⟩ := List.mem_map.1 hu; rfl) | (simp [Value.oneCell']; done) | (simp [Value.oneCell', Value.cells]; done)) (by first | (simp; done) | (simp; omega) | (simp [Value.cells]; done) | (simp [Value.cells]; omega) | exact Nat.le_of_ble_eq_true rfl) rfl ?_
              intro w_6 hs_6 hn_6 k_6
              have zs_k_6 := k_6.size
              replace kk := kk.chg k_6 (by first | (intro x h1 h2; exact h2) | (intro x h0 h1 h2; exact hS x h1 h2) | (intro x h0 h1 h2; have h3 : _ = _ := h2; subst h3; exact hSR h1.1) | (intro x h1 h2; have h3 : _ = _ := h2; subst h3; assumption) | (intro x h1 h2; have h3 : _ = _ := h2; exfalso; omega) | (intro b h1 h2 h3; have h4 : _ = _ := h3; (try dsimp only at h2); exfalso; omega) | (intro h1; have h2 : _ = _ := h1; exfalso; omega) | (intro h1; have h2 : _ ≤ _ := h1; exfalso; omega) | (intros; exfalso; (try dsimp only at *); omega) | (intro b h1 h2 h3; exfalso; have h4 := h3.2; (try dsimp only at *); omega) | (intro h1; exfalso; have h4 := h1.2; (try dsimp only at *); omega) | (intro x h1 h2; exfalso; have h4 := h2.2; (try dsimp only at *); omega) | (intro x h1 h2; exact ⟨_, rfl, h2⟩) | (intro x h1 h2; have h4 := h2.1; have h5 := h2.2; exfalso; omega) | (intro x h1 h2; exact h2.1) | (intro x h1 h2; rcases h2.1 with h3 | h3; exact h3; exfalso; omega) | (intro x h1 h2; rcases h2 with h3 | h3; exact h3; exfalso; omega))
              replace hk := hk.chg k_6 (by first | (intro x h1 h2; exact h2) | (intro x h0 h1 h2; exact hS x h1 h2) | (intro x h0 h1 h2; have h3 : _ = _ := h2; subst h3; exact hSR h1.1) | (intro x h1 h2; have h3 : _ = _ := h2; subst h3; assumption) | (intro x h1 h2; have h3 : _ = _ := h2; exfalso; omega) | (intro b h1 h2 h3; have h4 : _ = _ := h3; (try dsimp only at h2); exfalso; omega) | (intro h1; have h2 : _ = _ := h1; exfalso; omega) | (intro h1; have h2 : _ ≤ _ := h1; exfalso; omega) | (intros; exfalso; (try dsimp only at *); omega) | (intro b h1 h2 h3; exfalso; have h4 := h3.2; (try dsimp only at *); omega) | (intro h1; exfalso; have h4 := h1.2; (try dsimp only at *); omega) | (intro x h1 h2; exfalso; have h4 := h2.2; (try dsimp only at *); omega) | (intro x h1 h2; exact ⟨_, rfl, h2⟩) | (intro x h1 h2; have h4 := h2.1; have h5 := h2.2; exfalso; omega) | (intro x h1 h2; exact h2.1) | (intro x h1 h2; rcases h2.1 with h3 | h3; exact h3; exfalso; omega) | (intro x h1 h2; rcases h2 with h3 | h3; exact h3; exfalso; omega))
              replace hb_1 := hn_6
              refine WL.assign rfl rfl (WL.nil (WX.then_normal (WC.ret (WX.then_ret (?_)))))
              refine WX.ret2c (.inl rfl) Tryd.results41 Tryd.isAgg23 Tryd.sizeOf23 hb_1 rfl (by first | (simp; done) | (simp; omega) | rfl) rfl ?_
              first
                | (refine ⟨_, rfl, ?_, kk⟩
                   rw [unpR_bad (by omega)]
                   rfl)
                | (refine ⟨_, rfl, ?_, kk⟩
                   rw [unpR_four hL, if_neg (by omega)]
                   rfl)
                | (have hr : ¬ rightP (ptr4 i0 i1 i2 i3) := fun hr => h74 (by rw [ptrE, if_pos hr])
                   refine ⟨_, rfl, ?_, kk⟩
                   rw [unpR_four hL, if_neg (fun x => hr x.2.2)]
                   rw [ptrE, if_neg hr]
                   rfl)
                | (have hr : rightP (ptr4 i0 i1 i2 i3) := by
                     by_cases hr : rightP (ptr4 i0 i1 i2 i3)
                     ·
                       exact hr
                     ·
                       rw [ptrE, if_neg hr] at h74; cases h74
                   refine ⟨_, rfl, ?_, kk⟩
                   rw [unpR_four hL, if_pos ⟨by omega, ⟨by omega, by omega, by omega, by omega⟩, hr⟩]
                   rfl)
            ·
              refine WL.pickF rfl rfl rfl (WL.nil (WX.then_normal (WC.cond_false rfl (WC.skip (WX.then_normal (WC.seq (?_)))))))
              refine WC.draw (Nob) [0, 1, 2, 3, 4, 5, 6, 7, 8, 9, 10, 11, 12, 13, 14, 15, 16] [17, 18] mixed rfl rfl (fun wd_6 kd_6 zd_6 => ?_)
              have zs_kd_6 := kd_6.size
              replace kk := kk.pure kd_6
              replace hb_1 := hb_1.pure kd_6
              replace hk := hk.pure kd_6
              apply DQ.step (E' := [(4, _)])
              case ho => rfl
              case hs => exact ⟨rfl, trivial⟩
              case hk => rfl
              case h1 =>
                intro wq_8 kq_8
                refine WL.move rfl rfl (?_)
                refine WL.nil ?_
                exact WX.one ⟨rfl, by first | exact Chg.refl _ _ | assumption⟩
              apply DQ.step (E' := [(51, _)])
              case ho => rfl
              case hs => exact ⟨rfl, trivial⟩
              case hk => rfl
              case h1 =>
                intro wq_9 kq_9
                have zs_kq_9 := kq_9.size
                replace kk := kk.pure kq_9
                replace hb_1 := hb_1.pure kq_9
                replace hk := hk.pure kq_9
                refine WL.indexC hk.rsl Tryd.underlying76 Tryd.sizeOf75 rfl rfl ⟨hx0, rfl⟩ rfl ?_
                refine WL.nil ?_
                exact WX.one ⟨rfl, by first | exact Chg.refl _ _ | assumption⟩
              apply DQ.step (E' := [(52, _)])
              case ho => rfl
              case hs => exact ⟨rfl, trivial⟩
              case hk => rfl
              case h1 =>
                intro wq_10 kq_10
                refine WL.fieldAddr (fld_75_1) rfl rfl (?_)
                refine WL.nil ?_
                exact WX.one ⟨rfl, by first | exact Chg.refl _ _ | assumption⟩
              apply DQ.step (E' := [(53, _)])
              case ho => rfl
              case hs => exact ⟨rfl, trivial⟩
              case hk => rfl
              case h1 =>
                intro wq_11 kq_11
                have zs_kq_11 := kq_11.size
                replace kk := kk.pure kq_11
                replace hb_1 := hb_1.pure kq_11
                replace hk := hk.pure kq_11
                refine WL.load Tryd.isAgg3 rfl ((hk.rsl.cellsAt hx0) _ _ rfl) rfl (?_)
                refine WL.nil ?_
                exact WX.one ⟨rfl, by first | exact Chg.refl _ _ | assumption⟩
              apply DQ.step (E' := [(4, _)])
              case ho => rfl
              case hs => exact ⟨rfl, trivial⟩
              case hk => rfl
              case h1 =>
                intro wq_12 kq_12
                refine WL.move rfl rfl (?_)
                refine WL.nil ?_
                exact WX.one ⟨rfl, by first | exact Chg.refl _ _ | assumption⟩
              apply DQ.step (E' := [(55, _)])
              case ho => rfl
              case hs => exact ⟨rfl, trivial⟩
              case hk => rfl
              case h1 =>
                intro wq_13 kq_13
                have zs_kq_13 := kq_13.size
                replace kk := kk.pure kq_13
                replace hb_1 := hb_1.pure kq_13
                replace hk := hk.pure kq_13
                refine WL.indexC hk.rsl Tryd.underlying76 Tryd.sizeOf75 rfl rfl ⟨hx1, rfl⟩ rfl ?_
                refine WL.nil ?_
                exact WX.one ⟨rfl, by first | exact Chg.refl _ _ | assumption⟩
              apply DQ.step (E' := [(56, _)])
              case ho => rfl
              case hs => exact ⟨rfl, trivial⟩
              case hk => rfl
              case h1 =>
                intro wq_14 kq_14
                refine WL.fieldAddr (fld_75_1) rfl rfl (?_)
                refine WL.nil ?_
                exact WX.one ⟨rfl, by first | exact Chg.refl _ _ | assumption⟩
              apply DQ.step (E' := [(57, _)])
              case ho => rfl
              case hs => exact ⟨rfl, trivial⟩
              case hk => rfl
              case h1 =>
                intro wq_15 kq_15
                have zs_kq_15 := kq_15.size
                replace kk := kk.pure kq_15
                replace hb_1 := hb_1.pure kq_15
                replace hk := hk.pure kq_15
                refine WL.load Tryd.isAgg3 rfl ((hk.rsl.cellsAt hx1) _ _ rfl) rfl (?_)
                refine WL.nil ?_
                exact WX.one ⟨rfl, by first | exact Chg.refl _ _ | assumption⟩
              apply DQ.step (E' := [(4, _)])
              case ho => rfl
              case hs => exact ⟨rfl, trivial⟩
              case hk => rfl
              case h1 =>
                intro wq_16 kq_16
                refine WL.move rfl rfl (?_)
                refine WL.nil ?_
                exact WX.one ⟨rfl, by first | exact Chg.refl _ _ | assumption⟩
              apply DQ.step (E' := [(59, _)])
              case ho => rfl
              case hs => exact ⟨rfl, trivial⟩
              case hk => rfl
              case h1 =>
                intro wq_17 kq_17
                have zs_kq_17 := kq_17.size
                replace kk := kk.pure kq_17
                replace hb_1 := hb_1.pure kq_17
                replace hk := hk.pure kq_17
                refine WL.indexC hk.rsl Tryd.underlying76 Tryd.sizeOf75 rfl rfl ⟨hx2, rfl⟩ rfl ?_
                refine WL.nil ?_
                exact WX.one ⟨rfl, by first | exact Chg.refl _ _ | assumption⟩
              apply DQ.step (E' := [(60, _)])
              case ho => rfl
              case hs => exact ⟨rfl, trivial⟩
              case hk => rfl
              case h1 =>
                intro wq_18 kq_18
                refine WL.fieldAddr (fld_75_1) rfl rfl (?_)
                refine WL.nil ?_
                exact WX.one ⟨rfl, by first | exact Chg.refl _ _ | assumption⟩
              apply DQ.step (E' := [(61, _)])
              case ho => rfl
              case hs => exact ⟨rfl, trivial⟩
              case hk => rfl
              case h1 =>
                intro wq_19 kq_19
                have zs_kq_19 := kq_19.size
                replace kk := kk.pure kq_19
                replace hb_1 := hb_1.pure kq_19
                replace hk := hk.pure kq_19
                refine WL.load Tryd.isAgg3 rfl ((hk.rsl.cellsAt hx2) _ _ rfl) rfl (?_)
                refine WL.nil ?_
                exact WX.one ⟨rfl, by first | exact Chg.refl _ _ | assumption⟩
              apply DQ.step (E' := [(4, _)])
              case ho => rfl
              case hs => exact ⟨rfl, trivial⟩
              case hk => rfl
              case h1 =>
                intro wq_20 kq_20
                refine WL.move rfl rfl (?_)
                refine WL.nil ?_
                exact WX.one ⟨rfl, by first | exact Chg.refl _ _ | assumption⟩
              apply DQ.step (E' := [(63, _)])
              case ho => rfl
              case hs => exact ⟨rfl, trivial⟩
              case hk => rfl
              case h1 =>
                intro wq_21 kq_21
                have zs_kq_21 := kq_21.size
                replace kk := kk.pure kq_21
                replace hb_1 := hb_1.pure kq_21
                replace hk := hk.pure kq_21
                refine WL.indexC hk.rsl Tryd.underlying76 Tryd.sizeOf75 rfl rfl ⟨hx3, rfl⟩ rfl ?_
                refine WL.nil ?_
                exact WX.one ⟨rfl, by first | exact Chg.refl _ _ | assumption⟩
              apply DQ.step (E' := [(64, _)])
              case ho => rfl
              case hs => exact ⟨rfl, trivial⟩
              case hk => rfl
              case h1 =>
                intro wq_22 kq_22
                refine WL.fieldAddr (fld_75_2) rfl rfl (?_)
                refine WL.nil ?_
                exact WX.one ⟨rfl, by first | exact Chg.refl _ _ | assumption⟩
              apply DQ.step (E' := [(65, _)])
              case ho => rfl
              case hs => exact ⟨rfl, trivial⟩
              case hk => rfl
              case h1 =>
                intro wq_23 kq_23
                have zs_kq_23 := kq_23.size
                replace kk := kk.pure kq_23
                replace hb_1 := hb_1.pure kq_23
                replace hk := hk.pure kq_23
                refine WL.load Tryd.isAgg9 rfl ((hk.rsl.cellsAt hx3) _ _ rfl) rfl (?_)
                refine WL.nil ?_
                exact WX.one ⟨rfl, by first | exact Chg.refl _ _ | assumption⟩
              apply DQ.step (E' := [(54, _), (58, _), (62, _), (66, _)])
              case ho => rfl
              case hs => exact ⟨rfl, rfl, rfl, rfl, trivial⟩
              case hk => rfl
              case h1 =>
                intro wq_24 kq_24
                refine WL.bld rfl (bld_23_0_1_2_3 _ _ _ _) rfl (?_)
                refine WL.nil ?_
                exact WX.one ⟨rfl, by first | exact Chg.refl _ _ | assumption⟩
              refine DQ.done (fun hd_7 => ?_)
              refine DL.step [] rfl trivial rfl (fun wq_25 kq_25 => ?_)
              have zs_kq_25 := kq_25.size
              replace kk := kk.pure kq_25
              replace hb_1 := hb_1.pure kq_25
              replace hk := hk.pure kq_25
              replace hd_7 := hd_7.pure kq_25
              refine WL.alloc Tryd.zeroValue23 rfl ?_
              intro g_26 w_26 hge_26 hlt_26 hb_26 k_26
              have zs_k_26 := k_26.size
              replace kk := kk.pure k_26
              replace hb_1 := hb_1.pure k_26
              replace hk := hk.pure k_26
              replace hd_7 := hd_7.pure k_26
              refine WL.nil ?_
              refine WX.one ⟨hd_7, ?_⟩
              refine DL.step [(6, _), (67, _)] rfl ⟨rfl, rfl, trivial⟩ rfl (fun wq_27 kq_27 => ?_)
              have zs_kq_27 := kq_27.size
              replace kk := kk.pure kq_27
              replace hb_1 := hb_1.pure kq_27
              replace hk := hk.pure kq_27
              replace hd_7 := hd_7.pure kq_27
              replace hb_26 := hb_26.pure kq_27
              refine WL.stores Tryd.sizeOf23 hb_26 rfl rfl (by first | (simp; done) | (simp; omega) | rfl) (by first | exact Enc.one _ _ | (intro u hu; obtain ⟨x, _, rfl⟩ := List.mem_map.1 hu; rfl) | (simp [Value.oneCell']; done) | (simp [Value.oneCell', Value.cells]; done)) (by first | (simp; done) | (simp; omega) | (simp [Value.cells]; done) | (simp [Value.cells]; omega) | exact Nat.le_of_ble_eq_true rfl) rfl ?_
              intro w_28 hs_28 hn_28 k_28
              have zs_k_28 := k_28.size
              replace kk := kk.chg k_28 (by first | (intro x h1 h2; exact h2) | (intro x h0 h1 h2; exact hS x h1 h2) | (intro x h0 h1 h2; have h3 : _ = _ := h2; subst h3; exact hSR h1.1) | (intro x h1 h2; have h3 : _ = _ := h2; subst h3; assumption) | (intro x h1 h2; have h3 : _ = _ := h2; exfalso; omega) | (intro b h1 h2 h3; have h4 : _ = _ := h3; (try dsimp only at h2); exfalso; omega) | (intro h1; have h2 : _ = _ := h1; exfalso; omega) | (intro h1; have h2 : _ ≤ _ := h1; exfalso; omega) | (intros; exfalso; (try dsimp only at *); omega) | (intro b h1 h2 h3; exfalso; have h4 := h3.2; (try dsimp only at *); omega) | (intro h1; exfalso; have h4 := h1.2; (try dsimp only at *); omega) | (intro x h1 h2; exfalso; have h4 := h2.2; (try dsimp only at *); omega) | (intro x h1 h2; exact ⟨_, rfl, h2⟩) | (intro x h1 h2; have h4 := h2.1; have h5 := h2.2; exfalso; omega) | (intro x h1 h2; exact h2.1) | (intro x h1 h2; rcases h2.1 with h3 | h3; exact h3; exfalso; omega) | (intro x h1 h2; rcases h2 with h3 | h3; exact h3; exfalso; omega))
              replace hb_1 := hb_1.chg k_28 (by first | (intro x h1 h2; exact h2) | (intro x h0 h1 h2; exact hS x h1 h2) | (intro x h0 h1 h2; have h3 : _ = _ := h2; subst h3; exact hSR h1.1) | (intro x h1 h2; have h3 : _ = _ := h2; subst h3; assumption) | (intro x h1 h2; have h3 : _ = _ := h2; exfalso; omega) | (intro b h1 h2 h3; have h4 : _ = _ := h3; (try dsimp only at h2); exfalso; omega) | (intro h1; have h2 : _ = _ := h1; exfalso; omega) | (intro h1; have h2 : _ ≤ _ := h1; exfalso; omega) | (intros; exfalso; (try dsimp only at *); omega) | (intro b h1 h2 h3; exfalso; have h4 := h3.2; (try dsimp only at *); omega) | (intro h1; exfalso; have h4 := h1.2; (try dsimp only at *); omega) | (intro x h1 h2; exfalso; have h4 := h2.2; (try dsimp only at *); omega) | (intro x h1 h2; exact ⟨_, rfl, h2⟩) | (intro x h1 h2; have h4 := h2.1; have h5 := h2.2; exfalso; omega) | (intro x h1 h2; exact h2.1) | (intro x h1 h2; rcases h2.1 with h3 | h3; exact h3; exfalso; omega) | (intro x h1 h2; rcases h2 with h3 | h3; exact h3; exfalso; omega))
              replace hk := hk.chg k_28 (by first | (intro x h1 h2; exact h2) | (intro x h0 h1 h2; exact hS x h1 h2) | (intro x h0 h1 h2; have h3 : _ = _ := h2; subst h3; exact hSR h1.1) | (intro x h1 h2; have h3 : _ = _ := h2; subst h3; assumption) | (intro x h1 h2; have h3 : _ = _ := h2; exfalso; omega) | (intro b h1 h2 h3; have h4 : _ = _ := h3; (try dsimp only at h2); exfalso; omega) | (intro h1; have h2 : _ = _ := h1; exfalso; omega) | (intro h1; have h2 : _ ≤ _ := h1; exfalso; omega) | (intros; exfalso; (try dsimp only at *); omega) | (intro b h1 h2 h3; exfalso; have h4 := h3.2; (try dsimp only at *); omega) | (intro h1; exfalso; have h4 := h1.2; (try dsimp only at *); omega) | (intro x h1 h2; exfalso; have h4 := h2.2; (try dsimp only at *); omega) | (intro x h1 h2; exact ⟨_, rfl, h2⟩) | (intro x h1 h2; have h4 := h2.1; have h5 := h2.2; exfalso; omega) | (intro x h1 h2; exact h2.1) | (intro x h1 h2; rcases h2.1 with h3 | h3; exact h3; exfalso; omega) | (intro x h1 h2; rcases h2 with h3 | h3; exact h3; exfalso; omega))
              replace hd_7 := hd_7.chg k_28 (by first | (intro x h1 h2; exact h2) | (intro x h0 h1 h2; exact hS x h1 h2) | (intro x h0 h1 h2; have h3 : _ = _ := h2; subst h3; exact hSR h1.1) | (intro x h1 h2; have h3 : _ = _ := h2; subst h3; assumption) | (intro x h1 h2; have h3 : _ = _ := h2; exfalso; omega) | (intro b h1 h2 h3; have h4 : _ = _ := h3; (try dsimp only at h2); exfalso; omega) | (intro h1; have h2 : _ = _ := h1; exfalso; omega) | (intro h1; have h2 : _ ≤ _ := h1; exfalso; omega) | (intros; exfalso; (try dsimp only at *); omega) | (intro b h1 h2 h3; exfalso; have h4 := h3.2; (try dsimp only at *); omega) | (intro h1; exfalso; have h4 := h1.2; (try dsimp only at *); omega) | (intro x h1 h2; exfalso; have h4 := h2.2; (try dsimp only at *); omega) | (intro x h1 h2; exact ⟨_, rfl, h2⟩) | (intro x h1 h2; have h4 := h2.1; have h5 := h2.2; exfalso; omega) | (intro x h1 h2; exact h2.1) | (intro x h1 h2; rcases h2.1 with h3 | h3; exact h3; exfalso; omega) | (intro x h1 h2; rcases h2 with h3 | h3; exact h3; exfalso; omega))
              replace hb_26 := hn_28
              refine WL.nil ?_
              refine WX.one0 (v := undef) ⟨hd_7, ?_⟩
              refine DL.done (fun we_29 ke_29 => ?_)
              have zs_ke_29 := ke_29.size
              replace kk := kk.pure ke_29
              replace hb_1 := hb_1.pure ke_29
              replace hk := hk.pure ke_29
              replace hd_7 := hd_7.pure ke_29
              replace hb_26 := hb_26.pure ke_29
              refine WX.then_normal (WC.seq (WC.seq (WC.region (WL.loadsB Tryd.isAgg23 Tryd.sizeOf23 hb_26 rfl (by first | (simp; done) | (simp; omega) | rfl) rfl (?_)))))
              have hwf := four_wf (b := s.data.toList) (by omega) hL
              refine WL.call eg_36 rfl rfl (ptr_calls (ptr4 i0 i1 i2 i3) _ hwf) ?_
              rintro v w5 ⟨rfl, k5⟩
              have zs_k5 := k5.size
              replace kk := kk.pure k5
              replace hb_1 := hb_1.pure k5
              replace hk := hk.pure k5
              replace hb_26 := hb_26.pure k5
              refine WL.move rfl rfl (WL.extract rfl rfl rfl (WL.extract rfl rfl rfl (WL.assign rfl rfl (WL.assign rfl rfl (WL.nil (WX.then_normal (WC.seq (?_))))))))
              refine WC.region (WL.move rfl rfl (?_))
              refine WL.neq? rfl rfl rfl (fun h74 => ?_) (fun h74 => ?_)
              ·
                refine WL.nil (WX.then_normal (WC.cond_true rfl (WC.seq (WC.region (WL.bld rfl (bld_23_z) rfl (WL.move rfl rfl (?_)))))))
                refine WL.stores Tryd.sizeOf23 hb_1 rfl rfl (by first | (simp; done) | (simp; omega) | rfl) (by first | exact Enc.one _ _ | (intro u hu; obtain ⟨x, _, rfl⟩ := List.mem_map.1 hu; rfl) | (simp [Value.oneCell']; done) | (simp [Value.oneCell', Value.cells]; done)) (by first | (simp; done) | (simp; omega) | (simp [Value.cells]; done) | (simp [Value.cells]; omega) | exact Nat.le_of_ble_eq_true rfl) rfl ?_
                intro w_30 hs_30 hn_30 k_30
                have zs_k_30 := k_30.size
                replace kk := kk.chg k_30 (by first | (intro x h1 h2; exact h2) | (intro x h0 h1 h2; exact hS x h1 h2) | (intro x h0 h1 h2; have h3 : _ = _ := h2; subst h3; exact hSR h1.1) | (intro x h1 h2; have h3 : _ = _ := h2; subst h3; assumption) | (intro x h1 h2; have h3 : _ = _ := h2; exfalso; omega) | (intro b h1 h2 h3; have h4 : _ = _ := h3; (try dsimp only at h2); exfalso; omega) | (intro h1; have h2 : _ = _ := h1; exfalso; omega) | (intro h1; have h2 : _ ≤ _ := h1; exfalso; omega) | (intros; exfalso; (try dsimp only at *); omega) | (intro b h1 h2 h3; exfalso; have h4 := h3.2; (try dsimp only at *); omega) | (intro h1; exfalso; have h4 := h1.2; (try dsimp only at *); omega) | (intro x h1 h2; exfalso; have h4 := h2.2; (try dsimp only at *); omega) | (intro x h1 h2; exact ⟨_, rfl, h2⟩) | (intro x h1 h2; have h4 := h2.1; have h5 := h2.2; exfalso; omega) | (intro x h1 h2; exact h2.1) | (intro x h1 h2; rcases h2.1 with h3 | h3; exact h3; exfalso; omega) | (intro x h1 h2; rcases h2 with h3 | h3; exact h3; exfalso; omega))
                replace hk := hk.chg k_30 (by first | (intro x h1 h2; exact h2) | (intro x h0 h1 h2; exact hS x h1 h2) | (intro x h0 h1 h2; have h3 : _ = _ := h2; subst h3; exact hSR h1.1) | (intro x h1 h2; have h3 : _ = _ := h2; subst h3; assumption) | (intro x h1 h2; have h3 : _ = _ := h2; exfalso; omega) | (intro b h1 h2 h3; have h4 : _ = _ := h3; (try dsimp only at h2); exfalso; omega) | (intro h1; have h2 : _ = _ := h1; exfalso; omega) | (intro h1; have h2 : _ ≤ _ := h1; exfalso; omega) | (intros; exfalso; (try dsimp only at *); omega) | (intro b h1 h2 h3; exfalso; have h4 := h3.2; (try dsimp only at *); omega) | (intro h1; exfalso; have h4 := h1.2; (try dsimp only at *); omega) | (intro x h1 h2; exfalso; have h4 := h2.2; (try dsimp only at *); omega) | (intro x h1 h2; exact ⟨_, rfl, h2⟩) | (intro x h1 h2; have h4 := h2.1; have h5 := h2.2; exfalso; omega) | (intro x h1 h2; exact h2.1) | (intro x h1 h2; rcases h2.1 with h3 | h3; exact h3; exfalso; omega) | (intro x h1 h2; rcases h2 with h3 | h3; exact h3; exfalso; omega))
                replace hb_26 := hb_26.chg k_30 (by first | (intro x h1 h2; exact h2) | (intro x h0 h1 h2; exact hS x h1 h2) | (intro x h0 h1 h2; have h3 : _ = _ := h2; subst h3; exact hSR h1.1) | (intro x h1 h2; have h3 : _ = _ := h2; subst h3; assumption) | (intro x h1 h2; have h3 : _ = _ := h2; exfalso; omega) | (intro b h1 h2 h3; have h4 : _ = _ := h3; (try dsimp only at h2); exfalso; omega) | (intro h1; have h2 : _ = _ := h1; exfalso; omega) | (intro h1; have h2 : _ ≤ _ := h1; exfalso; omega) | (intros; exfalso; (try dsimp only at *); omega) | (intro b h1 h2 h3; exfalso; have h4 := h3.2; (try dsimp only at *); omega) | (intro h1; exfalso; have h4 := h1.2; (try dsimp only at *); omega) | (intro x h1 h2; exfalso; have h4 := h2.2; (try dsimp only at *); omega) | (intro x h1 h2; exact ⟨_, rfl, h2⟩) | (intro x h1 h2; have h4 := h2.1; have h5 := h2.2; exfalso; omega) | (intro x h1 h2; exact h2.1) | (intro x h1 h2; rcases h2.1 with h3 | h3; exact h3; exfalso; omega) | (intro x h1 h2; rcases h2 with h3 | h3; exact h3; exfalso; omega))
                replace hb_1 := hn_30
                refine WL.assign rfl rfl (WL.nil (WX.then_normal (WC.ret (WX.then_ret (?_)))))
                refine WX.ret2c (.inl rfl) Tryd.results41 Tryd.isAgg23 Tryd.sizeOf23 hb_1 rfl (by first | (simp; done) | (simp; omega) | rfl) rfl ?_
                first
                  | (refine ⟨_, rfl, ?_, kk⟩
                     rw [unpR_bad (by omega)]
                     rfl)
                  | (refine ⟨_, rfl, ?_, kk⟩
                     rw [unpR_four hL, if_neg (by omega)]
                     rfl)
                  | (have hr : ¬ rightP (ptr4 i0 i1 i2 i3) := fun hr => h74 (by rw [ptrE, if_pos hr])
                     refine ⟨_, rfl, ?_, kk⟩
                     rw [unpR_four hL, if_neg (fun x => hr x.2.2)]
                     rw [ptrE, if_neg hr]
                     rfl)
                  | (have hr : rightP (ptr4 i0 i1 i2 i3) := by
                       by_cases hr : rightP (ptr4 i0 i1 i2 i3)
                       ·
                         exact hr
                       ·
                         rw [ptrE, if_neg hr] at h74; cases h74
                     refine ⟨_, rfl, ?_, kk⟩
                     rw [unpR_four hL, if_pos ⟨by omega, ⟨by omega, by omega, by omega, by omega⟩, hr⟩]
                     rfl)
              ·
                refine WL.nil (WX.then_normal (WC.cond_false rfl (WC.skip (WX.then_normal (WC.seq (WC.region (WL.loadsB Tryd.isAgg23 Tryd.sizeOf23 hb_26 rfl (by first | (simp; done) | (simp; omega) | rfl) rfl (?_))))))))
                refine WL.stores Tryd.sizeOf23 hb_1 rfl rfl (by first | (simp; done) | (simp; omega) | rfl) (by first | exact Enc.one _ _ | (intro u hu; obtain ⟨x, _, rfl⟩ := List.mem_map.1 hu; rfl) | (simp [Value.oneCell']; done) | (simp [Value.oneCell', Value.cells]; done)) (by first | (simp; done) | (simp; omega) | (simp [Value.cells]; done) | (simp [Value.cells]; omega) | exact Nat.le_of_ble_eq_true rfl) rfl ?_
                intro w_30 hs_30 hn_30 k_30
                have zs_k_30 := k_30.size
                replace kk := kk.chg k_30 (by first | (intro x h1 h2; exact h2) | (intro x h0 h1 h2; exact hS x h1 h2) | (intro x h0 h1 h2; have h3 : _ = _ := h2; subst h3; exact hSR h1.1) | (intro x h1 h2; have h3 : _ = _ := h2; subst h3; assumption) | (intro x h1 h2; have h3 : _ = _ := h2; exfalso; omega) | (intro b h1 h2 h3; have h4 : _ = _ := h3; (try dsimp only at h2); exfalso; omega) | (intro h1; have h2 : _ = _ := h1; exfalso; omega) | (intro h1; have h2 : _ ≤ _ := h1; exfalso; omega) | (intros; exfalso; (try dsimp only at *); omega) | (intro b h1 h2 h3; exfalso; have h4 := h3.2; (try dsimp only at *); omega) | (intro h1; exfalso; have h4 := h1.2; (try dsimp only at *); omega) | (intro x h1 h2; exfalso; have h4 := h2.2; (try dsimp only at *); omega) | (intro x h1 h2; exact ⟨_, rfl, h2⟩) | (intro x h1 h2; have h4 := h2.1; have h5 := h2.2; exfalso; omega) | (intro x h1 h2; exact h2.1) | (intro x h1 h2; rcases h2.1 with h3 | h3; exact h3; exfalso; omega) | (intro x h1 h2; rcases h2 with h3 | h3; exact h3; exfalso; omega))
                replace hk := hk.chg k_30 (by first | (intro x h1 h2; exact h2) | (intro x h0 h1 h2; exact hS x h1 h2) | (intro x h0 h1 h2; have h3 : _ = _ := h2; subst h3; exact hSR h1.1) | (intro x h1 h2; have h3 : _ = _ := h2; subst h3; assumption) | (intro x h1 h2; have h3 : _ = _ := h2; exfalso; omega) | (intro b h1 h2 h3; have h4 : _ = _ := h3; (try dsimp only at h2); exfalso; omega) | (intro h1; have h2 : _ = _ := h1; exfalso; omega) | (intro h1; have h2 : _ ≤ _ := h1; exfalso; omega) | (intros; exfalso; (try dsimp only at *); omega) | (intro b h1 h2 h3; exfalso; have h4 := h3.2; (try dsimp only at *); omega) | (intro h1; exfalso; have h4 := h1.2; (try dsimp only at *); omega) | (intro x h1 h2; exfalso; have h4 := h2.2; (try dsimp only at *); omega) | (intro x h1 h2; exact ⟨_, rfl, h2⟩) | (intro x h1 h2; have h4 := h2.1; have h5 := h2.2; exfalso; omega) | (intro x h1 h2; exact h2.1) | (intro x h1 h2; rcases h2.1 with h3 | h3; exact h3; exfalso; omega) | (intro x h1 h2; rcases h2 with h3 | h3; exact h3; exfalso; omega))
                replace hb_26 := hb_26.chg k_30 (by first | (intro x h1 h2; exact h2) | (intro x h0 h1 h2; exact hS x h1 h2) | (intro x h0 h1 h2; have h3 : _ = _ := h2; subst h3; exact hSR h1.1) | (intro x h1 h2; have h3 : _ = _ := h2; subst h3; assumption) | (intro x h1 h2; have h3 : _ = _ := h2; exfalso; omega) | (intro b h1 h2 h3; have h4 : _ = _ := h3; (try dsimp only at h2); exfalso; omega) | (intro h1; have h2 : _ = _ := h1; exfalso; omega) | (intro h1; have h2 : _ ≤ _ := h1; exfalso; omega) | (intros; exfalso; (try dsimp only at *); omega) | (intro b h1 h2 h3; exfalso; have h4 := h3.2; (try dsimp only at *); omega) | (intro h1; exfalso; have h4 := h1.2; (try dsimp only at *); omega) | (intro x h1 h2; exfalso; have h4 := h2.2; (try dsimp only at *); omega) | (intro x h1 h2; exact ⟨_, rfl, h2⟩) | (intro x h1 h2; have h4 := h2.1; have h5 := h2.2; exfalso; omega) | (intro x h1 h2; exact h2.1) | (intro x h1 h2; rcases h2.1 with h3 | h3; exact h3; exfalso; omega) | (intro x h1 h2; rcases h2 with h3 | h3; exact h3; exfalso; omega))
                replace hb_1 := hn_30
                refine WL.assign rfl rfl (WL.nil (WX.then_normal (WC.ret (?_))))
                refine WX.ret2c (.inl rfl) Tryd.results41 Tryd.isAgg23 Tryd.sizeOf23 hb_1 rfl (by first | (simp; done) | (simp; omega) | rfl) rfl ?_
                first
                  | (refine ⟨_, rfl, ?_, kk⟩
                     rw [unpR_bad (by omega)]
                     rfl)
                  | (refine ⟨_, rfl, ?_, kk⟩
                     rw [unpR_four hL, if_neg (by omega)]
                     rfl)
                  | (have hr : ¬ rightP (ptr4 i0 i1 i2 i3) := fun hr => h74 (by rw [ptrE, if_pos hr])
                     refine ⟨_, rfl, ?_, kk⟩
                     rw [unpR_four hL, if_neg (fun x => hr x.2.2)]
                     rw [ptrE, if_neg hr]
                     rfl)
                  | (have hr : rightP (ptr4 i0 i1 i2 i3) := by
                       by_cases hr : rightP (ptr4 i0 i1 i2 i3)
                       ·
                         exact hr
                       ·
                         rw [ptrE, if_neg hr] at h74; cases h74
                     refine ⟨_, rfl, ?_, kk⟩
                     rw [unpR_four hL, if_pos ⟨by omega, ⟨by omega, by omega, by omega, by omega⟩, hr⟩]
                     rfl)
end Go.Proofs.YtjeldcjchipdgaaDoor
namespace Go.Proofs.YtjeldcjchipdgaaDoor
open Go.RowKit Go.HL
set_option maxRecDepth 100000

/-! the records of a label -/
structure UbV where
  t : Int
  p : PtrV
theorem UbV.eq_iff (u v : UbV) : (u.t = v.t ∧ u.p = v.p) ↔ u = v := by
  obtain ⟨a, b⟩ := u
  obtain ⟨c, d⟩ := v
  simp
instance : DecidableEq UbV := fun a b => decidable_of_iff _ (UbV.eq_iff a b)
def eub : Enc UbV := ⟨5, fun u => [vi u.t, vi u.p.a, vi u.p.z, vi u.p.b, .string u.p.s], fun _ => rfl, by simp [Value.oneCell'], by decide⟩
def WfU (u : UbV) : Prop := (-9223372036854775808 ≤ u.t ∧ u.t ≤ 9223372036854775807) ∧ WfP u.p
def uit (u : UbV) : List Item := [⟨1, 77, ⟨#[]⟩⟩, ⟨1, u.t, ⟨#[]⟩⟩, ⟨2, 0, ptrS u.p⟩]
/-- the sector of a record, and the error -/
def encB (u : UbV) : List UInt8 := if rightP u.p ∧ 1 ≤ u.t then secB (uit u) else []
def encE (u : UbV) : Int := if rightP u.p ∧ 1 ≤ u.t then secE (uit u) else 2
theorem uit_rit {u : UbV} (h : WfU u) : ∀ i ∈ uit u, RIt i := by
  intro i hi
  simp only [uit, List.mem_cons, List.not_mem_nil, or_false] at hi
  rcases hi with rfl | rfl | rfl
  · exact ⟨show (-9223372036854775808 : Int) ≤ 77 by decide, show (77 : Int) ≤ 9223372036854775807 by decide⟩
  · exact h.1
  · exact ⟨show (-9223372036854775808 : Int) ≤ 0 by decide, show (0 : Int) ≤ 9223372036854775807 by decide⟩
theorem ptrE_eq (p : PtrV) : ptrE p = 0 ↔ rightP p := by
  unfold ptrE
  split
  · rename_i h
    exact ⟨fun _ => h, fun _ => rfl⟩
  · rename_i h
    exact ⟨fun h1 => (absurd h1 (by decide)), fun h1 => absurd h1 h⟩
theorem encU_calls (u : UbV) (w : World) (hu : WfU u) : Calls Tryd.prog 12 [.agg (eub.f u).toArray].toArray w (Ret fun v w' => (∃ (ao : Option Addr) (c : Nat), v = .tuple #[.slice ao (encB u).length c, vi (encE u)] ∧ Row (w.heap.size ≤ ·) w' 5 eb ao c (encB u)) ∧ Chg Nob w w') := by
  have kk := Chg.refl Nob w
  refine Calls.of_WC Tryd.func12 rfl Tryd.ntmps12 (by simp) ?_
  refine WC.seq (WC.region (?_))
  refine WL.box rfl rfl ?_
  intro g_1 w_1 hge_1 hlt_1 hb_1 k_1
  have zs_k_1 := k_1.size
  replace kk := kk.pure k_1
  refine WL.assign rfl rfl (WL.assign rfl rfl (WL.nil (WX.then_normal (WC.seq (WC.region (WL.fieldAddr (fld_25_1) rfl rfl (?_)))))))
  have hb1 : Blk _ g_1 25 (eub.f u) := hb_1
  refine WL.loads (ept.f u.p) Tryd.isAgg23 Tryd.sizeOf23 rfl (fun j v hj => by rw [Nat.add_comm]; exact hb1.cell hj) rfl rfl ?_
  refine WL.call eg_36 rfl rfl (ptr_calls u.p _ hu.2) ?_
  rintro v w1 ⟨rfl, k1⟩
  have zs_k1 := k1.size
  replace kk := kk.pure k1
  replace hb1 := hb1.pure k1
  refine WL.move rfl rfl (WL.extract rfl rfl rfl (WL.extract rfl rfl rfl (WL.assign rfl rfl (WL.assign rfl rfl (WL.nil (WX.then_normal (WC.seq (?_))))))))
  refine WC.seq (WC.region (WL.move rfl rfl (?_)))
  refine WL.neq? rfl rfl rfl (fun h13 => ?_) (fun h13 => ?_)
  ·
    refine WL.move rfl rfl (WL.pass rfl rfl rfl rfl (WL.pass rfl rfl rfl rfl (WL.pass rfl rfl rfl rfl (WL.pickT rfl rfl rfl (WL.nil (WX.then_normal (WC.cond_true rfl (?_))))))))
    refine WC.seq (WC.region (WL.assign rfl rfl (WL.assign rfl rfl (WL.nil (WX.then_normal (WC.ret (WX.then_ret (?_))))))))
    refine WX.ret2 (.inl rfl) Tryd.results12 rfl rfl ?_
    by_cases hc : rightP u.p ∧ 1 ≤ u.t
    ·
      rw [encB, encE, if_pos hc, if_pos hc]
      first
        | (exact ⟨_, rfl, ⟨_, _, rfl, hx.mono (fun x hx => by omega)⟩, kk⟩)
        | (exfalso; exact h13 ((ptrE_eq _).2 hc.1))
        | (exfalso; have h5 := hc.2; omega)
    ·
      rw [encB, encE, if_neg hc, if_neg hc]
      first
        | (exact ⟨_, rfl, ⟨none, 0, rfl, Row.nil _ _ _ _⟩, kk⟩)
        | (exfalso; exact hc ⟨(ptrE_eq _).1 h13, by omega⟩)
  ·
    refine WL.move rfl rfl (WL.want rfl rfl rfl (WL.fieldAddr (fld_25_0) rfl rfl (WL.want rfl rfl rfl (WL.loadB Tryd.isAgg3 hb1 rfl rfl rfl (WL.want rfl rfl rfl (?_))))))
    refine WL.lss? rfl rfl rfl (fun h17 => ?_) (fun h17 => ?_)
    ·
      refine WL.pickF rfl rfl rfl (WL.nil (WX.then_normal (WC.cond_true rfl (WC.seq (WC.region (WL.assign rfl rfl (WL.assign rfl rfl (?_))))))))
      refine WL.nil (WX.then_normal (WC.ret (WX.then_ret (?_))))
      refine WX.ret2 (.inl rfl) Tryd.results12 rfl rfl ?_
      by_cases hc : rightP u.p ∧ 1 ≤ u.t
      ·
        rw [encB, encE, if_pos hc, if_pos hc]
        first
          | (exact ⟨_, rfl, ⟨_, _, rfl, hx.mono (fun x hx => by omega)⟩, kk⟩)
          | (exfalso; exact h13 ((ptrE_eq _).2 hc.1))
          | (exfalso; have h5 := hc.2; omega)
      ·
        rw [encB, encE, if_neg hc, if_neg hc]
        first
          | (exact ⟨_, rfl, ⟨none, 0, rfl, Row.nil _ _ _ _⟩, kk⟩)
          | (exfalso; exact hc ⟨(ptrE_eq _).1 h13, by omega⟩)
    ·
      refine WL.pickF rfl rfl rfl (WL.nil (WX.then_normal (WC.cond_false rfl (WC.skip (WX.then_normal (WC.seq (WC.region (?_))))))))
      refine WL.bld rfl (bld_75_0_1 _ _) rfl (WL.fieldAddr (fld_25_0) rfl rfl (WL.loadB Tryd.isAgg3 hb1 rfl rfl rfl (WL.bld rfl (bld_75_0_1 _ _) rfl (WL.move rfl rfl (WL.bld rfl (bld_75_0_2 _ _) rfl (?_))))))
      refine WL.build (e := eit) [⟨1, 77, ⟨#[]⟩⟩, ⟨1, u.t, ⟨#[]⟩⟩, ⟨2, 0, ptrS u.p⟩] Tryd.underlying76 Tryd.sizeOf75 Tryd.zeroValue75 rfl rfl rfl (by first | (simp [Value.cells]; done) | (simp [Value.cells] <;> rfl) | (simp [Value.cells, eb, ei, es, ebool, e32, e64]; done) | (simp [Value.cells] <;> (repeat' apply And.intro) <;> rfl)) (by decide) rfl ?_
      intro a_ha w_ha ha l_ha z_ha k_ha
      have zs_k_ha := k_ha.size
      replace kk := kk.pure k_ha
      replace hb1 := hb1.pure k_ha
      have ha2 := ha.rsl.old
      refine WL.call eg_37 rfl rfl (sector_calls ha2 (by simp)) ?_
      rintro v w2 ⟨⟨ax, cx, rfl, hx⟩, k2⟩
      have zs_k2 := k2.size
      replace kk := kk.pure k2
      replace hb1 := hb1.pure k2
      replace ha := ha.pure k2
      replace hx := hx.lt
      refine WL.extract rfl rfl rfl (WL.extract rfl rfl rfl (WL.assign rfl rfl (WL.assign rfl rfl (WL.nil (WX.then_normal (WC.ret (?_)))))))
      refine WX.ret2 (.inl rfl) Tryd.results12 rfl rfl ?_
      by_cases hc : rightP u.p ∧ 1 ≤ u.t
      ·
        rw [encB, encE, if_pos hc, if_pos hc]
        first
          | (exact ⟨_, rfl, ⟨_, _, rfl, hx.mono (fun x hx => by omega)⟩, kk⟩)
          | (exfalso; exact h13 ((ptrE_eq _).2 hc.1))
          | (exfalso; have h5 := hc.2; omega)
      ·
        rw [encB, encE, if_neg hc, if_neg hc]
        first
          | (exact ⟨_, rfl, ⟨none, 0, rfl, Row.nil _ _ _ _⟩, kk⟩)
          | (exfalso; exact hc ⟨(ptrE_eq _).1 h13, by omega⟩)
def zeroU : UbV := ⟨0, zeroP⟩
/-- the record of a sector -/
def decU (b : List UInt8) : Option UbV :=
  match unS b with
  | some [i0, i1, i2] => if i0 = ⟨1, 77, ⟨#[]⟩⟩ ∧ i1.kind = 1 ∧ 1 ≤ i1.n ∧ i2.kind = 2 ∧ (unpR i2.s).2 = 0 then some ⟨i1.n, (unpR i2.s).1⟩ else none
  | _ => none
def decV (b : List UInt8) : UbV := (decU b).getD zeroU
def decEr (b : List UInt8) : Int := if (decU b).isSome then 0 else 2
theorem decU_no {b : List UInt8} (h : decU b = none) : decV b = zeroU ∧ decEr b = 2 := by
  rw [decV, decEr, h]
  exact ⟨rfl, rfl⟩
theorem decU_yes {b : List UInt8} {u : UbV} (h : decU b = some u) : decV b = u ∧ decEr b = 0 := by
  rw [decV, decEr, h]
  exact ⟨rfl, rfl⟩
theorem three_items {l : List Item} (h : l.length = 3) : ∃ i0 i1 i2, l = [i0, i1, i2] := by
  match l, h with
  | [a, b, c], _ => exact ⟨a, b, c, rfl⟩
theorem decU_three {b : List UInt8} {i0 i1 i2 : Item} (hE : unE b = 0) (hL : unL b = [i0, i1, i2]) : decU b = if i0 = ⟨1, 77, ⟨#[]⟩⟩ ∧ i1.kind = 1 ∧ 1 ≤ i1.n ∧ i2.kind = 2 ∧ (unpR i2.s).2 = 0 then some ⟨i1.n, (unpR i2.s).1⟩ else none := by
  cases h : unS b with
  | none =>
    rw [(un_none h).2] at hE
    cases hE
  | some l =>
    rw [(un_yes' h).1] at hL
    subst hL
    unfold decU
    rw [h]
theorem decU_bad {b : List UInt8} (h : unE b ≠ 0 ∨ (unL b).length ≠ 3) : decU b = none := by
  cases hu : unS b with
  | none => unfold decU; rw [hu]
  | some l =>
    obtain ⟨u1, u2⟩ := un_yes' hu
    rw [u1, u2] at h
    have h3 : l.length ≠ 3 := h.resolve_left (fun h4 => h4 rfl)
    unfold decU
    rw [hu]
    split
    · rename_i he
      injection he with he
      subst he
      exact absurd rfl h3
    · rfl
theorem un_good {b : List UInt8} : ∀ i ∈ unL b, Good i := by
  cases hu : unS b with
  | none => rw [(un_none hu).1]; intro i hi; cases hi
  | some l => rw [(un_yes' hu).1]; exact (un_parts hu).2.2.2.2.1
theorem unpR_err (s : ByteArray) : (unpR s).2 = 0 ∨ (unpR s).2 = 2 := by
  unfold unpR
  split
  · split
    · exact .inl rfl
    · exact .inr rfl
  · exact .inr rfl
theorem decU_calls {w : World} {ao : Option Addr} {c : Nat} {b : List UInt8} (hr : RSl (· < w.heap.size) w eb ao c b) (hl : b.length ≤ 140737488351232) :
    Calls Tryd.prog 14 [.slice ao b.length c].toArray w (Ret fun v w' => v = .tuple #[.agg (eub.f (decV b)).toArray, vi (decEr b)] ∧ Chg Nob w w') := by
  have kk := Chg.refl Nob w
  refine Calls.of_WC Tryd.func14 rfl Tryd.ntmps14 (by simp) ?_
  refine WC.seq (WC.region (?_))
  refine WL.alloc Tryd.zeroValue25 rfl ?_
  intro g_1 w_1 hge_1 hlt_1 hb_1 k_1
  have zs_k_1 := k_1.size
  replace hr := hr.pure k_1
  replace kk := kk.pure k_1
  refine WL.assign rfl rfl (WL.nil (WX.then_normal (WC.seq (WC.region (WL.move rfl rfl (?_))))))
  have hr1 := hr.old
  refine WL.call eg_40 rfl rfl (unsector_calls hr1 (by omega)) ?_
  rintro v w1 ⟨⟨a1, c1, rfl, hq⟩, k1⟩
  obtain ⟨L, eL⟩ : ∃ L, L = unL b := ⟨_, rfl⟩
  rw [← eL] at hq ⊢
  have zs_k1 := k1.size
  replace hr := hr.pure k1
  replace kk := kk.pure k1
  replace hb_1 := hb_1.pure k1
  replace hq := hq.lt
  refine WL.move rfl rfl (WL.extract rfl rfl rfl (WL.extract rfl rfl rfl (WL.assign rfl rfl (WL.assign rfl rfl (WL.nil (WX.then_normal (WC.seq (?_))))))))
  refine WC.seq (WC.region (WL.move rfl rfl (?_)))
  refine WL.neq? rfl rfl rfl (fun h13 => ?_) (fun h13 => ?_)
  ·
    refine WL.move rfl rfl (WL.pass rfl rfl rfl rfl (WL.pass rfl rfl rfl rfl (WL.pass rfl rfl rfl rfl (WL.pickT rfl rfl rfl (WL.move rfl rfl (WL.pass rfl rfl rfl rfl (WL.pass rfl rfl rfl rfl (?_))))))))
    refine WL.pass rfl rfl rfl rfl (WL.pass rfl rfl rfl rfl (WL.pass rfl rfl rfl rfl (WL.pickT rfl rfl rfl (WL.move rfl rfl (WL.pass rfl rfl rfl rfl (WL.pass rfl rfl rfl rfl (WL.pass rfl rfl rfl rfl (?_))))))))
    refine WL.pass rfl rfl rfl rfl (WL.pass rfl rfl rfl rfl (WL.pickT rfl rfl rfl (WL.move rfl rfl (WL.pass rfl rfl rfl rfl (WL.pass rfl rfl rfl rfl (WL.pass rfl rfl rfl rfl (WL.pass rfl rfl rfl rfl (?_))))))))
    refine WL.pass rfl rfl rfl rfl (WL.pickT rfl rfl rfl (WL.move rfl rfl (WL.pass rfl rfl rfl rfl (WL.pass rfl rfl rfl rfl (WL.pass rfl rfl rfl rfl (WL.pass rfl rfl rfl rfl (WL.pass rfl rfl rfl rfl (?_))))))))
    refine WL.pickT rfl rfl rfl (WL.nil (WX.then_normal (WC.cond_true rfl (WC.seq (WC.region (WL.bld rfl (bld_25_z) rfl (?_)))))))
    refine WL.stores Tryd.sizeOf25 hb_1 rfl rfl (by first | (simp; done) | (simp; omega) | rfl) (by first | exact Enc.one _ _ | (intro u hu; obtain ⟨x, _, rfl⟩ := List.mem_map.1 hu; rfl) | (simp [Value.oneCell']; done) | (simp [Value.oneCell', Value.cells]; done)) (by first | (simp; done) | (simp; omega) | (simp [Value.cells]; done) | (simp [Value.cells]; omega) | exact Nat.le_of_ble_eq_true rfl) rfl ?_
    intro w_2 hs_2 hn_2 k_2
    have zs_k_2 := k_2.size
    replace hr := hr.chg k_2 (by first | (intro x h1 h2; exact h2) | (intro x h0 h1 h2; exact hS x h1 h2) | (intro x h0 h1 h2; have h3 : _ = _ := h2; subst h3; exact hSR h1.1) | (intro x h1 h2; have h3 : _ = _ := h2; subst h3; assumption) | (intro x h1 h2; have h3 : _ = _ := h2; exfalso; omega) | (intro b h1 h2 h3; have h4 : _ = _ := h3; (try dsimp only at h2); exfalso; omega) | (intro h1; have h2 : _ = _ := h1; exfalso; omega) | (intro h1; have h2 : _ ≤ _ := h1; exfalso; omega) | (intros; exfalso; (try dsimp only at *); omega) | (intro b h1 h2 h3; exfalso; have h4 := h3.2; (try dsimp only at *); omega) | (intro h1; exfalso; have h4 := h1.2; (try dsimp only at *); omega) | (intro x h1 h2; exfalso; have h4 := h2.2; (try dsimp only at *); omega) | (intro x h1 h2; exact ⟨_, rfl, h2⟩) | (intro x h1 h2; have h4 := h2.1; have h5 := h2.2; exfalso; omega) | (intro x h1 h2; exact h2.1) | (intro x h1 h2; rcases h2.1 with h3 | h3; exact h3; exfalso; omega) | (intro x h1 h2; rcases h2 with h3 | h3; exact h3; exfalso; omega))
    replace kk := kk.chg k_2 (by first | (intro x h1 h2; exact h2) | (intro x h0 h1 h2; exact hS x h1 h2) | (intro x h0 h1 h2; have h3 : _ = _ := h2; subst h3; exact hSR h1.1) | (intro x h1 h2; have h3 : _ = _ := h2; subst h3; assumption) | (intro x h1 h2; have h3 : _ = _ := h2; exfalso; omega) | (intro b h1 h2 h3; have h4 : _ = _ := h3; (try dsimp only at h2); exfalso; omega) | (intro h1; have h2 : _ = _ := h1; exfalso; omega) | (intro h1; have h2 : _ ≤ _ := h1; exfalso; omega) | (intros; exfalso; (try dsimp only at *); omega) | (intro b h1 h2 h3; exfalso; have h4 := h3.2; (try dsimp only at *); omega) | (intro h1; exfalso; have h4 := h1.2; (try dsimp only at *); omega) | (intro x h1 h2; exfalso; have h4 := h2.2; (try dsimp only at *); omega) | (intro x h1 h2; exact ⟨_, rfl, h2⟩) | (intro x h1 h2; have h4 := h2.1; have h5 := h2.2; exfalso; omega) | (intro x h1 h2; exact h2.1) | (intro x h1 h2; rcases h2.1 with h3 | h3; exact h3; exfalso; omega) | (intro x h1 h2; rcases h2 with h3 | h3; exact h3; exfalso; omega))
    replace hq := hq.chg k_2 (by first | (intro x h1 h2; exact h2) | (intro x h0 h1 h2; exact hS x h1 h2) | (intro x h0 h1 h2; have h3 : _ = _ := h2; subst h3; exact hSR h1.1) | (intro x h1 h2; have h3 : _ = _ := h2; subst h3; assumption) | (intro x h1 h2; have h3 : _ = _ := h2; exfalso; omega) | (intro b h1 h2 h3; have h4 : _ = _ := h3; (try dsimp only at h2); exfalso; omega) | (intro h1; have h2 : _ = _ := h1; exfalso; omega) | (intro h1; have h2 : _ ≤ _ := h1; exfalso; omega) | (intros; exfalso; (try dsimp only at *); omega) | (intro b h1 h2 h3; exfalso; have h4 := h3.2; (try dsimp only at *); omega) | (intro h1; exfalso; have h4 := h1.2; (try dsimp only at *); omega) | (intro x h1 h2; exfalso; have h4 := h2.2; (try dsimp only at *); omega) | (intro x h1 h2; exact ⟨_, rfl, h2⟩) | (intro x h1 h2; have h4 := h2.1; have h5 := h2.2; exfalso; omega) | (intro x h1 h2; exact h2.1) | (intro x h1 h2; rcases h2.1 with h3 | h3; exact h3; exfalso; omega) | (intro x h1 h2; rcases h2 with h3 | h3; exact h3; exfalso; omega))
    replace hb_1 := hn_2
    refine WL.assign rfl rfl (WL.nil (WX.then_normal (WC.ret (WX.then_ret (?_)))))
    refine WX.ret2c (.inl rfl) Tryd.results14 Tryd.isAgg25 Tryd.sizeOf25 hb_1 rfl (by first | (simp; done) | (simp; omega) | rfl) rfl ?_
    first
      | (have hz : unE b ≠ 0 := h13
         obtain ⟨e1, e2⟩ := decU_no (decU_bad (b := b) (.inl hz))
         rw [e1, e2]
         exact ⟨_, rfl, rfl, kk⟩)
      | (have hz : (L.length : Int) ≠ 3 := h17
         obtain ⟨e1, e2⟩ := decU_no (decU_bad (b := b) (.inr (fun h9 => hz (by rw [eL, h9]; rfl))))
         rw [e1, e2]
         exact ⟨_, rfl, rfl, kk⟩)
      | (have hz : unE b = 0 := h13
         have hz2 : L = [i0, i1, i2] := hL
         have hd := decU_three (b := b) hz (eL ▸ hz2)
         by_cases hc : i0 = ⟨1, 77, ⟨#[]⟩⟩ ∧ i1.kind = 1 ∧ 1 ≤ i1.n ∧ i2.kind = 2 ∧ (unpR i2.s).2 = 0
         ·
           rw [if_pos hc] at hd
           obtain ⟨e1, e2⟩ := decU_yes hd
           rw [e1, e2]
           obtain ⟨c1, c2, c3, c4, c5⟩ := hc
           first
             | (exact ⟨_, rfl, rfl, kk⟩)
             | (exfalso; omega)
             | (exfalso; first | exact absurd c1 (by assumption) | exact absurd c5 (by assumption))
         ·
           rw [if_neg hc] at hd
           obtain ⟨e1, e2⟩ := decU_no hd
           rw [e1, e2]
           first
             | (exact ⟨_, rfl, rfl, kk⟩)
             | (have h2 : (unpR i2.s).2 = 2 := (unpR_err _).resolve_left (by assumption)
                refine ⟨_, rfl, ?_, kk⟩
                rw [← h2]
                rfl)
             | (exfalso; exact hc ⟨by assumption, by omega, by omega, by omega, by assumption⟩))
  ·
    refine WL.move rfl rfl (WL.want rfl rfl rfl (WL.move rfl rfl (WL.want rfl rfl rfl (WL.len Tryd.underlying76 rfl rfl (WL.want rfl rfl rfl (?_))))))
    refine WL.neq? rfl rfl rfl (fun h17 => ?_) (fun h17 => ?_)
    ·
      refine WL.pickF rfl rfl rfl (WL.move rfl rfl (WL.pass rfl rfl rfl rfl (WL.pass rfl rfl rfl rfl (WL.pass rfl rfl rfl rfl (WL.pass rfl rfl rfl rfl (WL.pass rfl rfl rfl rfl (WL.pickT rfl rfl rfl (?_))))))))
      refine WL.move rfl rfl (WL.pass rfl rfl rfl rfl (WL.pass rfl rfl rfl rfl (WL.pass rfl rfl rfl rfl (WL.pass rfl rfl rfl rfl (WL.pass rfl rfl rfl rfl (WL.pickT rfl rfl rfl (WL.move rfl rfl (?_))))))))
      refine WL.pass rfl rfl rfl rfl (WL.pass rfl rfl rfl rfl (WL.pass rfl rfl rfl rfl (WL.pass rfl rfl rfl rfl (WL.pass rfl rfl rfl rfl (WL.pickT rfl rfl rfl (WL.move rfl rfl (WL.pass rfl rfl rfl rfl (?_))))))))
      refine WL.pass rfl rfl rfl rfl (WL.pass rfl rfl rfl rfl (WL.pass rfl rfl rfl rfl (WL.pass rfl rfl rfl rfl (WL.pickT rfl rfl rfl (WL.nil (WX.then_normal (WC.cond_true rfl (?_))))))))
      refine WC.seq (WC.region (WL.bld rfl (bld_25_z) rfl (?_)))
      refine WL.stores Tryd.sizeOf25 hb_1 rfl rfl (by first | (simp; done) | (simp; omega) | rfl) (by first | exact Enc.one _ _ | (intro u hu; obtain ⟨x, _, rfl⟩ := List.mem_map.1 hu; rfl) | (simp [Value.oneCell']; done) | (simp [Value.oneCell', Value.cells]; done)) (by first | (simp; done) | (simp; omega) | (simp [Value.cells]; done) | (simp [Value.cells]; omega) | exact Nat.le_of_ble_eq_true rfl) rfl ?_
      intro w_2 hs_2 hn_2 k_2
      have zs_k_2 := k_2.size
      replace hr := hr.chg k_2 (by first | (intro x h1 h2; exact h2) | (intro x h0 h1 h2; exact hS x h1 h2) | (intro x h0 h1 h2; have h3 : _ = _ := h2; subst h3; exact hSR h1.1) | (intro x h1 h2; have h3 : _ = _ := h2; subst h3; assumption) | (intro x h1 h2; have h3 : _ = _ := h2; exfalso; omega) | (intro b h1 h2 h3; have h4 : _ = _ := h3; (try dsimp only at h2); exfalso; omega) | (intro h1; have h2 : _ = _ := h1; exfalso; omega) | (intro h1; have h2 : _ ≤ _ := h1; exfalso; omega) | (intros; exfalso; (try dsimp only at *); omega) | (intro b h1 h2 h3; exfalso; have h4 := h3.2; (try dsimp only at *); omega) | (intro h1; exfalso; have h4 := h1.2; (try dsimp only at *); omega) | (intro x h1 h2; exfalso; have h4 := h2.2; (try dsimp only at *); omega) | (intro x h1 h2; exact ⟨_, rfl, h2⟩) | (intro x h1 h2; have h4 := h2.1; have h5 := h2.2; exfalso; omega) | (intro x h1 h2; exact h2.1) | (intro x h1 h2; rcases h2.1 with h3 | h3; exact h3; exfalso; omega) | (intro x h1 h2; rcases h2 with h3 | h3; exact h3; exfalso; omega))
      replace kk := kk.chg k_2 (by first | (intro x h1 h2; exact h2) | (intro x h0 h1 h2; exact hS x h1 h2) | (intro x h0 h1 h2; have h3 : _ = _ := h2; subst h3; exact hSR h1.1) | (intro x h1 h2; have h3 : _ = _ := h2; subst h3; assumption) | (intro x h1 h2; have h3 : _ = _ := h2; exfalso; omega) | (intro b h1 h2 h3; have h4 : _ = _ := h3; (try dsimp only at h2); exfalso; omega) | (intro h1; have h2 : _ = _ := h1; exfalso; omega) | (intro h1; have h2 : _ ≤ _ := h1; exfalso; omega) | (intros; exfalso; (try dsimp only at *); omega) | (intro b h1 h2 h3; exfalso; have h4 := h3.2; (try dsimp only at *); omega) | (intro h1; exfalso; have h4 := h1.2; (try dsimp only at *); omega) | (intro x h1 h2; exfalso; have h4 := h2.2; (try dsimp only at *); omega) | (intro x h1 h2; exact ⟨_, rfl, h2⟩) | (intro x h1 h2; have h4 := h2.1; have h5 := h2.2; exfalso; omega) | (intro x h1 h2; exact h2.1) | (intro x h1 h2; rcases h2.1 with h3 | h3; exact h3; exfalso; omega) | (intro x h1 h2; rcases h2 with h3 | h3; exact h3; exfalso; omega))
      replace hq := hq.chg k_2 (by first | (intro x h1 h2; exact h2) | (intro x h0 h1 h2; exact hS x h1 h2) | (intro x h0 h1 h2; have h3 : _ = _ := h2; subst h3; exact hSR h1.1) | (intro x h1 h2; have h3 : _ = _ := h2; subst h3; assumption) | (intro x h1 h2; have h3 : _ = _ := h2; exfalso; omega) | (intro b h1 h2 h3; have h4 : _ = _ := h3; (try dsimp only at h2); exfalso; omega) | (intro h1; have h2 : _ = _ := h1; exfalso; omega) | (intro h1; have h2 : _ ≤ _ := h1; exfalso; omega) | (intros; exfalso; (try dsimp only at *); omega) | (intro b h1 h2 h3; exfalso; have h4 := h3.2; (try dsimp only at *); omega) | (intro h1; exfalso; have h4 := h1.2; (try dsimp only at *); omega) | (intro x h1 h2; exfalso; have h4 := h2.2; (try dsimp only at *); omega) | (intro x h1 h2; exact ⟨_, rfl, h2⟩) | (intro x h1 h2; have h4 := h2.1; have h5 := h2.2; exfalso; omega) | (intro x h1 h2; exact h2.1) | (intro x h1 h2; rcases h2.1 with h3 | h3; exact h3; exfalso; omega) | (intro x h1 h2; rcases h2 with h3 | h3; exact h3; exfalso; omega))
      replace hb_1 := hn_2
      refine WL.assign rfl rfl (WL.nil (WX.then_normal (WC.ret (WX.then_ret (?_)))))
      refine WX.ret2c (.inl rfl) Tryd.results14 Tryd.isAgg25 Tryd.sizeOf25 hb_1 rfl (by first | (simp; done) | (simp; omega) | rfl) rfl ?_
      first
        | (have hz : unE b ≠ 0 := h13
           obtain ⟨e1, e2⟩ := decU_no (decU_bad (b := b) (.inl hz))
           rw [e1, e2]
           exact ⟨_, rfl, rfl, kk⟩)
        | (have hz : (L.length : Int) ≠ 3 := h17
           obtain ⟨e1, e2⟩ := decU_no (decU_bad (b := b) (.inr (fun h9 => hz (by rw [eL, h9]; rfl))))
           rw [e1, e2]
           exact ⟨_, rfl, rfl, kk⟩)
        | (have hz : unE b = 0 := h13
           have hz2 : L = [i0, i1, i2] := hL
           have hd := decU_three (b := b) hz (eL ▸ hz2)
           by_cases hc : i0 = ⟨1, 77, ⟨#[]⟩⟩ ∧ i1.kind = 1 ∧ 1 ≤ i1.n ∧ i2.kind = 2 ∧ (unpR i2.s).2 = 0
           ·
             rw [if_pos hc] at hd
             obtain ⟨e1, e2⟩ := decU_yes hd
             rw [e1, e2]
             obtain ⟨c1, c2, c3, c4, c5⟩ := hc
             first
               | (exact ⟨_, rfl, rfl, kk⟩)
               | (exfalso; omega)
               | (exfalso; first | exact absurd c1 (by assumption) | exact absurd c5 (by assumption))
           ·
             rw [if_neg hc] at hd
             obtain ⟨e1, e2⟩ := decU_no hd
             rw [e1, e2]
             first
               | (exact ⟨_, rfl, rfl, kk⟩)
               | (have h2 : (unpR i2.s).2 = 2 := (unpR_err _).resolve_left (by assumption)
                  refine ⟨_, rfl, ?_, kk⟩
                  rw [← h2]
                  rfl)
               | (exfalso; exact hc ⟨by assumption, by omega, by omega, by omega, by assumption⟩))
    ·
      refine WL.pickF rfl rfl rfl (WL.move rfl rfl (WL.want rfl rfl rfl (WL.move rfl rfl (WL.want rfl rfl rfl (?_)))))
      obtain ⟨i0, i1, i2, hL⟩ := three_items (l := L) (by omega)
      have hi0 : L[0]? = some i0 := by rw [hL]; rfl
      have hi1 : L[1]? = some i1 := by rw [hL]; rfl
      have hi2 : L[2]? = some i2 := by rw [hL]; rfl
      refine WL.indexT Tryd.underlying76 Tryd.sizeOf75 hq.rsl rfl rfl ⟨hi0, rfl⟩ rfl ?_
      intro b_2 o_2 hc_2
      refine WL.want rfl rfl rfl (WL.loads _ Tryd.isAgg75 Tryd.sizeOf75 rfl hc_2 rfl rfl (WL.want rfl rfl rfl (WL.bld rfl (bld_75_0_1 _ _) rfl (WL.want rfl rfl rfl (?_)))))
      refine WL.aneq? eqg_item (eq_item _ ⟨1, 77, ⟨#[]⟩⟩) rfl rfl rfl (fun h24 => ?_) (fun h24 => ?_)
      ·
        refine WL.pickF rfl rfl rfl (WL.move rfl rfl (WL.pass rfl rfl rfl rfl (WL.pass rfl rfl rfl rfl (WL.pass rfl rfl rfl rfl (WL.pass rfl rfl rfl rfl (WL.pass rfl rfl rfl rfl (WL.pickT rfl rfl rfl (?_))))))))
        refine WL.move rfl rfl (WL.pass rfl rfl rfl rfl (WL.pass rfl rfl rfl rfl (WL.pass rfl rfl rfl rfl (WL.pass rfl rfl rfl rfl (WL.pass rfl rfl rfl rfl (WL.pickT rfl rfl rfl (WL.move rfl rfl (?_))))))))
        refine WL.pass rfl rfl rfl rfl (WL.pass rfl rfl rfl rfl (WL.pass rfl rfl rfl rfl (WL.pass rfl rfl rfl rfl (WL.pass rfl rfl rfl rfl (WL.pickT rfl rfl rfl (WL.nil (WX.then_normal (?_))))))))
        refine WC.cond_true rfl (WC.seq (WC.region (WL.bld rfl (bld_25_z) rfl (?_))))
        refine WL.stores Tryd.sizeOf25 hb_1 rfl rfl (by first | (simp; done) | (simp; omega) | rfl) (by first | exact Enc.one _ _ | (intro u hu; obtain ⟨x, _, rfl⟩ := List.mem_map.1 hu; rfl) | (simp [Value.oneCell']; done) | (simp [Value.oneCell', Value.cells]; done)) (by first | (simp; done) | (simp; omega) | (simp [Value.cells]; done) | (simp [Value.cells]; omega) | exact Nat.le_of_ble_eq_true rfl) rfl ?_
        intro w_3 hs_3 hn_3 k_3
        have zs_k_3 := k_3.size
        replace hr := hr.chg k_3 (by first | (intro x h1 h2; exact h2) | (intro x h0 h1 h2; exact hS x h1 h2) | (intro x h0 h1 h2; have h3 : _ = _ := h2; subst h3; exact hSR h1.1) | (intro x h1 h2; have h3 : _ = _ := h2; subst h3; assumption) | (intro x h1 h2; have h3 : _ = _ := h2; exfalso; omega) | (intro b h1 h2 h3; have h4 : _ = _ := h3; (try dsimp only at h2); exfalso; omega) | (intro h1; have h2 : _ = _ := h1; exfalso; omega) | (intro h1; have h2 : _ ≤ _ := h1; exfalso; omega) | (intros; exfalso; (try dsimp only at *); omega) | (intro b h1 h2 h3; exfalso; have h4 := h3.2; (try dsimp only at *); omega) | (intro h1; exfalso; have h4 := h1.2; (try dsimp only at *); omega) | (intro x h1 h2; exfalso; have h4 := h2.2; (try dsimp only at *); omega) | (intro x h1 h2; exact ⟨_, rfl, h2⟩) | (intro x h1 h2; have h4 := h2.1; have h5 := h2.2; exfalso; omega) | (intro x h1 h2; exact h2.1) | (intro x h1 h2; rcases h2.1 with h3 | h3; exact h3; exfalso; omega) | (intro x h1 h2; rcases h2 with h3 | h3; exact h3; exfalso; omega))
        replace kk := kk.chg k_3 (by first | (intro x h1 h2; exact h2) | (intro x h0 h1 h2; exact hS x h1 h2) | (intro x h0 h1 h2; have h3 : _ = _ := h2; subst h3; exact hSR h1.1) | (intro x h1 h2; have h3 : _ = _ := h2; subst h3; assumption) | (intro x h1 h2; have h3 : _ = _ := h2; exfalso; omega) | (intro b h1 h2 h3; have h4 : _ = _ := h3; (try dsimp only at h2); exfalso; omega) | (intro h1; have h2 : _ = _ := h1; exfalso; omega) | (intro h1; have h2 : _ ≤ _ := h1; exfalso; omega) | (intros; exfalso; (try dsimp only at *); omega) | (intro b h1 h2 h3; exfalso; have h4 := h3.2; (try dsimp only at *); omega) | (intro h1; exfalso; have h4 := h1.2; (try dsimp only at *); omega) | (intro x h1 h2; exfalso; have h4 := h2.2; (try dsimp only at *); omega) | (intro x h1 h2; exact ⟨_, rfl, h2⟩) | (intro x h1 h2; have h4 := h2.1; have h5 := h2.2; exfalso; omega) | (intro x h1 h2; exact h2.1) | (intro x h1 h2; rcases h2.1 with h3 | h3; exact h3; exfalso; omega) | (intro x h1 h2; rcases h2 with h3 | h3; exact h3; exfalso; omega))
        replace hq := hq.chg k_3 (by first | (intro x h1 h2; exact h2) | (intro x h0 h1 h2; exact hS x h1 h2) | (intro x h0 h1 h2; have h3 : _ = _ := h2; subst h3; exact hSR h1.1) | (intro x h1 h2; have h3 : _ = _ := h2; subst h3; assumption) | (intro x h1 h2; have h3 : _ = _ := h2; exfalso; omega) | (intro b h1 h2 h3; have h4 : _ = _ := h3; (try dsimp only at h2); exfalso; omega) | (intro h1; have h2 : _ = _ := h1; exfalso; omega) | (intro h1; have h2 : _ ≤ _ := h1; exfalso; omega) | (intros; exfalso; (try dsimp only at *); omega) | (intro b h1 h2 h3; exfalso; have h4 := h3.2; (try dsimp only at *); omega) | (intro h1; exfalso; have h4 := h1.2; (try dsimp only at *); omega) | (intro x h1 h2; exfalso; have h4 := h2.2; (try dsimp only at *); omega) | (intro x h1 h2; exact ⟨_, rfl, h2⟩) | (intro x h1 h2; have h4 := h2.1; have h5 := h2.2; exfalso; omega) | (intro x h1 h2; exact h2.1) | (intro x h1 h2; rcases h2.1 with h3 | h3; exact h3; exfalso; omega) | (intro x h1 h2; rcases h2 with h3 | h3; exact h3; exfalso; omega))
        replace hb_1 := hn_3
        refine WL.assign rfl rfl (WL.nil (WX.then_normal (WC.ret (WX.then_ret (?_)))))
        refine WX.ret2c (.inl rfl) Tryd.results14 Tryd.isAgg25 Tryd.sizeOf25 hb_1 rfl (by first | (simp; done) | (simp; omega) | rfl) rfl ?_
        first
          | (have hz : unE b ≠ 0 := h13
             obtain ⟨e1, e2⟩ := decU_no (decU_bad (b := b) (.inl hz))
             rw [e1, e2]
             exact ⟨_, rfl, rfl, kk⟩)
          | (have hz : (L.length : Int) ≠ 3 := h17
             obtain ⟨e1, e2⟩ := decU_no (decU_bad (b := b) (.inr (fun h9 => hz (by rw [eL, h9]; rfl))))
             rw [e1, e2]
             exact ⟨_, rfl, rfl, kk⟩)
          | (have hz : unE b = 0 := h13
             have hz2 : L = [i0, i1, i2] := hL
             have hd := decU_three (b := b) hz (eL ▸ hz2)
             by_cases hc : i0 = ⟨1, 77, ⟨#[]⟩⟩ ∧ i1.kind = 1 ∧ 1 ≤ i1.n ∧ i2.kind = 2 ∧ (unpR i2.s).2 = 0
             ·
               rw [if_pos hc] at hd
               obtain ⟨e1, e2⟩ := decU_yes hd
               rw [e1, e2]
               obtain ⟨c1, c2, c3, c4, c5⟩ := hc
               first
                 | (exact ⟨_, rfl, rfl, kk⟩)
                 | (exfalso; omega)
                 | (exfalso; first | exact absurd c1 (by assumption) | exact absurd c5 (by assumption))
             ·
               rw [if_neg hc] at hd
               obtain ⟨e1, e2⟩ := decU_no hd
               rw [e1, e2]
               first
                 | (exact ⟨_, rfl, rfl, kk⟩)
                 | (have h2 : (unpR i2.s).2 = 2 := (unpR_err _).resolve_left (by assumption)
                    refine ⟨_, rfl, ?_, kk⟩
                    rw [← h2]
                    rfl)
                 | (exfalso; exact hc ⟨by assumption, by omega, by omega, by omega, by assumption⟩))
      ·
        refine WL.pickF rfl rfl rfl (WL.move rfl rfl (WL.want rfl rfl rfl (WL.move rfl rfl (WL.want rfl rfl rfl (?_)))))
        refine WL.indexT Tryd.underlying76 Tryd.sizeOf75 hq.rsl rfl rfl ⟨hi1, rfl⟩ rfl ?_
        intro b_3 o_3 hc_3
        refine WL.want rfl rfl rfl (WL.fieldAddr (fld_75_0) rfl rfl (WL.want rfl rfl rfl (WL.load Tryd.isAgg3 rfl (hc_3 _ _ rfl) rfl (WL.want rfl rfl rfl (?_)))))
        refine WL.neq? rfl rfl rfl (fun h31 => ?_) (fun h31 => ?_)
        ·
          refine WL.pickF rfl rfl rfl (WL.move rfl rfl (WL.pass rfl rfl rfl rfl (WL.pass rfl rfl rfl rfl (WL.pass rfl rfl rfl rfl (WL.pass rfl rfl rfl rfl (WL.pass rfl rfl rfl rfl (WL.pickT rfl rfl rfl (?_))))))))
          refine WL.move rfl rfl (WL.pass rfl rfl rfl rfl (WL.pass rfl rfl rfl rfl (WL.pass rfl rfl rfl rfl (WL.pass rfl rfl rfl rfl (WL.pass rfl rfl rfl rfl (WL.pickT rfl rfl rfl (WL.nil (?_))))))))
          refine WX.then_normal (WC.cond_true rfl (WC.seq (WC.region (WL.bld rfl (bld_25_z) rfl (?_)))))
          refine WL.stores Tryd.sizeOf25 hb_1 rfl rfl (by first | (simp; done) | (simp; omega) | rfl) (by first | exact Enc.one _ _ | (intro u hu; obtain ⟨x, _, rfl⟩ := List.mem_map.1 hu; rfl) | (simp [Value.oneCell']; done) | (simp [Value.oneCell', Value.cells]; done)) (by first | (simp; done) | (simp; omega) | (simp [Value.cells]; done) | (simp [Value.cells]; omega) | exact Nat.le_of_ble_eq_true rfl) rfl ?_
          intro w_4 hs_4 hn_4 k_4
          have zs_k_4 := k_4.size
          replace hr := hr.chg k_4 (by first | (intro x h1 h2; exact h2) | (intro x h0 h1 h2; exact hS x h1 h2) | (intro x h0 h1 h2; have h3 : _ = _ := h2; subst h3; exact hSR h1.1) | (intro x h1 h2; have h3 : _ = _ := h2; subst h3; assumption) | (intro x h1 h2; have h3 : _ = _ := h2; exfalso; omega) | (intro b h1 h2 h3; have h4 : _ = _ := h3; (try dsimp only at h2); exfalso; omega) | (intro h1; have h2 : _ = _ := h1; exfalso; omega) | (intro h1; have h2 : _ ≤ _ := h1; exfalso; omega) | (intros; exfalso; (try dsimp only at *); omega) | (intro b h1 h2 h3; exfalso; have h4 := h3.2; (try dsimp only at *); omega) | (intro h1; exfalso; have h4 := h1.2; (try dsimp only at *); omega) | (intro x h1 h2; exfalso; have h4 := h2.2; (try dsimp only at *); omega) | (intro x h1 h2; exact ⟨_, rfl, h2⟩) | (intro x h1 h2; have h4 := h2.1; have h5 := h2.2; exfalso; omega) | (intro x h1 h2; exact h2.1) | (intro x h1 h2; rcases h2.1 with h3 | h3; exact h3; exfalso; omega) | (intro x h1 h2; rcases h2 with h3 | h3; exact h3; exfalso; omega))
          replace kk := kk.chg k_4 (by first | (intro x h1 h2; exact h2) | (intro x h0 h1 h2; exact hS x h1 h2) | (intro x h0 h1 h2; have h3 : _ = _ := h2; subst h3; exact hSR h1.1) | (intro x h1 h2; have h3 : _ = _ := h2; subst h3; assumption) | (intro x h1 h2; have h3 : _ = _ := h2; exfalso; omega) | (intro b h1 h2 h3; have h4 : _ = _ := h3; (try dsimp only at h2); exfalso; omega) | (intro h1; have h2 : _ = _ := h1; exfalso; omega) | (intro h1; have h2 : _ ≤ _ := h1; exfalso; omega) | (intros; exfalso; (try dsimp only at *); omega) | (intro b h1 h2 h3; exfalso; have h4 := h3.2; (try dsimp only at *); omega) | (intro h1; exfalso; have h4 := h1.2; (try dsimp only at *); omega) | (intro x h1 h2; exfalso; have h4 := h2.2; (try dsimp only at *); omega) | (intro x h1 h2; exact ⟨_, rfl, h2⟩) | (intro x h1 h2; have h4 := h2.1; have h5 := h2.2; exfalso; omega) | (intro x h1 h2; exact h2.1) | (intro x h1 h2; rcases h2.1 with h3 | h3; exact h3; exfalso; omega) | (intro x h1 h2; rcases h2 with h3 | h3; exact h3; exfalso; omega))
          replace hq := hq.chg k_4 (by first | (intro x h1 h2; exact h2) | (intro x h0 h1 h2; exact hS x h1 h2) | (intro x h0 h1 h2; have h3 : _ = _ := h2; subst h3; exact hSR h1.1) | (intro x h1 h2; have h3 : _ = _ := h2; subst h3; assumption) | (intro x h1 h2; have h3 : _ = _ := h2; exfalso; omega) | (intro b h1 h2 h3; have h4 : _ = _ := h3; (try dsimp only at h2); exfalso; omega) | (intro h1; have h2 : _ = _ := h1; exfalso; omega) | (intro h1; have h2 : _ ≤ _ := h1; exfalso; omega) | (intros; exfalso; (try dsimp only at *); omega) | (intro b h1 h2 h3; exfalso; have h4 := h3.2; (try dsimp only at *); omega) | (intro h1; exfalso; have h4 := h1.2; (try dsimp only at *); omega) | (intro x h1 h2; exfalso; have h4 := h2.2; (try dsimp only at *); omega) | (intro x h1 h2; exact ⟨_, rfl, h2⟩) | (intro x h1 h2; have h4 := h2.1; have h5 := h2.2; exfalso; omega) | (intro x h1 h2; exact h2.1) | (intro x h1 h2; rcases h2.1 with h3 | h3; exact h3; exfalso; omega) | (intro x h1 h2; rcases h2 with h3 | h3; exact h3; exfalso; omega))
          replace hb_1 := hn_4
          refine WL.assign rfl rfl (WL.nil (WX.then_normal (WC.ret (WX.then_ret (?_)))))
          refine WX.ret2c (.inl rfl) Tryd.results14 Tryd.isAgg25 Tryd.sizeOf25 hb_1 rfl (by first | (simp; done) | (simp; omega) | rfl) rfl ?_
          first
            | (have hz : unE b ≠ 0 := h13
               obtain ⟨e1, e2⟩ := decU_no (decU_bad (b := b) (.inl hz))
               rw [e1, e2]
               exact ⟨_, rfl, rfl, kk⟩)
            | (have hz : (L.length : Int) ≠ 3 := h17
               obtain ⟨e1, e2⟩ := decU_no (decU_bad (b := b) (.inr (fun h9 => hz (by rw [eL, h9]; rfl))))
               rw [e1, e2]
               exact ⟨_, rfl, rfl, kk⟩)
            | (have hz : unE b = 0 := h13
               have hz2 : L = [i0, i1, i2] := hL
               have hd := decU_three (b := b) hz (eL ▸ hz2)
               by_cases hc : i0 = ⟨1, 77, ⟨#[]⟩⟩ ∧ i1.kind = 1 ∧ 1 ≤ i1.n ∧ i2.kind = 2 ∧ (unpR i2.s).2 = 0
               ·
                 rw [if_pos hc] at hd
                 obtain ⟨e1, e2⟩ := decU_yes hd
                 rw [e1, e2]
                 obtain ⟨c1, c2, c3, c4, c5⟩ := hc
                 first
                   | (exact ⟨_, rfl, rfl, kk⟩)
                   | (exfalso; omega)
                   | (exfalso; first | exact absurd c1 (by assumption) | exact absurd c5 (by assumption))
               ·
                 rw [if_neg hc] at hd
                 obtain ⟨e1, e2⟩ := decU_no hd
                 rw [e1, e2]
                 first
                   | (exact ⟨_, rfl, rfl, kk⟩)
                   | (have h2 : (unpR i2.s).2 = 2 := (unpR_err _).resolve_left (by assumption)
                      refine ⟨_, rfl, ?_, kk⟩
                      rw [← h2]
                      rfl)
                   | (exfalso; exact hc ⟨by assumption, by omega, by omega, by omega, by assumption⟩))
        ·
          refine WL.pickF rfl rfl rfl (WL.move rfl rfl (WL.want rfl rfl rfl (WL.move rfl rfl (WL.want rfl rfl rfl (?_)))))
          refine WL.indexT Tryd.underlying76 Tryd.sizeOf75 hq.rsl rfl rfl ⟨hi1, rfl⟩ rfl ?_
          intro b_4 o_4 hc_4
          refine WL.want rfl rfl rfl (WL.fieldAddr (fld_75_1) rfl rfl (WL.want rfl rfl rfl (WL.load Tryd.isAgg3 rfl (hc_4 _ _ rfl) rfl (WL.want rfl rfl rfl (?_)))))
          refine WL.lss? rfl rfl rfl (fun h38 => ?_) (fun h38 => ?_)
          ·
            refine WL.pickF rfl rfl rfl (WL.move rfl rfl (WL.pass rfl rfl rfl rfl (WL.pass rfl rfl rfl rfl (WL.pass rfl rfl rfl rfl (WL.pass rfl rfl rfl rfl (WL.pass rfl rfl rfl rfl (WL.pickT rfl rfl rfl (?_))))))))
            refine WL.nil (WX.then_normal (WC.cond_true rfl (WC.seq (WC.region (WL.bld rfl (bld_25_z) rfl (?_))))))
            refine WL.stores Tryd.sizeOf25 hb_1 rfl rfl (by first | (simp; done) | (simp; omega) | rfl) (by first | exact Enc.one _ _ | (intro u hu; obtain ⟨x, _, rfl⟩ := List.mem_map.1 hu; rfl) | (simp [Value.oneCell']; done) | (simp [Value.oneCell', Value.cells]; done)) (by first | (simp; done) | (simp; omega) | (simp [Value.cells]; done) | (simp [Value.cells]; omega) | exact Nat.le_of_ble_eq_true rfl) rfl ?_
            intro w_5 hs_5 hn_5 k_5
            have zs_k_5 := k_5.size
            replace hr := hr.chg k_5 (by first | (intro x h1 h2; exact h2) | (intro x h0 h1 h2; exact hS x h1 h2) | (intro x h0 h1 h2; have h3 : _ = _ := h2; subst h3; exact hSR h1.1) | (intro x h1 h2; have h3 : _ = _ := h2; subst h3; assumption) | (intro x h1 h2; have h3 : _ = _ := h2; exfalso; omega) | (intro b h1 h2 h3; have h4 : _ = _ := h3; (try dsimp only at h2); exfalso; omega) | (intro h1; have h2 : _ = _ := h1; exfalso; omega) | (intro h1; have h2 : _ ≤ _ := h1; exfalso; omega) | (intros; exfalso; (try dsimp only at *); omega) | (intro b h1 h2 h3; exfalso; have h4 := h3.2; (try dsimp only at *); omega) | (intro h1; exfalso; have h4 := h1.2; (try dsimp only at *); omega) | (intro x h1 h2; exfalso; have h4 := h2.2; (try dsimp only at *); omega) | (intro x h1 h2; exact ⟨_, rfl, h2⟩) | (intro x h1 h2; have h4 := h2.1; have h5 := h2.2; exfalso; omega) | (intro x h1 h2; exact h2.1) | (intro x h1 h2; rcases h2.1 with h3 | h3; exact h3; exfalso; omega) | (intro x h1 h2; rcases h2 with h3 | h3; exact h3; exfalso; omega))
            replace kk := kk.chg k_5 (by first | (intro x h1 h2; exact h2) | (intro x h0 h1 h2; exact hS x h1 h2) | (intro x h0 h1 h2; have h3 : _ = _ := h2; subst h3; exact hSR h1.1) | (intro x h1 h2; have h3 : _ = _ := h2; subst h3; assumption) | (intro x h1 h2; have h3 : _ = _ := h2; exfalso; omega) | (intro b h1 h2 h3; have h4 : _ = _ := h3; (try dsimp only at h2); exfalso; omega) | (intro h1; have h2 : _ = _ := h1; exfalso; omega) | (intro h1; have h2 : _ ≤ _ := h1; exfalso; omega) | (intros; exfalso; (try dsimp only at *); omega) | (intro b h1 h2 h3; exfalso; have h4 := h3.2; (try dsimp only at *); omega) | (intro h1; exfalso; have h4 := h1.2; (try dsimp only at *); omega) | (intro x h1 h2; exfalso; have h4 := h2.2; (try dsimp only at *); omega) | (intro x h1 h2; exact ⟨_, rfl, h2⟩) | (intro x h1 h2; have h4 := h2.1; have h5 := h2.2; exfalso; omega) | (intro x h1 h2; exact h2.1) | (intro x h1 h2; rcases h2.1 with h3 | h3; exact h3; exfalso; omega) | (intro x h1 h2; rcases h2 with h3 | h3; exact h3; exfalso; omega))
            replace hq := hq.chg k_5 (by first | (intro x h1 h2; exact h2) | (intro x h0 h1 h2; exact hS x h1 h2) | (intro x h0 h1 h2; have h3 : _ = _ := h2; subst h3; exact hSR h1.1) | (intro x h1 h2; have h3 : _ = _ := h2; subst h3; assumption) | (intro x h1 h2; have h3 : _ = _ := h2; exfalso; omega) | (intro b h1 h2 h3; have h4 : _ = _ := h3; (try dsimp only at h2); exfalso; omega) | (intro h1; have h2 : _ = _ := h1; exfalso; omega) | (intro h1; have h2 : _ ≤ _ := h1; exfalso; omega) | (intros; exfalso; (try dsimp only at *); omega) | (intro b h1 h2 h3; exfalso; have h4 := h3.2; (try dsimp only at *); omega) | (intro h1; exfalso; have h4 := h1.2; (try dsimp only at *); omega) | (intro x h1 h2; exfalso; have h4 := h2.2; (try dsimp only at *); omega) | (intro x h1 h2; exact ⟨_, rfl, h2⟩) | (intro x h1 h2; have h4 := h2.1; have h5 := h2.2; exfalso; omega) | (intro x h1 h2; exact h2.1) | (intro x h1 h2; rcases h2.1 with h3 | h3; exact h3; exfalso; omega) | (intro x h1 h2; rcases h2 with h3 | h3; exact h3; exfalso; omega))
            replace hb_1 := hn_5
            refine WL.assign rfl rfl (WL.nil (WX.then_normal (WC.ret (WX.then_ret (?_)))))
            refine WX.ret2c (.inl rfl) Tryd.results14 Tryd.isAgg25 Tryd.sizeOf25 hb_1 rfl (by first | (simp; done) | (simp; omega) | rfl) rfl ?_
            first
              | (have hz : unE b ≠ 0 := h13
                 obtain ⟨e1, e2⟩ := decU_no (decU_bad (b := b) (.inl hz))
                 rw [e1, e2]
                 exact ⟨_, rfl, rfl, kk⟩)
              | (have hz : (L.length : Int) ≠ 3 := h17
                 obtain ⟨e1, e2⟩ := decU_no (decU_bad (b := b) (.inr (fun h9 => hz (by rw [eL, h9]; rfl))))
                 rw [e1, e2]
                 exact ⟨_, rfl, rfl, kk⟩)
              | (have hz : unE b = 0 := h13
                 have hz2 : L = [i0, i1, i2] := hL
                 have hd := decU_three (b := b) hz (eL ▸ hz2)
                 by_cases hc : i0 = ⟨1, 77, ⟨#[]⟩⟩ ∧ i1.kind = 1 ∧ 1 ≤ i1.n ∧ i2.kind = 2 ∧ (unpR i2.s).2 = 0
                 ·
                   rw [if_pos hc] at hd
                   obtain ⟨e1, e2⟩ := decU_yes hd
                   rw [e1, e2]
                   obtain ⟨c1, c2, c3, c4, c5⟩ := hc
                   first
                     | (exact ⟨_, rfl, rfl, kk⟩)
                     | (exfalso; omega)
                     | (exfalso; first | exact absurd c1 (by assumption) | exact absurd c5 (by assumption))
                 ·
                   rw [if_neg hc] at hd
                   obtain ⟨e1, e2⟩ := decU_no hd
                   rw [e1, e2]
                   first
                     | (exact ⟨_, rfl, rfl, kk⟩)
                     | (have h2 : (unpR i2.s).2 = 2 := (unpR_err _).resolve_left (by assumption)
                        refine ⟨_, rfl, ?_, kk⟩
                        rw [← h2]
                        rfl)
                     | (exfalso; exact hc ⟨by assumption, by omega, by omega, by omega, by assumption⟩))
          ·
            refine WL.pickF rfl rfl rfl (WL.move rfl rfl (WL.want rfl rfl rfl (WL.move rfl rfl (WL.want rfl rfl rfl (?_)))))
            refine WL.indexT Tryd.underlying76 Tryd.sizeOf75 hq.rsl rfl rfl ⟨hi2, rfl⟩ rfl ?_
            intro b_5 o_5 hc_5
            refine WL.want rfl rfl rfl (WL.fieldAddr (fld_75_0) rfl rfl (WL.want rfl rfl rfl (WL.load Tryd.isAgg3 rfl (hc_5 _ _ rfl) rfl (WL.want rfl rfl rfl (?_)))))
            refine WL.neq? rfl rfl rfl (fun h45 => ?_) (fun h45 => ?_)
            ·
              refine WL.pickF rfl rfl rfl (WL.nil (WX.then_normal (WC.cond_true rfl (WC.seq (WC.region (WL.bld rfl (bld_25_z) rfl (?_)))))))
              refine WL.stores Tryd.sizeOf25 hb_1 rfl rfl (by first | (simp; done) | (simp; omega) | rfl) (by first | exact Enc.one _ _ | (intro u hu; obtain ⟨x, _, rfl⟩ := List.mem_map.1 hu; rfl) | (simp [Value.oneCell']; done) | (simp [Value.oneCell', Value.cells]; done)) (by first | (simp; done) | (simp; omega) | (simp [Value.cells]; done) | (simp [Value.cells]; omega) | exact Nat.le_of_ble_eq_true rfl) rfl ?_
              intro w_6 hs_6 hn_6 k_6
              have zs_k_6 := k_6.size
              replace hr := hr.chg k_6 (by first | (intro x h1 h2; exact h2) | (intro x h0 h1 h2; exact hS x h1 h2) | (intro x h0 h1 h2; have h3 : _ = _ := h2; subst h3; exact hSR h1.1) | (intro x h1 h2; have h3 : _ = _ := h2; subst h3; assumption) | (intro x h1 h2; have h3 : _ = _ := h2; exfalso; omega) | (intro b h1 h2 h3; have h4 : _ = _ := h3; (try dsimp only at h2); exfalso; omega) | (intro h1; have h2 : _ = _ := h1; exfalso; omega) | (intro h1; have h2 : _ ≤ _ := h1; exfalso; omega) | (intros; exfalso; (try dsimp only at *); omega) | (intro b h1 h2 h3; exfalso; have h4 := h3.2; (try dsimp only at *); omega) | (intro h1; exfalso; have h4 := h1.2; (try dsimp only at *); omega) | (intro x h1 h2; exfalso; have h4 := h2.2; (try dsimp only at *); omega) | (intro x h1 h2; exact ⟨_, rfl, h2⟩) | (intro x h1 h2; have h4 := h2.1; have h5 := h2.2; exfalso; omega) | (intro x h1 h2; exact h2.1) | (intro x h1 h2; rcases h2.1 with h3 | h3; exact h3; exfalso; omega) | (intro x h1 h2; rcases h2 with h3 | h3; exact h3; exfalso; omega))
              replace kk := kk.chg k_6 (by first | (intro x h1 h2; exact h2) | (intro x h0 h1 h2; exact hS x h1 h2) | (intro x h0 h1 h2; have h3 : _ = _ := h2; subst h3; exact hSR h1.1) | (intro x h1 h2; have h3 : _ = _ := h2; subst h3; assumption) | (intro x h1 h2; have h3 : _ = _ := h2; exfalso; omega) | (intro b h1 h2 h3; have h4 : _ = _ := h3; (try dsimp only at h2); exfalso; omega) | (intro h1; have h2 : _ = _ := h1; exfalso; omega) | (intro h1; have h2 : _ ≤ _ := h1; exfalso; omega) | (intros; exfalso; (try dsimp only at *); omega) | (intro b h1 h2 h3; exfalso; have h4 := h3.2; (try dsimp only at *); omega) | (intro h1; exfalso; have h4 := h1.2; (try dsimp only at *); omega) | (intro x h1 h2; exfalso; have h4 := h2.2; (try dsimp only at *); omega) | (intro x h1 h2; exact ⟨_, rfl, h2⟩) | (intro x h1 h2; have h4 := h2.1; have h5 := h2.2; exfalso; omega) | (intro x h1 h2; exact h2.1) | (intro x h1 h2; rcases h2.1 with h3 | h3; exact h3; exfalso; omega) | (intro x h1 h2; rcases h2 with h3 | h3; exact h3; exfalso; omega))
              replace hq := hq.chg k_6 (by first | (intro x h1 h2; exact h2) | (intro x h0 h1 h2; exact hS x h1 h2) | (intro x h0 h1 h2; have h3 : _ = _ := h2; subst h3; exact hSR h1.1) | (intro x h1 h2; have h3 : _ = _ := h2; subst h3; assumption) | (intro x h1 h2; have h3 : _ = _ := h2; exfalso; omega) | (intro b h1 h2 h3; have h4 : _ = _ := h3; (try dsimp only at h2); exfalso; omega) | (intro h1; have h2 : _ = _ := h1; exfalso; omega) | (intro h1; have h2 : _ ≤ _ := h1; exfalso; omega) | (intros; exfalso; (try dsimp only at *); omega) | (intro b h1 h2 h3; exfalso; have h4 := h3.2; (try dsimp only at *); omega) | (intro h1; exfalso; have h4 := h1.2; (try dsimp only at *); omega) | (intro x h1 h2; exfalso; have h4 := h2.2; (try dsimp only at *); omega) | (intro x h1 h2; exact ⟨_, rfl, h2⟩) | (intro x h1 h2; have h4 := h2.1; have h5 := h2.2; exfalso; omega) | (intro x h1 h2; exact h2.1) | (intro x h1 h2; rcases h2.1 with h3 | h3; exact h3; exfalso; omega) | (intro x h1 h2; rcases h2 with h3 | h3; exact h3; exfalso; omega))
              replace hb_1 := hn_6
              refine WL.assign rfl rfl (WL.nil (WX.then_normal (WC.ret (WX.then_ret (?_)))))
              refine WX.ret2c (.inl rfl) Tryd.results14 Tryd.isAgg25 Tryd.sizeOf25 hb_1 rfl (by first | (simp; done) | (simp; omega) | rfl) rfl ?_
              first
                | (have hz : unE b ≠ 0 := h13
                   obtain ⟨e1, e2⟩ := decU_no (decU_bad (b := b) (.inl hz))
                   rw [e1, e2]
                   exact ⟨_, rfl, rfl, kk⟩)
                | (have hz : (L.length : Int) ≠ 3 := h17
                   obtain ⟨e1, e2⟩ := decU_no (decU_bad (b := b) (.inr (fun h9 => hz (by rw [eL, h9]; rfl))))
                   rw [e1, e2]
                   exact ⟨_, rfl, rfl, kk⟩)
                | (have hz : unE b = 0 := h13
                   have hz2 : L = [i0, i1, i2] := hL
                   have hd := decU_three (b := b) hz (eL ▸ hz2)
                   by_cases hc : i0 = ⟨1, 77, ⟨#[]⟩⟩ ∧ i1.kind = 1 ∧ 1 ≤ i1.n ∧ i2.kind = 2 ∧ (unpR i2.s).2 = 0
                   ·
                     rw [if_pos hc] at hd
                     obtain ⟨e1, e2⟩ := decU_yes hd
                     rw [e1, e2]
                     obtain ⟨c1, c2, c3, c4, c5⟩ := hc
                     first
                       | (exact ⟨_, rfl, rfl, kk⟩)
                       | (exfalso; omega)
                       | (exfalso; first | exact absurd c1 (by assumption) | exact absurd c5 (by assumption))
                   ·
                     rw [if_neg hc] at hd
                     obtain ⟨e1, e2⟩ := decU_no hd
                     rw [e1, e2]
                     first
                       | (exact ⟨_, rfl, rfl, kk⟩)
                       | (have h2 : (unpR i2.s).2 = 2 := (unpR_err _).resolve_left (by assumption)
                          refine ⟨_, rfl, ?_, kk⟩
                          rw [← h2]
                          rfl)
                       | (exfalso; exact hc ⟨by assumption, by omega, by omega, by omega, by assumption⟩))
            ·
              refine WL.pickF rfl rfl rfl (WL.nil (WX.then_normal (WC.cond_false rfl (WC.skip (WX.then_normal (WC.seq (WC.region (?_))))))))
              refine WL.move rfl rfl (?_)
              refine WL.indexT Tryd.underlying76 Tryd.sizeOf75 hq.rsl rfl rfl ⟨hi2, rfl⟩ rfl ?_
              intro b_6 o_6 hc_6
              refine WL.fieldAddr (fld_75_2) rfl rfl (WL.load Tryd.isAgg9 rfl (hc_6 _ _ rfl) rfl (?_))
              have hg2 : Good i2 := un_good (b := b) i2 (by rw [← eL, hL]; simp)
              have hs2 : i2.s.size ≤ 4000 := by
                have h9 := hg2.1
                simp only [longI, decide_eq_false_iff_not] at h9
                omega
              refine WL.call eg_41 rfl rfl (unptr_calls i2.s _ (by omega)) ?_
              rintro v w2 ⟨rfl, k2⟩
              have zs_k2 := k2.size
              replace hr := hr.pure k2
              replace kk := kk.pure k2
              replace hb_1 := hb_1.pure k2
              replace hq := hq.pure k2
              refine WL.move rfl rfl (WL.extract rfl rfl rfl (WL.extract rfl rfl rfl (?_)))
              refine WL.alloc Tryd.zeroValue23 rfl ?_
              intro g_7 w_7 hge_7 hlt_7 hb_7 k_7
              have zs_k_7 := k_7.size
              replace hr := hr.pure k_7
              replace kk := kk.pure k_7
              replace hb_1 := hb_1.pure k_7
              replace hq := hq.pure k_7
              refine WL.stores Tryd.sizeOf23 hb_7 rfl rfl (by first | (simp; done) | (simp; omega) | rfl) (by first | exact Enc.one _ _ | (intro u hu; obtain ⟨x, _, rfl⟩ := List.mem_map.1 hu; rfl) | (simp [Value.oneCell']; done) | (simp [Value.oneCell', Value.cells]; done)) (by first | (simp; done) | (simp; omega) | (simp [Value.cells]; done) | (simp [Value.cells]; omega) | exact Nat.le_of_ble_eq_true rfl) rfl ?_
              intro w_8 hs_8 hn_8 k_8
              have zs_k_8 := k_8.size
              replace hr := hr.chg k_8 (by first | (intro x h1 h2; exact h2) | (intro x h0 h1 h2; exact hS x h1 h2) | (intro x h0 h1 h2; have h3 : _ = _ := h2; subst h3; exact hSR h1.1) | (intro x h1 h2; have h3 : _ = _ := h2; subst h3; assumption) | (intro x h1 h2; have h3 : _ = _ := h2; exfalso; omega) | (intro b h1 h2 h3; have h4 : _ = _ := h3; (try dsimp only at h2); exfalso; omega) | (intro h1; have h2 : _ = _ := h1; exfalso; omega) | (intro h1; have h2 : _ ≤ _ := h1; exfalso; omega) | (intros; exfalso; (try dsimp only at *); omega) | (intro b h1 h2 h3; exfalso; have h4 := h3.2; (try dsimp only at *); omega) | (intro h1; exfalso; have h4 := h1.2; (try dsimp only at *); omega) | (intro x h1 h2; exfalso; have h4 := h2.2; (try dsimp only at *); omega) | (intro x h1 h2; exact ⟨_, rfl, h2⟩) | (intro x h1 h2; have h4 := h2.1; have h5 := h2.2; exfalso; omega) | (intro x h1 h2; exact h2.1) | (intro x h1 h2; rcases h2.1 with h3 | h3; exact h3; exfalso; omega) | (intro x h1 h2; rcases h2 with h3 | h3; exact h3; exfalso; omega))
              replace kk := kk.chg k_8 (by first | (intro x h1 h2; exact h2) | (intro x h0 h1 h2; exact hS x h1 h2) | (intro x h0 h1 h2; have h3 : _ = _ := h2; subst h3; exact hSR h1.1) | (intro x h1 h2; have h3 : _ = _ := h2; subst h3; assumption) | (intro x h1 h2; have h3 : _ = _ := h2; exfalso; omega) | (intro b h1 h2 h3; have h4 : _ = _ := h3; (try dsimp only at h2); exfalso; omega) | (intro h1; have h2 : _ = _ := h1; exfalso; omega) | (intro h1; have h2 : _ ≤ _ := h1; exfalso; omega) | (intros; exfalso; (try dsimp only at *); omega) | (intro b h1 h2 h3; exfalso; have h4 := h3.2; (try dsimp only at *); omega) | (intro h1; exfalso; have h4 := h1.2; (try dsimp only at *); omega) | (intro x h1 h2; exfalso; have h4 := h2.2; (try dsimp only at *); omega) | (intro x h1 h2; exact ⟨_, rfl, h2⟩) | (intro x h1 h2; have h4 := h2.1; have h5 := h2.2; exfalso; omega) | (intro x h1 h2; exact h2.1) | (intro x h1 h2; rcases h2.1 with h3 | h3; exact h3; exfalso; omega) | (intro x h1 h2; rcases h2 with h3 | h3; exact h3; exfalso; omega))
              replace hb_1 := hb_1.chg k_8 (by first | (intro x h1 h2; exact h2) | (intro x h0 h1 h2; exact hS x h1 h2) | (intro x h0 h1 h2; have h3 : _ = _ := h2; subst h3; exact hSR h1.1) | (intro x h1 h2; have h3 : _ = _ := h2; subst h3; assumption) | (intro x h1 h2; have h3 : _ = _ := h2; exfalso; omega) | (intro b h1 h2 h3; have h4 : _ = _ := h3; (try dsimp only at h2); exfalso; omega) | (intro h1; have h2 : _ = _ := h1; exfalso; omega) | (intro h1; have h2 : _ ≤ _ := h1; exfalso; omega) | (intros; exfalso; (try dsimp only at *); omega) | (intro b h1 h2 h3; exfalso; have h4 := h3.2; (try dsimp only at *); omega) | (intro h1; exfalso; have h4 := h1.2; (try dsimp only at *); omega) | (intro x h1 h2; exfalso; have h4 := h2.2; (try dsimp only at *); omega) | (intro x h1 h2; exact ⟨_, rfl, h2⟩) | (intro x h1 h2; have h4 := h2.1; have h5 := h2.2; exfalso; omega) | (intro x h1 h2; exact h2.1) | (intro x h1 h2; rcases h2.1 with h3 | h3; exact h3; exfalso; omega) | (intro x h1 h2; rcases h2 with h3 | h3; exact h3; exfalso; omega))
              replace hq := hq.chg k_8 (by first | (intro x h1 h2; exact h2) | (intro x h0 h1 h2; exact hS x h1 h2) | (intro x h0 h1 h2; have h3 : _ = _ := h2; subst h3; exact hSR h1.1) | (intro x h1 h2; have h3 : _ = _ := h2; subst h3; assumption) | (intro x h1 h2; have h3 : _ = _ := h2; exfalso; omega) | (intro b h1 h2 h3; have h4 : _ = _ := h3; (try dsimp only at h2); exfalso; omega) | (intro h1; have h2 : _ = _ := h1; exfalso; omega) | (intro h1; have h2 : _ ≤ _ := h1; exfalso; omega) | (intros; exfalso; (try dsimp only at *); omega) | (intro b h1 h2 h3; exfalso; have h4 := h3.2; (try dsimp only at *); omega) | (intro h1; exfalso; have h4 := h1.2; (try dsimp only at *); omega) | (intro x h1 h2; exfalso; have h4 := h2.2; (try dsimp only at *); omega) | (intro x h1 h2; exact ⟨_, rfl, h2⟩) | (intro x h1 h2; have h4 := h2.1; have h5 := h2.2; exfalso; omega) | (intro x h1 h2; exact h2.1) | (intro x h1 h2; rcases h2.1 with h3 | h3; exact h3; exfalso; omega) | (intro x h1 h2; rcases h2 with h3 | h3; exact h3; exfalso; omega))
              replace hb_7 := hn_8
              refine WL.assign rfl rfl (WL.nil (WX.then_normal (WC.seq (WC.seq (WC.region (WL.move rfl rfl (?_)))))))
              refine WL.neq? rfl rfl rfl (fun h57 => ?_) (fun h57 => ?_)
              ·
                refine WL.nil (WX.then_normal (WC.cond_true rfl (WC.seq (WC.region (WL.bld rfl (bld_25_z) rfl (WL.move rfl rfl (?_)))))))
                refine WL.stores Tryd.sizeOf25 hb_1 rfl rfl (by first | (simp; done) | (simp; omega) | rfl) (by first | exact Enc.one _ _ | (intro u hu; obtain ⟨x, _, rfl⟩ := List.mem_map.1 hu; rfl) | (simp [Value.oneCell']; done) | (simp [Value.oneCell', Value.cells]; done)) (by first | (simp; done) | (simp; omega) | (simp [Value.cells]; done) | (simp [Value.cells]; omega) | exact Nat.le_of_ble_eq_true rfl) rfl ?_
                intro w_9 hs_9 hn_9 k_9
                have zs_k_9 := k_9.size
                replace hr := hr.chg k_9 (by first | (intro x h1 h2; exact h2) | (intro x h0 h1 h2; exact hS x h1 h2) | (intro x h0 h1 h2; have h3 : _ = _ := h2; subst h3; exact hSR h1.1) | (intro x h1 h2; have h3 : _ = _ := h2; subst h3; assumption) | (intro x h1 h2; have h3 : _ = _ := h2; exfalso; omega) | (intro b h1 h2 h3; have h4 : _ = _ := h3; (try dsimp only at h2); exfalso; omega) | (intro h1; have h2 : _ = _ := h1; exfalso; omega) | (intro h1; have h2 : _ ≤ _ := h1; exfalso; omega) | (intros; exfalso; (try dsimp only at *); omega) | (intro b h1 h2 h3; exfalso; have h4 := h3.2; (try dsimp only at *); omega) | (intro h1; exfalso; have h4 := h1.2; (try dsimp only at *); omega) | (intro x h1 h2; exfalso; have h4 := h2.2; (try dsimp only at *); omega) | (intro x h1 h2; exact ⟨_, rfl, h2⟩) | (intro x h1 h2; have h4 := h2.1; have h5 := h2.2; exfalso; omega) | (intro x h1 h2; exact h2.1) | (intro x h1 h2; rcases h2.1 with h3 | h3; exact h3; exfalso; omega) | (intro x h1 h2; rcases h2 with h3 | h3; exact h3; exfalso; omega))
                replace kk := kk.chg k_9 (by first | (intro x h1 h2; exact h2) | (intro x h0 h1 h2; exact hS x h1 h2) | (intro x h0 h1 h2; have h3 : _ = _ := h2; subst h3; exact hSR h1.1) | (intro x h1 h2; have h3 : _ = _ := h2; subst h3; assumption) | (intro x h1 h2; have h3 : _ = _ := h2; exfalso; omega) | (intro b h1 h2 h3; have h4 : _ = _ := h3; (try dsimp only at h2); exfalso; omega) | (intro h1; have h2 : _ = _ := h1; exfalso; omega) | (intro h1; have h2 : _ ≤ _ := h1; exfalso; omega) | (intros; exfalso; (try dsimp only at *); omega) | (intro b h1 h2 h3; exfalso; have h4 := h3.2; (try dsimp only at *); omega) | (intro h1; exfalso; have h4 := h1.2; (try dsimp only at *); omega) | (intro x h1 h2; exfalso; have h4 := h2.2; (try dsimp only at *); omega) | (intro x h1 h2; exact ⟨_, rfl, h2⟩) | (intro x h1 h2; have h4 := h2.1; have h5 := h2.2; exfalso; omega) | (intro x h1 h2; exact h2.1) | (intro x h1 h2; rcases h2.1 with h3 | h3; exact h3; exfalso; omega) | (intro x h1 h2; rcases h2 with h3 | h3; exact h3; exfalso; omega))
                replace hq := hq.chg k_9 (by first | (intro x h1 h2; exact h2) | (intro x h0 h1 h2; exact hS x h1 h2) | (intro x h0 h1 h2; have h3 : _ = _ := h2; subst h3; exact hSR h1.1) | (intro x h1 h2; have h3 : _ = _ := h2; subst h3; assumption) | (intro x h1 h2; have h3 : _ = _ := h2; exfalso; omega) | (intro b h1 h2 h3; have h4 : _ = _ := h3; (try dsimp only at h2); exfalso; omega) | (intro h1; have h2 : _ = _ := h1; exfalso; omega) | (intro h1; have h2 : _ ≤ _ := h1; exfalso; omega) | (intros; exfalso; (try dsimp only at *); omega) | (intro b h1 h2 h3; exfalso; have h4 := h3.2; (try dsimp only at *); omega) | (intro h1; exfalso; have h4 := h1.2; (try dsimp only at *); omega) | (intro x h1 h2; exfalso; have h4 := h2.2; (try dsimp only at *); omega) | (intro x h1 h2; exact ⟨_, rfl, h2⟩) | (intro x h1 h2; have h4 := h2.1; have h5 := h2.2; exfalso; omega) | (intro x h1 h2; exact h2.1) | (intro x h1 h2; rcases h2.1 with h3 | h3; exact h3; exfalso; omega) | (intro x h1 h2; rcases h2 with h3 | h3; exact h3; exfalso; omega))
                replace hb_7 := hb_7.chg k_9 (by first | (intro x h1 h2; exact h2) | (intro x h0 h1 h2; exact hS x h1 h2) | (intro x h0 h1 h2; have h3 : _ = _ := h2; subst h3; exact hSR h1.1) | (intro x h1 h2; have h3 : _ = _ := h2; subst h3; assumption) | (intro x h1 h2; have h3 : _ = _ := h2; exfalso; omega) | (intro b h1 h2 h3; have h4 : _ = _ := h3; (try dsimp only at h2); exfalso; omega) | (intro h1; have h2 : _ = _ := h1; exfalso; omega) | (intro h1; have h2 : _ ≤ _ := h1; exfalso; omega) | (intros; exfalso; (try dsimp only at *); omega) | (intro b h1 h2 h3; exfalso; have h4 := h3.2; (try dsimp only at *); omega) | (intro h1; exfalso; have h4 := h1.2; (try dsimp only at *); omega) | (intro x h1 h2; exfalso; have h4 := h2.2; (try dsimp only at *); omega) | (intro x h1 h2; exact ⟨_, rfl, h2⟩) | (intro x h1 h2; have h4 := h2.1; have h5 := h2.2; exfalso; omega) | (intro x h1 h2; exact h2.1) | (intro x h1 h2; rcases h2.1 with h3 | h3; exact h3; exfalso; omega) | (intro x h1 h2; rcases h2 with h3 | h3; exact h3; exfalso; omega))
                replace hb_1 := hn_9
                refine WL.assign rfl rfl (WL.nil (WX.then_normal (WC.ret (WX.then_ret (?_)))))
                refine WX.ret2c (.inl rfl) Tryd.results14 Tryd.isAgg25 Tryd.sizeOf25 hb_1 rfl (by first | (simp; done) | (simp; omega) | rfl) rfl ?_
                first
                  | (have hz : unE b ≠ 0 := h13
                     obtain ⟨e1, e2⟩ := decU_no (decU_bad (b := b) (.inl hz))
                     rw [e1, e2]
                     exact ⟨_, rfl, rfl, kk⟩)
                  | (have hz : (L.length : Int) ≠ 3 := h17
                     obtain ⟨e1, e2⟩ := decU_no (decU_bad (b := b) (.inr (fun h9 => hz (by rw [eL, h9]; rfl))))
                     rw [e1, e2]
                     exact ⟨_, rfl, rfl, kk⟩)
                  | (have hz : unE b = 0 := h13
                     have hz2 : L = [i0, i1, i2] := hL
                     have hd := decU_three (b := b) hz (eL ▸ hz2)
                     by_cases hc : i0 = ⟨1, 77, ⟨#[]⟩⟩ ∧ i1.kind = 1 ∧ 1 ≤ i1.n ∧ i2.kind = 2 ∧ (unpR i2.s).2 = 0
                     ·
                       rw [if_pos hc] at hd
                       obtain ⟨e1, e2⟩ := decU_yes hd
                       rw [e1, e2]
                       obtain ⟨c1, c2, c3, c4, c5⟩ := hc
                       first
                         | (exact ⟨_, rfl, rfl, kk⟩)
                         | (exfalso; omega)
                         | (exfalso; first | exact absurd c1 (by assumption) | exact absurd c5 (by assumption))
                     ·
                       rw [if_neg hc] at hd
                       obtain ⟨e1, e2⟩ := decU_no hd
                       rw [e1, e2]
                       first
                         | (exact ⟨_, rfl, rfl, kk⟩)
                         | (have h2 : (unpR i2.s).2 = 2 := (unpR_err _).resolve_left (by assumption)
                            refine ⟨_, rfl, ?_, kk⟩
                            rw [← h2]
                            rfl)
                         | (exfalso; exact hc ⟨by assumption, by omega, by omega, by omega, by assumption⟩))
              ·
                refine WL.nil (WX.then_normal (WC.cond_false rfl (WC.skip (WX.then_normal (WC.seq (?_))))))
                obtain ⟨b0, o0, rfl⟩ := hq.rsl.place hi1
                refine WC.draw ((fun x => x = g_1)) [0, 1, 2, 3, 4, 5, 7] [6] mixed rfl rfl (fun wd_9 kd_9 zd_9 => ?_)
                have zs_kd_9 := kd_9.size
                replace hr := hr.pure kd_9
                replace kk := kk.pure kd_9
                replace hb_1 := hb_1.pure kd_9
                replace hq := hq.pure kd_9
                replace hb_7 := hb_7.pure kd_9
                apply DQ.step (E' := [(4, _)])
                case ho => rfl
                case hs => exact ⟨rfl, trivial⟩
                case hk => rfl
                case h1 =>
                  intro wq_11 kq_11
                  refine WL.move rfl rfl (?_)
                  refine WL.nil ?_
                  exact WX.one ⟨rfl, by first | exact Chg.refl _ _ | assumption⟩
                apply DQ.step (E' := [(60, _)])
                case ho => rfl
                case hs => exact ⟨rfl, trivial⟩
                case hk => rfl
                case h1 =>
                  intro wq_12 kq_12
                  have zs_kq_12 := kq_12.size
                  replace hr := hr.chg kq_12 (by first | (intro x h1 h2; exact h2) | (intro x h0 h1 h2; exact hS x h1 h2) | (intro x h0 h1 h2; have h3 : _ = _ := h2; subst h3; exact hSR h1.1) | (intro x h1 h2; have h3 : _ = _ := h2; subst h3; assumption) | (intro x h1 h2; have h3 : _ = _ := h2; exfalso; omega) | (intro b h1 h2 h3; have h4 : _ = _ := h3; (try dsimp only at h2); exfalso; omega) | (intro h1; have h2 : _ = _ := h1; exfalso; omega) | (intro h1; have h2 : _ ≤ _ := h1; exfalso; omega) | (intros; exfalso; (try dsimp only at *); omega) | (intro b h1 h2 h3; exfalso; have h4 := h3.2; (try dsimp only at *); omega) | (intro h1; exfalso; have h4 := h1.2; (try dsimp only at *); omega) | (intro x h1 h2; exfalso; have h4 := h2.2; (try dsimp only at *); omega) | (intro x h1 h2; exact ⟨_, rfl, h2⟩) | (intro x h1 h2; have h4 := h2.1; have h5 := h2.2; exfalso; omega) | (intro x h1 h2; exact h2.1) | (intro x h1 h2; rcases h2.1 with h3 | h3; exact h3; exfalso; omega) | (intro x h1 h2; rcases h2 with h3 | h3; exact h3; exfalso; omega))
                  replace kk := kk.chg kq_12 (by first | (intro x h1 h2; exact h2) | (intro x h0 h1 h2; exact hS x h1 h2) | (intro x h0 h1 h2; have h3 : _ = _ := h2; subst h3; exact hSR h1.1) | (intro x h1 h2; have h3 : _ = _ := h2; subst h3; assumption) | (intro x h1 h2; have h3 : _ = _ := h2; exfalso; omega) | (intro b h1 h2 h3; have h4 : _ = _ := h3; (try dsimp only at h2); exfalso; omega) | (intro h1; have h2 : _ = _ := h1; exfalso; omega) | (intro h1; have h2 : _ ≤ _ := h1; exfalso; omega) | (intros; exfalso; (try dsimp only at *); omega) | (intro b h1 h2 h3; exfalso; have h4 := h3.2; (try dsimp only at *); omega) | (intro h1; exfalso; have h4 := h1.2; (try dsimp only at *); omega) | (intro x h1 h2; exfalso; have h4 := h2.2; (try dsimp only at *); omega) | (intro x h1 h2; exact ⟨_, rfl, h2⟩) | (intro x h1 h2; have h4 := h2.1; have h5 := h2.2; exfalso; omega) | (intro x h1 h2; exact h2.1) | (intro x h1 h2; rcases h2.1 with h3 | h3; exact h3; exfalso; omega) | (intro x h1 h2; rcases h2 with h3 | h3; exact h3; exfalso; omega))
                  replace hq := hq.chg kq_12 (by first | (intro x h1 h2; exact h2) | (intro x h0 h1 h2; exact hS x h1 h2) | (intro x h0 h1 h2; have h3 : _ = _ := h2; subst h3; exact hSR h1.1) | (intro x h1 h2; have h3 : _ = _ := h2; subst h3; assumption) | (intro x h1 h2; have h3 : _ = _ := h2; exfalso; omega) | (intro b h1 h2 h3; have h4 : _ = _ := h3; (try dsimp only at h2); exfalso; omega) | (intro h1; have h2 : _ = _ := h1; exfalso; omega) | (intro h1; have h2 : _ ≤ _ := h1; exfalso; omega) | (intros; exfalso; (try dsimp only at *); omega) | (intro b h1 h2 h3; exfalso; have h4 := h3.2; (try dsimp only at *); omega) | (intro h1; exfalso; have h4 := h1.2; (try dsimp only at *); omega) | (intro x h1 h2; exfalso; have h4 := h2.2; (try dsimp only at *); omega) | (intro x h1 h2; exact ⟨_, rfl, h2⟩) | (intro x h1 h2; have h4 := h2.1; have h5 := h2.2; exfalso; omega) | (intro x h1 h2; exact h2.1) | (intro x h1 h2; rcases h2.1 with h3 | h3; exact h3; exfalso; omega) | (intro x h1 h2; rcases h2 with h3 | h3; exact h3; exfalso; omega))
                  replace hb_7 := hb_7.chg kq_12 (by first | (intro x h1 h2; exact h2) | (intro x h0 h1 h2; exact hS x h1 h2) | (intro x h0 h1 h2; have h3 : _ = _ := h2; subst h3; exact hSR h1.1) | (intro x h1 h2; have h3 : _ = _ := h2; subst h3; assumption) | (intro x h1 h2; have h3 : _ = _ := h2; exfalso; omega) | (intro b h1 h2 h3; have h4 : _ = _ := h3; (try dsimp only at h2); exfalso; omega) | (intro h1; have h2 : _ = _ := h1; exfalso; omega) | (intro h1; have h2 : _ ≤ _ := h1; exfalso; omega) | (intros; exfalso; (try dsimp only at *); omega) | (intro b h1 h2 h3; exfalso; have h4 := h3.2; (try dsimp only at *); omega) | (intro h1; exfalso; have h4 := h1.2; (try dsimp only at *); omega) | (intro x h1 h2; exfalso; have h4 := h2.2; (try dsimp only at *); omega) | (intro x h1 h2; exact ⟨_, rfl, h2⟩) | (intro x h1 h2; have h4 := h2.1; have h5 := h2.2; exfalso; omega) | (intro x h1 h2; exact h2.1) | (intro x h1 h2; rcases h2.1 with h3 | h3; exact h3; exfalso; omega) | (intro x h1 h2; rcases h2 with h3 | h3; exact h3; exfalso; omega))
                  refine WL.indexC hq.rsl Tryd.underlying76 Tryd.sizeOf75 rfl rfl ⟨hi1, rfl⟩ rfl ?_
                  refine WL.nil ?_
                  exact WX.one ⟨rfl, by first | exact Chg.refl _ _ | assumption⟩
                apply DQ.step (E' := [(61, _)])
                case ho => rfl
                case hs => exact ⟨rfl, trivial⟩
                case hk => rfl
                case h1 =>
                  intro wq_13 kq_13
                  refine WL.fieldAddr (fld_75_1) rfl rfl (?_)
                  refine WL.nil ?_
                  exact WX.one ⟨rfl, by first | exact Chg.refl _ _ | assumption⟩
                apply DQ.step (E' := [(62, _)])
                case ho => rfl
                case hs => exact ⟨rfl, trivial⟩
                case hk => rfl
                case h1 =>
                  intro wq_14 kq_14
                  have zs_kq_14 := kq_14.size
                  replace hr := hr.chg kq_14 (by first | (intro x h1 h2; exact h2) | (intro x h0 h1 h2; exact hS x h1 h2) | (intro x h0 h1 h2; have h3 : _ = _ := h2; subst h3; exact hSR h1.1) | (intro x h1 h2; have h3 : _ = _ := h2; subst h3; assumption) | (intro x h1 h2; have h3 : _ = _ := h2; exfalso; omega) | (intro b h1 h2 h3; have h4 : _ = _ := h3; (try dsimp only at h2); exfalso; omega) | (intro h1; have h2 : _ = _ := h1; exfalso; omega) | (intro h1; have h2 : _ ≤ _ := h1; exfalso; omega) | (intros; exfalso; (try dsimp only at *); omega) | (intro b h1 h2 h3; exfalso; have h4 := h3.2; (try dsimp only at *); omega) | (intro h1; exfalso; have h4 := h1.2; (try dsimp only at *); omega) | (intro x h1 h2; exfalso; have h4 := h2.2; (try dsimp only at *); omega) | (intro x h1 h2; exact ⟨_, rfl, h2⟩) | (intro x h1 h2; have h4 := h2.1; have h5 := h2.2; exfalso; omega) | (intro x h1 h2; exact h2.1) | (intro x h1 h2; rcases h2.1 with h3 | h3; exact h3; exfalso; omega) | (intro x h1 h2; rcases h2 with h3 | h3; exact h3; exfalso; omega))
                  replace kk := kk.chg kq_14 (by first | (intro x h1 h2; exact h2) | (intro x h0 h1 h2; exact hS x h1 h2) | (intro x h0 h1 h2; have h3 : _ = _ := h2; subst h3; exact hSR h1.1) | (intro x h1 h2; have h3 : _ = _ := h2; subst h3; assumption) | (intro x h1 h2; have h3 : _ = _ := h2; exfalso; omega) | (intro b h1 h2 h3; have h4 : _ = _ := h3; (try dsimp only at h2); exfalso; omega) | (intro h1; have h2 : _ = _ := h1; exfalso; omega) | (intro h1; have h2 : _ ≤ _ := h1; exfalso; omega) | (intros; exfalso; (try dsimp only at *); omega) | (intro b h1 h2 h3; exfalso; have h4 := h3.2; (try dsimp only at *); omega) | (intro h1; exfalso; have h4 := h1.2; (try dsimp only at *); omega) | (intro x h1 h2; exfalso; have h4 := h2.2; (try dsimp only at *); omega) | (intro x h1 h2; exact ⟨_, rfl, h2⟩) | (intro x h1 h2; have h4 := h2.1; have h5 := h2.2; exfalso; omega) | (intro x h1 h2; exact h2.1) | (intro x h1 h2; rcases h2.1 with h3 | h3; exact h3; exfalso; omega) | (intro x h1 h2; rcases h2 with h3 | h3; exact h3; exfalso; omega))
                  replace hq := hq.chg kq_14 (by first | (intro x h1 h2; exact h2) | (intro x h0 h1 h2; exact hS x h1 h2) | (intro x h0 h1 h2; have h3 : _ = _ := h2; subst h3; exact hSR h1.1) | (intro x h1 h2; have h3 : _ = _ := h2; subst h3; assumption) | (intro x h1 h2; have h3 : _ = _ := h2; exfalso; omega) | (intro b h1 h2 h3; have h4 : _ = _ := h3; (try dsimp only at h2); exfalso; omega) | (intro h1; have h2 : _ = _ := h1; exfalso; omega) | (intro h1; have h2 : _ ≤ _ := h1; exfalso; omega) | (intros; exfalso; (try dsimp only at *); omega) | (intro b h1 h2 h3; exfalso; have h4 := h3.2; (try dsimp only at *); omega) | (intro h1; exfalso; have h4 := h1.2; (try dsimp only at *); omega) | (intro x h1 h2; exfalso; have h4 := h2.2; (try dsimp only at *); omega) | (intro x h1 h2; exact ⟨_, rfl, h2⟩) | (intro x h1 h2; have h4 := h2.1; have h5 := h2.2; exfalso; omega) | (intro x h1 h2; exact h2.1) | (intro x h1 h2; rcases h2.1 with h3 | h3; exact h3; exfalso; omega) | (intro x h1 h2; rcases h2 with h3 | h3; exact h3; exfalso; omega))
                  replace hb_7 := hb_7.chg kq_14 (by first | (intro x h1 h2; exact h2) | (intro x h0 h1 h2; exact hS x h1 h2) | (intro x h0 h1 h2; have h3 : _ = _ := h2; subst h3; exact hSR h1.1) | (intro x h1 h2; have h3 : _ = _ := h2; subst h3; assumption) | (intro x h1 h2; have h3 : _ = _ := h2; exfalso; omega) | (intro b h1 h2 h3; have h4 : _ = _ := h3; (try dsimp only at h2); exfalso; omega) | (intro h1; have h2 : _ = _ := h1; exfalso; omega) | (intro h1; have h2 : _ ≤ _ := h1; exfalso; omega) | (intros; exfalso; (try dsimp only at *); omega) | (intro b h1 h2 h3; exfalso; have h4 := h3.2; (try dsimp only at *); omega) | (intro h1; exfalso; have h4 := h1.2; (try dsimp only at *); omega) | (intro x h1 h2; exfalso; have h4 := h2.2; (try dsimp only at *); omega) | (intro x h1 h2; exact ⟨_, rfl, h2⟩) | (intro x h1 h2; have h4 := h2.1; have h5 := h2.2; exfalso; omega) | (intro x h1 h2; exact h2.1) | (intro x h1 h2; rcases h2.1 with h3 | h3; exact h3; exfalso; omega) | (intro x h1 h2; rcases h2 with h3 | h3; exact h3; exfalso; omega))
                  refine WL.load Tryd.isAgg3 rfl ((hq.rsl.cellsAt hi1) _ _ rfl) rfl (?_)
                  refine WL.nil ?_
                  exact WX.one ⟨rfl, by first | exact Chg.refl _ _ | assumption⟩
                apply DQ.step (E' := [(6, _)])
                case ho => rfl
                case hs => exact ⟨rfl, trivial⟩
                case hk => rfl
                case h1 =>
                  intro wq_15 kq_15
                  have zs_kq_15 := kq_15.size
                  replace hr := hr.chg kq_15 (by first | (intro x h1 h2; exact h2) | (intro x h0 h1 h2; exact hS x h1 h2) | (intro x h0 h1 h2; have h3 : _ = _ := h2; subst h3; exact hSR h1.1) | (intro x h1 h2; have h3 : _ = _ := h2; subst h3; assumption) | (intro x h1 h2; have h3 : _ = _ := h2; exfalso; omega) | (intro b h1 h2 h3; have h4 : _ = _ := h3; (try dsimp only at h2); exfalso; omega) | (intro h1; have h2 : _ = _ := h1; exfalso; omega) | (intro h1; have h2 : _ ≤ _ := h1; exfalso; omega) | (intros; exfalso; (try dsimp only at *); omega) | (intro b h1 h2 h3; exfalso; have h4 := h3.2; (try dsimp only at *); omega) | (intro h1; exfalso; have h4 := h1.2; (try dsimp only at *); omega) | (intro x h1 h2; exfalso; have h4 := h2.2; (try dsimp only at *); omega) | (intro x h1 h2; exact ⟨_, rfl, h2⟩) | (intro x h1 h2; have h4 := h2.1; have h5 := h2.2; exfalso; omega) | (intro x h1 h2; exact h2.1) | (intro x h1 h2; rcases h2.1 with h3 | h3; exact h3; exfalso; omega) | (intro x h1 h2; rcases h2 with h3 | h3; exact h3; exfalso; omega))
                  replace kk := kk.chg kq_15 (by first | (intro x h1 h2; exact h2) | (intro x h0 h1 h2; exact hS x h1 h2) | (intro x h0 h1 h2; have h3 : _ = _ := h2; subst h3; exact hSR h1.1) | (intro x h1 h2; have h3 : _ = _ := h2; subst h3; assumption) | (intro x h1 h2; have h3 : _ = _ := h2; exfalso; omega) | (intro b h1 h2 h3; have h4 : _ = _ := h3; (try dsimp only at h2); exfalso; omega) | (intro h1; have h2 : _ = _ := h1; exfalso; omega) | (intro h1; have h2 : _ ≤ _ := h1; exfalso; omega) | (intros; exfalso; (try dsimp only at *); omega) | (intro b h1 h2 h3; exfalso; have h4 := h3.2; (try dsimp only at *); omega) | (intro h1; exfalso; have h4 := h1.2; (try dsimp only at *); omega) | (intro x h1 h2; exfalso; have h4 := h2.2; (try dsimp only at *); omega) | (intro x h1 h2; exact ⟨_, rfl, h2⟩) | (intro x h1 h2; have h4 := h2.1; have h5 := h2.2; exfalso; omega) | (intro x h1 h2; exact h2.1) | (intro x h1 h2; rcases h2.1 with h3 | h3; exact h3; exfalso; omega) | (intro x h1 h2; rcases h2 with h3 | h3; exact h3; exfalso; omega))
                  replace hq := hq.chg kq_15 (by first | (intro x h1 h2; exact h2) | (intro x h0 h1 h2; exact hS x h1 h2) | (intro x h0 h1 h2; have h3 : _ = _ := h2; subst h3; exact hSR h1.1) | (intro x h1 h2; have h3 : _ = _ := h2; subst h3; assumption) | (intro x h1 h2; have h3 : _ = _ := h2; exfalso; omega) | (intro b h1 h2 h3; have h4 : _ = _ := h3; (try dsimp only at h2); exfalso; omega) | (intro h1; have h2 : _ = _ := h1; exfalso; omega) | (intro h1; have h2 : _ ≤ _ := h1; exfalso; omega) | (intros; exfalso; (try dsimp only at *); omega) | (intro b h1 h2 h3; exfalso; have h4 := h3.2; (try dsimp only at *); omega) | (intro h1; exfalso; have h4 := h1.2; (try dsimp only at *); omega) | (intro x h1 h2; exfalso; have h4 := h2.2; (try dsimp only at *); omega) | (intro x h1 h2; exact ⟨_, rfl, h2⟩) | (intro x h1 h2; have h4 := h2.1; have h5 := h2.2; exfalso; omega) | (intro x h1 h2; exact h2.1) | (intro x h1 h2; rcases h2.1 with h3 | h3; exact h3; exfalso; omega) | (intro x h1 h2; rcases h2 with h3 | h3; exact h3; exfalso; omega))
                  replace hb_7 := hb_7.chg kq_15 (by first | (intro x h1 h2; exact h2) | (intro x h0 h1 h2; exact hS x h1 h2) | (intro x h0 h1 h2; have h3 : _ = _ := h2; subst h3; exact hSR h1.1) | (intro x h1 h2; have h3 : _ = _ := h2; subst h3; assumption) | (intro x h1 h2; have h3 : _ = _ := h2; exfalso; omega) | (intro b h1 h2 h3; have h4 : _ = _ := h3; (try dsimp only at h2); exfalso; omega) | (intro h1; have h2 : _ = _ := h1; exfalso; omega) | (intro h1; have h2 : _ ≤ _ := h1; exfalso; omega) | (intros; exfalso; (try dsimp only at *); omega) | (intro b h1 h2 h3; exfalso; have h4 := h3.2; (try dsimp only at *); omega) | (intro h1; exfalso; have h4 := h1.2; (try dsimp only at *); omega) | (intro x h1 h2; exfalso; have h4 := h2.2; (try dsimp only at *); omega) | (intro x h1 h2; exact ⟨_, rfl, h2⟩) | (intro x h1 h2; have h4 := h2.1; have h5 := h2.2; exfalso; omega) | (intro x h1 h2; exact h2.1) | (intro x h1 h2; rcases h2.1 with h3 | h3; exact h3; exfalso; omega) | (intro x h1 h2; rcases h2 with h3 | h3; exact h3; exfalso; omega))
                  refine WL.loadsB Tryd.isAgg23 Tryd.sizeOf23 hb_7 rfl (by first | (simp; done) | (simp; omega) | rfl) rfl (?_)
                  refine WL.nil ?_
                  exact WX.one ⟨rfl, by first | exact Chg.refl _ _ | assumption⟩
                apply DQ.step (E' := [(63, _), (64, _)])
                case ho => rfl
                case hs => exact ⟨rfl, rfl, trivial⟩
                case hk => rfl
                case h1 =>
                  intro wq_16 kq_16
                  refine WL.bld rfl (bld_25_0_1 _ _ _ _ _) rfl (?_)
                  refine WL.nil ?_
                  exact WX.one ⟨rfl, by first | exact Chg.refl _ _ | assumption⟩
                apply DQ.step (E' := [])
                case ho => rfl
                case hs => exact trivial
                case hk => rfl
                case h1 =>
                  intro wq_17 kq_17
                  refine WL.assign rfl rfl (?_)
                  refine WL.nil ?_
                  exact WX.one ⟨rfl, by first | exact Chg.refl _ _ | assumption⟩
                refine DQ.done (fun hd_10 => ?_)
                refine DL.step [(2, _), (65, _)] rfl ⟨rfl, rfl, trivial⟩ rfl (fun wq_18 kq_18 => ?_)
                have zs_kq_18 := kq_18.size
                replace hr := hr.pure kq_18
                replace kk := kk.pure kq_18
                replace hb_1 := hb_1.pure kq_18
                replace hq := hq.pure kq_18
                replace hb_7 := hb_7.pure kq_18
                replace hd_10 := hd_10.pure kq_18
                refine WL.stores Tryd.sizeOf25 hb_1 rfl rfl (by first | (simp; done) | (simp; omega) | rfl) (by first | exact Enc.one _ _ | (intro u hu; obtain ⟨x, _, rfl⟩ := List.mem_map.1 hu; rfl) | (simp [Value.oneCell']; done) | (simp [Value.oneCell', Value.cells]; done)) (by first | (simp; done) | (simp; omega) | (simp [Value.cells]; done) | (simp [Value.cells]; omega) | exact Nat.le_of_ble_eq_true rfl) rfl ?_
                intro w_19 hs_19 hn_19 k_19
                have zs_k_19 := k_19.size
                replace hr := hr.chg k_19 (by first | (intro x h1 h2; exact h2) | (intro x h0 h1 h2; exact hS x h1 h2) | (intro x h0 h1 h2; have h3 : _ = _ := h2; subst h3; exact hSR h1.1) | (intro x h1 h2; have h3 : _ = _ := h2; subst h3; assumption) | (intro x h1 h2; have h3 : _ = _ := h2; exfalso; omega) | (intro b h1 h2 h3; have h4 : _ = _ := h3; (try dsimp only at h2); exfalso; omega) | (intro h1; have h2 : _ = _ := h1; exfalso; omega) | (intro h1; have h2 : _ ≤ _ := h1; exfalso; omega) | (intros; exfalso; (try dsimp only at *); omega) | (intro b h1 h2 h3; exfalso; have h4 := h3.2; (try dsimp only at *); omega) | (intro h1; exfalso; have h4 := h1.2; (try dsimp only at *); omega) | (intro x h1 h2; exfalso; have h4 := h2.2; (try dsimp only at *); omega) | (intro x h1 h2; exact ⟨_, rfl, h2⟩) | (intro x h1 h2; have h4 := h2.1; have h5 := h2.2; exfalso; omega) | (intro x h1 h2; exact h2.1) | (intro x h1 h2; rcases h2.1 with h3 | h3; exact h3; exfalso; omega) | (intro x h1 h2; rcases h2 with h3 | h3; exact h3; exfalso; omega))
                replace kk := kk.chg k_19 (by first | (intro x h1 h2; exact h2) | (intro x h0 h1 h2; exact hS x h1 h2) | (intro x h0 h1 h2; have h3 : _ = _ := h2; subst h3; exact hSR h1.1) | (intro x h1 h2; have h3 : _ = _ := h2; subst h3; assumption) | (intro x h1 h2; have h3 : _ = _ := h2; exfalso; omega) | (intro b h1 h2 h3; have h4 : _ = _ := h3; (try dsimp only at h2); exfalso; omega) | (intro h1; have h2 : _ = _ := h1; exfalso; omega) | (intro h1; have h2 : _ ≤ _ := h1; exfalso; omega) | (intros; exfalso; (try dsimp only at *); omega) | (intro b h1 h2 h3; exfalso; have h4 := h3.2; (try dsimp only at *); omega) | (intro h1; exfalso; have h4 := h1.2; (try dsimp only at *); omega) | (intro x h1 h2; exfalso; have h4 := h2.2; (try dsimp only at *); omega) | (intro x h1 h2; exact ⟨_, rfl, h2⟩) | (intro x h1 h2; have h4 := h2.1; have h5 := h2.2; exfalso; omega) | (intro x h1 h2; exact h2.1) | (intro x h1 h2; rcases h2.1 with h3 | h3; exact h3; exfalso; omega) | (intro x h1 h2; rcases h2 with h3 | h3; exact h3; exfalso; omega))
                replace hq := hq.chg k_19 (by first | (intro x h1 h2; exact h2) | (intro x h0 h1 h2; exact hS x h1 h2) | (intro x h0 h1 h2; have h3 : _ = _ := h2; subst h3; exact hSR h1.1) | (intro x h1 h2; have h3 : _ = _ := h2; subst h3; assumption) | (intro x h1 h2; have h3 : _ = _ := h2; exfalso; omega) | (intro b h1 h2 h3; have h4 : _ = _ := h3; (try dsimp only at h2); exfalso; omega) | (intro h1; have h2 : _ = _ := h1; exfalso; omega) | (intro h1; have h2 : _ ≤ _ := h1; exfalso; omega) | (intros; exfalso; (try dsimp only at *); omega) | (intro b h1 h2 h3; exfalso; have h4 := h3.2; (try dsimp only at *); omega) | (intro h1; exfalso; have h4 := h1.2; (try dsimp only at *); omega) | (intro x h1 h2; exfalso; have h4 := h2.2; (try dsimp only at *); omega) | (intro x h1 h2; exact ⟨_, rfl, h2⟩) | (intro x h1 h2; have h4 := h2.1; have h5 := h2.2; exfalso; omega) | (intro x h1 h2; exact h2.1) | (intro x h1 h2; rcases h2.1 with h3 | h3; exact h3; exfalso; omega) | (intro x h1 h2; rcases h2 with h3 | h3; exact h3; exfalso; omega))
                replace hb_7 := hb_7.chg k_19 (by first | (intro x h1 h2; exact h2) | (intro x h0 h1 h2; exact hS x h1 h2) | (intro x h0 h1 h2; have h3 : _ = _ := h2; subst h3; exact hSR h1.1) | (intro x h1 h2; have h3 : _ = _ := h2; subst h3; assumption) | (intro x h1 h2; have h3 : _ = _ := h2; exfalso; omega) | (intro b h1 h2 h3; have h4 : _ = _ := h3; (try dsimp only at h2); exfalso; omega) | (intro h1; have h2 : _ = _ := h1; exfalso; omega) | (intro h1; have h2 : _ ≤ _ := h1; exfalso; omega) | (intros; exfalso; (try dsimp only at *); omega) | (intro b h1 h2 h3; exfalso; have h4 := h3.2; (try dsimp only at *); omega) | (intro h1; exfalso; have h4 := h1.2; (try dsimp only at *); omega) | (intro x h1 h2; exfalso; have h4 := h2.2; (try dsimp only at *); omega) | (intro x h1 h2; exact ⟨_, rfl, h2⟩) | (intro x h1 h2; have h4 := h2.1; have h5 := h2.2; exfalso; omega) | (intro x h1 h2; exact h2.1) | (intro x h1 h2; rcases h2.1 with h3 | h3; exact h3; exfalso; omega) | (intro x h1 h2; rcases h2 with h3 | h3; exact h3; exfalso; omega))
                replace hd_10 := hd_10.chg k_19 (by first | (intro x h1 h2; exact h2) | (intro x h0 h1 h2; exact hS x h1 h2) | (intro x h0 h1 h2; have h3 : _ = _ := h2; subst h3; exact hSR h1.1) | (intro x h1 h2; have h3 : _ = _ := h2; subst h3; assumption) | (intro x h1 h2; have h3 : _ = _ := h2; exfalso; omega) | (intro b h1 h2 h3; have h4 : _ = _ := h3; (try dsimp only at h2); exfalso; omega) | (intro h1; have h2 : _ = _ := h1; exfalso; omega) | (intro h1; have h2 : _ ≤ _ := h1; exfalso; omega) | (intros; exfalso; (try dsimp only at *); omega) | (intro b h1 h2 h3; exfalso; have h4 := h3.2; (try dsimp only at *); omega) | (intro h1; exfalso; have h4 := h1.2; (try dsimp only at *); omega) | (intro x h1 h2; exfalso; have h4 := h2.2; (try dsimp only at *); omega) | (intro x h1 h2; exact ⟨_, rfl, h2⟩) | (intro x h1 h2; have h4 := h2.1; have h5 := h2.2; exfalso; omega) | (intro x h1 h2; exact h2.1) | (intro x h1 h2; rcases h2.1 with h3 | h3; exact h3; exfalso; omega) | (intro x h1 h2; rcases h2 with h3 | h3; exact h3; exfalso; omega))
                replace hb_1 := hn_19
                refine WL.nil ?_
                refine WX.one0 (v := undef) ⟨hd_10, ?_⟩
                refine DL.done (fun we_20 ke_20 => ?_)
                have zs_ke_20 := ke_20.size
                replace hr := hr.pure ke_20
                replace kk := kk.pure ke_20
                replace hb_1 := hb_1.pure ke_20
                replace hq := hq.pure ke_20
                replace hb_7 := hb_7.pure ke_20
                replace hd_10 := hd_10.pure ke_20
                refine WX.then_normal (WC.ret (?_))
                refine WX.ret2c (.inl rfl) Tryd.results14 Tryd.isAgg25 Tryd.sizeOf25 hb_1 rfl (by first | (simp; done) | (simp; omega) | rfl) rfl ?_
                first
                  | (have hz : unE b ≠ 0 := h13
                     obtain ⟨e1, e2⟩ := decU_no (decU_bad (b := b) (.inl hz))
                     rw [e1, e2]
                     exact ⟨_, rfl, rfl, kk⟩)
                  | (have hz : (L.length : Int) ≠ 3 := h17
                     obtain ⟨e1, e2⟩ := decU_no (decU_bad (b := b) (.inr (fun h9 => hz (by rw [eL, h9]; rfl))))
                     rw [e1, e2]
                     exact ⟨_, rfl, rfl, kk⟩)
                  | (have hz : unE b = 0 := h13
                     have hz2 : L = [i0, i1, i2] := hL
                     have hd := decU_three (b := b) hz (eL ▸ hz2)
                     by_cases hc : i0 = ⟨1, 77, ⟨#[]⟩⟩ ∧ i1.kind = 1 ∧ 1 ≤ i1.n ∧ i2.kind = 2 ∧ (unpR i2.s).2 = 0
                     ·
                       rw [if_pos hc] at hd
                       obtain ⟨e1, e2⟩ := decU_yes hd
                       rw [e1, e2]
                       obtain ⟨c1, c2, c3, c4, c5⟩ := hc
                       first
                         | (exact ⟨_, rfl, rfl, kk⟩)
                         | (exfalso; omega)
                         | (exfalso; first | exact absurd c1 (by assumption) | exact absurd c5 (by assumption))
                     ·
                       rw [if_neg hc] at hd
                       obtain ⟨e1, e2⟩ := decU_no hd
                       rw [e1, e2]
                       first
                         | (exact ⟨_, rfl, rfl, kk⟩)
                         | (have h2 : (unpR i2.s).2 = 2 := (unpR_err _).resolve_left (by assumption)
                            refine ⟨_, rfl, ?_, kk⟩
                            rw [← h2]
                            rfl)
                         | (exfalso; exact hc ⟨by assumption, by omega, by omega, by omega, by assumption⟩))
end Go.Proofs.YtjeldcjchipdgaaDoor
